/- Roots and places. No condition. -/
import Derived.Test.YtfohfnpehfcaaaaDoorFacts
import Derived.Test.YtfohfnpehfcaaaaDoorTreeA
namespace Go.Proofs.YtfohfnpehfcaaaaDoor
open Go.Kw
set_option linter.unusedVariables false
set_option linter.unusedSimpArgs false
set_option maxRecDepth 100000
theorem rroot_step (N : Nat) (IH : ∀ (l : List (List UInt8)) (a : Option Addr) (n c : Nat) (w : World), n < N → Row w a (l.flatten.map b8) → S32 l → l.length = n → 0 < n → n ≤ c → Ret Tryd.prog 15 [.slice a n c] w (fun v w' => v = .agg ((rootL l).map b8).toArray ∧ St w [] w' [])) (l : List (List UInt8)) (a : Option Addr) (n c : Nat) (w : World) (hN : n = N) (hb : Row w a (l.flatten.map b8)) (h32 : S32 l) (hl : l.length = n) (h0 : 0 < n) (hc : n ≤ c) (hm : n ≤ 140737488355328) :
    Ret Tryd.prog 15 [.slice a n c] w (fun v w' => v = .agg ((rootL l).map b8).toArray ∧ St w [] w' []) := by
  refine enter Tryd.func15 rfl Tryd.ntmps15 rfl ?_
  have hS := St.refl w []
  refine c_seq ?_
  refine c_region ?_
  refine wl_exv (x_alloc (C := ((List.replicate 32 (0 : UInt8)).map b8)) hS ti31 rfl) rfl ?_
  rintro _ w1 ⟨b2, rfl, hS2⟩
  refine wl_nil ?_
  refine c_then ?_
  refine c_seq ?_
  refine c_seq ?_
  refine c_region ?_
  refine wl_val (r_move (v := .slice _ _ _) rfl) rfl ?_
  refine wl_val (r_len (T := 22) rfl ti22.und rfl _ rfl) rfl ?_
  refine wl_dec (r_eql rfl rfl) rfl (fun h1_2 => ?_) (fun h1_2 => ?_)
  · refine wl_nil ?_
    refine c_then ?_
    refine c_true rfl ?_
    refine c_seq ?_
    refine c_region ?_
    refine wl_val (r_move (v := .slice _ _ _) rfl) rfl ?_
    refine wl_val (r_ix32 (m := 0) ti22.und ti31 rfl rfl (hb.st hS2) h32 hl (by omega)) rfl ?_
    refine wl_val (r_load32 ti31 rfl rfl (hb.st hS2) h32 (by omega)) rfl ?_
    refine wl_exs (x_storeW [] hS2 ti31 rfl rfl (by rw [List.length_map]; exact h32.gt (by omega)) (by simp) (one_b8 _)) rfl ?_
    intro w3 hS4
    simp only [List.cons_append, List.nil_append] at hS4
    refine wl_nil ?_
    refine c_then ?_
    refine wp_ret ?_
    refine c_thenR ?_
    refine retc Tryd.results15 ⟨_, rfl, run_loadVar_blk ti31 rfl (hS4.heap (.head _)) (by first | (rw [List.length_map]; exact h32.gt (by omega)) | simp)⟩ ?_
    first | exact ⟨by rw [rootL_one (by omega)], hS4.fin⟩ | exact ⟨by rw [rootL_two hl (by omega) h0], hS4.fin⟩
  · refine wl_nil ?_
    refine c_then ?_
    refine c_false rfl ?_
    refine wp_skip ?_
    refine c_then ?_
    refine c_seq ?_
    refine c_region ?_
    refine wl_val (r_move (v := .slice _ _ _) rfl) rfl ?_
    refine wl_val (r_len (T := 22) rfl ti22.und rfl _ rfl) rfl ?_
    refine wl_call (r_call fn24 rfl rfl) rfl (half_ok _ _ (by first | omega | (simp [*]; done) | (simp [*] <;> omega)) (by first | omega | (simp [*]; done) | (simp [*] <;> omega))) ?_
    rintro _ w5 ⟨rfl, hx6⟩
    have hS7 := hS2.ext hx6
    refine wl_val (r_assign (v := .int .i64 _) rfl) rfl ?_
    refine wl_nil ?_
    refine c_then ?_
    refine c_seq ?_
    have hlt := halfN_lt (n := n) (by omega)
    have hpo := halfN_pos n
    refine c_drawS 7 hMixed hS7 ?_
    intro w8 hS9
    refine g_take 0 rfl (by decide +kernel) rfl (fun _ _ _ h => h) hS9 (fun wF hF => r_move (v := .slice _ _ _) rfl) ?_
    refine g_take 1 rfl (by decide +kernel) rfl (fun _ _ _ h => h) hS9 (fun wF hF => r_move (v := .int .i64 _) rfl) ?_
    refine g_take 2 rfl (by decide +kernel) rfl (fun _ _ _ h => h) hS9 (fun wF hF => r_sl_h ti22.und ti31 rfl rfl (by omega)) ?_
    have ht : Row w a ((l.take (halfN n)).flatten.map b8) := hb.take32 h32 _
    refine g_take 4 rfl (by decide +kernel) rfl (fun _ _ _ h => h) hS9 (fun wF hF => r_move (v := .slice _ _ _) rfl) ?_
    refine g_take 5 rfl (by decide +kernel) rfl (fun _ _ _ h => h) hS9 (fun wF hF => r_move (v := .int .i64 _) rfl) ?_
    refine g_take 6 rfl (by decide +kernel) rfl (fun _ _ _ h => h) hS9 (fun wF hF => r_sl_l ti22.und ti31 rfl rfl (by omega)) ?_
    have hd : Row w (sub a c (halfN n) 32) ((l.drop (halfN n)).flatten.map b8) := hb.from32 h32 (by omega) (halfN n)
    refine g_one 3 (by decide +kernel) (by decide +kernel) ?_
    refine o_call rfl (r_call fn15 rfl rfl) rfl (IH (l.take (halfN n)) _ _ _ _ (by omega) (ht.st hS9) (h32.take _) (by simp; omega) hpo (by omega)) ?_
    rintro _ w10 ⟨rfl, hx11⟩
    have hS12 := hS9.ext hx11
    refine ⟨hS12, ?_⟩
    refine g_tail (by decide +kernel) rfl (by decide +kernel) ?_
    refine wl_call (r_call fn15 rfl rfl) rfl (IH (l.drop (halfN n)) _ _ _ _ (by omega) (hd.st hS12) (h32.drop _) (by simp; omega) (by omega) (by omega)) ?_
    rintro _ w13 ⟨rfl, hx14⟩
    have hS15 := hS12.ext hx14
    refine wl_call (r_call fn25 rfl rfl) rfl (rnode_ok _ _ _ (rootL_len _ (h32.take _) (by simp; omega)) (rootL_len _ (h32.drop _) (by simp; omega))) ?_
    rintro _ w16 ⟨rfl, hx17⟩
    have hS18 := hS15.ext hx17
    refine wl_exs (x_storeW [] hS18 ti31 rfl rfl (by first | (simp [*]; done) | (simp [*] <;> omega) | omega) (by first | (simp [*]; done) | (simp [*] <;> omega) | omega) (by repeat' first | exact one_nil | exact one_b8 _ | exact one_v32 _ | exact one_all rfl | refine one_cons rfl ?_ | refine one_app ?_ ?_)) rfl ?_
    intro w19 hS20
    simp only [List.cons_append, List.nil_append] at hS20
    refine wl_nil ?_
    refine c_then ?_
    refine wp_ret ?_
    refine retc Tryd.results15 ⟨_, rfl, run_loadVar_blk ti31 rfl (hS20.heap (.head _)) (by first | (rw [List.length_map]; exact h32.gt (by omega)) | simp)⟩ ?_
    first | exact ⟨by rw [rootL_one (by omega)], hS20.fin⟩ | exact ⟨by rw [rootL_two hl (by omega) h0], hS20.fin⟩

theorem rroot_ok : ∀ (n : Nat) (l : List (List UInt8)) (a : Option Addr) (c : Nat) (w : World) (hb : Row w a (l.flatten.map b8)) (h32 : S32 l) (hl : l.length = n) (h0 : 0 < n) (hc : n ≤ c) (hm : n ≤ 140737488355328), Ret Tryd.prog 15 [.slice a n c] w (fun v w' => v = .agg ((rootL l).map b8).toArray ∧ St w [] w' []) := by
  intro n
  induction n using Nat.strongRecOn with
  | _ n ih => exact fun l a c w hb h32 hl h0 hc hm => rroot_step n (fun l a m c w hlt hb h32 hl h0 hc => ih m hlt l a c w hb h32 hl h0 hc (by omega)) l a n c w rfl hb h32 hl h0 hc hm

theorem rleaf_ok (t : List UInt8) (a : Option Addr) (n c : Nat) (w : World) (hb : Row w a (t.map b8)) (hl : t.length = n) (hc : n ≤ c) (hn : n ≤ 1048576) :
    Ret Tryd.prog 22 [.slice a n c] w (fun v w' => v = .agg ((leafL t).map b8).toArray ∧ St w [] w' []) := by
  refine enter Tryd.func22 rfl Tryd.ntmps22 rfl ?_
  have hS := St.refl w []
  refine c_seq ?_
  refine c_region ?_
  refine wl_exv (x_alloc (C := ((List.replicate 32 (0 : UInt8)).map b8)) hS ti31 rfl) rfl ?_
  rintro _ w1 ⟨b2, rfl, hS2⟩
  refine wl_nil ?_
  refine c_then ?_
  refine c_seq ?_
  refine c_region ?_
  refine wl_val (r_move (v := .slice _ _ _) rfl) rfl ?_
  refine wl_call (r_call fn33 rfl rfl) rfl (rsum_ok 1 t _ _ _ _ (hb.st hS2) hl (by omega)) ?_
  rintro _ w3 ⟨rfl, hx4⟩
  have hS5 := hS2.ext hx4
  refine wl_exs (x_storeW [] hS5 ti31 rfl rfl (by first | (simp [*]; done) | (simp [*] <;> omega) | omega) (by first | (simp [*]; done) | (simp [*] <;> omega) | omega) (by repeat' first | exact one_nil | exact one_b8 _ | exact one_v32 _ | exact one_all rfl | refine one_cons rfl ?_ | refine one_app ?_ ?_)) rfl ?_
  intro w6 hS7
  simp only [List.cons_append, List.nil_append] at hS7
  refine wl_nil ?_
  refine c_then ?_
  refine wp_ret ?_
  refine retc Tryd.results22 ⟨_, rfl, run_loadVar_blk ti31 rfl (hS7.heap (.head _)) (by first | (simp [*]; done) | (simp [*] <;> omega) | omega)⟩ ?_
  exact ⟨rfl, hS7.fin⟩

theorem short_ok (a : Option Addr) (n c : Nat) (w : World) (hc : n ≤ c) :
    Ret Tryd.prog 23 [.slice a n c] w (fun v w' => v = .slice a (min n 3000) c ∧ St w [] w' []) := by
  refine enter Tryd.func23 rfl Tryd.ntmps23 rfl ?_
  have hS := St.refl w []
  refine c_seq ?_
  refine c_region ?_
  refine wl_val (r_assign (v := .slice none 0 0) rfl) rfl ?_
  refine wl_nil ?_
  refine c_then ?_
  refine c_seq ?_
  refine c_region ?_
  refine wl_val (r_move (v := .slice _ _ _) rfl) rfl ?_
  refine wl_val (r_move (v := .slice _ _ _) rfl) rfl ?_
  refine wl_val (r_len (T := 44) rfl ti44.und rfl _ rfl) rfl ?_
  refine wl_val (r_min2n (b := 3000) rfl rfl _ rfl) rfl ?_
  refine wl_val (r_sl_h ti44.und ti5 rfl rfl (by omega)) rfl ?_
  refine wl_val (r_assign (v := .slice _ _ _) rfl) rfl ?_
  refine wl_nil ?_
  refine c_then ?_
  refine wp_ret ?_
  refine ret1 Tryd.results23 ?_
  exact ⟨rfl, hS.fin⟩

theorem leaves_ok (ps : List Piece) (a : Option Addr) (c : Nat) (w : World) (hb : Row w a (ps.map Piece.v)) (hr : ∀ q ∈ ps, Row w q.a (q.xs.map b8) ∧ q.xs.length ≤ q.c ∧ q.xs.length ≤ 140737488351232) (hlc : ps.length ≤ c) :
    Ret Tryd.prog 11 [.slice a ps.length c] w (fun v w' => ∃ a' c', v = .slice a' (min ps.length 40) c' ∧ min ps.length 40 ≤ c' ∧ St w [] w' [.row (.slice a' (min ps.length 40) c') 31 32 (min ps.length 40) ((leavesL ps).flatten.map b8)]) := by
  refine enter Tryd.func11 rfl Tryd.ntmps11 rfl ?_
  have hS := St.refl w []
  refine c_seq ?_
  refine c_region ?_
  refine wl_val (r_assign (v := .slice none 0 0) rfl) rfl ?_
  refine wl_nil ?_
  refine c_then ?_
  refine c_seq ?_
  refine c_region ?_
  refine wl_val (r_assign (v := .slice none 0 0) rfl) rfl ?_
  refine wl_nil ?_
  refine c_then ?_
  refine c_seq ?_
  refine c_seq ?_
  refine c_region ?_
  refine wl_val (r_move (v := .slice _ _ _) rfl) rfl ?_
  refine wl_val (r_move (v := .slice _ _ _) rfl) rfl ?_
  refine wl_val (r_len (T := 35) rfl ti35.und rfl _ rfl) rfl ?_
  refine wl_val (r_min2n (b := 40) rfl rfl _ rfl) rfl ?_
  refine wl_val (r_sl_h ti35.und ti44 rfl rfl (by omega)) rfl ?_
  refine wl_val (r_len (T := 35) rfl ti35.und rfl _ rfl) rfl ?_
  refine wl_val (r_move (v := .int .i64 0) rfl) rfl ?_
  refine wl_nil ?_
  refine c_then ?_
  refine c_block ?_
  refine c_loopE [2, 10, 11] (fun d e w' => ∃ (k : Nat) (a3 : Option Addr) (c3 : Nat), Kw.look e 12 = vi k ∧ Kw.look e 3 = .slice a3 k c3 ∧ d = min ps.length 40 - k ∧ St w [] w' [.row (.slice a3 k c3) 31 32 k (((leavesL ps).take k).flatten.map b8)] ∧ (k ≤ min ps.length 40) ∧ (k ≤ c3)) (min ps.length 40 - 0) ?_ ?_
  · exact ⟨0, none, 0, rfl, rfl, rfl, hS.nilRow, Nat.zero_le _, Nat.zero_le _⟩
  · rintro d4 e1 w2 ⟨k, a3, c3, hc0_12, hc0_3, rfl, hS3, hk, hk3⟩ -
    refine c_set (d := 12) hc0_12 ?_
    refine c_set (d := 3) hc0_3 ?_
    refine c_seq ?_
    refine c_region ?_
    refine wl_dec (r_lss rfl rfl) rfl (fun h3_0 => ?_) (fun h3_0 => ?_)
    · refine wl_nil ?_
      refine c_then ?_
      refine c_seq ?_
      refine c_true rfl ?_
      refine wp_skip ?_
      refine c_then ?_
      refine c_seq ?_
      refine c_block ?_
      refine c_seq ?_
      have hrk := hr (gt ps k) (gt_mem ps k (by omega))
      have ht : Row w (gt ps k).a (((gt ps k).xs.take 3000).map b8) := by have := hrk.1.take (n := 3000); rwa [← List.map_take] at this
      refine c_region ?_
      refine wl_val (r_ixS ti35.und ti44 rfl rfl (hb.st hS3) (by first | omega | (simp [*]; done) | (simp [*] <;> omega)) (by first | (simp [*]; done) | (simp [*] <;> omega) | omega)) rfl ?_
      refine wl_val (r_loadS1 ti44.und rfl rfl (hb.st hS3) (by rw [Nat.mul_one]; exact map_gt _ _ _ (by first | omega | (simp [*]; done) | (simp [*] <;> omega)))) rfl ?_
      refine wl_val (r_assign (v := .slice _ _ _) rfl) rfl ?_
      refine wl_nil ?_
      refine c_then ?_
      refine c_region ?_
      refine wl_val (r_move (v := .slice _ _ _) rfl) rfl ?_
      refine wl_val (r_move (v := .slice _ _ _) rfl) rfl ?_
      refine wl_call (r_call fn23 rfl rfl) rfl (short_ok _ _ _ _ hrk.2.1) ?_
      rintro _ w5 ⟨rfl, hx6⟩
      have hS7 := hS3.ext hx6
      refine wl_call (r_call fn22 rfl rfl) rfl (rleaf_ok ((gt ps k).xs.take 3000) _ _ _ _ (ht.st hS7) (by simp [Nat.min_comm]) (by have := hrk.2.1; simp [Sl.v] at *; omega) (by omega)) ?_
      rintro _ w8 ⟨rfl, hx9⟩
      have hS10 := hS7.ext hx9
      refine wl_exv (x_litA1 hS10 ti22.und ti31 rfl (by first | (simp [*]; done) | (simp [*] <;> omega) | omega) rfl (by decide) (by decide)) rfl ?_
      rintro _ w11 ⟨b20, rfl, hS12⟩
      refine wl_exv (x_append [_] hS12 ti22.und ti31 rfl (by decide) rfl rfl (Row.of_at (at_all (hS12.heap (.head _)))) (by first | (simp [*]; done) | (simp [*] <;> omega) | omega) (by first | exact one_b8 _ | exact one_v32 _ | (intro c hc; simp only [List.mem_cons, List.not_mem_nil, or_false] at hc; (first | subst hc | rcases hc with rfl | rfl) <;> rfl)) (by first | omega | (simp [*]; done) | (simp [*] <;> omega)) (by first | omega | (simp [*]; done) | (simp [*] <;> omega)) _ rfl) rfl ?_
      rintro _ w13 ⟨aq15, cq15, rfl, hcq15, hS14⟩
      simp only [List.cons_append, List.nil_append] at hS14
      refine wl_val (r_assign (v := .slice _ _ _) rfl) rfl ?_
      refine wl_nil ?_
      refine c_inN ?_
      refine c_then ?_
      refine c_region ?_
      refine wl_val (r_addn (b := 1) rfl rfl (by omega)) rfl ?_
      refine wl_val (r_move (v := .int .i64 _) rfl) rfl ?_
      refine wl_nil ?_
      refine c_then ?_
      rw [← List.map_append, ← leavesL_gt ps k (by omega), ← flat_take1 _ k (by rw [leavesL_len]; omega)] at hS14
      exact ⟨min ps.length 40 - (k + 1), _, by omega, rfl, ⟨k + 1, _, _, rfl, rfl, rfl, hS14.drop1, by omega, hcq15⟩, ⟨rfl, rfl, rfl, trivial⟩⟩
    · refine wl_nil ?_
      refine c_then ?_
      refine c_seq ?_
      refine c_false rfl ?_
      refine wp_exit ?_
      refine c_thenE ?_
      refine c_thenE ?_
      refine c_inE ?_
      refine c_then ?_
      refine c_seq ?_
      refine c_region ?_
      refine wl_val (r_move (v := .slice _ _ _) rfl) rfl ?_
      refine wl_val (r_assign (v := .slice _ _ _) rfl) rfl ?_
      refine wl_nil ?_
      refine c_then ?_
      refine wp_ret ?_
      refine ret1 Tryd.results11 ?_
      obtain rfl : k = min ps.length 40 := by omega
      rw [List.take_of_length_le (by rw [leavesL_len]; omega)] at hS3
      exact ⟨_, _, rfl, hk3, hS3⟩

end Go.Proofs.YtfohfnpehfcaaaaDoor
