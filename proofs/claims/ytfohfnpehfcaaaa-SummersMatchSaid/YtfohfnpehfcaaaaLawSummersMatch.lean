/- For every domain, parts and number: a text written in pieces has the sum of the whole, at each moment, and a copy goes its own way; the law's function returns true and turns nothing. No condition. -/
import Derived.Test.YtfohfnpehfcaaaaRows
import Derived.Test.YtfohfnpehfcaaaaOpen
import Derived.Test.YtfohfnpehfcaaaaMixF
namespace Go.Proofs.Ytfohfnpehfcaaaa.lawSummersMatch
open Go.Kw Go.Proofs.Ytfohfnpehfcaaaa
open Go.ChangeShapes Go.WideShapes Go.ChangeAt Go.RowKit
set_option linter.unusedVariables false
set_option linter.unusedSimpArgs false
set_option maxRecDepth 100000
set_option maxHeartbeats 20000000

theorem walk (p : Int) (ps : List Piece) (q : Int) (a : Option Addr) (c : Nat) (w : World) (hp1 : -9223372036854775808 ≤ p) (hp2 : p ≤ 9223372036854775807) (hb : Row w a (ps.map Piece.v)) (hr : ∀ q ∈ ps, Row w q.a (q.xs.map b8) ∧ q.xs.length ≤ q.c ∧ q.c ≤ 140737488351232) (hl : ps.length ≤ c) (hl2 : ps.length ≤ 4611686018427387904) :
    Ret Try.prog 4 [.int .i64 p, .slice a ps.length c, .int .i64 q] w (fun v w' => v = .bool true ∧ St w [] w' []) := by
  refine enter Try.func4 rfl Try.ntmps4 rfl ?_
  have hS := St.refl w []
  refine c_seq ?_
  refine c_region ?_
  refine wl_val (r_assign (v := .bool false) rfl) rfl ?_
  refine wl_nil ?_
  refine c_then ?_
  refine c_seq ?_
  refine c_seq ?_
  refine c_region ?_
  refine wl_call (r_call fn20 rfl rfl) rfl (landed_ok _) ?_
  rintro _ w1 ⟨rfl, hx2⟩
  have hS3 := hS.ext hx2
  refine wl_val (r_not rfl) rfl ?_
  refine wl_nil ?_
  refine c_then ?_
  refine c_false rfl ?_
  refine wp_skip ?_
  refine c_then ?_
  refine c_seq ?_
  refine c_region ?_
  refine wl_val (r_move (v := .int .i64 _) rfl) rfl ?_
  refine wl_call (r_call fn29 rfl rfl) rfl (new_ok p _ hp1 hp2) ?_
  rintro _ w4 (⟨hbad, rfl, hx5⟩ | ⟨hgood, bS, rfl, hx5⟩)
  · have hS6 := hS3.ext hx5
    refine wl_val (r_move (v := .tuple _) rfl) rfl ?_
    refine wl_val (r_extract (v := .pointer _) rfl rfl) rfl ?_
    refine wl_val (r_extract (v := .int .i64 _) rfl rfl) rfl ?_
    refine wl_val (r_assign (v := .pointer _) rfl) rfl ?_
    refine wl_val (r_assign (v := .int .i64 _) rfl) rfl ?_
    refine wl_nil ?_
    refine c_then ?_
    refine c_seq ?_
    refine c_seq ?_
    refine c_region ?_
    refine wl_val (r_move (v := .int .i64 _) rfl) rfl ?_
    refine wl_dec (r_lss rfl rfl) rfl (fun h4_1 => ?_) (fun h4_1 => ?_)
    · refine wl_val (r_move (v := .bool _) rfl) rfl ?_
      refine wl_not rfl ?_
      refine wl_not rfl ?_
      refine wl_val (r_pick_t rfl (v := .bool true) rfl) rfl ?_
      refine wl_nil ?_
      refine c_then ?_
      refine c_true rfl ?_
      refine c_seq ?_
      refine c_region ?_
      refine wl_val (r_move (v := .int .i64 _) rfl) rfl ?_
      refine wl_dec_t (r_eql rfl rfl) rfl (by decide) ?_
      refine wl_val (r_move (v := .bool _) rfl) rfl ?_
      refine wl_val (r_move (v := .pointer _) rfl) rfl ?_
      refine wl_dec_t (r_eqlPn ti44.und rfl rfl) rfl rfl ?_
      refine wl_val (r_pick_t rfl (v := .bool _) rfl) rfl ?_
      refine wl_val (r_assign (v := .bool _) rfl) rfl ?_
      refine wl_nil ?_
      refine c_then ?_
      refine wp_ret ?_
      refine c_thenR ?_
      refine ret1 Try.results4 ?_
      exact ⟨rfl, hS6.fin⟩
    · refine wl_val (r_move (v := .bool _) rfl) rfl ?_
      refine wl_val (r_move (v := .int .i64 _) rfl) rfl ?_
      refine wl_dec (r_gtr rfl rfl) rfl (fun h4_4 => ?_) (fun h4_4 => ?_)
      · refine wl_val (r_pick_f rfl (v := .bool _) rfl) rfl ?_
        refine wl_nil ?_
        refine c_then ?_
        refine c_true rfl ?_
        refine c_seq ?_
        refine c_region ?_
        refine wl_val (r_move (v := .int .i64 _) rfl) rfl ?_
        refine wl_dec_t (r_eql rfl rfl) rfl (by decide) ?_
        refine wl_val (r_move (v := .bool _) rfl) rfl ?_
        refine wl_val (r_move (v := .pointer _) rfl) rfl ?_
        refine wl_dec_t (r_eqlPn ti44.und rfl rfl) rfl rfl ?_
        refine wl_val (r_pick_t rfl (v := .bool _) rfl) rfl ?_
        refine wl_val (r_assign (v := .bool _) rfl) rfl ?_
        refine wl_nil ?_
        refine c_then ?_
        refine wp_ret ?_
        refine c_thenR ?_
        refine ret1 Try.results4 ?_
        exact ⟨rfl, hS6.fin⟩
      · exfalso; omega
  · have hS6 := hS3.call hx5
    simp only [List.cons_append, List.nil_append] at hS6
    refine wl_val (r_move (v := .tuple _) rfl) rfl ?_
    refine wl_val (r_extract (v := .pointer _) rfl rfl) rfl ?_
    refine wl_val (r_extract (v := .int .i64 _) rfl rfl) rfl ?_
    refine wl_val (r_assign (v := .pointer _) rfl) rfl ?_
    refine wl_val (r_assign (v := .int .i64 _) rfl) rfl ?_
    refine wl_nil ?_
    refine c_then ?_
    refine c_seq ?_
    refine c_seq ?_
    refine c_region ?_
    refine wl_val (r_move (v := .int .i64 _) rfl) rfl ?_
    refine wl_dec_f (r_lss rfl rfl) rfl (by omega) ?_
    refine wl_val (r_move (v := .bool _) rfl) rfl ?_
    refine wl_val (r_move (v := .int .i64 _) rfl) rfl ?_
    refine wl_dec_f (r_gtr rfl rfl) rfl (by omega) ?_
    refine wl_val (r_pick_f rfl (v := .bool _) rfl) rfl ?_
    refine wl_nil ?_
    refine c_then ?_
    refine c_false rfl ?_
    refine wp_skip ?_
    refine c_then ?_
    refine c_seq ?_
    refine c_seq ?_
    refine c_set (d := 0) (v := vi p.toNat) (congrArg (Value.int .i64) (toNat_cast (by omega)).symm) ?_
    refine c_region ?_
    refine wl_val (r_move (v := .int .i64 _) rfl) rfl ?_
    refine wl_dec_f (r_neq rfl rfl) rfl (by decide) ?_
    refine wl_val (r_move (v := .bool _) rfl) rfl ?_
    refine wl_val (r_move (v := .pointer _) rfl) rfl ?_
    refine wl_dec_f (r_eqlPn ti44.und rfl rfl) rfl (by simp) ?_
    refine wl_val (r_pick_f rfl (v := .bool _) rfl) rfl ?_
    refine wl_nil ?_
    refine c_then ?_
    refine c_false rfl ?_
    refine wp_skip ?_
    refine c_then ?_
    refine c_seq ?_
    refine c_region ?_
    refine wl_val (r_assign (v := .slice none 0 0) rfl) rfl ?_
    refine wl_val (r_assign (v := .slice none 0 0) rfl) rfl ?_
    refine wl_nil ?_
    refine c_then ?_
    refine c_seq ?_
    refine c_region ?_
    refine wl_val (r_assign (v := .pointer none) rfl) rfl ?_
    refine wl_nil ?_
    refine c_then ?_
    refine c_seq ?_
    refine c_seq ?_
    refine c_region ?_
    refine wl_val (r_move (v := .slice _ _ _) rfl) rfl ?_
    refine wl_val (r_move (v := .slice _ _ _) rfl) rfl ?_
    refine wl_val (r_len (T := 43) rfl ti43.und rfl _ rfl) rfl ?_
    refine wl_val (r_min2n (b := 20) rfl rfl _ rfl) rfl ?_
    refine wl_val (r_sl_h ti43.und ti22 rfl rfl (by omega)) rfl ?_
    refine wl_val (r_len (T := 43) rfl ti43.und rfl _ rfl) rfl ?_
    refine wl_val (r_move (v := .int .i64 0) rfl) rfl ?_
    refine wl_nil ?_
    refine c_then ?_
    refine c_block ?_
    refine c_loopE [0, 2, 7, 43, 44] (fun d e w' => ∃ (k : Nat) (a9 : Option Addr) (n9 : Nat) (c9 : Nat) (v10 : Value) (v11 : Value) (rest : List UInt8) (X : List Kw.Item), Kw.look e 45 = vi k ∧ Kw.look e 9 = .slice a9 n9 c9 ∧ Kw.look e 10 = v10 ∧ Kw.look e 11 = v11 ∧ d = min ps.length 20 - k ∧ St w [] w' (.blk bS (cl (sumC (soak (ini (UInt8.ofNat p.toNat)) (joined ((few ps).take k))) rest (left (joined ((few ps).take k))).length (joined ((few ps).take k)).length) 148) :: .row (.slice a9 n9 c9) 5 1 n9 ((joined ((few ps).take k)).map b8) :: X) ∧ (k ≤ min ps.length 20) ∧ ((joined ((few ps).take k)).length = n9) ∧ (rest.length = 32) ∧ (rest.take (left (joined ((few ps).take k))).length = left (joined ((few ps).take k))) ∧ (Copied 148 5 (UInt8.ofNat p.toNat) X v11 v10)) (min ps.length 20 - 0) ?_ ?_
    · refine ⟨0, none, 0, 0, _, _, List.replicate 32 0, [], rfl, rfl, rfl, rfl, rfl, ?_, Nat.zero_le _, by rw [joined_zero]; rfl, by simp, by rw [joined_zero]; rfl, .inl ⟨rfl, rfl, rfl⟩⟩
      rw [joined_zero]; exact (hS6.nilRow).perm (List.Perm.swap _ _ _)
    · rintro d10 e7 w8 ⟨k, a9, n9, c9, v10, v11, rest, X, hc0_45, hc0_9, hc0_10, hc0_11, rfl, hS9, hk, hn9, hr1, hr2, hX⟩ -
      refine c_set (d := 45) hc0_45 ?_
      refine c_set (d := 9) hc0_9 ?_
      refine c_set (d := 10) hc0_10 ?_
      refine c_set (d := 11) hc0_11 ?_
      refine c_seq ?_
      refine c_region ?_
      refine wl_dec (r_lss rfl rfl) rfl (fun h11_0 => ?_) (fun h11_0 => ?_)
      · refine wl_nil ?_
        refine c_then ?_
        refine c_seq ?_
        refine c_true rfl ?_
        refine wp_skip ?_
        refine c_then ?_
        refine c_seq ?_
        refine c_block ?_
        refine c_seq ?_
        have hrk := hr (gt ps k) (gt_mem ps k (by omega))
        refine c_region ?_
        refine wl_val (r_move (v := .int .i64 _) rfl) rfl ?_
        refine wl_val (r_ixS ti43.und ti22 rfl rfl (hb.st hS9) (by first | omega | (simp [*]; done) | (simp [*] <;> omega)) (by first | (simp [*]; done) | (simp [*] <;> omega) | omega)) rfl ?_
        refine wl_val (r_loadS1 ti22.und rfl rfl (hb.st hS9) (by rw [Nat.mul_one]; exact map_gt _ _ _ (by first | omega | (simp [*]; done) | (simp [*] <;> omega)))) rfl ?_
        refine wl_val (r_assign (v := .int .i64 _) rfl) rfl ?_
        refine wl_val (r_assign (v := .slice _ _ _) rfl) rfl ?_
        refine wl_nil ?_
        refine c_then ?_
        refine c_seq ?_
        refine c_seq ?_
        refine c_region ?_
        refine wl_val (r_move (v := .int .i64 _) rfl) rfl ?_
        refine wl_val (r_move (v := .int .i64 _) rfl) rfl ?_
        refine wl_dec (r_eql rfl rfl) rfl (fun h13_2 => ?_) (fun h13_2 => ?_)
        · refine wl_nil ?_
          refine c_then ?_
          refine c_true rfl ?_
          have hft0 := few_total ps k
          refine c_region ?_
          refine wl_val (r_move (v := .pointer _) rfl) rfl ?_
          refine wl_call (r_call fn30 rfl rfl) rfl (copy_ok _ _ _ _ _ _ (soak_len _ _ (ini_len _)) hr1 (hS9.heap (.head _))) ?_
          rintro _ w11 ⟨b54, rfl, hx12⟩
          have hS13 := St.callM (X := [_]) (L := (_ :: _)) hS9 hx12 (by simp [Item.id])
          simp only [List.cons_append, List.nil_append] at hS13
          refine wl_val (r_move (v := .slice _ _ _) rfl) rfl ?_
          refine wl_call (r_call fn21 rfl rfl) rfl (clone_n _ _ _ _ _ (St.rowAt hS13 (.tail _ (.tail _ (.head _)))) (by first | (simp [*]; done) | (simp [*] <;> omega) | omega) (by first | (simp [*]; done) | (simp [*] <;> omega) | omega)) ?_
          rintro _ w14 ⟨a56, c56, rfl, hc56, hx15⟩
          have hS16 := hS13.call hx15
          simp only [List.cons_append, List.nil_append] at hS16
          refine wl_val (r_assign (v := .pointer _) rfl) rfl ?_
          refine wl_val (r_assign (v := .slice _ _ _) rfl) rfl ?_
          refine wl_nil ?_
          refine c_then ?_
          refine c_seq ?_
          refine c_region ?_
          refine wl_val (r_move (v := .slice _ _ _) rfl) rfl ?_
          refine wl_val (r_move (v := .slice _ _ _) rfl) rfl ?_
          refine wl_val (r_len (T := 22) rfl ti22.und rfl _ rfl) rfl ?_
          refine wl_val (r_min2n (b := 500) rfl rfl _ rfl) rfl ?_
          refine wl_val (r_sl_h ti22.und ti5 rfl rfl (by omega)) rfl ?_
          have ht : Row w (gt ps k).a (((gt ps k).xs.take 500).map b8) := by have := hrk.1.take (n := 500); rwa [← List.map_take] at this
          refine wl_val (r_assign (v := .slice _ _ _) rfl) rfl ?_
          refine wl_nil ?_
          refine c_then ?_
          refine c_seq ?_
          refine c_seq ?_
          have hft := few_total ps k
          refine c_region ?_
          refine wl_val (r_move (v := .pointer _) rfl) rfl ?_
          refine wl_val (r_move (v := .slice _ _ _) rfl) rfl ?_
          refine wl_call (r_call fn31 rfl rfl) rfl (write_fit (ini (UInt8.ofNat p.toNat)) (joined ((few ps).take k)) rest bS ((gt ps k).xs.take 500) _ _ _ _ (ini_len _) hr1 (hS16.heap (.tail _ (.tail _ (.head _)))) hr2 (by simp [Nat.min_comm]) (by have := hrk.2.1; omega) (ht.st hS16) (Sep.old hS16 (.tail _ (.tail _ (.head _))) ht) (by omega)) ?_
          rintro _ w17 ⟨rfl, rest2, hr1b, hr2b, hx18⟩
          have hS19 := St.callM (X := [_]) (L := (_ :: _ :: _ :: _)) (hS16.perm ((List.Perm.cons _ (List.Perm.refl _)).trans (List.perm_middle (l₁ := [_, _])).symm)) hx18 (by simp [Item.id])
          simp only [List.cons_append, List.nil_append] at hS19
          refine wl_dec_f (r_neq rfl rfl) rfl (by decide) ?_
          refine wl_nil ?_
          refine c_then ?_
          refine c_false rfl ?_
          refine wp_skip ?_
          refine c_then ?_
          refine c_seq ?_
          refine c_region ?_
          refine wl_val (r_move (v := .slice _ _ _) rfl) rfl ?_
          refine wl_val (r_move (v := .slice _ _ _) rfl) rfl ?_
          refine wl_exv (x_append [_, _, _] hS19 ti22.und ti5 rfl (by decide) rfl rfl (ht.st hS19) (by simp [Nat.min_comm]) (by first | exact one_b8 _ | exact one_v32 _ | (intro c hc; simp only [List.mem_cons, List.not_mem_nil, or_false] at hc; (first | subst hc | rcases hc with rfl | rfl) <;> rfl)) (by first | omega | (simp [*]; done) | (simp [*] <;> omega)) (by first | omega | (simp [*]; done) | (simp [*] <;> omega)) _ rfl) rfl ?_
          rintro _ w20 ⟨aq22, cq22, rfl, hcq22, hS21⟩
          simp only [List.cons_append, List.nil_append] at hS21
          refine wl_val (r_assign (v := .slice _ _ _) rfl) rfl ?_
          refine wl_nil ?_
          refine c_then ?_
          refine c_seq ?_
          rw [← List.map_append] at hS21
          have e4 := joined_take (few ps) k (by rw [few_len]; omega)
          rw [few_gt ps k (by rw [few_len]; omega)] at e4
          simp only [cutP] at e4
          rw [← e4] at hS21 hr2b
          have hn1 : (joined ((few ps).take (k + 1))).length = n9 + min (gt ps k).xs.length 500 := by rw [e4, List.length_append, List.length_take, Nat.min_comm 500]; omega
          have hft1 := few_total ps (k + 1)
          refine c_region ?_
          refine wl_val (r_move (v := .pointer _) rfl) rfl ?_
          refine wl_call (r_call fn32 rfl rfl) rfl (sum_ok _ _ _ _ _ (ini_len _) hr1b (hS21.heap (.head _)) hr2b (by omega)) ?_
          rintro _ w23 ⟨rfl, hx24⟩
          have hS25 := hS21.ext hx24
          refine wl_val (r_move (v := .int .i64 _) rfl) rfl ?_
          refine wl_val (r_move (v := .slice _ _ _) rfl) rfl ?_
          refine wl_call (r_call fn33 rfl rfl) rfl (rsum_ok p.toNat (_) _ _ _ _ (St.rowAt hS25 (.tail _ (.tail _ (.tail _ (.head _))))) hn1 (by omega)) ?_
          rintro _ w26 ⟨rfl, hx27⟩
          have hS28 := hS25.ext hx27
          refine wl_dec_f (r_neqA (u := undef) eg49 rfl rfl (eqIs_b8 ti49.und ti5 _ _ (by first | (simp [*]; done) | (simp [*] <;> omega) | omega) (by first | (simp [*]; done) | (simp [*] <;> omega) | omega))) rfl (not_not_intro rfl) ?_
          refine wl_nil ?_
          refine c_then ?_
          refine c_false rfl ?_
          refine wp_skip ?_
          refine c_inN ?_
          refine c_then ?_
          refine c_region ?_
          refine wl_val (r_addn (b := 1) rfl rfl (by omega)) rfl ?_
          refine wl_val (r_move (v := .int .i64 _) rfl) rfl ?_
          refine wl_nil ?_
          refine c_then ?_
          refine ⟨min ps.length 20 - (k + 1), _, by omega, rfl, ⟨k + 1, _, _, _, _, _, rest2, _, rfl, rfl, rfl, rfl, rfl, (St.front [_, _, _, _] (hS28.perm (List.Perm.cons _ ((List.Perm.cons _ ((List.Perm.cons _ (List.Perm.refl _)).trans (List.perm_middle (l₁ := [_])).symm)).trans (List.perm_middle (l₁ := [_, _])).symm)))), by omega, hn1, hr1b, hr2b, .inr ⟨_, _, _, _, _, _, rfl, rfl, rfl, hr1, hr2, hn9, by omega⟩⟩, ⟨rfl, rfl, rfl, rfl, rfl, trivial⟩⟩
        · refine wl_nil ?_
          refine c_then ?_
          refine c_false rfl ?_
          refine wp_skip ?_
          refine c_then ?_
          refine c_seq ?_
          refine c_region ?_
          refine wl_val (r_move (v := .slice _ _ _) rfl) rfl ?_
          refine wl_val (r_move (v := .slice _ _ _) rfl) rfl ?_
          refine wl_val (r_len (T := 22) rfl ti22.und rfl _ rfl) rfl ?_
          refine wl_val (r_min2n (b := 500) rfl rfl _ rfl) rfl ?_
          refine wl_val (r_sl_h ti22.und ti5 rfl rfl (by omega)) rfl ?_
          have ht : Row w (gt ps k).a (((gt ps k).xs.take 500).map b8) := by have := hrk.1.take (n := 500); rwa [← List.map_take] at this
          refine wl_val (r_assign (v := .slice _ _ _) rfl) rfl ?_
          refine wl_nil ?_
          refine c_then ?_
          refine c_seq ?_
          refine c_seq ?_
          have hft := few_total ps k
          refine c_region ?_
          refine wl_val (r_move (v := .pointer _) rfl) rfl ?_
          refine wl_val (r_move (v := .slice _ _ _) rfl) rfl ?_
          refine wl_call (r_call fn31 rfl rfl) rfl (write_fit (ini (UInt8.ofNat p.toNat)) (joined ((few ps).take k)) rest bS ((gt ps k).xs.take 500) _ _ _ _ (ini_len _) hr1 (hS9.heap (.head _)) hr2 (by simp [Nat.min_comm]) (by have := hrk.2.1; omega) (ht.st hS9) (Sep.old hS9 (.head _) ht) (by omega)) ?_
          rintro _ w29 ⟨rfl, rest2, hr1b, hr2b, hx30⟩
          have hS31 := St.callM (X := [_]) (L := (_ :: _)) hS9 hx30 (by simp [Item.id])
          simp only [List.cons_append, List.nil_append] at hS31
          refine wl_dec_f (r_neq rfl rfl) rfl (by decide) ?_
          refine wl_nil ?_
          refine c_then ?_
          refine c_false rfl ?_
          refine wp_skip ?_
          refine c_then ?_
          refine c_seq ?_
          refine c_region ?_
          refine wl_val (r_move (v := .slice _ _ _) rfl) rfl ?_
          refine wl_val (r_move (v := .slice _ _ _) rfl) rfl ?_
          refine wl_exv (x_append [_] hS31 ti22.und ti5 rfl (by decide) rfl rfl (ht.st hS31) (by simp [Nat.min_comm]) (by first | exact one_b8 _ | exact one_v32 _ | (intro c hc; simp only [List.mem_cons, List.not_mem_nil, or_false] at hc; (first | subst hc | rcases hc with rfl | rfl) <;> rfl)) (by first | omega | (simp [*]; done) | (simp [*] <;> omega)) (by first | omega | (simp [*]; done) | (simp [*] <;> omega)) _ rfl) rfl ?_
          rintro _ w32 ⟨aq34, cq34, rfl, hcq34, hS33⟩
          simp only [List.cons_append, List.nil_append] at hS33
          refine wl_val (r_assign (v := .slice _ _ _) rfl) rfl ?_
          refine wl_nil ?_
          refine c_then ?_
          refine c_seq ?_
          rw [← List.map_append] at hS33
          have e4 := joined_take (few ps) k (by rw [few_len]; omega)
          rw [few_gt ps k (by rw [few_len]; omega)] at e4
          simp only [cutP] at e4
          rw [← e4] at hS33 hr2b
          have hn1 : (joined ((few ps).take (k + 1))).length = n9 + min (gt ps k).xs.length 500 := by rw [e4, List.length_append, List.length_take, Nat.min_comm 500]; omega
          have hft1 := few_total ps (k + 1)
          refine c_region ?_
          refine wl_val (r_move (v := .pointer _) rfl) rfl ?_
          refine wl_call (r_call fn32 rfl rfl) rfl (sum_ok _ _ _ _ _ (ini_len _) hr1b (hS33.heap (.head _)) hr2b (by omega)) ?_
          rintro _ w35 ⟨rfl, hx36⟩
          have hS37 := hS33.ext hx36
          refine wl_val (r_move (v := .int .i64 _) rfl) rfl ?_
          refine wl_val (r_move (v := .slice _ _ _) rfl) rfl ?_
          refine wl_call (r_call fn33 rfl rfl) rfl (rsum_ok p.toNat (_) _ _ _ _ (St.rowAt hS37 (.tail _ (.head _))) hn1 (by omega)) ?_
          rintro _ w38 ⟨rfl, hx39⟩
          have hS40 := hS37.ext hx39
          refine wl_dec_f (r_neqA (u := undef) eg49 rfl rfl (eqIs_b8 ti49.und ti5 _ _ (by first | (simp [*]; done) | (simp [*] <;> omega) | omega) (by first | (simp [*]; done) | (simp [*] <;> omega) | omega))) rfl (not_not_intro rfl) ?_
          refine wl_nil ?_
          refine c_then ?_
          refine c_false rfl ?_
          refine wp_skip ?_
          refine c_inN ?_
          refine c_then ?_
          refine c_region ?_
          refine wl_val (r_addn (b := 1) rfl rfl (by omega)) rfl ?_
          refine wl_val (r_move (v := .int .i64 _) rfl) rfl ?_
          refine wl_nil ?_
          refine c_then ?_
          refine ⟨min ps.length 20 - (k + 1), _, by omega, rfl, ⟨k + 1, _, _, _, _, _, rest2, _, rfl, rfl, rfl, rfl, rfl, hS40, by omega, hn1, hr1b, hr2b, hX⟩, ⟨rfl, rfl, rfl, rfl, rfl, trivial⟩⟩
      · refine wl_nil ?_
        refine c_then ?_
        refine c_seq ?_
        refine c_false rfl ?_
        refine wp_exit ?_
        refine c_thenE ?_
        refine c_thenE ?_
        refine c_inE ?_
        refine c_then ?_
        refine c_seq ?_
        refine c_seq ?_
        rcases hX with ⟨rfl, rfl, rfl⟩ | ⟨bC, restC, aC, nC, cC, tC, rfl, rfl, rfl, hC1, hC2, hC3, hC4⟩
        · refine c_region ?_
          refine wl_val (r_move (v := .pointer _) rfl) rfl ?_
          refine wl_dec_t (r_eqlPn ti44.und rfl rfl) rfl rfl ?_
          refine wl_nil ?_
          refine c_then ?_
          refine c_true rfl ?_
          refine c_seq ?_
          refine c_region ?_
          refine wl_val (r_assign (v := .bool true) rfl) rfl ?_
          refine wl_nil ?_
          refine c_then ?_
          refine wp_ret ?_
          refine c_thenR ?_
          refine ret1 Try.results4 ?_
          exact ⟨rfl, hS9.fin⟩
        · refine c_region ?_
          refine wl_val (r_move (v := .pointer _) rfl) rfl ?_
          refine wl_dec_f (r_eqlPn ti44.und rfl rfl) rfl (by simp) ?_
          refine wl_nil ?_
          refine c_then ?_
          refine c_false rfl ?_
          refine wp_skip ?_
          refine c_then ?_
          refine c_seq ?_
          have hft := few_total ps k
          refine c_region ?_
          refine wl_val (r_move (v := .pointer _) rfl) rfl ?_
          refine wl_call (r_call fn32 rfl rfl) rfl (sum_ok _ _ _ _ _ (ini_len _) hC1 (hS9.heap (.tail _ (.tail _ (.head _)))) hC2 (by omega)) ?_
          rintro _ w41 ⟨rfl, hx42⟩
          have hS43 := hS9.ext hx42
          refine wl_val (r_move (v := .int .i64 _) rfl) rfl ?_
          refine wl_val (r_move (v := .slice _ _ _) rfl) rfl ?_
          refine wl_call (r_call fn33 rfl rfl) rfl (rsum_ok p.toNat (_) _ _ _ _ (St.rowAt hS43 (.tail _ (.tail _ (.tail _ (.head _))))) hC3 (by omega)) ?_
          rintro _ w44 ⟨rfl, hx45⟩
          have hS46 := hS43.ext hx45
          refine wl_dec_t (r_eqlA (u := undef) eg49 rfl rfl (eqIs_b8 ti49.und ti5 _ _ (by first | (simp [*]; done) | (simp [*] <;> omega) | omega) (by first | (simp [*]; done) | (simp [*] <;> omega) | omega))) rfl rfl ?_
          refine wl_val (r_move (v := .bool _) rfl) rfl ?_
          refine wl_val (r_move (v := .pointer _) rfl) rfl ?_
          refine wl_exv (x_lit (vs := (([7] : List UInt8).map b8)) hS46 ti22.und ti5 rfl rfl rfl (by first | exact one_b8 _ | exact one_v32 _) (by decide)) rfl ?_
          rintro _ w47 ⟨b86, rfl, hS48⟩
          refine wl_call (r_call fn31 rfl rfl) rfl (write_fit (ini (UInt8.ofNat p.toNat)) (tC) restC bC ([7]) _ _ _ _ (ini_len _) hC1 (hS48.heap (.tail _ (.tail _ (.tail _ (.head _))))) hC2 rfl (Nat.le_refl _) (Row.of_at (at_all (hS48.heap (.head _)))) (Sep.ofNe (St.ne2 (hS48.perm ((List.Perm.cons _ ((List.Perm.cons _ ((List.Perm.cons _ (List.Perm.refl _)).trans (List.perm_middle (l₁ := [_, _])).symm)).trans (List.perm_middle (l₁ := [_])).symm)).trans (List.perm_middle (l₁ := [_])).symm)).drop1.drop1.drop1)) (by omega)) ?_
          rintro _ w49 ⟨rfl, restD, hD1, hD2, hx50⟩
          have hS51 := St.callM (X := [_]) (L := [_, _, _, _]) (hS48.perm ((List.Perm.cons _ (List.Perm.refl _)).trans (List.perm_middle (l₁ := [_, _, _])).symm)) hx50 (by simp [Item.id])
          simp only [List.cons_append, List.nil_append] at hS51
          refine wl_dec_t (r_eql rfl rfl) rfl (by decide) ?_
          refine wl_val (r_pick_t rfl (v := .bool _) rfl) rfl ?_
          refine wl_val (r_move (v := .bool _) rfl) rfl ?_
          refine wl_val (r_move (v := .pointer _) rfl) rfl ?_
          refine wl_call (r_call fn32 rfl rfl) rfl (sum_ok _ _ _ _ _ (ini_len _) hD1 (hS51.heap (.head _)) hD2 (by simp; omega)) ?_
          rintro _ w52 ⟨rfl, hx53⟩
          have hS54 := hS51.ext hx53
          refine wl_val (r_move (v := .int .i64 _) rfl) rfl ?_
          refine wl_val (r_move (v := .slice _ _ _) rfl) rfl ?_
          refine wl_exv (x_lit (vs := (([7] : List UInt8).map b8)) hS54 ti22.und ti5 rfl rfl rfl (by first | exact one_b8 _ | exact one_v32 _) (by decide)) rfl ?_
          rintro _ w55 ⟨b95, rfl, hS56⟩
          refine wl_exv (x_append [_, _, _, _, _] hS56 ti22.und ti5 rfl (by decide) rfl rfl (Row.of_at (at_all (hS56.heap (.head _)))) (by first | (simp [*]; done) | (simp [*] <;> omega) | omega) (by first | exact one_b8 _ | exact one_v32 _ | (intro c hc; simp only [List.mem_cons, List.not_mem_nil, or_false] at hc; (first | subst hc | rcases hc with rfl | rfl) <;> rfl)) (by first | omega | (simp [*]; done) | (simp [*] <;> omega)) (by first | omega | (simp [*]; done) | (simp [*] <;> omega)) _ rfl) rfl ?_
          rintro _ w57 ⟨aq59, cq59, rfl, hcq59, hS58⟩
          simp only [List.cons_append, List.nil_append] at hS58
          refine wl_call (r_call fn33 rfl rfl) rfl (rsum_ok p.toNat (tC ++ [7]) _ _ _ _ (by rw [List.map_append]; exact (St.rowAt hS58 (.tail _ (.tail _ (.tail _ (.tail _ (.tail _ (.head _)))))))) (by simp [hC3]) (by omega)) ?_
          rintro _ w60 ⟨rfl, hx61⟩
          have hS62 := hS58.ext hx61
          refine wl_dec_t (r_eqlA (u := undef) eg49 rfl rfl (eqIs_b8 ti49.und ti5 _ _ (by first | (simp [*]; done) | (simp [*] <;> omega) | omega) (by first | (simp [*]; done) | (simp [*] <;> omega) | omega))) rfl rfl ?_
          refine wl_val (r_pick_t rfl (v := .bool _) rfl) rfl ?_
          refine wl_val (r_move (v := .bool _) rfl) rfl ?_
          refine wl_val (r_move (v := .pointer _) rfl) rfl ?_
          refine wl_call (r_call fn32 rfl rfl) rfl (sum_ok _ _ _ _ _ (ini_len _) hr1 (hS62.heap (.tail _ (.tail _ (.tail _ (.head _))))) hr2 (by omega)) ?_
          rintro _ w63 ⟨rfl, hx64⟩
          have hS65 := hS62.ext hx64
          refine wl_val (r_move (v := .int .i64 _) rfl) rfl ?_
          refine wl_val (r_move (v := .slice _ _ _) rfl) rfl ?_
          refine wl_call (r_call fn33 rfl rfl) rfl (rsum_ok p.toNat (_) _ _ _ _ (St.rowAt hS65 (.tail _ (.tail _ (.tail _ (.tail _ (.head _)))))) hn9 (by omega)) ?_
          rintro _ w66 ⟨rfl, hx67⟩
          have hS68 := hS65.ext hx67
          refine wl_dec_t (r_eqlA (u := undef) eg49 rfl rfl (eqIs_b8 ti49.und ti5 _ _ (by first | (simp [*]; done) | (simp [*] <;> omega) | omega) (by first | (simp [*]; done) | (simp [*] <;> omega) | omega))) rfl rfl ?_
          refine wl_val (r_pick_t rfl (v := .bool _) rfl) rfl ?_
          refine wl_val (r_assign (v := .bool _) rfl) rfl ?_
          refine wl_nil ?_
          refine c_then ?_
          refine wp_ret ?_
          refine ret1 Try.results4 ?_
          exact ⟨rfl, hS68.fin⟩


theorem own : ownKnob Try.prog.godebug = none := by kernel_rfl
theorem laidOut : laidOutB Try.prog = true := by kernel_rfl
theorem readable3 : Try.prog.readableRec 3 = true := by kernel_rfl
theorem inside3 : decide (3 < Try.prog.types.size) = true := by kernel_rfl
theorem readable43 : Try.prog.readableRec 43 = true := by kernel_rfl
theorem inside43 : decide (43 < Try.prog.types.size) = true := by kernel_rfl
theorem lifted (os : Os) (started : os.Started) (H : Type) (enc : TypeId × Value → H) :
    ReturnsInHanded {} Try.checked os 4 .any (Rows.summersMatchSpec.pre6 enc Try.prog Try.f4 Rows.summersMatchRow.domain false) (Rows.summersMatchSpec.post enc Try.prog Try.f4 false true false false) := by
  refine returnsInHanded_of_change_sized (C := Try.checked) own started (by kernel_rfl) Try.func4
    (ChangeSpec.witness6 (enc := enc) (C := Try.checked) false ⟨#[], #[.int .i64 0, .slice none 0 0, .int .i64 0], []⟩ 8 (by kernel_rfl) (by kernel_rfl) (by kernel_rfl) (by kernel_rfl)) ?_
  intro W base args ds gs before hval0 hW hcnd hsz0 _
  have hval : ∀ (j : Nat) t v, Try.f4.params[j]? = some t → args[j]? = some v → Value.okWide Try.prog W .any base t v := hval0
  have hW' := hW
  obtain ⟨p, q, hA0, hV, rfl, hfz, hnd⟩ := hW
  have hA : DataW.TrodAll enc Try.prog W 0 (fun _ => true) true Try.f4.params.toList args.toList ds p := hA0
  have hsz : (DataW.weightsEach Try.prog (Try.f4.params.toList ++ Rows.summersMatchSpec.plain.varTypes Try.prog) (ds ++ gs)).all (· ≤ reachBytes) = true := hsz0
  rw [Try.params4] at hA hval hsz
  obtain ⟨v0, vs0, d0, ds0, p0, q0, hargs, rfl, rfl, h0, r0⟩ := trodAll_cons hA
  obtain ⟨v1, vs1, d1, ds1, p1, q1, rfl, rfl, rfl, h1, r1⟩ := trodAll_cons r0
  obtain ⟨v2, vs2, d2, ds2, p2, q2, rfl, rfl, rfl, h2, r2⟩ := trodAll_cons r1
  obtain ⟨rfl, rfl, rfl⟩ := trodAll_nil r2
  obtain rfl : args = #[v0, v1, v2] := by cases args; simp_all
  obtain ⟨rfl, rfl⟩ := trodVars_none hV
  have lt0 : ∀ x ∈ p0, x.block < W.heap.size := by obtain ⟨m, hm⟩ := h0; exact DataW.trod_lt m _ _ _ hm
  have lt1 : ∀ x ∈ p1, x.block < W.heap.size := by obtain ⟨m, hm⟩ := h1; exact DataW.trod_lt m _ _ _ hm
  have lt2 : ∀ x ∈ p2, x.block < W.heap.size := by obtain ⟨m, hm⟩ := h2; exact DataW.trod_lt m _ _ _ hm
  have ok0 := hval 0 3 v0 rfl rfl
  obtain ⟨p, rfl, lop, hip⟩ := open_i64 Try.underlying3 ok0 h0
  have ok1 := hval 1 43 v1 rfl rfl
  obtain ⟨⟨aps, cps, ps⟩, rfl, rps, lcps, hcps, hrps⟩ := open_slice (j := 1) Try.underlying43 (opens_parts Try.underlying43 (by kernel_rfl) (by kernel_rfl) Try.underlying22 Try.underlying5 (by kernel_rfl) (by kernel_rfl)) ok1 h1 hsz rfl rfl
  simp only [] at rps lcps hcps hrps
  have ok2 := hval 2 3 v2 rfl rfl
  obtain ⟨q, rfl, loq, hiq⟩ := open_i64 Try.underlying3 ok2 h2
  refine Calls.mono (walk p ps q aps cps W lop hip rps hrps lcps (by omega)) fun e W' ⟨v, he, hv, hs⟩ => ?_
  subst hv; subst he
  have bel := hs.below
  exact ⟨_, rfl, _, _, _, [], _, [], hW', trodAll_mk1 (shut_bool Try.underlying4 _), (trodAll_cons_mk (Below.trod laidOut readable3 (of_decide_eq_true inside3) h0 bel lt0) (trodAll_cons_mk (Below.trod laidOut readable43 (of_decide_eq_true inside43) h1 bel lt1) (trodAll_cons_mk (Below.trod laidOut readable3 (of_decide_eq_true inside3) h2 bel lt2) trodAll_mk0))), rfl, bel.frame _, fun h => by cases h⟩
theorem over : Rows.summersMatchRow.holds Try.pinned (OpenSpec.ofChange Rows.summersMatchSpec) :=
  OpenClaim.holds_of_wide 4 Try.f4 rfl rfl rfl rfl rfl rfl rfl ⟨rfl, rfl, rfl, rfl, rfl⟩ rfl rfl rfl rfl rfl (by kernel_rfl) Try.func4 (by kernel_rfl)
    (of_decide_eq_true (by kernel_rfl)) (by unfold Func.isWrapper; rw [if_neg (of_decide_eq_false (by kernel_rfl))]; exact ⟨rfl, rfl⟩)
    (fun os started H enc _ => lifted os started H enc)
theorem proved : Rows.SummersMatchSaid := over
#print axioms proved
end Go.Proofs.Ytfohfnpehfcaaaa.lawSummersMatch
