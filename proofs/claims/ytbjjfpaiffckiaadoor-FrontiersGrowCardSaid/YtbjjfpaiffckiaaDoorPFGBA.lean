/- What the law's proof leans on. No condition. -/
import Derived.Test.YtbjjfpaiffckiaaDoorPFGAH
import Derived.Test.YtbjjfpaiffckiaaDoorPFGAZ
import Derived.Test.YtbjjfpaiffckiaaDoorPFGAY
section
namespace Go.Proofs.YtbjjfpaiffckiaaDoor
open Go.Kw
set_option linter.unusedVariables false
set_option linter.unusedSimpArgs false
set_option maxRecDepth 100000
theorem backward_ok (a : Option Addr) (n c : Nat) (w : World) :
    Ret Tryd.prog 25 [.slice a n c] w (fun v w' => ∃ b, v = .func (.func 34) #[] #[pt b 0] ∧ St w [] w' [.blk b (cl [.slice a n c] 24)]) := by
  refine enter Tryd.func25 rfl Tryd.ntmps25 rfl ?_
  have hS := St.refl w []
  refine c_seq ?_; refine c_region ?_; refine wl_exv (x_box hS (v := .slice _ _ _) rfl rfl) rfl ?_; rintro _ w1 ⟨b1, rfl, hS2⟩; refine wl_val (r_assign (v := .nilFunc) rfl) rfl ?_; refine wl_nil ?_; refine c_then ?_; refine c_seq ?_; refine c_region ?_; refine wl_val (r_makeF (vs := [pt b1 0]) rfl) rfl ?_; refine wl_val (r_assign rfl) rfl ?_; refine wl_nil ?_; refine c_then ?_; refine wp_ret ?_; refine ret1 Tryd.results25 ?_
  exact ⟨_, rfl, hS2⟩

theorem backIt_ok (we w : World) (l n c bs : Nat) (a : Option Addr) (p : List (List UInt8)) (J : Nat → World → Prop) (hS0 : St we [] w []) (hb : Row we a (p.flatten.map b8)) (h32 : S32 p) (hl : p.length = n) (hn : n ≤ 4398046511104) (hJA : ∀ k W, J k W → At W bs 0 [.slice a n c]) (hJS : ∀ k W, J k W → St we [] W []) (hY : ∀ k W, k < n → J k W → YieldAt Fence.wide 0 Tryd.prog l (backE p n k) W fun en W' => en = .returned (.bool true) ∧ J (k + 1) W') (h0 : J 0 w) :
    Ret Tryd.prog 34 [.func (.yield l) #[] #[], pt bs 0] w (fun _ w' => J n w') := by
  refine enter Tryd.func34 rfl Tryd.ntmps34 rfl ?_
  have hS := hS0
  refine c_seq ?_; refine c_region ?_; refine wl_val (r_loadAt1 (j := 0) ti24.und rfl rfl (hJA _ _ h0) rfl rfl) rfl ?_; refine wl_val (r_len (T := 24) rfl ti24.und rfl _ rfl) rfl ?_; refine wl_val (r_subi rfl rfl (by omega) (by omega)) rfl ?_; refine wl_val (r_assign (v := .int .i64 _) rfl) rfl ?_; refine wl_nil ?_; refine c_then ?_; refine c_block ?_; refine c_loopE [0, 1] (fun d e w' => ∃ (k : Nat), Kw.look e 3 = .int .i64 ((n : Int) - 1 - k) ∧ d = n - k ∧ St we [] w' [] ∧ (J k w') ∧ (k ≤ n)) (n - 0) ?_ ?_
  · exact ⟨0, congrArg (Value.int .i64) (by omega), rfl, hS, h0, Nat.zero_le _⟩
  · rintro d4 e1 w2 ⟨k, hc0_3, rfl, hS3, hjk, hk⟩ -
    refine c_set (d := 3) hc0_3 ?_; refine c_seq ?_; refine c_seq ?_; refine c_region ?_; refine wl_val (r_move (v := .int .i64 _) rfl) rfl ?_
    refine wl_dec (r_geq rfl rfl) rfl (fun h1_1 => ?_) (fun h1_1 => ?_)
    · refine wl_nil ?_
      refine c_then ?_; refine c_true rfl ?_; refine wp_skip ?_; refine c_then ?_; refine c_seq ?_; refine c_block ?_; refine c_seq ?_; refine c_set (d := 3) (v := vi (n - 1 - k)) (congrArg (Value.int .i64) (by omega)) ?_
      refine c_wide (m := 1) (i_region (ds := []) ?_)
      refine wi_val lets_wide rfl (r_move rfl) rfl ?_; refine wi_val lets_wide rfl (r_move (v := .int .i64 _) rfl) rfl ?_; refine wi_val lets_wide rfl (r_loadAt1 (j := 0) ti24.und rfl rfl (hJA _ _ hjk) rfl rfl) rfl ?_; refine wi_val lets_wide rfl (r_move (v := .int .i64 _) rfl) rfl ?_; refine wi_val lets_wide rfl (r_ix32 ti24.und ti29 rfl rfl (hb.st hS3) h32 (by first | (simp [*]; done) | (simp [*] <;> omega) | omega) (by first | omega | (simp [*]; done) | (simp [*] <;> omega))) rfl ?_; refine wi_val lets_wide rfl (r_load32 ti29 rfl rfl (hb.st hS3) h32 (by first | omega | (simp [*]; done) | (simp [*] <;> omega))) rfl ?_
      obtain ⟨fnY, tmY, asY, boY, hyY, hRY⟩ := hY k _ (by omega) hjk
      refine wi_round lets_wide rfl (r_yield rfl rfl hyY) rfl hRY ?_; rintro _ w5 ⟨rfl, hj9⟩
      refine ⟨_, rfl, ?_⟩
      have hS6 := hJS _ _ hj9
      refine wi_val lets_wide rfl (r_not rfl) rfl ?_; refine wi_nil0 ?_; refine c_then ?_; refine c_false rfl ?_; refine wp_skip ?_; refine c_inN ?_; refine c_then ?_; refine c_region ?_; refine wl_val (r_move (v := .int .i64 _) rfl) rfl ?_; refine wl_val (r_subi rfl rfl (by omega) (by omega)) rfl ?_; refine wl_val (r_assign (v := .int .i64 _) rfl) rfl ?_; refine wl_nil ?_; refine c_then ?_
      exact ⟨n - (k + 1), _, by omega, rfl, ⟨k + 1, congrArg (Value.int .i64) (by omega), rfl, hS6, hj9, by omega⟩, ⟨rfl, rfl, trivial⟩⟩
    refine wl_nil ?_; refine c_then ?_; refine c_false rfl ?_; refine wp_exit ?_; refine c_thenE ?_; refine c_thenE ?_; refine c_inE ?_; refine ret0n Tryd.results34 ?_
    obtain rfl : k = n := by omega
    exact hjk

end Go.Proofs.YtbjjfpaiffckiaaDoor
end
section
namespace Go.Proofs.YtbjjfpaiffckiaaDoor
open Go.Kw
set_option linter.unusedVariables false
set_option linter.unusedSimpArgs false
set_option maxRecDepth 100000
set_option maxHeartbeats 4000000 in
theorem bag_ok (p : List (List UInt8)) (a : Option Addr) (n c : Nat) (w : World) (hb : Row w a (p.flatten.map b8)) (h32 : S32 p) (hl : p.length = n) (h0 : 0 < n) (hc : n ≤ c) (hn : n ≤ 4398046511104) :
    Ret Tryd.prog 15 [.slice a n c] w (fun v w' => v = .agg ((bagL p).map b8).toArray ∧ St w [] w' []) := by
  refine enterM 0 Tryd.func15 rfl Tryd.ntmps15 rfl ?_
  have hS := St.refl w []
  refine c_seq ?_; refine c_region ?_; refine wl_exv (x_alloc (C := ((List.replicate 32 (0 : UInt8)).map b8)) hS ti29 rfl) rfl ?_; rintro _ w1 ⟨b2, rfl, hS2⟩; refine wl_nil ?_; refine c_then ?_; refine c_seq ?_
  have hgl : (gt p (n - 1)).length = 32 := h32.gt (by omega)
  refine c_region ?_; refine wl_val (r_move (v := .slice _ _ _) rfl) rfl ?_; refine wl_val (r_move (v := .slice _ _ _) rfl) rfl ?_; refine wl_val (r_len (T := 24) rfl ti24.und rfl _ rfl) rfl ?_; refine wl_val (r_subn (b := 1) rfl rfl (by omega) (by omega)) rfl ?_; refine wl_val (r_ix32 ti24.und ti29 rfl rfl (hb.st hS2) h32 (by first | (simp [*]; done) | (simp [*] <;> omega) | omega) (by first | omega | (simp [*]; done) | (simp [*] <;> omega))) rfl ?_; refine wl_val (r_load32 ti29 rfl rfl (hb.st hS2) h32 (by first | omega | (simp [*]; done) | (simp [*] <;> omega))) rfl ?_; refine wl_exv (x_alloc (C := ((List.replicate 32 (0 : UInt8)).map b8)) hS2 ti29 rfl) rfl ?_; rintro _ w3 ⟨b3, rfl, hS4⟩; refine wl_exs (x_storeW [] hS4 ti29 rfl rfl (by first | (simp [*]; done) | (simp [*] <;> omega) | omega) (by first | (simp [*]; done) | (simp [*] <;> omega) | omega) (by repeat' first | exact one_nil | exact one_b8 _ | exact one_v32 _ | exact one_all rfl | refine one_cons rfl ?_ | refine one_app ?_ ?_)) rfl ?_; intro w5 hS6; simp only [List.cons_append, List.nil_append] at hS6; refine wl_nil ?_; refine c_then ?_; refine c_seq ?_; refine c_seq ?_
  have hq : Row w a ((p.take (n - 1)).flatten.map b8) := hb.take32 h32 _
  refine c_region ?_; refine wl_val (r_move (v := .slice _ _ _) rfl) rfl ?_; refine wl_val (r_move (v := .slice _ _ _) rfl) rfl ?_; refine wl_val (r_len (T := 24) rfl ti24.und rfl _ rfl) rfl ?_; refine wl_val (r_subn (b := 1) rfl rfl (by omega) (by omega)) rfl ?_; refine wl_val (r_sl_h ti24.und ti29 rfl rfl (by omega)) rfl ?_; refine wl_call (r_call fn25 rfl rfl) rfl (backward_ok a (n - 1) c _) ?_; rintro _ w7 ⟨b17, rfl, hx8⟩
  have hS9 := hS6.call hx8
  simp only [List.cons_append, List.nil_append] at hS9; refine wl_nil ?_; refine c_then ?_; refine c_block ?_
  have eb : bagL (p.drop (n - 1 - 0)) = gt p (n - 1) := by rw [Nat.sub_zero]; exact bag_last (by omega)
  rw [← eb] at hS9
  have h32q : S32 (p.take (n - 1)) := h32.take _
  have hlq : (p.take (n - 1)).length = n - 1 := by rw [List.length_take, hl]; omega
  refine c_range2 (lb := [pt b17 0]) rfl fn34 (fun k => [.blk b17 (cl [.slice a (n - 1) c] 24), .blk b3 (cl ((bagL (p.drop (n - 1 - k))).map b8) 29), .blk b2 (cl ((List.replicate 32 (0 : UInt8)).map b8) 29)]) hS9 (fun k => vi (n - 1 - 1 - k)) (fun k => .agg ((gt (p.take (n - 1)) (n - 1 - 1 - k)).map b8).toArray) (n - 1) ?_ ?_ ?_
  · intro l W J hJB hYY hJ0
    exact backIt_ok w W l (n - 1) c b17 a (p.take (n - 1)) J (by obtain ⟨B, h⟩ := hJB 0 W hJ0; exact h.fin) hq h32q hlq (by omega) (fun k W h => by obtain ⟨B, h⟩ := hJB k W h; exact at_all (h.heap (b := b17) (o := cl [.slice a (n - 1) c] 24) (by simp))) (fun k W h => by obtain ⟨B, h⟩ := hJB k W h; exact h.fin) hYY hJ0
  · intro l k w12 B hk hS10
    simp only [List.cons_append, List.nil_append] at hS10
    have hgq : (gt (p.take (n - 1)) (n - 1 - 1 - k)).length = 32 := h32q.gt (by omega)
    have hbl : (bagL (p.drop (n - 1 - k))).length = 32 := bagL_len (h32.drop _) (by rw [List.length_drop]; omega)
    have est : nodeL (gt (p.take (n - 1)) (n - 1 - 1 - k)) (bagL (p.drop (n - 1 - k))) = bagL (p.drop (n - 1 - (k + 1))) := by rw [gt_take _ _ _ (by omega)]; exact (bag_step hk (by omega)).symm
    have hbl2 : (bagL (p.drop (n - 1 - (k + 1)))).length = 32 := by rw [← est]; exact nodeL_len _ _
    refine i_region ?_; refine wi_exv (lets_round _) rfl (x_alloc (C := ((List.replicate 32 (0 : UInt8)).map b8)) hS10 ti29 rfl) rfl ?_; rintro _ w13 ⟨b5, rfl, hS14⟩; refine wi_exs (lets_round _) rfl (x_storeW [] hS14 ti29 rfl rfl (by first | (simp [*]; done) | (simp [*] <;> omega) | omega) (by first | (simp [*]; done) | (simp [*] <;> omega) | omega) (by repeat' first | exact one_nil | exact one_b8 _ | exact one_v32 _ | exact one_all rfl | refine one_cons rfl ?_ | refine one_app ?_ ?_)) rfl ?_; intro w15 hS16; simp only [List.cons_append, List.nil_append] at hS16; refine wi_nil0 ?_; refine c_then ?_
    refine ⟨_, [_, _, _, _], rfl, hS16, ?_⟩
    intro w17 B2 hS18; simp only [List.cons_append, List.nil_append] at hS18; refine wpIn_block ?_; refine i_region ?_; refine wi_val (lets_round _) rfl (r_loadB ti29 rfl rfl (hS18.heap (.head _)) (by first | (simp [*]; done) | (simp [*] <;> omega) | omega)) rfl ?_; refine wi_val (lets_round _) rfl (r_loadB ti29 rfl rfl (hS18.heap (.tail _ (.tail _ (.head _)))) (by first | (simp [*]; done) | (simp [*] <;> omega) | omega)) rfl ?_; refine wi_call (lets_round _) rfl (r_call fn24 rfl rfl) rfl (rnode_ok _ _ _ (by first | (simp [*]; done) | (simp [*] <;> omega) | omega) (by first | (simp [*]; done) | (simp [*] <;> omega) | omega)) ?_; rintro _ w19 ⟨rfl, hx20⟩
    have hS21 := hS18.ext hx20
    refine wi_exs (lets_round _) rfl (x_storeW [_, _] hS21 ti29 rfl rfl (by first | (simp [*]; done) | (simp [*] <;> omega) | omega) (by first | (simp [*]; done) | (simp [*] <;> omega) | omega) (by repeat' first | exact one_nil | exact one_b8 _ | exact one_v32 _ | exact one_all rfl | refine one_cons rfl ?_ | refine one_app ?_ ?_)) rfl ?_; intro w22 hS23; simp only [List.cons_append, List.nil_append] at hS23; refine wi_nil0 ?_; refine c_inN ?_
    refine ⟨rfl, ?_⟩
    rw [← est]
    exact hS23.drop1
  · intro D w24 hS25
    simp only [List.cons_append, List.nil_append] at hS25
    have e0 : bagL (p.drop (n - 1 - (n - 1))) = bagL p := by rw [Nat.sub_self, List.drop_zero]
    rw [e0] at hS25
    have hbl : (bagL p).length = 32 := bagL_len h32 (by omega)
    refine c_inN ?_; refine c_then ?_; refine c_seq ?_
    refine c_wideD (m := 0) (i_region ?_)
    refine wi_val lets_wide rfl (r_loadB ti29 rfl rfl (hS25.heap (.tail _ (.head _))) (by first | (simp [*]; done) | (simp [*] <;> omega) | omega)) rfl ?_; refine wi_exs lets_wide rfl (x_storeW [_, _] hS25 ti29 rfl rfl (by first | (simp [*]; done) | (simp [*] <;> omega) | omega) (by first | (simp [*]; done) | (simp [*] <;> omega) | omega) (by repeat' first | exact one_nil | exact one_b8 _ | exact one_v32 _ | exact one_all rfl | refine one_cons rfl ?_ | refine one_app ?_ ?_)) rfl ?_; intro w26 hS27; simp only [List.cons_append, List.nil_append] at hS27; refine wi_nil ?_; refine c_then ?_; refine wp_ret ?_
    have hSz := St.putObj (.deferred none) (l1 := [_, _, _]) hS27
    refine retM Tryd.results15 (hS27.heap (.tail _ (.tail _ (.tail _ (.head _))))) ⟨_, rfl, run_loadVar_blk ti29 rfl (hSz.heap (.tail _ (.tail _ (.head _)))) (by rw [List.length_map, hbl])⟩ ?_
    exact ⟨rfl, hSz.fin⟩

end Go.Proofs.YtbjjfpaiffckiaaDoor
end
