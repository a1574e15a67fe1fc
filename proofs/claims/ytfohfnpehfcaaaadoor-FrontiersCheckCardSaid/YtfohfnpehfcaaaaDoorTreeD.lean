/- Proofs that are made. No condition. -/
import Derived.Test.YtfohfnpehfcaaaaDoorFacts
import Derived.Test.YtfohfnpehfcaaaaDoorTreeC
namespace Go.Proofs.YtfohfnpehfcaaaaDoor
open Go.Kw
set_option linter.unusedVariables false
set_option linter.unusedSimpArgs false
set_option maxRecDepth 100000
theorem equals_ok (xs ys : List (List UInt8)) (a1 a2 : Option Addr) (n1 n2 c1 c2 : Nat) (w : World) (h1 : Row w a1 (xs.flatten.map b8)) (h2 : Row w a2 (ys.flatten.map b8)) (s1 : S32 xs) (s2 : S32 ys) (l1 : xs.length = n1) (l2 : ys.length = n2) (hn : n1 ≤ 4398046511104) :
    Ret Tryd.prog 8 [.slice a1 n1 c1, .slice a2 n2 c2] w (fun v w' => v = .bool (decide (xs = ys)) ∧ St w [] w' []) := by
  refine enter Tryd.func8 rfl Tryd.ntmps8 rfl ?_
  have hS := St.refl w []
  refine c_seq ?_
  refine c_region ?_
  refine wl_val (r_assign (v := .bool false) rfl) rfl ?_
  refine wl_nil ?_
  refine c_then ?_
  refine c_seq ?_
  refine c_seq ?_
  refine c_region ?_
  refine wl_val (r_move (v := .slice _ _ _) rfl) rfl ?_
  refine wl_val (r_len (T := 22) rfl ti22.und rfl _ rfl) rfl ?_
  refine wl_val (r_move (v := .slice _ _ _) rfl) rfl ?_
  refine wl_val (r_len (T := 22) rfl ti22.und rfl _ rfl) rfl ?_
  refine wl_dec (r_neq rfl rfl) rfl (fun h1_4 => ?_) (fun h1_4 => ?_)
  · refine wl_nil ?_
    refine c_then ?_
    refine c_true rfl ?_
    refine c_seq ?_
    refine c_region ?_
    refine wl_val (r_assign (v := .bool false) rfl) rfl ?_
    refine wl_nil ?_
    refine c_then ?_
    refine wp_ret ?_
    refine c_thenR ?_
    refine ret1 Tryd.results8 ?_
    exact ⟨congrArg Value.bool (decide_eq_false (fun h => h1_4 (by rw [← l1, ← l2, h]))).symm, hS.fin⟩
  · refine wl_nil ?_
    refine c_then ?_
    refine c_false rfl ?_
    refine wp_skip ?_
    refine c_then ?_
    refine c_seq ?_
    refine c_seq ?_
    refine c_region ?_
    refine wl_val (r_move (v := .slice _ _ _) rfl) rfl ?_
    refine wl_val (r_len (T := 22) rfl ti22.und rfl _ rfl) rfl ?_
    refine wl_val (r_move (v := .int .i64 0) rfl) rfl ?_
    refine wl_nil ?_
    refine c_then ?_
    refine c_block ?_
    refine c_loopE [0, 1, 12] (fun d e w' => ∃ (k : Nat), Kw.look e 13 = vi k ∧ d = n1 - k ∧ St w [] w' [] ∧ (k ≤ n1) ∧ (xs.take k = ys.take k)) (n1 - 0) ?_ ?_
    · exact ⟨0, rfl, rfl, hS, Nat.zero_le _, rfl⟩
    · rintro d4 e1 w2 ⟨k, hc0_13, rfl, hS3, hk, he⟩ -
      refine c_set (d := 13) hc0_13 ?_
      refine c_seq ?_
      refine c_region ?_
      refine wl_dec (r_lss rfl rfl) rfl (fun h4_0 => ?_) (fun h4_0 => ?_)
      · refine wl_nil ?_
        refine c_then ?_
        refine c_seq ?_
        refine c_true rfl ?_
        refine wp_skip ?_
        refine c_then ?_
        refine c_seq ?_
        refine c_block ?_
        refine c_seq ?_
        refine c_region ?_
        refine wl_val (r_move (v := .int .i64 _) rfl) rfl ?_
        refine wl_val (r_assign (v := .int .i64 _) rfl) rfl ?_
        refine wl_nil ?_
        refine c_then ?_
        refine c_seq ?_
        refine c_drawS 8 hMixed hS3 ?_
        intro w5 hS6
        refine g_take 0 rfl (by decide +kernel) rfl (fun _ _ _ h => h) hS6 (fun wF hF => r_move (v := .slice _ _ _) rfl) ?_
        refine g_take 1 rfl (by decide +kernel) rfl (fun _ _ _ h => h) hS6 (fun wF hF => r_move (v := .int .i64 _) rfl) ?_
        refine g_take 2 rfl (by decide +kernel) rfl (fun _ _ _ h => h) hS6 (fun wF hF => r_ix32 ti22.und ti31 rfl rfl (h1.st hF) s1 l1 (by omega)) ?_
        refine g_take 3 rfl (by decide +kernel) rfl (fun _ _ _ h => h) hS6 (fun wF hF => r_load32 ti31 rfl rfl (h1.st hF) s1 (by omega)) ?_
        refine g_take 4 rfl (by decide +kernel) rfl (fun _ _ _ h => h) hS6 (fun wF hF => r_move (v := .slice _ _ _) rfl) ?_
        refine g_take 5 rfl (by decide +kernel) rfl (fun _ _ _ h => h) hS6 (fun wF hF => r_move (v := .int .i64 _) rfl) ?_
        refine g_take 6 rfl (by decide +kernel) rfl (fun _ _ _ h => h) hS6 (fun wF hF => r_ix32 ti22.und ti31 rfl rfl (h2.st hF) s2 l2 (by omega)) ?_
        refine g_take 7 rfl (by decide +kernel) rfl (fun _ _ _ h => h) hS6 (fun wF hF => r_load32 ti31 rfl rfl (h2.st hF) s2 (by omega)) ?_
        refine g_tail (by decide +kernel) rfl (by decide +kernel) ?_
        refine wl_dec (r_neqA (u := undef) eg31 rfl rfl (eqIs_b8 ti31.und ti5 _ _ (s1.gt (by omega)) (s2.gt (by omega)))) rfl (fun h6_8 => ?_) (fun h6_8 => ?_)
        · refine wl_nil ?_
          refine c_then ?_
          refine c_true rfl ?_
          refine c_seq ?_
          refine c_region ?_
          refine wl_val (r_assign (v := .bool false) rfl) rfl ?_
          refine wl_nil ?_
          refine c_then ?_
          refine wp_ret ?_
          refine c_inR ?_
          refine c_thenR ?_
          refine c_thenR ?_
          refine c_inR ?_
          refine c_thenR ?_
          refine ret1 Tryd.results8 ?_
          exact ⟨congrArg Value.bool (decide_eq_false (ne32 h6_8)).symm, hS6.fin⟩
        · refine wl_nil ?_
          refine c_then ?_
          refine c_false rfl ?_
          refine wp_skip ?_
          refine c_inN ?_
          refine c_then ?_
          refine c_region ?_
          refine wl_val (r_addn (b := 1) rfl rfl (by omega)) rfl ?_
          refine wl_val (r_move (v := .int .i64 _) rfl) rfl ?_
          refine wl_nil ?_
          refine c_then ?_
          exact ⟨n1 - (k + 1), _, by omega, rfl, ⟨k + 1, rfl, rfl, hS6, by omega, ext32 he (by omega) (by omega) (Classical.not_not.1 h6_8)⟩, ⟨rfl, rfl, rfl, trivial⟩⟩
      · refine wl_nil ?_
        refine c_then ?_
        refine c_seq ?_
        refine c_false rfl ?_
        refine wp_exit ?_
        refine c_thenE ?_
        refine c_thenE ?_
        refine c_inE ?_
        refine c_then ?_
        refine c_seq ?_
        refine c_region ?_
        refine wl_val (r_assign (v := .bool true) rfl) rfl ?_
        refine wl_nil ?_
        refine c_then ?_
        refine wp_ret ?_
        refine ret1 Tryd.results8 ?_
        obtain rfl : k = n1 := by omega
        exact ⟨congrArg Value.bool (decide_eq_true (by rw [List.take_of_length_le (by omega), List.take_of_length_le (by omega)] at he; exact he)).symm, hS3.fin⟩

theorem clones_ok (l : List (List UInt8)) (a : Option Addr) (n c : Nat) (w : World) (hb : Row w a (l.flatten.map b8)) (h32 : S32 l) (hl : l.length = n) (hn : n ≤ 4398046511104) :
    Ret Tryd.prog 19 [.slice a n c] w (fun v w' => ∃ a' c', v = .slice a' n c' ∧ n ≤ c' ∧ St w [] w' [.row (.slice a' n c') 31 32 n ((l).flatten.map b8)]) := by
  refine enter Tryd.func19 rfl Tryd.ntmps19 rfl ?_
  have hS := St.refl w []
  refine c_seq ?_
  refine c_region ?_
  refine wl_val (r_assign (v := .slice none 0 0) rfl) rfl ?_
  refine wl_nil ?_
  refine c_then ?_
  refine c_seq ?_
  refine c_seq ?_
  refine c_region ?_
  refine wl_val (r_move (v := .slice _ _ _) rfl) rfl ?_
  refine wl_dec (r_eqlSn ti22.und rfl rfl) rfl (fun h1_1 => ?_) (fun h1_1 => ?_)
  · refine wl_nil ?_
    refine c_then ?_
    refine c_true rfl ?_
    refine c_seq ?_
    refine c_region ?_
    refine wl_val (r_assign (v := .slice none 0 0) rfl) rfl ?_
    refine wl_nil ?_
    refine c_then ?_
    refine wp_ret ?_
    refine c_thenR ?_
    refine ret1 Tryd.results19 ?_
    have h0 : l = [] := by cases l with | nil => rfl | cons x l => exact absurd (by subst h1_1; exact row_none hb) (by simp [h32 x (by simp)]; intro h; have := h32 x (by simp); rw [h] at this; cases this)
    subst h0
    obtain rfl : n = 0 := hl.symm
    exact ⟨none, 0, rfl, Nat.le_refl _, hS.nilRow⟩
  · refine wl_nil ?_
    refine c_then ?_
    refine c_false rfl ?_
    refine wp_skip ?_
    refine c_then ?_
    refine c_seq ?_
    refine c_region ?_
    refine wl_exv (x_lit0 hS ti22.und ti31) rfl ?_
    rintro _ w1 ⟨b5, rfl, hS2⟩
    refine wl_val (r_move (v := .slice _ _ _) rfl) rfl ?_
    refine wl_exv (x_append [] hS2 ti22.und ti31 rfl (by decide) rfl rfl (hb.st hS2) (by rw [flat32_lenV h32, hl]) (by first | exact one_b8 _ | exact one_v32 _ | (intro c hc; simp only [List.mem_cons, List.not_mem_nil, or_false] at hc; (first | subst hc | rcases hc with rfl | rfl) <;> rfl)) (by first | omega | (simp [*]; done) | (simp [*] <;> omega)) (by first | omega | (simp [*]; done) | (simp [*] <;> omega)) _ rfl) rfl ?_
    rintro _ w3 ⟨aq5, cq5, rfl, hcq5, hS4⟩
    simp only [List.cons_append, List.nil_append] at hS4
    refine wl_val (r_assign (v := .slice _ _ _) rfl) rfl ?_
    refine wl_nil ?_
    refine c_then ?_
    refine wp_ret ?_
    refine ret1 Tryd.results19 ?_
    rw [Nat.zero_add] at *
    exact ⟨_, _, rfl, hcq5, hS4⟩

end Go.Proofs.YtfohfnpehfcaaaaDoor
