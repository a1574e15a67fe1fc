/- What the law's proof leans on. No condition. -/
import Derived.Test.YtfohfnpehfcaaaaPKpAH
import Derived.Test.YtfohfnpehfcaaaaPKpBD
section
namespace Go.Proofs.Ytfohfnpehfcaaaa
open Go.Kw
set_option linter.unusedVariables false
set_option linter.unusedSimpArgs false
set_option maxRecDepth 100000
theorem equals_ok (xs ys : List (List UInt8)) (a1 a2 : Option Addr) (n1 n2 c1 c2 : Nat) (w : World) (h1 : Row w a1 (xs.flatten.map b8)) (h2 : Row w a2 (ys.flatten.map b8)) (s1 : S32 xs) (s2 : S32 ys) (l1 : xs.length = n1) (l2 : ys.length = n2) (hn : n1 ≤ 4398046511104) :
    Ret Try.prog 76 [.slice a1 n1 c1, .slice a2 n2 c2] w (fun v w' => v = .bool (decide (xs = ys)) ∧ St w [] w' []) := by
  refine enter Try.func76 rfl Try.ntmps76 rfl ?_
  have hS := St.refl w []
  refine c_seq ?_; refine c_region ?_; refine wl_val (r_assign (v := .bool false) rfl) rfl ?_; refine wl_nil ?_; refine c_then ?_; refine c_seq ?_; refine c_seq ?_; refine c_region ?_; refine wl_val (r_move (v := .slice _ _ _) rfl) rfl ?_; refine wl_val (r_len (T := 53) rfl ti53.und rfl _ rfl) rfl ?_; refine wl_val (r_move (v := .slice _ _ _) rfl) rfl ?_; refine wl_val (r_len (T := 53) rfl ti53.und rfl _ rfl) rfl ?_
  refine wl_dec (r_neq rfl rfl) rfl (fun h1_4 => ?_) (fun h1_4 => ?_)
  · refine wl_nil ?_
    refine c_then ?_; refine c_true rfl ?_; refine c_seq ?_; refine c_region ?_; refine wl_val (r_assign (v := .bool false) rfl) rfl ?_; refine wl_nil ?_; refine c_then ?_; refine wp_ret ?_; refine c_thenR ?_; refine ret1 Try.results76 ?_
    exact ⟨congrArg Value.bool (decide_eq_false (fun h => h1_4 (by rw [← l1, ← l2, h]))).symm, hS.fin⟩
  refine wl_nil ?_; refine c_then ?_; refine c_false rfl ?_; refine wp_skip ?_; refine c_then ?_; refine c_seq ?_; refine c_seq ?_; refine c_region ?_; refine wl_val (r_move (v := .slice _ _ _) rfl) rfl ?_; refine wl_val (r_len (T := 53) rfl ti53.und rfl _ rfl) rfl ?_; refine wl_val (r_move (v := .int .i64 0) rfl) rfl ?_; refine wl_nil ?_; refine c_then ?_; refine c_block ?_; refine c_loopE [0, 1, 12] (fun d e w' => ∃ (k : Nat), Kw.look e 13 = vi k ∧ d = n1 - k ∧ St w [] w' [] ∧ (k ≤ n1) ∧ (xs.take k = ys.take k)) (n1 - 0) ?_ ?_
  · exact ⟨0, rfl, rfl, hS, Nat.zero_le _, rfl⟩
  · rintro d4 e1 w2 ⟨k, hc0_13, rfl, hS3, hk, he⟩ -
    refine c_set (d := 13) hc0_13 ?_; refine c_seq ?_; refine c_region ?_
    refine wl_dec (r_lss rfl rfl) rfl (fun h4_0 => ?_) (fun h4_0 => ?_)
    · refine wl_nil ?_
      refine c_then ?_; refine c_seq ?_; refine c_true rfl ?_; refine wp_skip ?_; refine c_then ?_; refine c_seq ?_; refine c_block ?_; refine c_seq ?_; refine c_region ?_; refine wl_val (r_move (v := .int .i64 _) rfl) rfl ?_; refine wl_val (r_assign (v := .int .i64 _) rfl) rfl ?_; refine wl_nil ?_; refine c_then ?_; refine c_seq ?_; refine c_drawS 8 hMixed hS3 ?_; intro w5 hS6; refine g_take 0 rfl (by decide +kernel) rfl (fun _ _ _ h => h) hS6 (fun wF hF => r_move (v := .slice _ _ _) rfl) ?_; refine g_take 1 rfl (by decide +kernel) rfl (fun _ _ _ h => h) hS6 (fun wF hF => r_move (v := .int .i64 _) rfl) ?_; refine g_take 2 rfl (by decide +kernel) rfl (fun _ _ _ h => h) hS6 (fun wF hF => r_ix32 ti53.und ti49 rfl rfl (h1.st hF) s1 l1 (by omega)) ?_; refine g_take 3 rfl (by decide +kernel) rfl (fun _ _ _ h => h) hS6 (fun wF hF => r_load32 ti49 rfl rfl (h1.st hF) s1 (by omega)) ?_; refine g_take 4 rfl (by decide +kernel) rfl (fun _ _ _ h => h) hS6 (fun wF hF => r_move (v := .slice _ _ _) rfl) ?_; refine g_take 5 rfl (by decide +kernel) rfl (fun _ _ _ h => h) hS6 (fun wF hF => r_move (v := .int .i64 _) rfl) ?_; refine g_take 6 rfl (by decide +kernel) rfl (fun _ _ _ h => h) hS6 (fun wF hF => r_ix32 ti53.und ti49 rfl rfl (h2.st hF) s2 l2 (by omega)) ?_; refine g_take 7 rfl (by decide +kernel) rfl (fun _ _ _ h => h) hS6 (fun wF hF => r_load32 ti49 rfl rfl (h2.st hF) s2 (by omega)) ?_; refine g_tail (by decide +kernel) rfl (by decide +kernel) ?_
      refine wl_dec (r_neqA (u := undef) eg49 rfl rfl (eqIs_b8 ti49.und ti5 _ _ (s1.gt (by omega)) (s2.gt (by omega)))) rfl (fun h6_8 => ?_) (fun h6_8 => ?_)
      · refine wl_nil ?_
        refine c_then ?_; refine c_true rfl ?_; refine c_seq ?_; refine c_region ?_; refine wl_val (r_assign (v := .bool false) rfl) rfl ?_; refine wl_nil ?_; refine c_then ?_; refine wp_ret ?_; refine c_inR ?_; refine c_thenR ?_; refine c_thenR ?_; refine c_inR ?_; refine c_thenR ?_; refine ret1 Try.results76 ?_
        exact ⟨congrArg Value.bool (decide_eq_false (ne32 h6_8)).symm, hS6.fin⟩
      refine wl_nil ?_; refine c_then ?_; refine c_false rfl ?_; refine wp_skip ?_; refine c_inN ?_; refine c_then ?_; refine c_region ?_; refine wl_val (r_addn (b := 1) rfl rfl (by omega)) rfl ?_; refine wl_val (r_move (v := .int .i64 _) rfl) rfl ?_; refine wl_nil ?_; refine c_then ?_
      exact ⟨n1 - (k + 1), _, by omega, rfl, ⟨k + 1, rfl, rfl, hS6, by omega, ext32 he (by omega) (by omega) (Classical.not_not.1 h6_8)⟩, ⟨rfl, rfl, rfl, trivial⟩⟩
    refine wl_nil ?_; refine c_then ?_; refine c_seq ?_; refine c_false rfl ?_; refine wp_exit ?_; refine c_thenE ?_; refine c_thenE ?_; refine c_inE ?_; refine c_then ?_; refine c_seq ?_; refine c_region ?_; refine wl_val (r_assign (v := .bool true) rfl) rfl ?_; refine wl_nil ?_; refine c_then ?_; refine wp_ret ?_; refine ret1 Try.results76 ?_
    obtain rfl : k = n1 := by omega
    exact ⟨congrArg Value.bool (decide_eq_true (by rw [List.take_of_length_le (by omega), List.take_of_length_le (by omega)] at he; exact he)).symm, hS3.fin⟩

end Go.Proofs.Ytfohfnpehfcaaaa
end
section
namespace Go.Proofs.Ytfohfnpehfcaaaa
open Go.Kw
set_option linter.unusedVariables false
set_option linter.unusedSimpArgs false
set_option maxRecDepth 100000
theorem equals_t (xs ys : List (List UInt8)) (a1 a2 : Option Addr) (n1 n2 c1 c2 : Nat) (w : World) (h1 : Row w a1 (xs.flatten.map b8)) (h2 : Row w a2 (ys.flatten.map b8)) (s1 : S32 xs) (s2 : S32 ys) (l1 : xs.length = n1) (l2 : ys.length = n2) (hn : n1 ≤ 4398046511104) (h : xs = ys) :
    Ret Try.prog 76 [.slice a1 n1 c1, .slice a2 n2 c2] w (fun v w' => v = .bool true ∧ St w [] w' []) :=
  (equals_ok xs ys a1 a2 n1 n2 c1 c2 w h1 h2 s1 s2 l1 l2 hn).mono fun v w' hv => by rw [decide_eq_true h] at hv; exact hv

end Go.Proofs.Ytfohfnpehfcaaaa
end
