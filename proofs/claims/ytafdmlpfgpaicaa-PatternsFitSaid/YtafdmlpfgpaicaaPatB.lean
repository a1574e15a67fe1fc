/- Patterns, as the law says them. No condition. -/
import Derived.Test.YtafdmlpfgpaicaaFacts
import Derived.Test.YtafdmlpfgpaicaaPatA
namespace Go.Proofs.Ytafdmlpfgpaicaa
open Go.Kw
set_option linter.unusedVariables false
set_option linter.unusedSimpArgs false
set_option maxRecDepth 100000
theorem kisPattern_ok (l : List UInt8) (w : World) (hl : l.length ≤ 9223372036854775807) :
    Ret Try.prog 9 [.string ⟨(l).toArray⟩] w (fun v w' => (patE l = true ∧ v = .bool true ∧ St w [] w' []) ∨ (patE l = false ∧ v = .bool false ∧ St w [] w' [])) := by
  refine enter Try.func9 rfl Try.ntmps9 rfl ?_
  have hS := St.refl w []
  refine c_seq ?_
  refine c_region ?_
  refine wl_val (r_assign (v := .bool false) rfl) rfl ?_
  refine wl_nil ?_
  refine c_then ?_
  refine c_seq ?_
  refine c_region ?_
  refine wl_val (r_move (v := .string _) rfl) rfl ?_
  refine wl_dec (r_eqlStrL rfl rfl) rfl (fun h1_1 => ?_) (fun h1_1 => ?_)
  · refine wl_val (r_move (v := .bool _) rfl) rfl ?_
    refine wl_not rfl ?_
    refine wl_not rfl ?_
    refine wl_not rfl ?_
    refine wl_not rfl ?_
    refine wl_not rfl ?_
    refine wl_not rfl ?_
    refine wl_not rfl ?_
    refine wl_not rfl ?_
    refine wl_val (r_pick_t rfl (v := .bool true) rfl) rfl ?_
    refine wl_val (r_assign (v := .bool _) rfl) rfl ?_
    refine wl_nil ?_
    refine c_then ?_
    refine wp_ret ?_
    refine ret1 Try.results9 ?_
    first | (subst h1_1; exact .inl ⟨patE_star, rfl, hS.fin⟩) | exact .inl ⟨patE_name hnm, rfl, hS.fin⟩ | exact .inr ⟨patE_no hnm h1_1, rfl, hS.fin⟩
  · refine wl_val (r_move (v := .bool _) rfl) rfl ?_
    refine wl_val (r_move (v := .string _) rfl) rfl ?_
    refine wl_call (r_call fn30 rfl rfl) rfl (trimSuffix_ok l _ hl) ?_
    rintro _ w1 ⟨rfl, hx2⟩
    have hS3 := hS.ext hx2
    refine wl_call (r_call fn10 rfl rfl) rfl (risName_br _ _ (Nat.le_trans (headS_le l) hl)) ?_
    rintro _ w4 (⟨hnm, rfl, hx5⟩ | ⟨hnm, rfl, hx5⟩)
    · have hS6 := hS3.ext hx5
      refine wl_val (r_move (v := .bool _) rfl) rfl ?_
      refine wl_val (r_move (v := .string _) rfl) rfl ?_
      refine wl_call (r_call fn31 rfl rfl) rfl (count_ok l _ hl) ?_
      rintro _ w7 ⟨rfl, hx8⟩
      have hS9 := hS6.ext hx8
      refine wl_dec_t (r_leq rfl rfl) rfl (by have := count_head hnm; omega) ?_
      refine wl_val (r_pick_t rfl (v := .bool _) rfl) rfl ?_
      refine wl_val (r_pick_f rfl (v := .bool _) rfl) rfl ?_
      refine wl_val (r_assign (v := .bool _) rfl) rfl ?_
      refine wl_nil ?_
      refine c_then ?_
      refine wp_ret ?_
      refine ret1 Try.results9 ?_
      first | (subst h1_1; exact .inl ⟨patE_star, rfl, hS9.fin⟩) | exact .inl ⟨patE_name hnm, rfl, hS9.fin⟩ | exact .inr ⟨patE_no hnm h1_1, rfl, hS9.fin⟩
    · have hS6 := hS3.ext hx5
      refine wl_val (r_move (v := .bool _) rfl) rfl ?_
      refine wl_not rfl ?_
      refine wl_not rfl ?_
      refine wl_not rfl ?_
      refine wl_val (r_pick_f rfl (v := .bool false) rfl) rfl ?_
      refine wl_val (r_pick_f rfl (v := .bool _) rfl) rfl ?_
      refine wl_val (r_assign (v := .bool _) rfl) rfl ?_
      refine wl_nil ?_
      refine c_then ?_
      refine wp_ret ?_
      refine ret1 Try.results9 ?_
      first | (subst h1_1; exact .inl ⟨patE_star, rfl, hS6.fin⟩) | exact .inl ⟨patE_name hnm, rfl, hS6.fin⟩ | exact .inr ⟨patE_no hnm h1_1, rfl, hS6.fin⟩

end Go.Proofs.Ytafdmlpfgpaicaa
