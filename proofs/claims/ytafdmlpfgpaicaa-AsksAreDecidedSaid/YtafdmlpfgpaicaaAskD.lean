/- Meets. No condition. -/
import Derived.Test.YtafdmlpfgpaicaaFacts
import Derived.Test.YtafdmlpfgpaicaaAskC
namespace Go.Proofs.Ytafdmlpfgpaicaa
open Go.Kw
set_option linter.unusedVariables false
set_option linter.unusedSimpArgs false
set_option maxRecDepth 100000
set_option maxHeartbeats 4000000 in
theorem pmeets_ok (r : RuleD) (q : AskD) (w : World) (hk : RuleOk r) (h1 : Row w r.ra (r.ro.map sv)) (h2 : Row w r.aa (r.acs.map iv)) (h3 : Row w r.la (r.las.map sv)) (hq : AskOk q) (hr : Row w q.ra (q.ro.map sv)) :
    Ret Try.prog 16 [.agg r.v.toArray, .agg q.v.toArray] w (fun v w' => (¬ ruleE r = 0 ∧ v = .tuple #[.bool false, .int .i64 (ruleE r)] ∧ St w [] w' []) ∨ ((ruleE r = 0 ∧ ¬ askE q = 0) ∧ v = .tuple #[.bool false, .int .i64 (askE q)] ∧ St w [] w' []) ∨ ((ruleE r = 0 ∧ askE q = 0) ∧ v = .tuple #[.bool (meetE r q), vi 0] ∧ St w [] w' [])) := by
  have hac := hq.ac
  have hkey := hq.key
  have hdet := hq.det
  refine enter Try.func16 rfl Try.ntmps16 rfl ?_
  have hS := St.refl w []
  refine c_seq ?_; refine c_region ?_; refine wl_exv (x_box hS (v := .agg _) rfl rfl) rfl ?_; rintro _ w1 ⟨b2, rfl, hS2⟩; refine wl_exv (x_box hS2 (v := .agg _) rfl rfl) rfl ?_; rintro _ w3 ⟨b3, rfl, hS4⟩; refine wl_val (r_assign (v := .bool false) rfl) rfl ?_; refine wl_val (r_assign (v := .int .i64 0) rfl) rfl ?_; refine wl_nil ?_; refine c_then ?_; refine c_seq ?_; refine c_seq ?_; refine c_region ?_; refine wl_val (r_loadB ti37 ag37 rfl (hS4.heap (.tail _ (.head _))) (by first | (simp [*]; done) | (simp [*] <;> omega) | omega)) rfl ?_; refine wl_call (r_call fn46 rfl rfl) rfl (ruleFault_ok r _ hk (h1.st hS4) (h2.st hS4) (h3.st hS4)) ?_; rintro _ w5 ⟨rfl, hx6⟩
  have hS7 := hS4.ext hx6
  refine wl_val (r_assign (v := .int .i64 _) rfl) rfl ?_; refine wl_nil ?_; refine c_then ?_; refine c_seq ?_; refine c_region ?_; refine wl_val (r_move (v := .int .i64 _) rfl) rfl ?_
  refine wl_dec (r_neq rfl rfl) rfl (fun h2_1 => ?_) (fun h2_1 => ?_)
  · refine wl_nil ?_
    refine c_then ?_; refine c_true rfl ?_; refine c_seq ?_; refine c_region ?_; refine wl_val (r_move (v := .int .i64 _) rfl) rfl ?_; refine wl_val (r_assign (v := .bool false) rfl) rfl ?_; refine wl_val (r_assign (v := .int .i64 _) rfl) rfl ?_; refine wl_nil ?_; refine c_then ?_; refine wp_ret ?_; refine c_thenR ?_; refine ret2 Try.results16 rfl rfl ?_
    first | exact .inl ⟨h2_1, rfl, hS7.fin⟩ | exact .inr (.inl ⟨⟨Decidable.of_not_not h2_1, h5_1⟩, rfl, hS7.fin⟩) | exact .inr (.inr ⟨⟨Decidable.of_not_not h2_1, Decidable.of_not_not h5_1⟩, rfl, hS7.fin⟩)
  refine wl_nil ?_; refine c_then ?_; refine c_false rfl ?_; refine wp_skip ?_; refine c_then ?_; refine c_seq ?_; refine c_seq ?_; refine c_region ?_; refine wl_val (r_loadB ti34 ag34 rfl (hS7.heap (.head _)) (by first | (simp [*]; done) | (simp [*] <;> omega) | omega)) rfl ?_; refine wl_call (r_call fn14 rfl rfl) rfl (checkAsk_ok q _ hq (hr.st hS7)) ?_; rintro _ w8 ⟨rfl, hx9⟩
  have hS10 := hS7.ext hx9
  refine wl_val (r_assign (v := .int .i64 _) rfl) rfl ?_; refine wl_nil ?_; refine c_then ?_; refine c_seq ?_; refine c_region ?_; refine wl_val (r_move (v := .int .i64 _) rfl) rfl ?_
  refine wl_dec (r_neq rfl rfl) rfl (fun h5_1 => ?_) (fun h5_1 => ?_)
  · refine wl_nil ?_
    refine c_then ?_; refine c_true rfl ?_; refine c_seq ?_; refine c_region ?_; refine wl_val (r_move (v := .int .i64 _) rfl) rfl ?_; refine wl_val (r_assign (v := .bool false) rfl) rfl ?_; refine wl_val (r_assign (v := .int .i64 _) rfl) rfl ?_; refine wl_nil ?_; refine c_then ?_; refine wp_ret ?_; refine c_thenR ?_; refine ret2 Try.results16 rfl rfl ?_
    first | exact .inl ⟨h2_1, rfl, hS10.fin⟩ | exact .inr (.inl ⟨⟨Decidable.of_not_not h2_1, h5_1⟩, rfl, hS10.fin⟩) | exact .inr (.inr ⟨⟨Decidable.of_not_not h2_1, Decidable.of_not_not h5_1⟩, rfl, hS10.fin⟩)
  refine wl_nil ?_; refine c_then ?_; refine c_false rfl ?_; refine wp_skip ?_; refine c_then ?_; refine c_seq ?_; refine c_region ?_; refine wl_val (r_loadB ti37 ag37 rfl (hS10.heap (.tail _ (.head _))) (by first | (simp [*]; done) | (simp [*] <;> omega) | omega)) rfl ?_; refine wl_val (r_loadB ti34 ag34 rfl (hS10.heap (.head _)) (by first | (simp [*]; done) | (simp [*] <;> omega) | omega)) rfl ?_; refine wl_call (r_call fn47 rfl rfl) rfl (meets_ok r q _ hk (h1.st hS10) (h2.st hS10) (h3.st hS10) hq (hr.st hS10) (askE_ok (Decidable.of_not_not h5_1)).2.2.1 (askE_ok (Decidable.of_not_not h5_1)).2.2.2) ?_; rintro _ w11 ⟨rfl, hx12⟩
  have hS13 := hS10.ext hx12
  refine wl_val (r_assign (v := .bool _) rfl) rfl ?_; refine wl_val (r_assign (v := .int .i64 0) rfl) rfl ?_; refine wl_nil ?_; refine c_then ?_; refine wp_ret ?_; refine ret2 Try.results16 rfl rfl ?_
  first | exact .inl ⟨h2_1, rfl, hS13.fin⟩ | exact .inr (.inl ⟨⟨Decidable.of_not_not h2_1, h5_1⟩, rfl, hS13.fin⟩) | exact .inr (.inr ⟨⟨Decidable.of_not_not h2_1, Decidable.of_not_not h5_1⟩, rfl, hS13.fin⟩)

end Go.Proofs.Ytafdmlpfgpaicaa
