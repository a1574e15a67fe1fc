/- A frontier that is full. No condition. -/
import Derived.Test.YtfohfnpehfcaaaaDoorFacts
import Derived.Test.YtfohfnpehfcaaaaDoorFrontA
namespace Go.Proofs.YtfohfnpehfcaaaaDoor
open Go.Kw
set_option linter.unusedVariables false
set_option linter.unusedSimpArgs false
set_option maxRecDepth 100000
theorem addLarge_ok (b n : Nat) (sl : Value) (leaf : List UInt8) (w : World) (hb : At w b 0 [vi n, sl]) (h : 65536 ≤ n) :
    Ret Tryd.prog 10 [pt b 0, .agg (leaf.map b8).toArray] w (fun v w' => v = vi 5 ∧ St w [] w' []) := by
  refine enter Tryd.func10 rfl Tryd.ntmps10 rfl ?_
  have hS := St.refl w []
  refine c_seq ?_
  refine c_region ?_
  refine wl_exv (x_box hS (v := .agg _) rfl rfl) rfl ?_
  rintro _ w1 ⟨b3, rfl, hS2⟩
  refine wl_val (r_assign (v := .int .i64 0) rfl) rfl ?_
  refine wl_nil ?_
  refine c_then ?_
  refine c_seq ?_
  refine c_seq ?_
  refine c_region ?_
  refine wl_val (r_move (v := .pointer _) rfl) rfl ?_
  refine wl_val (r_nilCheck rfl) rfl ?_
  refine wl_val (r_field fa48_0 rfl) rfl ?_
  refine wl_val (r_loadAt1 (j := 0) ti3.und rfl rfl (hb.st hS2) rfl rfl) rfl ?_
  refine wl_dec_t (r_geq rfl rfl) rfl (by omega) ?_
  refine wl_nil ?_
  refine c_then ?_
  refine c_true rfl ?_
  refine c_seq ?_
  refine c_region ?_
  refine wl_val (r_assign (v := .int .i64 5) rfl) rfl ?_
  refine wl_nil ?_
  refine c_then ?_
  refine wp_ret ?_
  refine c_thenR ?_
  refine ret1 Tryd.results10 ?_
  exact ⟨rfl, hS2.fin⟩

end Go.Proofs.YtfohfnpehfcaaaaDoor
