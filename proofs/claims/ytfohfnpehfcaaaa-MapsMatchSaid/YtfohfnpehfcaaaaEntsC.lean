/- For the laws on maps. No condition. -/
import Derived.Test.YtfohfnpehfcaaaaFacts
import Derived.Test.YtfohfnpehfcaaaaEntsB
import Derived.Test.YtfohfnpehfcaaaaMapvD
namespace Go.Proofs.Ytfohfnpehfcaaaa
open Go.Kw
set_option linter.unusedVariables false
set_option linter.unusedSimpArgs false
set_option maxRecDepth 100000
theorem mset_in (E : List MapE) (clock bm bv : Nat) (q v : Sum32) (x y : List UInt8) (w : World) (hm : w.heap[bm]? = some (cl [.map (some bv)] 198)) (hb : w.heap[bv]? = some (mobj E clock)) (hwf : WfM E clock) (hne : bm ≠ bv) (hsz : E.length < 1000) (hx : x = q.1) (hy : y = v.1) :
    Ret Try.prog 95 [pt bm 0, .agg (x.map b8).toArray, .agg (y.map b8).toArray] w (fun x w' => (v.1 = List.replicate 32 0 ∧ x = vi 2 ∧ St w [bm, bv] w' [.blk bm (cl [.map (some bv)] 198), .blk bv (mobj E clock)]) ∨ (¬ v.1 = List.replicate 32 0 ∧ x = vi 0 ∧ St w [bm, bv] w' [.blk bm (cl [.map (some bv)] 198), .blk bv (mobj (putM E clock q v).1 (putM E clock q v).2)])) := by
  subst hx; subst hy
  exact mset_ok E clock bm bv q v w hm hb hwf hne hsz

theorem reverse0_ok (a : Option Addr) (c : Nat) (w : World) :
    Ret Try.prog 94 [.slice a 0 c] w (fun v w' => St w [] w' []) := by
  refine enter Try.func94 rfl Try.ntmps94 rfl ?_
  have hS := St.refl w []
  refine c_seq ?_; refine c_region ?_; refine wl_val (r_move (v := .slice _ _ _) rfl) rfl ?_; refine wl_val (r_len (T := 124) rfl ti124.und rfl _ rfl) rfl ?_; refine wl_val (r_subi rfl rfl (by omega) (by omega)) rfl ?_; refine wl_val (r_assign (v := .int .i64 0) rfl) rfl ?_; refine wl_val (r_assign (v := .int .i64 _) rfl) rfl ?_; refine wl_nil ?_; refine c_then ?_; refine c_block ?_; refine c_loopE [0] (fun d e w' => Kw.look e 2 = vi 0 ∧ Kw.look e 3 = .int .i64 (-1) ∧ d = 0 ∧ St w [] w' []) (0) ?_ ?_
  · exact ⟨rfl, rfl, rfl, hS⟩
  · rintro d4 e1 w2 ⟨hc0_2, hc0_3, rfl, hS3⟩ -
    refine c_set (d := 2) hc0_2 ?_; refine c_set (d := 3) hc0_3 ?_; refine c_seq ?_; refine c_seq ?_; refine c_region ?_; refine wl_val (r_move (v := .int .i64 _) rfl) rfl ?_; refine wl_val (r_move (v := .int .i64 _) rfl) rfl ?_; refine wl_dec_f (r_lss rfl rfl) rfl (by decide) ?_; refine wl_nil ?_; refine c_then ?_; refine c_false rfl ?_; refine wp_exit ?_; refine c_thenE ?_; refine c_thenE ?_; refine c_inE ?_; refine ret0n Try.results94 ?_
    exact hS3.fin

end Go.Proofs.Ytfohfnpehfcaaaa
