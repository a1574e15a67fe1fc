/- A map's root. No condition. -/
import Derived.Test.YtfohfnpehfcaaaaFacts
import Derived.Test.YtfohfnpehfcaaaaMapvC
namespace Go.Proofs.Ytfohfnpehfcaaaa
open Go.Kw
set_option linter.unusedVariables false
set_option linter.unusedSimpArgs false
set_option maxRecDepth 100000
theorem mroot_ok (E : List MapE) (clock bm bv : Nat) (w : World) (hm : w.heap[bm]? = some (cl [.map (some bv)] 198)) (hb : w.heap[bv]? = some (mobj E clock)) (hwf : WfM E clock) (hne : bm ≠ bv) (hsz : E.length < 1000) :
    Ret Try.prog 91 [pt bm 0] w (fun x w' => x = .agg ((mapRootF 256 (entM E (keysD E)) 0).map b8).toArray ∧ St w [bm, bv] w' [.blk bm (cl [.map (some bv)] 198), .blk bv (mobj E clock)]) := by
  refine enter Try.func91 rfl Try.ntmps91 rfl ?_
  have hS : St w [bm, bv] w [.blk bm (cl [.map (some bv)] 198), .blk bv (mobj E clock)] := St.own2 hm hb hne
  refine c_seq ?_; refine c_region ?_; refine wl_exv (x_alloc (C := ((List.replicate 32 (0 : UInt8)).map b8)) hS ti49 rfl) rfl ?_; rintro _ w1 ⟨b2, rfl, hS2⟩; refine wl_nil ?_; refine c_then ?_; refine c_seq ?_; refine c_region ?_; refine wl_val (r_move (v := .pointer _) rfl) rfl ?_; refine wl_val (r_move (v := .pointer _) rfl) rfl ?_; refine wl_call (r_call fn99 rfl rfl) rfl (mkeys_ok E clock bm bv _ (hS2.heap (.tail _ (.head _))) (hS2.heap (.tail _ (.tail _ (.head _)))) hwf hne hsz) ?_; rintro _ w3 ⟨a5, c5, rfl, hc5, hx4⟩
  have hS5 := St.callM (X := [_, _]) (L := [_]) (hS2.perm ((List.Perm.cons _ ((List.Perm.cons _ (List.Perm.refl _)).trans (List.perm_middle (l₁ := [_])).symm)).trans (List.perm_middle (l₁ := [_])).symm)) hx4 (by simp [Item.id])
  simp only [List.cons_append, List.nil_append] at hS5; refine wl_call (r_call fn159 rfl rfl) rfl (part_ok E clock bm bv hwf 256 (keysD E) 0 _ E.length _ _ rfl (by rw [keysD_raw]; exact (St.rowAt hS5 (.head _))) (keysD_len E) hc5 (by omega) (keysD_lt hwf) (alike0 _) (keysD_get E) (hS5.heap (.tail _ (.head _))) (hS5.heap (.tail _ (.tail _ (.head _))))) ?_; rintro _ w6 ⟨rfl, hx7⟩
  have hS8 := hS5.ext hx7
  refine wl_exs (x_storeW [_, _, _] hS8 ti49 rfl rfl (by rw [List.length_map, mapRootF_len]) (by simp) (one_b8 _)) rfl ?_; intro w9 hS10; simp only [List.cons_append, List.nil_append] at hS10; refine wl_nil ?_; refine c_then ?_; refine wp_ret ?_; refine retc Try.results91 ⟨_, rfl, run_loadVar_blk ti49 rfl (hS10.heap (.tail _ (.tail _ (.tail _ (.head _))))) (by rw [List.length_map, mapRootF_len])⟩ ?_
  exact ⟨rfl, (hS10.perm (List.Perm.cons _ ((List.Perm.cons _ (List.Perm.refl _)).trans (List.perm_middle (l₁ := [_, _])).symm))).drop1.drop1⟩

end Go.Proofs.Ytfohfnpehfcaaaa
