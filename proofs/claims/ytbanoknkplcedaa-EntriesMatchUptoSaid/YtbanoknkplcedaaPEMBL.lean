/- What the law's proof leans on. No condition. -/
import Derived.Test.YtbanoknkplcedaaPEMAH
import Derived.Test.YtbanoknkplcedaaPEMBH
import Derived.Test.YtbanoknkplcedaaPEMBJ
import Derived.Test.YtbanoknkplcedaaPEMBK
namespace Go.Proofs.Ytbanoknkplcedaa
open Go.Kw
set_option linter.unusedVariables false
set_option linter.unusedSimpArgs false
set_option maxRecDepth 100000
theorem rshort_ok (n : Nat) (w : World) (hn : n ≤ 9223372036854775807) :
    Ret Try.prog 31 [vi n] w (fun v w' => ∃ b, v = .slice (some ⟨b, 4, none⟩) 4 4 ∧ St w [] w' [.blk b (cl ((octs8 (UInt64.ofNat n)).map b8) 5)]) := by
  refine enter Try.func31 rfl Try.ntmps31 rfl ?_
  have hS := St.refl w []
  refine c_seq ?_; refine c_region ?_; refine wl_val (r_assign (v := .slice none 0 0) rfl) rfl ?_; refine wl_nil ?_; refine c_then ?_; refine c_seq ?_; refine c_region ?_; refine wl_val (r_move (v := .int .i64 _) rfl) rfl ?_; refine wl_call (r_call fn33 rfl rfl) rfl (rlong_ok _ _ (by omega)) ?_; rintro _ w1 ⟨b4, rfl, hx2⟩
  have hS3 := hS.call hx2
  simp only [List.cons_append, List.nil_append] at hS3; refine wl_val (r_sl_l (l := 4) ti30.und ti5 rfl rfl (by omega)) rfl ?_; refine wl_val (r_assign (v := .slice _ _ _) rfl) rfl ?_; refine wl_nil ?_; refine c_then ?_; refine wp_ret ?_; refine ret1 Try.results31 ?_
  exact ⟨_, rfl, hS3⟩

theorem rlong_z (z : Int) (w : World) (h0 : 0 ≤ z) (hn : z ≤ 9223372036854775807) : Ret Try.prog 33 [.int .i64 z] w (fun v w' => ∃ b, v = .slice (some ⟨b, 0, none⟩) 8 8 ∧ St w [] w' [.blk b (cl ((octs8 (UInt64.ofNat z.toNat)).map b8) 5)]) := by
  obtain ⟨n, rfl⟩ : ∃ n : Nat, z = n := ⟨z.toNat, by omega⟩
  exact rlong_ok n w (by omega)

end Go.Proofs.Ytbanoknkplcedaa
