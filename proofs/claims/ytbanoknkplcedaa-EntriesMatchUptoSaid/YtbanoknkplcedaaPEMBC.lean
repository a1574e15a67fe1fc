/- What the law's proof leans on. No condition. -/
import Derived.Test.YtbanoknkplcedaaPEMAP
import Derived.Test.YtbanoknkplcedaaPEMAH
import Derived.Shelf.SlSortCmp.QuietGrown
import Derived.Shelf.Lay
import Derived.KernelRfl
namespace Go.Proofs.Ytbanoknkplcedaa
open Go Go.Proofs Go.Shelf Go.RowKit Go.Lib Go.Kw
set_option maxRecDepth 100000
set_option linter.unusedVariables false
set_option maxHeartbeats 2000000 in
theorem bcmp84 {b1 b2 o1 o2 c1 c2 : Nat} {x y : List UInt8} (w : World) (h1 : At w b1 o1 (x.map b8)) (h2 : At w b2 o2 (y.map b8)) :
    Calls Try.prog 77 #[.slice (some ⟨b1, o1, none⟩) x.length c1, .slice (some ⟨b2, o2, none⟩) y.length c2] w fun e w' => e = .returned (.int .i64 (compareBytes x y)) ∧ w' = w := by
  have hcmp := run_cmpBytes (P := Try.prog) (c1 := c1) (c2 := c2) h1 h2
  clear h1 h2
  go_enter Try.func77, Try.ntmps77
  go_wp2
  rw [run_callFunc_extern Try.func88 (by kernel_rfl) (by kernel_rfl) (by kernel_rfl) (e := Extern.BytealgCompare.compare) (by kernel_rfl), hcmp]
  simp only [Result.andThen]
  rw [Oper.upon_value]
  go_wp2
  go_ret
  exact ⟨rfl, rfl⟩
theorem bcmp_ok (x y : List UInt8) (a1 a2 : Option Addr) (n1 n2 c1 c2 : Nat) (w : World) (h1 : Row w a1 (x.map b8)) (h2 : Row w a2 (y.map b8)) (l1 : x.length = n1) (l2 : y.length = n2) (p1 : 0 < n1) (p2 : 0 < n2) :
    Ret Try.prog 77 [.slice a1 n1 c1, .slice a2 n2 c2] w (fun v w' => v = .int .i64 (compareBytes x y) ∧ St w [] w' []) := by
  subst l1; subst l2
  obtain ⟨b1, o1, rfl, g1⟩ := h1.some_of (by rw [List.length_map]; exact p1)
  obtain ⟨b2, o2, rfl, g2⟩ := h2.some_of (by rw [List.length_map]; exact p2)
  refine Calls.mono (bcmp84 w g1 g2) ?_
  rintro e w' ⟨rfl, rfl⟩
  exact ⟨_, rfl, rfl, St.refl _ _⟩
end Go.Proofs.Ytbanoknkplcedaa
