/- For every two sums, list of sums, text and number: Xor, Compare, Sorted, Hex and ParseHex are as the law says; the law's function returns true and turns nothing. No condition. -/
import Derived.Test.YtfohfnpehfcaaaaRows
import Derived.Test.YtfohfnpehfcaaaaOpen
import Derived.Test.YtfohfnpehfcaaaaLawSumsAreOrderedA
namespace Go.Proofs.Ytfohfnpehfcaaaa.lawSumsAreOrdered
open Go.Kw Go.Proofs.Ytfohfnpehfcaaaa
open Go.ChangeShapes Go.WideShapes Go.ChangeAt Go.RowKit
set_option linter.unusedVariables false
set_option linter.unusedSimpArgs false
set_option maxRecDepth 100000
set_option maxHeartbeats 20000000
theorem and_t {a b : Bool} (h : a = true) (h' : b = true) : (a && b) = true := by rw [h, h']; rfl
theorem k3 : mapsRowed Try.pinned.checked.prog = true := by kernel_rfl
theorem k10 : (Rows.sumsAreOrderedRow.inPlace == Try.pinned.checked.prog.inPlace 16) = true := by kernel_rfl
theorem k11 : (Rows.sumsAreOrderedRow.unfollowed == Try.pinned.checked.prog.unfollowed 16) = true := by kernel_rfl
theorem k12 : (Rows.sumsAreOrderedRow.recurses == Try.pinned.checked.prog.recurses 16) = true := by kernel_rfl
theorem k13 : (Rows.sumsAreOrderedRow.named == Try.pinned.checked.prog.varsNamed 16) = true := by kernel_rfl
theorem k25 : Try.pinned.checked.prog.stopsHeard = true := by kernel_rfl
theorem k26 : Try.pinned.checked.prog.mayEnter = true := by kernel_rfl
theorem k27 : (Rows.sumsAreOrderedRow.lifted == Try.pinned.checked.prog.liftsFinal) = true := by kernel_rfl
theorem closed : joinedFacts Try.pinned.checked.prog 16 Try.f16 Rows.sumsAreOrderedSpec Rows.sumsAreOrderedRow = true := by
  unfold joinedFacts
  exact (and_t (and_t (and_t (and_t (and_t (and_t (and_t (and_t (and_t (and_t (and_t (and_t (and_t (and_t (and_t (and_t (and_t (and_t (and_t (and_t (and_t (and_t (and_t (and_t (and_t (and_t (and_t (and_t (and_t (and_t (and_t (by kernel_rfl) (by kernel_rfl)) k3) (by kernel_rfl)) (by kernel_rfl)) (by kernel_rfl)) (by kernel_rfl)) (by kernel_rfl)) (by kernel_rfl)) k10) k11) k12) k13) (by kernel_rfl)) (by kernel_rfl)) (by kernel_rfl)) (by kernel_rfl)) (by kernel_rfl)) (by kernel_rfl)) (by kernel_rfl)) (by kernel_rfl)) (by kernel_rfl)) (by kernel_rfl)) (by kernel_rfl)) k25) k26) k27) (by kernel_rfl)) (by kernel_rfl)) (by kernel_rfl)) (by kernel_rfl)) (by kernel_rfl))
theorem over : Rows.sumsAreOrderedRow.holds Try.pinned (OpenSpec.ofChange Rows.sumsAreOrderedSpec) :=
  OpenClaim.holds_of_wide 16 Try.f16 rfl rfl rfl rfl rfl rfl rfl ⟨rfl, rfl, rfl, rfl, rfl⟩ rfl rfl rfl rfl rfl (by kernel_rfl) Try.func16 closed
    (of_decide_eq_true (by kernel_rfl)) (by unfold Func.isWrapper; rw [if_neg (of_decide_eq_false (by kernel_rfl))]; exact ⟨rfl, rfl⟩)
    (fun os started H enc _ => lifted os started H enc)
theorem proved : Rows.SumsAreOrderedSaid := over
#print axioms proved
end Go.Proofs.Ytfohfnpehfcaaaa.lawSumsAreOrdered
