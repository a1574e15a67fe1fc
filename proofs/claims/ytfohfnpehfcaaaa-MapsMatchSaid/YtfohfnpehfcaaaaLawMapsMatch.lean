/- For every list of steps: Set, Get, Drop, Keys and Root of a map are as the law says; the law's function returns true and turns nothing. No condition. -/
import Derived.Test.YtfohfnpehfcaaaaRows
import Derived.Test.YtfohfnpehfcaaaaOpen
import Derived.Test.YtfohfnpehfcaaaaLawMapsMatchA
namespace Go.Proofs.Ytfohfnpehfcaaaa.lawMapsMatch
open Go.Kw Go.Proofs.Ytfohfnpehfcaaaa
open Go.ChangeShapes Go.WideShapes Go.ChangeAt Go.RowKit
set_option linter.unusedVariables false
set_option linter.unusedSimpArgs false
set_option maxRecDepth 100000
set_option maxHeartbeats 20000000
theorem and_t {a b : Bool} (h : a = true) (h' : b = true) : (a && b) = true := by rw [h, h']; rfl
theorem k3 : mapsRowed Try.pinned.checked.prog = true := by kernel_rfl
theorem k10 : (Rows.mapsMatchRow.inPlace == Try.pinned.checked.prog.inPlace 17) = true := by kernel_rfl
theorem k11 : (Rows.mapsMatchRow.unfollowed == Try.pinned.checked.prog.unfollowed 17) = true := by kernel_rfl
theorem k12 : (Rows.mapsMatchRow.recurses == Try.pinned.checked.prog.recurses 17) = true := by kernel_rfl
theorem k13 : (Rows.mapsMatchRow.named == Try.pinned.checked.prog.varsNamed 17) = true := by kernel_rfl
theorem k25 : Try.pinned.checked.prog.stopsHeard = true := by kernel_rfl
theorem k26 : Try.pinned.checked.prog.mayEnter = true := by kernel_rfl
theorem k27 : (Rows.mapsMatchRow.lifted == Try.pinned.checked.prog.liftsFinal) = true := by kernel_rfl
theorem closed : joinedFacts Try.pinned.checked.prog 17 Try.f17 Rows.mapsMatchSpec Rows.mapsMatchRow = true := by
  unfold joinedFacts
  exact (and_t (and_t (and_t (and_t (and_t (and_t (and_t (and_t (and_t (and_t (and_t (and_t (and_t (and_t (and_t (and_t (and_t (and_t (and_t (and_t (and_t (and_t (and_t (and_t (and_t (and_t (and_t (and_t (and_t (and_t (and_t (by kernel_rfl) (by kernel_rfl)) k3) (by kernel_rfl)) (by kernel_rfl)) (by kernel_rfl)) (by kernel_rfl)) (by kernel_rfl)) (by kernel_rfl)) k10) k11) k12) k13) (by kernel_rfl)) (by kernel_rfl)) (by kernel_rfl)) (by kernel_rfl)) (by kernel_rfl)) (by kernel_rfl)) (by kernel_rfl)) (by kernel_rfl)) (by kernel_rfl)) (by kernel_rfl)) (by kernel_rfl)) k25) k26) k27) (by kernel_rfl)) (by kernel_rfl)) (by kernel_rfl)) (by kernel_rfl)) (by kernel_rfl))
theorem over : Rows.mapsMatchRow.holds Try.pinned (OpenSpec.ofChange Rows.mapsMatchSpec) :=
  OpenClaim.holds_of_wide 17 Try.f17 rfl rfl rfl rfl rfl rfl rfl ⟨rfl, rfl, rfl, rfl, rfl⟩ rfl rfl rfl rfl rfl (by kernel_rfl) Try.func17 closed
    (of_decide_eq_true (by kernel_rfl)) (by unfold Func.isWrapper; rw [if_neg (of_decide_eq_false (by kernel_rfl))]; exact ⟨rfl, rfl⟩)
    (fun os started H enc _ => lifted os started H enc)
theorem proved : Rows.MapsMatchSaid := over
#print axioms proved
end Go.Proofs.Ytfohfnpehfcaaaa.lawMapsMatch
