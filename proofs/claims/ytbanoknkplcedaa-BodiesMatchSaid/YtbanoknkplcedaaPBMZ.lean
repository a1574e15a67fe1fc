/- For every act, body and text: PrintBody and ParseBody of the program are the reference's, and what is written is read; the law's function returns true and turns nothing. No condition. -/
import Derived.Test.YtbanoknkplcedaaPBMAF
import Derived.Test.YtbanoknkplcedaaPBMBY
import Derived.Test.YtbanoknkplcedaaRows
namespace Go.Proofs.Ytbanoknkplcedaa.lawBodiesMatch
open Go.Kw Go.Proofs.Ytbanoknkplcedaa
open Go.ChangeShapes Go.WideShapes Go.ChangeAt Go.RowKit
set_option linter.unusedVariables false
set_option linter.unusedSimpArgs false
set_option maxRecDepth 100000
set_option maxHeartbeats 20000000
theorem and_t {a b : Bool} (h : a = true) (h' : b = true) : (a && b) = true := by rw [h, h']; rfl
theorem k3 : mapsRowed Try.pinned.checked.prog = true := by kernel_rfl
theorem k10 : (Rows.bodiesMatchRow.inPlace == Try.pinned.checked.prog.inPlace 3) = true := by kernel_rfl
theorem k11 : (Rows.bodiesMatchRow.unfollowed == Try.pinned.checked.prog.unfollowed 3) = true := by kernel_rfl
theorem k12 : (Rows.bodiesMatchRow.recurses == Try.pinned.checked.prog.recurses 3) = true := by kernel_rfl
theorem k13 : (Rows.bodiesMatchRow.named == Try.pinned.checked.prog.varsNamed 3) = true := by kernel_rfl
theorem k25 : Try.pinned.checked.prog.stopsHeard = true := by kernel_rfl
theorem k26 : Try.pinned.checked.prog.mayEnter = true := by kernel_rfl
theorem k27 : (Rows.bodiesMatchRow.lifted == Try.pinned.checked.prog.liftsFinal) = true := by kernel_rfl
theorem closed : joinedFacts Try.pinned.checked.prog 3 Try.f3 Rows.bodiesMatchSpec Rows.bodiesMatchRow = true := by
  unfold joinedFacts
  exact (and_t (and_t (and_t (and_t (and_t (and_t (and_t (and_t (and_t (and_t (and_t (and_t (and_t (and_t (and_t (and_t (and_t (and_t (and_t (and_t (and_t (and_t (and_t (and_t (and_t (and_t (and_t (and_t (and_t (and_t (and_t (by kernel_rfl) (by kernel_rfl)) k3) (by kernel_rfl)) (by kernel_rfl)) (by kernel_rfl)) (by kernel_rfl)) (by kernel_rfl)) (by kernel_rfl)) k10) k11) k12) k13) (by kernel_rfl)) (by kernel_rfl)) (by kernel_rfl)) (by kernel_rfl)) (by kernel_rfl)) (by kernel_rfl)) (by kernel_rfl)) (by kernel_rfl)) (by kernel_rfl)) (by kernel_rfl)) (by kernel_rfl)) k25) k26) k27) (by kernel_rfl)) (by kernel_rfl)) (by kernel_rfl)) (by kernel_rfl)) (by kernel_rfl))
theorem over : Rows.bodiesMatchRow.holds Try.pinned (OpenSpec.ofChange Rows.bodiesMatchSpec) :=
  OpenClaim.holds_of_wide 3 Try.f3 rfl rfl rfl rfl rfl rfl rfl ⟨rfl, rfl, rfl, rfl, rfl⟩ rfl rfl rfl rfl rfl (by kernel_rfl) Try.func3 closed
    (of_decide_eq_true (by kernel_rfl)) (by unfold Func.isWrapper; rw [if_neg (of_decide_eq_false (by kernel_rfl))]; exact ⟨rfl, rfl⟩)
    (fun os started H enc _ => lifted os started H enc)
theorem proved : Rows.BodiesMatchSaid := over
#print axioms proved
end Go.Proofs.Ytbanoknkplcedaa.lawBodiesMatch
