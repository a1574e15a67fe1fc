/- For every entry, places, octet and flag: ParseEntry of the program, of an entry whose octets were changed or cut, is the reference's; the law's function returns true and turns nothing. No condition. -/
import Derived.Test.YtbanoknkplcedaaPEPAF
import Derived.Test.YtbanoknkplcedaaPEPBU
import Derived.Test.YtbanoknkplcedaaRows
namespace Go.Proofs.Ytbanoknkplcedaa.lawEntriesParse
open Go.Kw Go.Proofs.Ytbanoknkplcedaa
open Go.ChangeShapes Go.WideShapes Go.ChangeAt Go.RowKit
set_option linter.unusedVariables false
set_option linter.unusedSimpArgs false
set_option maxRecDepth 100000
set_option maxHeartbeats 20000000
theorem and_t {a b : Bool} (h : a = true) (h' : b = true) : (a && b) = true := by rw [h, h']; rfl
theorem k3 : mapsRowed Try.pinned.checked.prog = true := by kernel_rfl
theorem k10 : (Rows.entriesParseRow.inPlace == Try.pinned.checked.prog.inPlace 4) = true := by kernel_rfl
theorem k11 : (Rows.entriesParseRow.unfollowed == Try.pinned.checked.prog.unfollowed 4) = true := by kernel_rfl
theorem k12 : (Rows.entriesParseRow.recurses == Try.pinned.checked.prog.recurses 4) = true := by kernel_rfl
theorem k13 : (Rows.entriesParseRow.named == Try.pinned.checked.prog.varsNamed 4) = true := by kernel_rfl
theorem k25 : Try.pinned.checked.prog.stopsHeard = true := by kernel_rfl
theorem k26 : Try.pinned.checked.prog.mayEnter = true := by kernel_rfl
theorem k27 : (Rows.entriesParseRow.lifted == Try.pinned.checked.prog.liftsFinal) = true := by kernel_rfl
theorem closed : joinedFacts Try.pinned.checked.prog 4 Try.f4 Rows.entriesParseSpec Rows.entriesParseRow = true := by
  unfold joinedFacts
  exact (and_t (and_t (and_t (and_t (and_t (and_t (and_t (and_t (and_t (and_t (and_t (and_t (and_t (and_t (and_t (and_t (and_t (and_t (and_t (and_t (and_t (and_t (and_t (and_t (and_t (and_t (and_t (and_t (and_t (and_t (and_t (by kernel_rfl) (by kernel_rfl)) k3) (by kernel_rfl)) (by kernel_rfl)) (by kernel_rfl)) (by kernel_rfl)) (by kernel_rfl)) (by kernel_rfl)) k10) k11) k12) k13) (by kernel_rfl)) (by kernel_rfl)) (by kernel_rfl)) (by kernel_rfl)) (by kernel_rfl)) (by kernel_rfl)) (by kernel_rfl)) (by kernel_rfl)) (by kernel_rfl)) (by kernel_rfl)) (by kernel_rfl)) k25) k26) k27) (by kernel_rfl)) (by kernel_rfl)) (by kernel_rfl)) (by kernel_rfl)) (by kernel_rfl))
theorem over : Rows.entriesParseRow.holds Try.pinned (OpenSpec.ofChange Rows.entriesParseSpec) :=
  OpenClaim.holds_of_wide 4 Try.f4 rfl rfl rfl rfl rfl rfl rfl ⟨rfl, rfl, rfl, rfl, rfl⟩ rfl rfl rfl rfl rfl (by kernel_rfl) Try.func4 closed
    (of_decide_eq_true (by kernel_rfl)) (by unfold Func.isWrapper; rw [if_neg (of_decide_eq_false (by kernel_rfl))]; exact ⟨rfl, rfl⟩)
    (fun os started H enc _ => lifted os started H enc)
theorem proved : Rows.EntriesParseSaid := over
#print axioms proved
end Go.Proofs.Ytbanoknkplcedaa.lawEntriesParse
