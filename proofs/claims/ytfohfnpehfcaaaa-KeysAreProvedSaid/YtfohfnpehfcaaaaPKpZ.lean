/- For every list of steps, numbers and octet: Prove, There and Absent are as the law says; the law's function returns true and turns nothing. No condition. -/
import Derived.Test.YtfohfnpehfcaaaaPKpAF
import Derived.Test.YtfohfnpehfcaaaaPKpBL
import Derived.Test.YtfohfnpehfcaaaaRows
namespace Go.Proofs.Ytfohfnpehfcaaaa.lawKeysAreProved
open Go.Kw Go.Proofs.Ytfohfnpehfcaaaa
open Go.ChangeShapes Go.WideShapes Go.ChangeAt Go.RowKit
set_option linter.unusedVariables false
set_option linter.unusedSimpArgs false
set_option maxRecDepth 100000
set_option maxHeartbeats 20000000
theorem and_t {a b : Bool} (h : a = true) (h' : b = true) : (a && b) = true := by rw [h, h']; rfl
theorem k3 : mapsRowed Try.pinned.checked.prog = true := by kernel_rfl
theorem k10 : (Rows.keysAreProvedRow.inPlace == Try.pinned.checked.prog.inPlace 18) = true := by kernel_rfl
theorem k11 : (Rows.keysAreProvedRow.unfollowed == Try.pinned.checked.prog.unfollowed 18) = true := by kernel_rfl
theorem k12 : (Rows.keysAreProvedRow.recurses == Try.pinned.checked.prog.recurses 18) = true := by kernel_rfl
theorem k13 : (Rows.keysAreProvedRow.named == Try.pinned.checked.prog.varsNamed 18) = true := by kernel_rfl
theorem k25 : Try.pinned.checked.prog.stopsHeard = true := by kernel_rfl
theorem k26 : Try.pinned.checked.prog.mayEnter = true := by kernel_rfl
theorem k27 : (Rows.keysAreProvedRow.lifted == Try.pinned.checked.prog.liftsFinal) = true := by kernel_rfl
theorem closed : joinedFacts Try.pinned.checked.prog 18 Try.f18 Rows.keysAreProvedSpec Rows.keysAreProvedRow = true := by
  unfold joinedFacts
  exact (and_t (and_t (and_t (and_t (and_t (and_t (and_t (and_t (and_t (and_t (and_t (and_t (and_t (and_t (and_t (and_t (and_t (and_t (and_t (and_t (and_t (and_t (and_t (and_t (and_t (and_t (and_t (and_t (and_t (and_t (and_t (by kernel_rfl) (by kernel_rfl)) k3) (by kernel_rfl)) (by kernel_rfl)) (by kernel_rfl)) (by kernel_rfl)) (by kernel_rfl)) (by kernel_rfl)) k10) k11) k12) k13) (by kernel_rfl)) (by kernel_rfl)) (by kernel_rfl)) (by kernel_rfl)) (by kernel_rfl)) (by kernel_rfl)) (by kernel_rfl)) (by kernel_rfl)) (by kernel_rfl)) (by kernel_rfl)) (by kernel_rfl)) k25) k26) k27) (by kernel_rfl)) (by kernel_rfl)) (by kernel_rfl)) (by kernel_rfl)) (by kernel_rfl))
theorem over : Rows.keysAreProvedRow.holds Try.pinned (OpenSpec.ofChange Rows.keysAreProvedSpec) :=
  OpenClaim.holds_of_wide 18 Try.f18 rfl rfl rfl rfl rfl rfl rfl ⟨rfl, rfl, rfl, rfl, rfl⟩ rfl rfl rfl rfl rfl (by kernel_rfl) Try.func18 closed
    (of_decide_eq_true (by kernel_rfl)) (by unfold Func.isWrapper; rw [if_neg (of_decide_eq_false (by kernel_rfl))]; exact ⟨rfl, rfl⟩)
    (fun os started H enc _ => lifted os started H enc)
theorem proved : Rows.KeysAreProvedSaid := over
#print axioms proved
end Go.Proofs.Ytfohfnpehfcaaaa.lawKeysAreProved
