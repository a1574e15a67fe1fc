/- Keys that are derived, names of keys. No condition. -/
import Derived.Test.YtafdmlpfgpaicaaFacts
import Derived.Test.YtafdmlpfgpaicaaStr
import Derived.Test.YtafdmlpfgpaicaaNameA
import Derived.Test.YtafdmlpfgpaicaaMixF
namespace Go.Proofs.Ytafdmlpfgpaicaa
open Go.Kw
set_option linter.unusedVariables false
set_option linter.unusedSimpArgs false
set_option maxRecDepth 100000
/-- What Derive answers. -/
def deriveL (k l : List UInt8) (n : Nat) : List UInt8 := sumL 7 (k ++ (l ++ ([0] ++ octs8 (UInt64.ofNat n))))
noncomputable def deriveE (k l : List UInt8) (e : Int) : Value :=
  if nameE l = true then if e < 0 ∨ 4294967295 < e then .tuple #[.agg ((List.replicate 32 (0 : UInt8)).map b8).toArray, vi 4] else .tuple #[.agg ((deriveL k l e.toNat).map b8).toArray, vi 0]
  else .tuple #[.agg ((List.replicate 32 (0 : UInt8)).map b8).toArray, vi 6]
theorem deriveE_name {k l : List UInt8} {e : Int} (h : nameE l = false) : deriveE k l e = .tuple #[.agg ((List.replicate 32 (0 : UInt8)).map b8).toArray, vi 6] := by rw [deriveE, if_neg (by rw [h]; decide)]
theorem deriveE_bad {k l : List UInt8} {e : Int} (h : nameE l = true) (he : e < 0 ∨ 4294967295 < e) : deriveE k l e = .tuple #[.agg ((List.replicate 32 (0 : UInt8)).map b8).toArray, vi 4] := by rw [deriveE, if_pos h, if_pos he]
theorem deriveE_in {k l : List UInt8} {n : Nat} (h : nameE l = true) (he : n ≤ 4294967295) : deriveE k l n = .tuple #[.agg ((deriveL k l n).map b8).toArray, vi 0] := by rw [deriveE, if_pos h, if_neg (by omega), Int.toNat_natCast]
theorem joined_four (x y z u : List UInt8) (a b a3 a4 : Option Addr) (c d c3 c4 : Nat) : joined [⟨a, c, x⟩, ⟨b, d, y⟩, ⟨a3, c3, z⟩, ⟨a4, c4, u⟩] = x ++ (y ++ (z ++ u)) := by simp [joined]
theorem isName_br (l : List UInt8) (w : World) (hl : l.length ≤ 9223372036854775807) : Ret Try.prog 63 [.string ⟨l.toArray⟩] w (fun v w' => (nameE l = true ∧ v = .bool true ∧ St w [] w' []) ∨ (nameE l = false ∧ v = .bool false ∧ St w [] w' [])) :=
  (isName_ok l w hl).mono fun v w' h => by
    cases hn : nameE l <;> rw [hn] at h
    · exact .inr ⟨rfl, h⟩
    · exact .inl ⟨rfl, h⟩
theorem risName_br (l : List UInt8) (w : World) (hl : l.length ≤ 9223372036854775807) : Ret Try.prog 10 [.string ⟨l.toArray⟩] w (fun v w' => (nameE l = true ∧ v = .bool true ∧ St w [] w' []) ∨ (nameE l = false ∧ v = .bool false ∧ St w [] w' [])) :=
  (risName_ok l w hl).mono fun v w' h => by
    cases hn : nameE l <;> rw [hn] at h
    · exact .inr ⟨rfl, h⟩
    · exact .inl ⟨rfl, h⟩

def nameOfL (k : List UInt8) : List UInt8 := (sumL 10 k).take 16

end Go.Proofs.Ytafdmlpfgpaicaa
