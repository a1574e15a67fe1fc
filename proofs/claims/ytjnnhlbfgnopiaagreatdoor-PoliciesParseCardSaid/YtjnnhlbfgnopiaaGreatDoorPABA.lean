/- What the law's proof leans on. No condition. -/
import Derived.Test.YtjnnhlbfgnopiaaGreatDoorPAAJ
import Derived.Test.YtjnnhlbfgnopiaaGreatDoorPAAE
import Derived.Lib.AppendStr
import Derived.ChangeMaps5
import Derived.Laws.IdiomStrings
import Derived.ProofKit
import Derived.OpenShut
import Derived.SizedLaws
namespace Go.Kw
open Go.Lib
set_option linter.unusedVariables false
set_option linter.unusedSimpArgs false
theorem Row.of_frz {w : World} {b n : Nat} {E : TypeId} {C xs : List Value} {fr : Nat × Nat} (h : w.heap[b]? = some (.cells C.toArray E fr)) (hC : C.take n = xs) : Row w (some ⟨b, 0, none⟩) xs := by
  refine .inr ⟨b, 0, rfl, fun i v hv => ?_⟩
  have hi : C[i]? = some v := by
    rw [← hC] at hv
    by_cases hin : i < n
    · rwa [List.getElem?_take_of_lt hin] at hv
    · rw [List.getElem?_eq_none (by rw [List.length_take]; omega)] at hv; cases hv
  simp [World.cell?, h, hi]
section
variable {P : Program} {ρ : Operand → Value} {w w0 : World} {M : List Nat} {L l1 l2 : List Item} {dst : Option Tmp} {ty : TypeId} {pos : String} {aft : Array Edge} {g : Option (Nat × Bool)} {x y z : Operand} {T T2 E I : TypeId} {v : Value} {k : IntKind}
  {d dE : TypeDesc} {sz bts b o : Nat} {zv : Value} {a : Option Addr} {cs C : List Value}
end
section
variable {H : Type} {enc : TypeId × Value → H} {P : Program} {w : World} {r : Reach} {b0 base : Nat} {spare : Nat → Bool} {held : Bool} {t : TypeId} {v : Value} {d : DataW H} {p : List MemPlace}
end
end Go.Kw
