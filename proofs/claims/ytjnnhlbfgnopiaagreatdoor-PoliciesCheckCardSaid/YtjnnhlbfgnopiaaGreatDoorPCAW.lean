/- What the law's proof leans on. No condition. -/
import Derived.Test.YtjnnhlbfgnopiaaGreatDoorPCAV
import Derived.Lib.FrozenHead
namespace Go.Kw
open Go.Lib
set_option linter.unusedVariables false
set_option linter.unusedSimpArgs false
/-- The item holds octets: a row, or the block of a conversion. -/
def RowZ (it : Item) (v : Value) (E : TypeId) (n : Nat) (xs : List Value) : Prop :=
  it = .row v E 1 n xs ∨ ∃ (b : Nat) (C : List Value) (fz : Nat × Nat), it = .blk b (.cells C.toArray E fz) ∧ v = .slice (some ⟨b, 0, none⟩) n C.length ∧ n ≤ C.length ∧ C.take n = xs ∧ C.length ≤ fz.1
section
variable {P : Program} {ρ : Operand → Value} {w w0 : World} {M : List Nat} {L l1 l2 : List Item} {dst : Option Tmp} {ty : TypeId} {pos : String} {aft : Array Edge} {g : Option (Nat × Bool)} {x y : Operand} {T T2 E : TypeId} {v : Value} {it : Item}
  {dE : TypeDesc} {a : Option Addr} {n m c : Nat} {xs news : List Value}
theorem RowZ.at (hz : RowZ it (.slice a n c) E n xs) (hS : St w0 M w L) (hm : it ∈ L) : Row w a xs := by
  rcases hz with rfl | ⟨b, C, fz, rfl, hv, hn, hC, hf⟩
  · exact St.rowAt hS hm
  · simp only [Value.slice.injEq] at hv
    obtain ⟨rfl, _, _⟩ := hv
    exact Row.of_frz (hS.heap hm) hC
end
end Go.Kw
