/- What the law's proof leans on. No condition. -/
import Derived.Test.YtjnnhlbfgnopiaaGreatDoorPCAG
import Derived.Test.YtjnnhlbfgnopiaaGreatDoorPCAF
import Derived.Lib.AppendStr
import Derived.ChangeMaps5
import Derived.Laws.IdiomStrings
namespace Go.Kw
open Go.Lib
set_option linter.unusedVariables false
set_option linter.unusedSimpArgs false
theorem Row.of_frz {w : World} {b n : Nat} {E : TypeId} {C xs : List Value} {fr : Nat × Nat} (h : w.heap[b]? = some (.cells C.toArray E fr)) (hC : C.take n = xs) : Row w (some ⟨b, 0, none⟩) xs := by
  refine .inr ⟨b, 0, rfl, fun i v hv => ?_⟩
  have hi : C[i]? = some v := by
    rw [← hC] at hv
    by_cases hin : i < n
    · rwa [List.getElem?_take_of_lt hin] at hv
    · rw [List.getElem?_eq_none (by rw [List.length_take]; omega)] at hv; cases hv
  simp [World.cell?, h, hi]
section
variable {P : Program} {ρ : Operand → Value} {w w0 : World} {M : List Nat} {L l1 l2 : List Item} {dst : Option Tmp} {ty : TypeId} {pos : String} {aft : Array Edge} {g : Option (Nat × Bool)} {x y z : Operand} {T T2 E I : TypeId} {v : Value} {k : IntKind}
  {d dE : TypeDesc} {sz bts b o : Nat} {zv : Value} {a : Option Addr} {cs C : List Value}
theorem x_strBytes {l : List UInt8} (hS : St w0 M w L) (hT : P.underlying T = some (.slice E)) (hT2 : P.underlying T2 = some .string) (hE : P.underlying E = some (.int .u8)) (hx : ρ x = .string ⟨l.toArray⟩) :
    ∃ v w', (execOp ρ ⟨dst, .convert T2 T x, ty, pos, aft, g⟩).run P w = .ok (.value v) w' ∧ ∃ (b c : Nat) (C : List Value) (fz : Nat × Nat), v = .slice (some ⟨b, 0, none⟩) l.length c ∧ l.length ≤ c ∧ C.take l.length = l.map b8 ∧ St w0 M w' (.blk b (.cells C.toArray E fz) :: L) := by
  have hrun := run_bytes_of_string (P := P) w T2 T E ⟨l.toArray⟩ hT2 hT hE
  have hsz : (⟨l.toArray⟩ : ByteArray).size = l.length := rfl
  rw [hsz] at hrun
  obtain ⟨B, hB⟩ : ∃ B, bytesRow ⟨l.toArray⟩ (grownCap w l.length 0 E) = B := ⟨_, rfl⟩
  rw [hB] at hrun
  have h2 : (execOp ρ ⟨dst, .convert T2 T x, ty, pos, aft, g⟩).run P w = .ok (.value (.slice (some ⟨w.heap.size, 0, none⟩) l.length (grownCap w l.length 0 E))) (w.drew.alloc (.cells B E (B.size, B.size + 1))) := by
    simp only [execOp, hx]
    rw [Sem.run_bind, hrun]; rfl
  refine ⟨_, _, h2, w.heap.size, _, B.toList, _, rfl, grownCap_ge w _ 0 E, ?_, (hS.drew).alloc _⟩
  rw [← hB]
  simp [bytesRow, hsz, b8]
end
theorem nameE_len {l : List UInt8} (h : nameE l = true) : l.length ≤ 32 := by
  simp only [nameE, Bool.and_eq_true, decide_eq_true_eq] at h
  exact h.2
section
variable {H : Type} {enc : TypeId × Value → H} {P : Program} {w : World} {r : Reach} {b0 base : Nat} {spare : Nat → Bool} {held : Bool} {t : TypeId} {v : Value} {d : DataW H} {p : List MemPlace}
end
end Go.Kw
