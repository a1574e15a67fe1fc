/- What the law's proof leans on. No condition. -/
import Derived.Test.YtkoknlcegiemnaaDoorPFiAM
import Derived.Test.YtkoknlcegiemnaaDoorPFiAO
namespace Go.Kw
set_option linter.unusedVariables false
set_option linter.unusedSimpArgs false

/-! ### Lists of sums -/
def S32 (l : List (List UInt8)) : Prop := ∀ s ∈ l, s.length = 32
theorem S32.nil : S32 [] := by intro s hs; cases hs
theorem S32.take {l : List (List UInt8)} (h : S32 l) (k : Nat) : S32 (l.take k) := fun s hs => h s (List.mem_of_mem_take hs)
theorem S32.drop {l : List (List UInt8)} (h : S32 l) (k : Nat) : S32 (l.drop k) := fun s hs => h s (List.mem_of_mem_drop hs)
theorem S32.gt {l : List (List UInt8)} (h : S32 l) {i : Nat} (hi : i < l.length) : (gt l i).length = 32 := h _ (gt_mem l i hi)
/-! ### The greatest power of two below a number -/
/-! ### Trees of sums -/
def nodeL (a b : List UInt8) : List UInt8 := sumL (UInt8.ofNat 2) (a ++ b)
@[simp] theorem nodeL_len (a b : List UInt8) : (nodeL a b).length = 32 := sumL_len _ _
/-! ### Proofs of places -/
section
variable {P : Program} {ρ : Operand → Value} {w w0 : World} {M : List Nat} {L l1 l2 : List Item} {dst : Option Tmp} {ty : TypeId} {pos : String} {aft : Array Edge} {g : Option (Nat × Bool)} {x y z : Operand} {T T2 E I : TypeId} {v : Value} {k : IntKind}
  {d dE : TypeDesc} {sz bts b o : Nat} {zv : Value} {a : Option Addr} {cs C : List Value}
end
def leafL (t : List UInt8) : List UInt8 := sumL (UInt8.ofNat 1) t
@[simp] theorem leafL_len (t : List UInt8) : (leafL t).length = 32 := sumL_len _ _
/-! ### Proofs of growth -/
section
variable {older : List UInt8} {m n k : Nat} {wh : Bool} {p : List (List UInt8)} {x y : List UInt8}
end
/-! ### Proofs that are made -/
/-- Octets in pieces of 32. -/
theorem chunk32 : ∀ (n : Nat) (us : List UInt8), us.length = n * 32 → ∃ l : List (List UInt8), S32 l ∧ l.length = n ∧ l.flatten = us
  | 0, us, h => ⟨[], S32.nil, rfl, (List.eq_nil_of_length_eq_zero (by omega)).symm⟩
  | n + 1, us, h => by
    obtain ⟨l, h1, h2, h3⟩ := chunk32 n (us.drop 32) (by simp; omega)
    refine ⟨us.take 32 :: l, ?_, by simp [h2], by rw [List.flatten_cons, h3, List.take_append_drop]⟩
    intro s hs
    rcases List.mem_cons.1 hs with rfl | hs
    · simp; omega
    · exact h1 s hs
theorem St.chunk {w0 w : World} {M : List Nat} {l1 l2 : List Item} {v : Value} {E : TypeId} {n : Nat} {us : List UInt8} (hS : St w0 M w (l1 ++ .row v E 32 n (us.map b8) :: l2)) : ∃ q : List (List UInt8), S32 q ∧ q.length = n ∧ St w0 M w (l1 ++ .row v E 32 n (q.flatten.map b8) :: l2) := by
  have hl := (hS.has (.row v E 32 n (us.map b8)) (by simp)).1.1
  obtain ⟨q, h1, h2, h3⟩ := chunk32 n us (by simpa using hl)
  exact ⟨q, h1, h2, by rw [h3]; exact hS⟩
end Go.Kw
