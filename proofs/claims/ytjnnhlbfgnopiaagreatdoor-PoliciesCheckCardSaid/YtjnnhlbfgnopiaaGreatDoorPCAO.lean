/- What the law's proof leans on. No condition. -/
import Derived.Test.YtjnnhlbfgnopiaaGreatDoorPCAM
import Derived.Test.YtjnnhlbfgnopiaaGreatDoorPCAN
section
namespace Go.Kw
set_option linter.unusedVariables false
set_option linter.unusedSimpArgs false

/-! ### Lists of sums -/
def S32 (l : List (List UInt8)) : Prop := ∀ s ∈ l, s.length = 32
theorem S32.nil : S32 [] := by intro s hs; cases hs
theorem S32.take {l : List (List UInt8)} (h : S32 l) (k : Nat) : S32 (l.take k) := fun s hs => h s (List.mem_of_mem_take hs)
theorem S32.drop {l : List (List UInt8)} (h : S32 l) (k : Nat) : S32 (l.drop k) := fun s hs => h s (List.mem_of_mem_drop hs)
theorem S32.gt {l : List (List UInt8)} (h : S32 l) {i : Nat} (hi : i < l.length) : (gt l i).length = 32 := h _ (gt_mem l i hi)
/-! ### The greatest power of two below a number -/
/-! ### Trees of sums -/
def nodeL (a b : List UInt8) : List UInt8 := sumL (UInt8.ofNat 2) (a ++ b)
@[simp] theorem nodeL_len (a b : List UInt8) : (nodeL a b).length = 32 := sumL_len _ _
/-! ### Proofs of places -/
section
variable {P : Program} {ρ : Operand → Value} {w w0 : World} {M : List Nat} {L l1 l2 : List Item} {dst : Option Tmp} {ty : TypeId} {pos : String} {aft : Array Edge} {g : Option (Nat × Bool)} {x y z : Operand} {T T2 E I : TypeId} {v : Value} {k : IntKind}
  {d dE : TypeDesc} {sz bts b o : Nat} {zv : Value} {a : Option Addr} {cs C : List Value}
end
theorem bool_cases (b : Bool) : b = true ∨ b = false := by cases b <;> simp
def leafL (t : List UInt8) : List UInt8 := sumL (UInt8.ofNat 1) t
@[simp] theorem leafL_len (t : List UInt8) : (leafL t).length = 32 := sumL_len _ _
theorem take_gt {α : Type} [Inhabited α] (l : List α) (k : Nat) (h : k < l.length) : l.take (k + 1) = l.take k ++ [gt l k] := by
  rw [List.take_succ_eq_append_getElem h, gt_eq _ _ h]
/-! ### Proofs of growth -/
section
variable {older : List UInt8} {m n k : Nat} {wh : Bool} {p : List (List UInt8)} {x y : List UInt8}
end
/-! ### Proofs that are made -/
/-- Octets in pieces of 32. -/
theorem chunk32 : ∀ (n : Nat) (us : List UInt8), us.length = n * 32 → ∃ l : List (List UInt8), S32 l ∧ l.length = n ∧ l.flatten = us
  | 0, us, h => ⟨[], S32.nil, rfl, (List.eq_nil_of_length_eq_zero (by omega)).symm⟩
  | n + 1, us, h => by
    obtain ⟨l, h1, h2, h3⟩ := chunk32 n (us.drop 32) (by simp; omega)
    refine ⟨us.take 32 :: l, ?_, by simp [h2], by rw [List.flatten_cons, h3, List.take_append_drop]⟩
    intro s hs
    rcases List.mem_cons.1 hs with rfl | hs
    · simp; omega
    · exact h1 s hs
theorem St.chunk {w0 w : World} {M : List Nat} {l1 l2 : List Item} {v : Value} {E : TypeId} {n : Nat} {us : List UInt8} (hS : St w0 M w (l1 ++ .row v E 32 n (us.map b8) :: l2)) : ∃ q : List (List UInt8), S32 q ∧ q.length = n ∧ St w0 M w (l1 ++ .row v E 32 n (q.flatten.map b8) :: l2) := by
  have hl := (hS.has (.row v E 32 n (us.map b8)) (by simp)).1.1
  obtain ⟨q, h1, h2, h3⟩ := chunk32 n us (by simpa using hl)
  exact ⟨q, h1, h2, by rw [h3]; exact hS⟩
end Go.Kw
end
section
namespace Go.Kw
set_option linter.unusedVariables false
set_option linter.unusedSimpArgs false

/-! ### Lists of elements of m octets -/
def SN (m : Nat) (l : List (List UInt8)) : Prop := ∀ s ∈ l, s.length = m
section
variable {m : Nat} {l : List (List UInt8)}
theorem SN.nil : SN m [] := by intro s hs; cases hs
theorem SN.gt {i : Nat} (h : SN m l) (hi : i < l.length) : (gt l i).length = m := h _ (gt_mem l i hi)
theorem SN.filter (h : SN m l) (p : List UInt8 → Bool) : SN m (l.filter p) := fun s hs => h s (List.mem_filter.1 hs).1
theorem SN.take (h : SN m l) (k : Nat) : SN m (l.take k) := fun s hs => h s (List.mem_of_mem_take hs)
theorem SN.drop (h : SN m l) (k : Nat) : SN m (l.drop k) := fun s hs => h s (List.mem_of_mem_drop hs)
end
section
variable {P : Program} {ρ : Operand → Value} {w w0 : World} {M : List Nat} {L l1 l2 : List Item} {dst : Option Tmp} {ty : TypeId} {pos : String} {aft : Array Edge} {g : Option (Nat × Bool)} {x y z : Operand} {T T2 E I : TypeId} {v : Value} {k : IntKind}
  {d dE : TypeDesc} {sz bts b o : Nat} {zv : Value} {a : Option Addr} {cs C : List Value}
end

/-! ### Bits -/
def bitL (k : List UInt8) (i : Nat) : Nat := (gt k (i / 8) >>> UInt8.ofNat (7 - i % 8)).toNat % 2
/-! ### Marks of levels -/
/-! ### The way up -/
def sideL (k : List UInt8) (i : Nat) (s o : List UInt8) : List UInt8 := if bitL k i = 0 then nodeL s o else nodeL o s
@[simp] theorem sideL_len (k : List UInt8) (i : Nat) (s o : List UInt8) : (sideL k i s o).length = 32 := by unfold sideL; split <;> simp
def leafM (e : List UInt8) : List UInt8 := sumL (UInt8.ofNat 4) e
@[simp] theorem leafM_len (e : List UInt8) : (leafM e).length = 32 := sumL_len _ _
/-! ### The reference's root of entries (a key and its value, 64 octets) -/
/-- Keys that part from some level on. -/
def Parts (i : Nat) (l : List (List UInt8)) : Prop := l.Pairwise fun x y => ∃ j, i ≤ j ∧ j < 256 ∧ ¬ bitL x j = bitL y j
theorem Parts.zero {i : Nat} {l : List (List UInt8)} (h : Parts i l) : Parts (i + 1) (l.filter fun e => bitL e i == 0) := by
  unfold Parts
  rw [List.pairwise_filter]
  refine List.Pairwise.imp ?_ h
  rintro x y ⟨j, h1, h2, h3⟩ hx hy
  refine ⟨j, ?_, h2, h3⟩
  by_cases hij : j = i
  · subst hij
    simp only [beq_iff_eq] at hx hy
    omega
  · omega
section
variable {P : Program} {ρ : Operand → Value} {w w0 : World} {M : List Nat} {L l1 l2 : List Item} {dst : Option Tmp} {ty : TypeId} {pos : String} {aft : Array Edge} {g : Option (Nat × Bool)} {x y z : Operand} {T T2 E I : TypeId} {v : Value} {k : IntKind}
  {d dE : TypeDesc} {sz bts b o : Nat} {zv : Value} {a : Option Addr} {cs C : List Value}
end
end Go.Kw
end
section
namespace Go.Kw
set_option linter.unusedVariables false
set_option linter.unusedSimpArgs false
section
variable {P : Program} {ρ : Operand → Value} {w w0 : World} {M : List Nat} {L l1 l2 : List Item} {dst : Option Tmp} {ty : TypeId} {pos : String} {aft : Array Edge} {g : Option (Nat × Bool)} {x y z : Operand} {T T2 E I : TypeId} {v : Value} {k : IntKind}
  {d dE : TypeDesc} {sz bts b o : Nat} {zv : Value} {a : Option Addr} {cs C : List Value}
theorem flatM_gt {α : Type} [Inhabited α] {f : α → List Value} (hf : ∀ x, (f x).length = sz) {l : List α} {m : Nat} (hm : m < l.length) : ((l.flatMap f).drop (m * sz)).take sz = f (gt l m) := by
  apply List.ext_getElem?
  intro j
  by_cases hj : j < sz
  · rw [List.getElem?_take_of_lt hj, List.getElem?_drop, flatM_get hf l m j (gt l m) (by rw [gt_eq l m hm]; exact List.getElem?_eq_getElem hm) hj]
  · rw [List.getElem?_eq_none (by rw [List.length_take]; omega), List.getElem?_eq_none (by rw [hf]; omega)]
theorem r_ixF {α : Type} [Inhabited α] {f : α → List Value} {len cap m : Nat} {l : List α} (hf : ∀ x, (f x).length = sz) (h : P.underlying T = some (.slice E)) (hE : TI P E dE sz bts zv) (hx : ρ x = .slice a len cap) (hy : ρ y = .int k (m : Int)) (hr : Row w a (l.flatMap f)) (hl : l.length = len) (hm : m < len) (hz : 0 < sz) :
    (execOp ρ ⟨dst, .indexAddr T x y, ty, pos, aft, g⟩).run P w = .ok (.value (.pointer (a.map (·.add (m * sz))))) w :=
  r_ixS h hE hx hy hr hm (by rw [flatM_len hf, hl]; exact Nat.mul_lt_mul_of_pos_right hm hz)
theorem r_loadF {α : Type} [Inhabited α] {f : α → List Value} {m : Nat} {l : List α} (hf : ∀ x, (f x).length = sz) (h : TI P T d sz bts zv) (hd : aggD d = true) (hx : ρ x = .pointer (a.map (·.add (m * sz)))) (hr : Row w a (l.flatMap f)) (hm : m < l.length) (hz : 0 < sz) :
    (execOp ρ ⟨dst, .load T x, ty, pos, aft, g⟩).run P w = .ok (.value (.agg (f (gt l m)).toArray)) w := by
  have h1 : m * sz + sz ≤ l.length * sz := by rw [← Nat.succ_mul]; exact Nat.mul_le_mul_right _ hm
  rw [r_loadSA h hd hx hr hz (by rw [flatM_len hf]; exact h1), flatM_gt hf hm]
end
end Go.Kw
end
section
namespace Go.Kw
set_option linter.unusedVariables false
set_option linter.unusedSimpArgs false
/-- An order that a sort can lean on. -/
structure TOrd {α : Type} (le : α → α → Bool) : Prop where
  tr : ∀ a b c, le a b = true → le b c = true → le a c = true
  tot : ∀ a b, (le a b || le b a) = true
  anti : ∀ a b, le a b = true → le b a = true → a = b
section
variable {α : Type} [Inhabited α] [DecidableEq α]
variable {le : α → α → Bool}
end
end Go.Kw
end
