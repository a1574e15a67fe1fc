/- What the law's proof leans on. No condition. -/
import Derived.Test.YtmonnmndphlkaaaGreatPWnAN
section
namespace Go.Kw
set_option linter.unusedVariables false
set_option linter.unusedSimpArgs false

/-! ### Lists of elements of m octets -/
def SN (m : Nat) (l : List (List UInt8)) : Prop := ∀ s ∈ l, s.length = m
section
variable {m : Nat} {l : List (List UInt8)}
theorem SN.nil : SN m [] := by intro s hs; cases hs
theorem SN.gt {i : Nat} (h : SN m l) (hi : i < l.length) : (gt l i).length = m := h _ (gt_mem l i hi)
theorem SN.filter (h : SN m l) (p : List UInt8 → Bool) : SN m (l.filter p) := fun s hs => h s (List.mem_filter.1 hs).1
theorem SN.take (h : SN m l) (k : Nat) : SN m (l.take k) := fun s hs => h s (List.mem_of_mem_take hs)
theorem SN.drop (h : SN m l) (k : Nat) : SN m (l.drop k) := fun s hs => h s (List.mem_of_mem_drop hs)
end
section
variable {P : Program} {ρ : Operand → Value} {w w0 : World} {M : List Nat} {L l1 l2 : List Item} {dst : Option Tmp} {ty : TypeId} {pos : String} {aft : Array Edge} {g : Option (Nat × Bool)} {x y z : Operand} {T T2 E I : TypeId} {v : Value} {k : IntKind}
  {d dE : TypeDesc} {sz bts b o : Nat} {zv : Value} {a : Option Addr} {cs C : List Value}
/-- A field of an element. -/
theorem r_fieldR {i off : Nat} (h : FA P T i off) (hx : ρ x = .pointer (a.map (·.add o))) (hr : Row w a cs) (hn : 0 < cs.length) : (execOp ρ ⟨dst, .fieldAddr T x i, ty, pos, aft, g⟩).run P w = .ok (.value (.pointer (a.map (·.add (o + off))))) w := by
  obtain ⟨b, q, rfl, _⟩ := hr.some_of hn
  have := r_field (ρ := ρ) (x := x) (dst := dst) (ty := ty) (pos := pos) (aft := aft) (g := g) (w := w) (b := b) (o := q + o) h (by rw [hx]; simp [add_lit])
  rw [this]
  simp [add_lit, Nat.add_assoc]
end

/-! ### Bits -/
def bitL (k : List UInt8) (i : Nat) : Nat := (gt k (i / 8) >>> UInt8.ofNat (7 - i % 8)).toNat % 2
/-! ### Marks of levels -/
/-! ### The way up -/
def sideL (k : List UInt8) (i : Nat) (s o : List UInt8) : List UInt8 := if bitL k i = 0 then nodeL s o else nodeL o s
@[simp] theorem sideL_len (k : List UInt8) (i : Nat) (s o : List UInt8) : (sideL k i s o).length = 32 := by unfold sideL; split <;> simp
def leafM (e : List UInt8) : List UInt8 := sumL (UInt8.ofNat 4) e
@[simp] theorem leafM_len (e : List UInt8) : (leafM e).length = 32 := sumL_len _ _
/-! ### The reference's root of entries (a key and its value, 64 octets) -/
/-- Keys that part from some level on. -/
def Parts (i : Nat) (l : List (List UInt8)) : Prop := l.Pairwise fun x y => ∃ j, i ≤ j ∧ j < 256 ∧ ¬ bitL x j = bitL y j
theorem Parts.short {l : List (List UInt8)} (h : Parts 256 l) : l.length ≤ 1 := by
  match l, h with
  | [], _ => simp
  | [_], _ => simp
  | x :: y :: l, h =>
    unfold Parts at h
    rw [List.pairwise_cons] at h
    obtain ⟨j, h1, h2, _⟩ := h.1 y (by simp)
    omega
theorem Parts.zero {i : Nat} {l : List (List UInt8)} (h : Parts i l) : Parts (i + 1) (l.filter fun e => bitL e i == 0) := by
  unfold Parts
  rw [List.pairwise_filter]
  refine List.Pairwise.imp ?_ h
  rintro x y ⟨j, h1, h2, h3⟩ hx hy
  refine ⟨j, ?_, h2, h3⟩
  by_cases hij : j = i
  · subst hij
    simp only [beq_iff_eq] at hx hy
    omega
  · omega
section
variable {P : Program} {ρ : Operand → Value} {w w0 : World} {M : List Nat} {L l1 l2 : List Item} {dst : Option Tmp} {ty : TypeId} {pos : String} {aft : Array Edge} {g : Option (Nat × Bool)} {x y z : Operand} {T T2 E I : TypeId} {v : Value} {k : IntKind}
  {d dE : TypeDesc} {sz bts b o : Nat} {zv : Value} {a : Option Addr} {cs C : List Value}
end
theorem Parts.more {f lev : Nat} {l : List (List UInt8)} (h : Parts lev l) (hlf : lev + f = 256) (hl : 2 ≤ l.length) : ∃ g, f = g + 1 := by
  rcases Nat.eq_zero_or_pos f with h0 | h0
  · exfalso
    obtain rfl : lev = 256 := by omega
    have := h.short
    omega
  · exact ⟨f - 1, by omega⟩
end Go.Kw
end
section
namespace Go.Kw
set_option linter.unusedVariables false
set_option linter.unusedSimpArgs false
section
variable {P : Program} {ρ : Operand → Value} {w w0 : World} {M : List Nat} {L l1 l2 : List Item} {dst : Option Tmp} {ty : TypeId} {pos : String} {aft : Array Edge} {g : Option (Nat × Bool)} {x y z : Operand} {T T2 E I : TypeId} {v : Value} {k : IntKind}
  {d dE : TypeDesc} {sz bts b o : Nat} {zv : Value} {a : Option Addr} {cs C : List Value}
theorem flatM_gt {α : Type} [Inhabited α] {f : α → List Value} (hf : ∀ x, (f x).length = sz) {l : List α} {m : Nat} (hm : m < l.length) : ((l.flatMap f).drop (m * sz)).take sz = f (gt l m) := by
  apply List.ext_getElem?
  intro j
  by_cases hj : j < sz
  · rw [List.getElem?_take_of_lt hj, List.getElem?_drop, flatM_get hf l m j (gt l m) (by rw [gt_eq l m hm]; exact List.getElem?_eq_getElem hm) hj]
  · rw [List.getElem?_eq_none (by rw [List.length_take]; omega), List.getElem?_eq_none (by rw [hf]; omega)]
theorem r_ixF {α : Type} [Inhabited α] {f : α → List Value} {len cap m : Nat} {l : List α} (hf : ∀ x, (f x).length = sz) (h : P.underlying T = some (.slice E)) (hE : TI P E dE sz bts zv) (hx : ρ x = .slice a len cap) (hy : ρ y = .int k (m : Int)) (hr : Row w a (l.flatMap f)) (hl : l.length = len) (hm : m < len) (hz : 0 < sz) :
    (execOp ρ ⟨dst, .indexAddr T x y, ty, pos, aft, g⟩).run P w = .ok (.value (.pointer (a.map (·.add (m * sz))))) w :=
  r_ixS h hE hx hy hr hm (by rw [flatM_len hf, hl]; exact Nat.mul_lt_mul_of_pos_right hm hz)
theorem r_loadF {α : Type} [Inhabited α] {f : α → List Value} {m : Nat} {l : List α} (hf : ∀ x, (f x).length = sz) (h : TI P T d sz bts zv) (hd : aggD d = true) (hx : ρ x = .pointer (a.map (·.add (m * sz)))) (hr : Row w a (l.flatMap f)) (hm : m < l.length) (hz : 0 < sz) :
    (execOp ρ ⟨dst, .load T x, ty, pos, aft, g⟩).run P w = .ok (.value (.agg (f (gt l m)).toArray)) w := by
  have h1 : m * sz + sz ≤ l.length * sz := by rw [← Nat.succ_mul]; exact Nat.mul_le_mul_right _ hm
  rw [r_loadSA h hd hx hr hz (by rw [flatM_len hf]; exact h1), flatM_gt hf hm]
theorem r_fieldF {α : Type} [Inhabited α] {f : α → List Value} {i off m : Nat} {l : List α} (hf : ∀ x, (f x).length = sz) (h : FA P T i off) (hx : ρ x = .pointer (a.map (·.add (m * sz)))) (hr : Row w a (l.flatMap f)) (hm : m < l.length) (hz : 0 < sz) :
    (execOp ρ ⟨dst, .fieldAddr T x i, ty, pos, aft, g⟩).run P w = .ok (.value (.pointer (a.map (·.add (m * sz + off))))) w :=
  r_fieldR h hx hr (by rw [flatM_len hf]; have : 1 * 1 ≤ l.length * sz := Nat.mul_le_mul (by omega) hz; omega)
theorem r_loadFF {α : Type} [Inhabited α] {f : α → List Value} {m off : Nat} {l : List α} (hf : ∀ x, (f x).length = sz) (h : P.underlying T = some d) (hd : aggD d = false) (hx : ρ x = .pointer (a.map (·.add (m * sz + off)))) (hr : Row w a (l.flatMap f)) (hm : m < l.length) (ho : off < sz) (hv : (f (gt l m))[off]? = some v) :
    (execOp ρ ⟨dst, .load T x, ty, pos, aft, g⟩).run P w = .ok (.value v) w :=
  r_loadS1 h hd hx hr (by rw [flatM_get hf l m off (gt l m) (by rw [gt_eq l m hm]; exact List.getElem?_eq_getElem hm) ho]; exact hv)
end
end Go.Kw
end
