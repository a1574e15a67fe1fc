/- What the law's proof leans on. No condition. -/
import Derived.Test.YtjnnhlbfgnopiaaGreatDoorPCAP
import Derived.Test.YtjnnhlbfgnopiaaGreatDoorPCAO
import Derived.Maps.RangeRun
namespace Go.Kw
open Go.WideMaps
set_option linter.unusedVariables false
set_option linter.unusedSimpArgs false
/-- An entry: when it was born, its key, its value. -/
structure MB (α : Type) where
  born : Nat
  k : α
  v : Bool
  deriving DecidableEq
def MB.e {α : Type} (f : α → Value) (x : MB α) : MapEntry := { key := f x.k, val := .bool x.v, born := x.born }
/-- What is known of plain keys. -/
structure KeyF {α : Type} (P : Program) (K : TypeId) (f : α → Value) : Prop where
  inj : ∀ x y, f x = f y → x = y
  check : ∀ (w : World) (em : Bool) (x : α), (Instr.checkKey em 10000 K (f x)).run P w = .ok () w
  find : ∀ (w : World) (q : α) (es : List MapEntry), (∀ e ∈ es, ∃ x, e.key = f x) → ((Instr.findKey K (f q) es).run P w = .ok none w ∧ ∀ e ∈ es, e.key ≠ f q) ∨ ∃ j e, (Instr.findKey K (f q) es).run P w = .ok (some (j, e.val)) w ∧ es[j]? = some e ∧ e.key = f q
  stays : ∀ (w : World) (x : α), (Instr.keyThatStays (f x) (f x)).run P w = .ok (f x) w
theorem KeyF.of {α : Type} {P : Program} {K : TypeId} {f : α → Value} {d : TypeDesc} (hK : P.underlying K = some d) (hk : ∀ x, MapKept.IsKey d (f x)) (hi : ∀ x y, f x = f y → x = y) (hs : ∀ (w : World) (x : α), (Instr.keyThatStays (f x) (f x)).run P w = .ok (f x) w) : KeyF P K f where
  inj := hi
  check := fun w em x => MapKept.run_checkKey (P := P) (w := w) hK (hk x) em 9999
  find := fun w q es he => by
    rcases MapKept.findNow_spec (hk q) es 0 (fun x hx => by obtain ⟨y, h⟩ := he x hx; rw [h]; exact hk y) with ⟨h1, h2⟩ | ⟨j, e, h1, h2, h3⟩
    · exact .inl ⟨MapKept.run_findKey (P := P) (w := w) hK h1, h2⟩
    · exact .inr ⟨j, e, MapKept.run_findKey (P := P) (w := w) hK (by rw [h1, Nat.zero_add]), h2, h3⟩
  stays := hs
structure WfM {α : Type} (E : List (MB α)) (clock : Nat) : Prop where
  keys : (E.map (·.k)).Nodup
  born : (E.map (·.born)).Nodup
  lt : ∀ x ∈ E, x.born < clock
section
variable {α : Type} [DecidableEq α]
def getM (E : List (MB α)) (q : α) : Option Bool := (E.find? fun x => decide (x.k = q)).map (·.v)
def setM (E : List (MB α)) (q : α) (v : Bool) : List (MB α) := E.map fun x => if x.k = q then ⟨x.born, x.k, v⟩ else x
def dropM (E : List (MB α)) (q : α) : List (MB α) := E.filter fun x => !decide (x.k = q)
end
theorem getM_none {α : Type} [DecidableEq α] {E : List (MB α)} {q : α} : getM E q = none ↔ ∀ x ∈ E, ¬ x.k = q := by
  simp [getM, List.find?_eq_none]
section
variable {α : Type} {f : α → Value} {P : Program} {ρ : Operand → Value} {w w0 : World} {M : List Nat} {L l1 l2 : List Item} {dst : Option Tmp} {ty : TypeId} {pos : String} {aft : Array Edge} {g : Option (Nat × Bool)} {x y z : Operand} {T T2 E' I K : TypeId} {k : IntKind}
  {d dE : TypeDesc} {sz bts b o : Nat} {zv : Value}
end
theorem WfM.nil {α : Type} : WfM ([] : List (MB α)) 0 := ⟨List.nodup_nil, List.nodup_nil, fun x h => by cases h⟩
theorem WfM.new {α : Type} [DecidableEq α] {E : List (MB α)} {clock : Nat} {q : α} {v : Bool} (h : WfM E clock) (hg : getM E q = none) : WfM (E ++ [⟨clock, q, v⟩]) (clock + 1) := by
  refine ⟨?_, ?_, ?_⟩
  · rw [List.map_append]
    refine List.nodup_append.2 ⟨h.keys, by simp, fun a ha b hb e => ?_⟩
    obtain ⟨x, hx, rfl⟩ := List.mem_map.1 ha
    simp only [List.map_cons, List.map_nil, List.mem_singleton] at hb
    exact getM_none.1 hg x hx (e.trans hb)
  · rw [List.map_append]
    refine List.nodup_append.2 ⟨h.born, by simp, fun a ha b hb e => ?_⟩
    obtain ⟨x, hx, rfl⟩ := List.mem_map.1 ha
    simp only [List.map_cons, List.map_nil, List.mem_singleton] at hb
    have := h.lt x hx
    omega
  · intro x hx
    rcases List.mem_append.1 hx with hx | hx
    · have := h.lt x hx; omega
    · rw [List.mem_singleton.1 hx]; exact Nat.lt_succ_self _
theorem setM_keys {α : Type} [DecidableEq α] (E : List (MB α)) (q : α) (v : Bool) : (setM E q v).map (·.k) = E.map (·.k) := by
  simp only [setM, List.map_map]
  exact List.map_congr_left fun x _ => by simp only [Function.comp]; split <;> rfl
theorem setM_born {α : Type} [DecidableEq α] (E : List (MB α)) (q : α) (v : Bool) : (setM E q v).map (·.born) = E.map (·.born) := by
  simp only [setM, List.map_map]
  exact List.map_congr_left fun x _ => by simp only [Function.comp]; split <;> rfl
theorem WfM.set {α : Type} [DecidableEq α] {E : List (MB α)} {clock : Nat} {q : α} {v : Bool} (h : WfM E clock) : WfM (setM E q v) clock := by
  refine ⟨by rw [setM_keys]; exact h.keys, by rw [setM_born]; exact h.born, fun x hx => ?_⟩
  have : x.born ∈ (setM E q v).map (·.born) := List.mem_map.2 ⟨x, hx, rfl⟩
  rw [setM_born] at this
  obtain ⟨y, hy, hb⟩ := List.mem_map.1 this
  rw [← hb]; exact h.lt y hy
theorem WfM.drop {α : Type} [DecidableEq α] {E : List (MB α)} {clock : Nat} {q : α} (h : WfM E clock) : WfM (dropM E q) clock :=
  ⟨h.keys.sublist (List.filter_sublist.map _), h.born.sublist (List.filter_sublist.map _), fun x hx => h.lt x (List.mem_filter.1 hx).1⟩
theorem getM_cases {α : Type} [DecidableEq α] (E : List (MB α)) (q : α) : getM E q = none ∨ ∃ v0, getM E q = some v0 := by
  cases h : getM E q with
  | none => exact .inl rfl
  | some v => exact .inr ⟨v, rfl⟩
/-- What a map is after a key was set. -/
def putM {α : Type} [DecidableEq α] (E : List (MB α)) (clock : Nat) (q : α) (v : Bool) : List (MB α) × Nat := if getM E q = none then (E ++ [⟨clock, q, v⟩], clock + 1) else (setM E q v, clock)
theorem putM_new {α : Type} [DecidableEq α] {E : List (MB α)} {clock : Nat} {q : α} {v : Bool} (h : getM E q = none) : putM E clock q v = (E ++ [⟨clock, q, v⟩], clock + 1) := by rw [putM, if_pos h]
theorem putM_old {α : Type} [DecidableEq α] {E : List (MB α)} {clock : Nat} {q : α} {v v0 : Bool} (h : getM E q = some v0) : putM E clock q v = (setM E q v, clock) := by rw [putM, if_neg (by rw [h]; simp)]
end Go.Kw
