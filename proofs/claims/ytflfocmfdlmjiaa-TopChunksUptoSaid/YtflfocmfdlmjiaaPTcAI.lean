/- What the law's proof leans on. No condition. -/
import Derived.Test.YtflfocmfdlmjiaaPTcAG
import Derived.Test.YtflfocmfdlmjiaaPTcAC
namespace Go.Kw
set_option linter.unusedVariables false
set_option linter.unusedSimpArgs false

theorem toNat_cast {p : Int} (h : 0 ≤ p) : ((p.toNat : Nat) : Int) = p := Int.toNat_of_nonneg h

theorem row_none {w : World} {cs : List Value} (h : Row w none cs) : cs = [] := by
  rcases h with h | ⟨_, _, h, _⟩
  · exact h
  · cases h
theorem nil_of_none {w : World} {a : Option Addr} {l : List UInt8} (h : Row w a (l.map b8)) (ha : a = none) : l = [] := by
  subst ha
  simpa using row_none h

theorem ba_eq (x y : List UInt8) : ((⟨x.toArray⟩ : ByteArray) = ⟨y.toArray⟩) ↔ x = y := by simp [ByteArray.mk.injEq]
theorem ba_dec (x y : List UInt8) : decide ((⟨x.toArray⟩ : ByteArray) = ⟨y.toArray⟩) = decide (x = y) := decide_eq_decide.2 (ba_eq x y)

/-- A slice as data: its place, its room and what lies in it. -/
structure Sl (α : Type) where
  a : Option Addr
  c : Nat
  xs : List α
instance {α : Type} : Inhabited (Sl α) := ⟨⟨none, 0, []⟩⟩
def Sl.v {α : Type} (s : Sl α) : Value := .slice s.a s.xs.length s.c
abbrev Piece := Sl UInt8
abbrev Piece.v (p : Piece) : Value := Sl.v p
def total (ps : List Piece) : Nat := (ps.map fun p => p.xs.length).sum
def joined (ps : List Piece) : List UInt8 := ps.flatMap (·.xs)
theorem total_take (ps : List Piece) (k : Nat) (h : k < ps.length) : total (ps.take (k + 1)) = total (ps.take k) + (gt ps k).xs.length := by
  rw [List.take_succ_eq_append_getElem h, gt_eq _ _ h]
  simp only [total, List.map_append, List.sum_append, List.map_cons, List.map_nil, List.sum_cons, List.sum_nil, Nat.add_zero]
theorem total_le (ps : List Piece) (k : Nat) : total (ps.take k) ≤ total ps := by
  have : total ps = total (ps.take k) + total (ps.drop k) := by
    conv => lhs; rw [← List.take_append_drop k ps]
    simp only [total, List.map_append, List.sum_append]
  omega
theorem joined_take (ps : List Piece) (k : Nat) (h : k < ps.length) : joined (ps.take (k + 1)) = joined (ps.take k) ++ (gt ps k).xs := by
  rw [List.take_succ_eq_append_getElem h, gt_eq _ _ h]
  simp only [joined, List.flatMap_append, List.flatMap_cons, List.flatMap_nil, List.append_nil]
theorem joined_len (ps : List Piece) : (joined ps).length = total ps := by simp [joined, total, List.length_flatMap]
theorem gt_mem {α : Type} [Inhabited α] (l : List α) (i : Nat) (h : i < l.length) : gt l i ∈ l := by rw [gt_eq l i h]; exact List.getElem_mem h
theorem gt_take {α : Type} [Inhabited α] (l : List α) (n j : Nat) (h : j < n) : gt (l.take n) j = gt l j := by simp [gt, List.getD_eq_getElem?_getD, List.getElem?_take, h]
theorem gt_drop {α : Type} [Inhabited α] (l : List α) (n j : Nat) : gt (l.drop n) j = gt l (n + j) := by simp [gt, List.getD_eq_getElem?_getD, List.getElem?_drop]
theorem Row.from' {w : World} {a : Option Addr} {c : Nat} {l : List UInt8} (h : Row w a (l.map b8)) (hc : l.length ≤ c) (i : Nat) : Row w (Kw.sub a c i 1) ((l.drop i).map b8) := by
  have := h.sub (cap := c) (l := i) (sz := 1) (by simpa using hc)
  simpa using this
theorem Row.mid {w : World} {a : Option Addr} {c : Nat} {l : List UInt8} (h : Row w a (l.map b8)) (hc : l.length ≤ c) (i n : Nat) : Row w (Kw.sub a c i 1) (((l.drop i).take n).map b8) := by
  have := (Row.from' h hc i).take (n := n)
  simpa using this
theorem Row.behind {w : World} {a : Option Addr} {c : Nat} {x y : List UInt8} (h : Row w a ((x ++ y).map b8)) (hc : (x ++ y).length ≤ c) : Row w (Kw.sub a c x.length 1) (y.map b8) := by
  have := Row.from' h hc x.length
  rwa [List.drop_left] at this
theorem Row.front {w : World} {a : Option Addr} {x y : List UInt8} (h : Row w a ((x ++ y).map b8)) : Row w a (x.map b8) := by
  have := h.take (n := x.length)
  rw [← List.map_take, List.take_left] at this
  exact this
end Go.Kw
