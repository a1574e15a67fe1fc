/- What the law's proof leans on. No condition. -/
import Derived.Test.YtjnnhlbfgnopiaaGreatDoorPAAF
import Derived.Test.YtjnnhlbfgnopiaaGreatDoorPAAC
namespace Go.Kw
set_option linter.unusedVariables false
set_option linter.unusedSimpArgs false

/-- Eight octets as a number. -/
def long8 (o : List UInt8) : UInt64 := (word4 (o.take 4)).toUInt64 <<< 32 ||| (word4 (o.drop 4)).toUInt64
/-- A slice as data: its place, its room and what lies in it. -/
structure Sl (α : Type) where
  a : Option Addr
  c : Nat
  xs : List α
instance {α : Type} : Inhabited (Sl α) := ⟨⟨none, 0, []⟩⟩
def Sl.v {α : Type} (s : Sl α) : Value := .slice s.a s.xs.length s.c
abbrev Piece := Sl UInt8
abbrev Piece.v (p : Piece) : Value := Sl.v p
theorem gt_mem {α : Type} [Inhabited α] (l : List α) (i : Nat) (h : i < l.length) : gt l i ∈ l := by rw [gt_eq l i h]; exact List.getElem_mem h
theorem Row.from' {w : World} {a : Option Addr} {c : Nat} {l : List UInt8} (h : Row w a (l.map b8)) (hc : l.length ≤ c) (i : Nat) : Row w (Kw.sub a c i 1) ((l.drop i).map b8) := by
  have := h.sub (cap := c) (l := i) (sz := 1) (by simpa using hc)
  simpa using this
theorem Row.mid {w : World} {a : Option Addr} {c : Nat} {l : List UInt8} (h : Row w a (l.map b8)) (hc : l.length ≤ c) (i n : Nat) : Row w (Kw.sub a c i 1) (((l.drop i).take n).map b8) := by
  have := (Row.from' h hc i).take (n := n)
  simpa using this
theorem Row.behind {w : World} {a : Option Addr} {c : Nat} {x y : List UInt8} (h : Row w a ((x ++ y).map b8)) (hc : (x ++ y).length ≤ c) : Row w (Kw.sub a c x.length 1) (y.map b8) := by
  have := Row.from' h hc x.length
  rwa [List.drop_left] at this
end Go.Kw
