/- What the law's proof leans on. No condition. -/
import Derived.Test.YtjnnhlbfgnopiaaGreatDoorPAAO
import Derived.Laws.Tables
namespace Go.Kw
set_option linter.unusedVariables false
set_option linter.unusedSimpArgs false
set_option linter.unusedSectionVars false

/-! ### Blocks taken into a state -/
def xorTo (s b : List UInt8) (k : Nat) : List UInt8 := (List.range 64).map fun j => if j < k then gt s j ^^^ gt b j else gt s j
@[simp] theorem xorTo_len (s b : List UInt8) (k : Nat) : (xorTo s b k).length = 64 := by simp [xorTo]
def chunk (s b : List UInt8) : List UInt8 := stirL (xorTo s b 32)
@[simp] theorem chunk_len (s b : List UInt8) : (chunk s b).length = 64 := by simp [chunk]
/-- All whole blocks of a text, and what is left of it. -/
def absorb : Nat → List UInt8 → List UInt8 → List UInt8
  | 0, s, _ => s
  | k + 1, s, t => absorb k (chunk s (t.take 32)) (t.drop 32)
def soak (s t : List UInt8) : List UInt8 := absorb (t.length / 32) s t
def left (t : List UInt8) : List UInt8 := t.drop (32 * (t.length / 32))
/-! ### A summer's cells -/
section
variable {st rest : List UInt8} {h t : Nat} (h1 : st.length = 64) (h2 : rest.length = 32)
include h1 h2
end
/-- What is read lies apart from the block that turns. -/
def Sep (a : Option Addr) (l : List UInt8) (bs : Nat) : Prop := l ≠ [] → ∀ x, a = some x → x.block ≠ bs
theorem Sep.not {a : Option Addr} {l : List UInt8} {bs : Nat} (h : Sep a l bs) : ∀ b o, l.map b8 ≠ [] → a = some ⟨b, o, none⟩ → b ∉ [bs] := by
  intro b o hl ha
  have := h (by simpa using hl) _ ha
  simpa using this
theorem add_block (x : Addr) (n : Nat) : (x.add n).block = x.block := by unfold Addr.add; split <;> rfl
theorem Sep.drop {a : Option Addr} {l : List UInt8} {bs c k : Nat} (h : Sep a l bs) : Sep (Kw.sub a c k 1) (l.drop k) bs := by
  intro hl x hx
  have hl' : l ≠ [] := by rintro rfl; simp at hl
  unfold Kw.sub at hx
  split at hx
  · exact h hl' x hx
  · cases a with
    | none => cases hx
    | some y =>
      simp only [Option.map_some, Option.some.injEq] at hx
      rw [← hx, add_block]
      exact h hl' y rfl
def ini (d : UInt8) : List UInt8 := (List.replicate 64 (0 : UInt8)).set 63 d
@[simp] theorem ini_len (d : UInt8) : (ini d).length = 64 := by simp [ini]
/-- A text, its mark, and noughts up to a whole block. -/
def pad (t : List UInt8) : List UInt8 := (t ++ [128]) ++ List.replicate ((32 - (left (t ++ [128])).length) % 32) 0
def lastB (n : Nat) : List UInt8 := splice (List.replicate 32 (0 : UInt8)) 24 (octs8 (UInt64.ofNat n))
def endL (s0 t : List UInt8) : List UInt8 := chunk (soak s0 (pad t)) (lastB t.length)
@[simp] theorem endL_len (s0 t : List UInt8) : (endL s0 t).length = 64 := by simp [endL]
/-- The sum of a text. -/
def sumL (d : UInt8) (t : List UInt8) : List UInt8 := (endL (ini d) t).take 32
def tagL (k t : List UInt8) : List UInt8 := (sumL (UInt8.ofNat 8) (k ++ t)).take 16
def sealL (k t : List UInt8) : List UInt8 := stirL (endL (ini (UInt8.ofNat 9)) (k ++ t))
@[simp] theorem sealL_len (k t : List UInt8) : (sealL k t).length = 64 := by simp [sealL]
@[simp] theorem sumL_len (d : UInt8) (t : List UInt8) : (sumL d t).length = 32 := by simp [sumL]
/-- What lies in memory from the beginning lies apart from a new block. -/
theorem Sep.old {w0 w : World} {L : List Item} {a : Option Addr} {l : List UInt8} {bs : Nat} {o : Obj} (hS : St w0 [] w L) (hm : Item.blk bs o ∈ L) (h : Row w0 a (l.map b8)) : Sep a l bs := by
  intro hl x hx hb
  have hge : w0.heap.size ≤ bs := by
    rcases (hS.has _ hm).2 with h1 | h1
    · exact h1
    · cases h1
  rcases h with h | ⟨b, off, ha, hA⟩
  · exact hl (by simpa using h)
  · have hlt := hA.lt (by cases l with | nil => exact absurd rfl hl | cons _ _ => simp)
    rw [ha] at hx
    cases hx
    simp only at hb
    omega
@[simp] theorem tagL_len (k t : List UInt8) : (tagL k t).length = 16 := by simp [tagL]
end Go.Kw
