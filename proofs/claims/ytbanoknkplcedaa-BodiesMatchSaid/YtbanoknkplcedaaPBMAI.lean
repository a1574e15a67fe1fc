/- What the law's proof leans on. No condition. -/
import Derived.Test.YtbanoknkplcedaaPBMAC
namespace Go.Kw
set_option linter.unusedVariables false
set_option linter.unusedSimpArgs false

def word4 (o : List UInt8) : UInt32 :=
  (((gt o 0).toUInt32 <<< 24 ||| (gt o 1).toUInt32 <<< 16) ||| (gt o 2).toUInt32 <<< 8) ||| (gt o 3).toUInt32
def octs (n : UInt32) : List UInt8 := [(n >>> 24).toUInt8, (n >>> 16).toUInt8, (n >>> 8).toUInt8, n.toUInt8]
def octs8 (n : UInt64) : List UInt8 := octs (n >>> 32).toUInt32 ++ octs n.toUInt32
@[simp] theorem octs_len (n : UInt32) : (octs n).length = 4 := rfl
@[simp] theorem octs8_len (n : UInt64) : (octs8 n).length = 8 := rfl
def rotl (x : UInt32) (s : Nat) : UInt32 := x <<< (UInt32.ofNat s) ||| x >>> (UInt32.ofNat (32 - s))
def turnW (w : List UInt32) (r i : Nat) : UInt32 := rotl (gt w ((i + 1 + r) % 16)) (5 + i) ^^^ (2654435769 * UInt64.ofNat (16 * r + i + 1)).toUInt32
end Go.Kw
namespace Go.Kw
/-- The words of a state, and a state's octets. -/
def wordsF (s : List UInt8) (k : Nat) : UInt32 := word4 ((s.drop (4 * k)).take 4)
def wordsL (s : List UInt8) : List UInt32 := (List.range 16).map (wordsF s)
def stateL (ws : List UInt32) : List UInt8 := ((List.range 16).map fun j => octs (gt ws j)).flatten
@[simp] theorem wordsL_len (s : List UInt8) : (wordsL s).length = 16 := by simp [wordsL]
theorem flat_len {α : Type} (c : Nat) : ∀ (ls : List (List α)), (∀ l ∈ ls, l.length = c) → ls.flatten.length = c * ls.length := by
  intro ls
  induction ls with
  | nil => intro _; simp
  | cons l ls ih =>
    intro h
    have h0 := h l (by simp)
    have := ih (fun m hm => h m (by simp [hm]))
    simp only [List.flatten_cons, List.length_append, List.length_cons, this, h0, Nat.mul_add]
    omega
@[simp] theorem stateL_len (ws : List UInt32) : (stateL ws).length = 64 := by
  unfold stateL
  rw [flat_len 4 _ (by intro l hl; obtain ⟨j, _, rfl⟩ := List.mem_map.1 hl; rfl)]
  simp
def stateTo (ws : List UInt32) (k : Nat) : List UInt8 := (upto 16 (fun j => octs (gt ws j)) [0, 0, 0, 0] k).flatten
theorem upto_mem {α : Type} {n : Nat} {f : Nat → α} {z : α} {k : Nat} {x : α} (h : x ∈ upto n f z k) : (∃ j, x = f j) ∨ x = z := by
  obtain ⟨j, _, rfl⟩ := List.mem_map.1 h
  split
  · exact .inl ⟨_, rfl⟩
  · exact .inr rfl
theorem stateTo_four (ws : List UInt32) (k : Nat) : ∀ l ∈ upto 16 (fun j => octs (gt ws j)) [0, 0, 0, 0] k, l.length = 4 := by
  intro l hl
  rcases upto_mem hl with ⟨j, rfl⟩ | rfl <;> rfl
@[simp] theorem stateTo_len (ws : List UInt32) (k : Nat) : (stateTo ws k).length = 64 := by
  unfold stateTo
  rw [flat_len 4 _ (stateTo_four ws k)]
  simp
end Go.Kw
namespace Go.Kw
/-- One step of the stirring, and one back. -/
def stirStep (w : List UInt32) (r i : Nat) : List UInt32 :=
  let w1 := w.set i (gt w i + turnW w r i)
  w1.set ((i + 9) % 16) (gt w1 ((i + 9) % 16) ^^^ rotl (gt w1 i) 11)
def unStep (w : List UInt32) (r i : Nat) : List UInt32 :=
  let w1 := w.set ((i + 9) % 16) (gt w ((i + 9) % 16) ^^^ rotl (gt w i) 11)
  w1.set i (gt w1 i - turnW w1 r i)
def stirIn (w : List UInt32) (r : Nat) : Nat → List UInt32
  | 0 => w
  | i + 1 => stirStep (stirIn w r i) r i
def stirOut (w : List UInt32) : Nat → List UInt32
  | 0 => w
  | r + 1 => stirIn (stirOut w r) r 16
def unIn (w : List UInt32) (r : Nat) : Nat → List UInt32
  | 0 => w
  | k + 1 => unStep (unIn w r k) r (15 - k)
def unOut (w : List UInt32) : Nat → List UInt32
  | 0 => w
  | k + 1 => unIn (unOut w k) (7 - k) 16
def stirL (s : List UInt8) : List UInt8 := stateL (stirOut (wordsL s) 8)
def unstirL (s : List UInt8) : List UInt8 := stateL (unOut (wordsL s) 8)
@[simp] theorem stirStep_len (w : List UInt32) (r i : Nat) : (stirStep w r i).length = w.length := by simp [stirStep]
@[simp] theorem unStep_len (w : List UInt32) (r i : Nat) : (unStep w r i).length = w.length := by simp [unStep]
@[simp] theorem stirIn_len (w : List UInt32) (r i : Nat) : (stirIn w r i).length = w.length := by induction i <;> simp_all [stirIn]
@[simp] theorem stirOut_len (w : List UInt32) (r : Nat) : (stirOut w r).length = w.length := by induction r <;> simp_all [stirOut]
@[simp] theorem unIn_len (w : List UInt32) (r i : Nat) : (unIn w r i).length = w.length := by induction i <;> simp_all [unIn]
@[simp] theorem unOut_len (w : List UInt32) (r : Nat) : (unOut w r).length = w.length := by induction r <;> simp_all [unOut]
@[simp] theorem stirL_len (s : List UInt8) : (stirL s).length = 64 := by simp [stirL]
@[simp] theorem unstirL_len (s : List UInt8) : (unstirL s).length = 64 := by simp [unstirL]

/-! ### Each step undoes the other -/
end Go.Kw
namespace Go.Kw
def hexDs : List UInt8 := [48, 49, 50, 51, 52, 53, 54, 55, 56, 57, 97, 98, 99, 100, 101, 102]
def hexd (c : UInt8) : List UInt8 := [gt hexDs (c >>> 4).toNat, gt hexDs (c &&& 15).toNat]
def hexL (bs : List UInt8) : List UInt8 := bs.flatMap hexd
@[simp] theorem hexd_len (c : UInt8) : (hexd c).length = 2 := rfl
@[simp] theorem hexL_len (bs : List UInt8) : (hexL bs).length = 2 * bs.length := by
  induction bs with
  | nil => rfl
  | cons c bs ih => simp only [hexL, List.flatMap_cons, List.length_append] at ih ⊢; rw [ih]; simp [hexd]; omega
theorem take_snoc {α : Type} [Inhabited α] (l : List α) (k : Nat) (h : k < l.length) : l.take (k + 1) = l.take k ++ [gt l k] := by
  rw [List.take_succ_eq_append_getElem h, gt_eq l k h]
theorem hexL_step (bs : List UInt8) (k : Nat) (h : k < bs.length) : hexL (bs.take (k + 1)) = hexL (bs.take k) ++ hexd (gt bs k) := by
  rw [take_snoc bs k h]; simp [hexL]
theorem shr4_lt (c : UInt8) : (c >>> (UInt8.ofNat 4)).toNat < 16 := by
  have := c.toNat_lt
  rw [UInt8.toNat_shiftRight, show (UInt8.ofNat 4).toNat % 8 = 4 from rfl, Nat.shiftRight_eq_div_pow]
  omega
theorem and15_lt (c : UInt8) : (c &&& 15).toNat < 16 := by
  rw [UInt8.toNat_and]
  exact Nat.lt_of_le_of_lt Nat.and_le_right (by decide)
end Go.Kw
namespace Go.Kw
/-! ### The reference's words and octets are the same -/
def rwTo (s : List UInt8) : Nat → List UInt32
  | 0 => List.replicate 16 0
  | k + 1 => (rwTo s k).set (k / 4) (gt (rwTo s k) (k / 4) <<< (UInt32.ofNat 8) ||| (gt s k).toUInt32)
@[simp] theorem rwTo_len (s : List UInt8) (k : Nat) : (rwTo s k).length = 16 := by induction k <;> simp_all [rwTo]
end Go.Kw
namespace Go.Kw
/-! ### Words as numbers -/
theorem or_add (a b k : Nat) (h : b < 2 ^ k) : (a * 2 ^ k) ||| b = a * 2 ^ k + b := by
  rw [← Nat.shiftLeft_eq, Nat.shiftLeft_add_eq_or_of_lt h]
theorem lin3 (a b c : Nat) : (a * 256 + b) * 2 ^ 16 + c * 2 ^ 8 = (a * 65536 + b * 256 + c) * 2 ^ 8 := by
  simp only [Nat.reducePow, Nat.add_mul, Nat.mul_assoc, Nat.reduceMul]
theorem word4_nat (o : List UInt8) : (word4 o).toNat = (gt o 0).toNat * 16777216 + (gt o 1).toNat * 65536 + (gt o 2).toNat * 256 + (gt o 3).toNat := by
  have h0 := (gt o 0).toNat_lt
  have h1 := (gt o 1).toNat_lt
  have h2 := (gt o 2).toNat_lt
  have h3 := (gt o 3).toNat_lt
  simp only [word4, UInt32.toNat_or, UInt32.toNat_shiftLeft, UInt8.toNat_toUInt32]
  generalize (gt o 0).toNat = a, (gt o 1).toNat = b, (gt o 2).toNat = c, (gt o 3).toNat = d at *
  have e24 : (UInt32.toNat 24 % 32) = 24 := rfl
  have e16 : (UInt32.toNat 16 % 32) = 16 := rfl
  have e8 : (UInt32.toNat 8 % 32) = 8 := rfl
  rw [e24, e16, e8]
  simp only [Nat.shiftLeft_eq]
  rw [Nat.mod_eq_of_lt (by omega), Nat.mod_eq_of_lt (by omega), Nat.mod_eq_of_lt (by omega)]
  rw [or_add a (b * 2 ^ 16) 24 (by omega)]
  have e1 : a * 2 ^ 24 + b * 2 ^ 16 = (a * 256 + b) * 2 ^ 16 := by omega
  rw [e1, or_add _ (c * 2 ^ 8) 16 (by omega)]
  rw [lin3, or_add _ d 8 (by omega)]
theorem octs_nat (x : UInt32) : (octs x).map UInt8.toNat = [x.toNat / 16777216 % 256, x.toNat / 65536 % 256, x.toNat / 256 % 256, x.toNat % 256] := by
  have e24 : (UInt32.toNat 24 % 32) = 24 := rfl
  have e16 : (UInt32.toNat 16 % 32) = 16 := rfl
  have e8 : (UInt32.toNat 8 % 32) = 8 := rfl
  simp only [octs, List.map_cons, List.map_nil, UInt32.toNat_toUInt8, UInt32.toNat_shiftRight, e24, e16, e8, Nat.shiftRight_eq_div_pow]
theorem word_octs (x : UInt32) : word4 (octs x) = x := by
  apply UInt32.toNat_inj.1
  rw [word4_nat]
  have h := octs_nat x
  have hx := x.toNat_lt
  simp only [octs, List.map_cons, List.map_nil, List.cons.injEq, and_true] at h
  have g0 : gt (octs x) 0 = (x >>> 24).toUInt8 := rfl
  have g1 : gt (octs x) 1 = (x >>> 16).toUInt8 := rfl
  have g2 : gt (octs x) 2 = (x >>> 8).toUInt8 := rfl
  have g3 : gt (octs x) 3 = x.toUInt8 := rfl
  rw [g0, g1, g2, g3, h.1, h.2.1, h.2.2.1, h.2.2.2]
  omega
end Go.Kw
