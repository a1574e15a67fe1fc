/- What the law's proof leans on. No condition. -/
import Derived.Test.YtfohfnpehfcaaaaPMcAC
namespace Go.Kw
set_option linter.unusedVariables false
set_option linter.unusedSimpArgs false

def word4 (o : List UInt8) : UInt32 :=
  (((gt o 0).toUInt32 <<< 24 ||| (gt o 1).toUInt32 <<< 16) ||| (gt o 2).toUInt32 <<< 8) ||| (gt o 3).toUInt32
def octs (n : UInt32) : List UInt8 := [(n >>> 24).toUInt8, (n >>> 16).toUInt8, (n >>> 8).toUInt8, n.toUInt8]
def octs8 (n : UInt64) : List UInt8 := octs (n >>> 32).toUInt32 ++ octs n.toUInt32
@[simp] theorem octs_len (n : UInt32) : (octs n).length = 4 := rfl
@[simp] theorem octs8_len (n : UInt64) : (octs8 n).length = 8 := rfl
def rotl (x : UInt32) (s : Nat) : UInt32 := x <<< (UInt32.ofNat s) ||| x >>> (UInt32.ofNat (32 - s))
def turnW (w : List UInt32) (r i : Nat) : UInt32 := rotl (gt w ((i + 1 + r) % 16)) (5 + i) ^^^ (2654435769 * UInt64.ofNat (16 * r + i + 1)).toUInt32
theorem and31 (k : Nat) (h : k < 32) : (UInt64.ofNat k &&& 31).toNat = k := by
  have e : (31 : UInt64).toNat = 2 ^ 5 - 1 := by decide
  rw [UInt64.toNat_and, e, Nat.and_two_pow_sub_one_eq_mod, UInt64.toNat_ofNat']
  omega
theorem sub31 (k : Nat) (h : k < 32) : ((32 : UInt64) - (UInt64.ofNat k &&& 31)).toNat = 32 - k := by
  have h1 := and31 k h
  have e : (32 : UInt64).toNat = 32 := by decide
  rw [UInt64.toNat_sub, h1, e]
  omega
theorem splice_len {α : Type} (L : List α) (o : Nat) (cs : List α) (h : o + cs.length ≤ L.length) : (splice L o cs).length = L.length := length_splice L o cs h
end Go.Kw
namespace Go.Kw
/-- The words of a state, and a state's octets. -/
def wordsF (s : List UInt8) (k : Nat) : UInt32 := word4 ((s.drop (4 * k)).take 4)
def wordsL (s : List UInt8) : List UInt32 := (List.range 16).map (wordsF s)
def stateL (ws : List UInt32) : List UInt8 := ((List.range 16).map fun j => octs (gt ws j)).flatten
@[simp] theorem wordsL_len (s : List UInt8) : (wordsL s).length = 16 := by simp [wordsL]
theorem flat_len {α : Type} (c : Nat) : ∀ (ls : List (List α)), (∀ l ∈ ls, l.length = c) → ls.flatten.length = c * ls.length := by
  intro ls
  induction ls with
  | nil => intro _; simp
  | cons l ls ih =>
    intro h
    have h0 := h l (by simp)
    have := ih (fun m hm => h m (by simp [hm]))
    simp only [List.flatten_cons, List.length_append, List.length_cons, this, h0, Nat.mul_add]
    omega
@[simp] theorem stateL_len (ws : List UInt32) : (stateL ws).length = 64 := by
  unfold stateL
  rw [flat_len 4 _ (by intro l hl; obtain ⟨j, _, rfl⟩ := List.mem_map.1 hl; rfl)]
  simp
def stateTo (ws : List UInt32) (k : Nat) : List UInt8 := (upto 16 (fun j => octs (gt ws j)) [0, 0, 0, 0] k).flatten
theorem upto_mem {α : Type} {n : Nat} {f : Nat → α} {z : α} {k : Nat} {x : α} (h : x ∈ upto n f z k) : (∃ j, x = f j) ∨ x = z := by
  obtain ⟨j, _, rfl⟩ := List.mem_map.1 h
  split
  · exact .inl ⟨_, rfl⟩
  · exact .inr rfl
theorem stateTo_four (ws : List UInt32) (k : Nat) : ∀ l ∈ upto 16 (fun j => octs (gt ws j)) [0, 0, 0, 0] k, l.length = 4 := by
  intro l hl
  rcases upto_mem hl with ⟨j, rfl⟩ | rfl <;> rfl
@[simp] theorem stateTo_len (ws : List UInt32) (k : Nat) : (stateTo ws k).length = 64 := by
  unfold stateTo
  rw [flat_len 4 _ (stateTo_four ws k)]
  simp
theorem stateTo_zero (ws : List UInt32) : stateTo ws 0 = List.replicate 64 0 := by
  unfold stateTo
  rw [upto_zero]
  rfl
theorem stateTo_full (ws : List UInt32) : stateTo ws 16 = stateL ws := by
  unfold stateTo stateL
  rw [upto_full]
theorem stateTo_step (ws : List UInt32) (k : Nat) (h : k < 16) : splice (stateTo ws k) (4 * k) (octs (gt ws k)) = stateTo ws (k + 1) := by
  unfold stateTo
  rw [flat_splice 4 _ _ _ (stateTo_four ws k) (by simpa using h) rfl, upto_set _ _ _ _ h]
end Go.Kw
namespace Go.Kw
/-- One step of the stirring, and one back. -/
def stirStep (w : List UInt32) (r i : Nat) : List UInt32 :=
  let w1 := w.set i (gt w i + turnW w r i)
  w1.set ((i + 9) % 16) (gt w1 ((i + 9) % 16) ^^^ rotl (gt w1 i) 11)
def unStep (w : List UInt32) (r i : Nat) : List UInt32 :=
  let w1 := w.set ((i + 9) % 16) (gt w ((i + 9) % 16) ^^^ rotl (gt w i) 11)
  w1.set i (gt w1 i - turnW w1 r i)
def stirIn (w : List UInt32) (r : Nat) : Nat → List UInt32
  | 0 => w
  | i + 1 => stirStep (stirIn w r i) r i
def stirOut (w : List UInt32) : Nat → List UInt32
  | 0 => w
  | r + 1 => stirIn (stirOut w r) r 16
def unIn (w : List UInt32) (r : Nat) : Nat → List UInt32
  | 0 => w
  | k + 1 => unStep (unIn w r k) r (15 - k)
def unOut (w : List UInt32) : Nat → List UInt32
  | 0 => w
  | k + 1 => unIn (unOut w k) (7 - k) 16
def stirL (s : List UInt8) : List UInt8 := stateL (stirOut (wordsL s) 8)
def unstirL (s : List UInt8) : List UInt8 := stateL (unOut (wordsL s) 8)
@[simp] theorem stirStep_len (w : List UInt32) (r i : Nat) : (stirStep w r i).length = w.length := by simp [stirStep]
@[simp] theorem unStep_len (w : List UInt32) (r i : Nat) : (unStep w r i).length = w.length := by simp [unStep]
@[simp] theorem stirIn_len (w : List UInt32) (r i : Nat) : (stirIn w r i).length = w.length := by induction i <;> simp_all [stirIn]
@[simp] theorem stirOut_len (w : List UInt32) (r : Nat) : (stirOut w r).length = w.length := by induction r <;> simp_all [stirOut]
@[simp] theorem unIn_len (w : List UInt32) (r i : Nat) : (unIn w r i).length = w.length := by induction i <;> simp_all [unIn]
@[simp] theorem unOut_len (w : List UInt32) (r : Nat) : (unOut w r).length = w.length := by induction r <;> simp_all [unOut]
@[simp] theorem stirL_len (s : List UInt8) : (stirL s).length = 64 := by simp [stirL]
@[simp] theorem unstirL_len (s : List UInt8) : (unstirL s).length = 64 := by simp [unstirL]

/-! ### Each step undoes the other -/
end Go.Kw
namespace Go.Kw
def hexDs : List UInt8 := [48, 49, 50, 51, 52, 53, 54, 55, 56, 57, 97, 98, 99, 100, 101, 102]
def hexd (c : UInt8) : List UInt8 := [gt hexDs (c >>> 4).toNat, gt hexDs (c &&& 15).toNat]
def hexL (bs : List UInt8) : List UInt8 := bs.flatMap hexd
@[simp] theorem hexd_len (c : UInt8) : (hexd c).length = 2 := rfl
@[simp] theorem hexL_len (bs : List UInt8) : (hexL bs).length = 2 * bs.length := by
  induction bs with
  | nil => rfl
  | cons c bs ih => simp only [hexL, List.flatMap_cons, List.length_append] at ih ⊢; rw [ih]; simp [hexd]; omega
theorem take_snoc {α : Type} [Inhabited α] (l : List α) (k : Nat) (h : k < l.length) : l.take (k + 1) = l.take k ++ [gt l k] := by
  rw [List.take_succ_eq_append_getElem h, gt_eq l k h]
theorem hexL_step (bs : List UInt8) (k : Nat) (h : k < bs.length) : hexL (bs.take (k + 1)) = hexL (bs.take k) ++ hexd (gt bs k) := by
  rw [take_snoc bs k h]; simp [hexL]
theorem shr4_lt (c : UInt8) : (c >>> (UInt8.ofNat 4)).toNat < 16 := by
  have := c.toNat_lt
  rw [UInt8.toNat_shiftRight, show (UInt8.ofNat 4).toNat % 8 = 4 from rfl, Nat.shiftRight_eq_div_pow]
  omega
theorem and15_lt (c : UInt8) : (c &&& 15).toNat < 16 := by
  rw [UInt8.toNat_and]
  exact Nat.lt_of_le_of_lt Nat.and_le_right (by decide)
end Go.Kw
namespace Go.Kw
/-! ### The reference's words and octets are the same -/
def rwTo (s : List UInt8) : Nat → List UInt32
  | 0 => List.replicate 16 0
  | k + 1 => (rwTo s k).set (k / 4) (gt (rwTo s k) (k / 4) <<< (UInt32.ofNat 8) ||| (gt s k).toUInt32)
@[simp] theorem rwTo_len (s : List UInt8) (k : Nat) : (rwTo s k).length = 16 := by induction k <;> simp_all [rwTo]
theorem four_words (a b c d : UInt32) : (((((0 : UInt32) <<< (UInt32.ofNat 8) ||| a) <<< (UInt32.ofNat 8) ||| b) <<< (UInt32.ofNat 8) ||| c) <<< (UInt32.ofNat 8) ||| d) = ((a <<< 24 ||| b <<< 16) ||| c <<< 8) ||| d := by
  have h8 : UInt32.ofNat 8 = 8 := rfl
  rw [h8]
  apply UInt32.eq_of_toBitVec_eq
  simp only [UInt32.toBitVec_or, UInt32.toBitVec_shiftLeft]
  have e8 : (UInt32.toBitVec 8 % 32) = (8 : BitVec 32) := rfl
  have e16 : (UInt32.toBitVec 16 % 32) = (16 : BitVec 32) := rfl
  have e24 : (UInt32.toBitVec 24 % 32) = (24 : BitVec 32) := rfl
  rw [e8, e16, e24]
  generalize a.toBitVec = a, b.toBitVec = b, c.toBitVec = c, d.toBitVec = d
  have s8 : ∀ x : BitVec 32, x <<< (8 : BitVec 32) = x <<< 8 := fun _ => rfl
  have s16 : ∀ x : BitVec 32, x <<< (16 : BitVec 32) = x <<< 16 := fun _ => rfl
  have s24 : ∀ x : BitVec 32, x <<< (24 : BitVec 32) = x <<< 24 := fun _ => rfl
  simp only [s8, s16, s24, BitVec.shiftLeft_or_distrib, ← BitVec.shiftLeft_add]
  have z : UInt32.toBitVec 0 = 0#32 := rfl
  rw [z]
  simp
theorem rwTo_four (s : List UInt8) (hs : s.length = 64) : ∀ j, j ≤ 16 → rwTo s (4 * j) = upto 16 (wordsF s) 0 j := by
  intro j
  induction j with
  | zero => intro _; rw [upto_zero]; rfl
  | succ j ih =>
    intro hj
    have hj' : j < 16 := by omega
    have e0 := ih (by omega)
    have d0 : (4 * j) / 4 = j := by omega
    have d1 : (4 * j + 1) / 4 = j := by omega
    have d2 : (4 * j + 2) / 4 = j := by omega
    have d3 : (4 * j + 3) / 4 = j := by omega
    have g0 : gt (upto 16 (wordsF s) 0 j) j = 0 := by
      rw [gt_eq _ _ (by simpa using hj')]
      simp [upto]
    have step : ∀ k (u : List UInt32) (x : UInt32), u.length = 16 → rwTo s k = u.set j x → k / 4 = j → rwTo s (k + 1) = u.set j (x <<< (UInt32.ofNat 8) ||| (gt s k).toUInt32) := by
      intro k u x hu h hk
      rw [rwTo, hk, h, List.set_set, gt_set, if_pos ⟨rfl, by omega⟩]
    have f0 : rwTo s (4 * j) = (upto 16 (wordsF s) 0 j).set j 0 := by
      rw [e0]
      apply ext_gt (by simp)
      intro m hm
      rw [gt_set]
      split
      · rename_i h; rw [← h.1, g0]
      · rfl
    have f1 := step _ _ _ (by simp) f0 d0
    have f2 := step _ _ _ (by simp) f1 d1
    have f3 := step _ _ _ (by simp) f2 d2
    have f4 := step _ _ _ (by simp) f3 d3
    have hd : ∀ m, m < 4 → gt ((s.drop (4 * j)).take 4) m = gt s (4 * j + m) := by
      intro m hm
      rw [gt_eq _ _ (by simp; omega), gt_eq _ _ (by omega)]
      simp
    have hw : wordsF s j = (((gt s (4 * j)).toUInt32 <<< 24 ||| (gt s (4 * j + 1)).toUInt32 <<< 16) ||| (gt s (4 * j + 2)).toUInt32 <<< 8) ||| (gt s (4 * j + 3)).toUInt32 := by
      simp only [wordsF, word4]
      rw [hd 0 (by omega), hd 1 (by omega), hd 2 (by omega), hd 3 (by omega), Nat.add_zero]
    rw [show 4 * (j + 1) = 4 * j + 3 + 1 from by omega, f4, ← upto_set _ _ _ _ hj', hw, four_words]
theorem rwTo_full (s : List UInt8) (hs : s.length = 64) : rwTo s 64 = wordsL s := by
  rw [show 64 = 4 * 16 from rfl, rwTo_four s hs 16 (Nat.le_refl _), upto_full]; rfl
def roF (ws : List UInt32) (i : Nat) : UInt8 := (gt ws (i / 4) >>> (UInt32.ofNat (24 - 8 * (i % 4)))).toUInt8
theorem flat_get {α : Type} [Inhabited α] (c : Nat) (hc : 0 < c) : ∀ (ls : List (List α)), (∀ l ∈ ls, l.length = c) → ∀ i, i < c * ls.length → gt ls.flatten i = gt (gt ls (i / c)) (i % c) := by
  intro ls
  induction ls with
  | nil => intro _ i h; simp at h
  | cons l ls ih =>
    intro h i hi
    have h0 := h l (by simp)
    have hfl := flat_len c ls (fun m hm => h m (by simp [hm]))
    simp only [List.length_cons, Nat.mul_add, Nat.mul_one] at hi
    by_cases hlt : i < c
    · have e1 : i / c = 0 := Nat.div_eq_of_lt hlt
      have e2 : i % c = i := Nat.mod_eq_of_lt hlt
      rw [e1, e2]
      rw [gt_eq _ _ (by simp [hfl]; omega), gt_eq (l :: ls) 0 (by simp), gt_eq _ _ (by simp [h0, hlt])]
      simp [List.getElem_append_left, h0, hlt]
    · have e1 : i / c = (i - c) / c + 1 := by
        have : i = (i - c) + c := by omega
        rw [this, Nat.add_div_right _ hc]; simp
      have e2 : i % c = (i - c) % c := by
        have : i = (i - c) + c := by omega
        rw [this, Nat.add_mod_right]; simp
      have ih' := ih (fun m hm => h m (by simp [hm])) (i - c) (by omega)
      have g1 : gt (l :: ls).flatten i = gt ls.flatten (i - c) := by
        rw [gt_eq _ _ (by simp [hfl]; omega), gt_eq _ _ (by rw [hfl]; omega)]
        simp [List.getElem_append_right, h0, Nat.le_of_not_lt hlt]
      have g2 : gt (l :: ls) ((i - c) / c + 1) = gt ls ((i - c) / c) := by simp [gt]
      rw [g1, ih', e1, e2, g2]
theorem ro_full (ws : List UInt32) : (List.range 64).map (roF ws) = stateL ws := by
  have hm : ∀ l ∈ (List.range 16).map fun j => octs (gt ws j), l.length = 4 := by
    intro l hl; obtain ⟨j, _, rfl⟩ := List.mem_map.1 hl; rfl
  apply ext_gt (by simp)
  intro i hi
  simp at hi
  unfold stateL
  rw [flat_get 4 (by omega) _ hm i (by simpa using hi)]
  rw [gt_eq ((List.range 64).map (roF ws)) i (by simpa using hi), gt_eq ((List.range 16).map fun j => octs (gt ws j)) (i / 4) (by simp; omega)]
  simp only [List.getElem_map, List.getElem_range, roF]
  have h4 : i % 4 < 4 := by omega
  rcases (by omega : i % 4 = 0 ∨ i % 4 = 1 ∨ i % 4 = 2 ∨ i % 4 = 3) with h | h | h | h <;> rw [h]
  · rfl
  · rfl
  · rfl
  · have : ∀ x : UInt32, (x >>> (UInt32.ofNat (24 - 8 * 3))).toUInt8 = x.toUInt8 := by
      intro x
      have : UInt32.ofNat (24 - 8 * 3) = 0 := rfl
      rw [this]; simp
    rw [this]
    rfl
def rTurnW (w : List UInt32) (r i : Nat) : UInt32 := rotl (gt w ((i + 1 + r) % 16)) (5 + i) ^^^ (2654435769 * UInt32.ofNat (16 * r + i + 1))
theorem rTurnW_eq (w : List UInt32) (r i : Nat) : rTurnW w r i = turnW w r i := by
  unfold rTurnW turnW
  congr 1
  rw [UInt64.toUInt32_mul]
  congr 1
  apply UInt32.toNat_inj.1
  rw [UInt64.toNat_toUInt32, UInt64.toNat_ofNat', UInt32.toNat_ofNat']
  omega
end Go.Kw
namespace Go.Kw
/-! ### Words as numbers -/
theorem octs_nat (x : UInt32) : (octs x).map UInt8.toNat = [x.toNat / 16777216 % 256, x.toNat / 65536 % 256, x.toNat / 256 % 256, x.toNat % 256] := by
  have e24 : (UInt32.toNat 24 % 32) = 24 := rfl
  have e16 : (UInt32.toNat 16 % 32) = 16 := rfl
  have e8 : (UInt32.toNat 8 % 32) = 8 := rfl
  simp only [octs, List.map_cons, List.map_nil, UInt32.toNat_toUInt8, UInt32.toNat_shiftRight, e24, e16, e8, Nat.shiftRight_eq_div_pow]
end Go.Kw
