/- Streams and covers, as plain functions. No condition. -/
import Derived.Test.YtfohfnpehfcaaaaMem5
import Derived.Test.YtfohfnpehfcaaaaTake
namespace Go.Kw
set_option linter.unusedVariables false
set_option linter.unusedSimpArgs false

/-- Eight octets of a number, an octet a shift. -/
def longR (n : Nat) : List UInt8 := (List.range 8).map fun i => UInt8.ofNat (n / 2 ^ (56 - 8 * i))
theorem longR_eq (n : Nat) (h : n < 18446744073709551616) : longR n = octs8 (UInt64.ofNat n) := by
  have hinj : ∀ l m : List UInt8, l.map UInt8.toNat = m.map UInt8.toNat → l = m := fun l m hlm => List.map_inj_right (fun a b hab => UInt8.toNat_inj.1 hab) |>.1 hlm
  apply hinj
  have e : (UInt64.ofNat n).toNat = n := by simp; omega
  rw [octs8, List.map_append, octs_nat, octs_nat]
  simp only [UInt64.toNat_toUInt32, UInt64.toNat_shiftRight, Nat.shiftRight_eq_div_pow, e]
  rw [show (32 : UInt64).toNat % 64 = 32 from rfl]
  simp only [longR, List.map_map, List.range, List.range.loop, List.map_cons, List.map_nil, Function.comp, UInt8.toNat_ofNat', List.cons_append, List.nil_append, List.cons.injEq, and_true, Nat.reduceMul, Nat.reduceSub, Nat.reducePow]
  omega

theorem pre1_len (k : List UInt8) (hk : k.length = 32) : (splice (List.replicate 64 (0 : UInt8)) 0 k).length = 64 := by rw [splice_len _ _ _ (by simp [hk])]; simp
theorem pre2_len (k n : List UInt8) (hk : k.length = 32) (hn : n.length = 16) : (splice (splice (List.replicate 64 (0 : UInt8)) 0 k) 32 n).length = 64 := by rw [splice_len _ _ _ (by rw [pre1_len k hk, hn]; decide), pre1_len k hk]
theorem pre3_len (k n : List UInt8) (x : UInt64) (hk : k.length = 32) (hn : n.length = 16) : (splice (splice (splice (List.replicate 64 (0 : UInt8)) 0 k) 32 n) 56 (octs8 x)).length = 64 := by rw [splice_len _ _ _ (by rw [pre2_len k n hk hn]; simp), pre2_len k n hk hn]
def blkL (k n : List UInt8) (i : Nat) : List UInt8 := stirL (splice (splice (splice (List.replicate 64 0) 0 k) 32 n) 56 (octs8 (UInt64.ofNat i)))
@[simp] theorem blkL_len (k n : List UInt8) (i : Nat) : (blkL k n i).length = 64 := by simp [blkL]
def strO (k n : List UInt8) (j : Nat) : UInt8 := gt (blkL k n (j / 64)) (j % 64)
def streamL (k n : List UInt8) (fr m : Nat) : List UInt8 := (List.range m).map fun t => strO k n (fr + t)
@[simp] theorem streamL_len (k n : List UInt8) (fr m : Nat) : (streamL k n fr m).length = m := by simp [streamL]
theorem stream_step (k n : List UInt8) (fr m q : Nat) (hq : q + (fr + m) % 64 ≤ 64) : streamL k n fr m ++ ((blkL k n ((fr + m) / 64)).drop ((fr + m) % 64)).take q = streamL k n fr (m + q) := by
  unfold streamL
  rw [List.range_add, List.map_append]
  congr 1
  apply ext_gt
  · simp; omega
  · intro i hi
    have hi' : i < q := by simp at hi; omega
    rw [gt_take _ _ _ hi', gt_drop, List.map_map, gt_eq (List.map _ (List.range q)) i (by simpa using hi')]
    simp only [List.getElem_map, List.getElem_range, Function.comp, strO]
    congr 2 <;> omega

def coverTo (k n text : List UInt8) (j : Nat) : List UInt8 := (List.range text.length).map fun i => if i < j then strO k n i ^^^ gt text i else strO k n i
def coverL (k n text : List UInt8) : List UInt8 := coverTo k n text text.length
@[simp] theorem coverTo_len (k n text : List UInt8) (j : Nat) : (coverTo k n text j).length = text.length := by simp [coverTo]
@[simp] theorem coverL_len (k n text : List UInt8) : (coverL k n text).length = text.length := by simp [coverL]
theorem cover_zero (k n text : List UInt8) : streamL k n 0 text.length = coverTo k n text 0 := by simp [coverTo, streamL]
theorem gt_cover (k n text : List UInt8) (j i : Nat) (h : i < text.length) : gt (coverTo k n text j) i = if i < j then strO k n i ^^^ gt text i else strO k n i := by
  rw [gt_eq _ i (by simpa using h)]; simp [coverTo]
theorem cover_step (k n text : List UInt8) (j : Nat) (h : j < text.length) : (coverTo k n text j).set j (gt (coverTo k n text j) j ^^^ gt text j) = coverTo k n text (j + 1) := by
  apply ext_gt
  · simp
  · intro i hi
    have hi' : i < text.length := by simpa using hi
    rw [gt_set, gt_cover _ _ _ _ _ hi', gt_cover _ _ _ _ _ hi', gt_cover _ _ _ _ _ h]
    by_cases hij : j = i
    · subst hij; simp [hi']
    · by_cases h2 : i < j
      · simp [hij, h2, Nat.lt_succ_of_lt h2]
      · simp [hij, h2, show ¬ i < j + 1 by omega]
theorem cover_cover (k n text : List UInt8) : coverL k n (coverL k n text) = text := by
  apply ext_gt
  · simp
  · intro i hi
    have hi' : i < text.length := by simpa using hi
    have h1 : i < (coverL k n text).length := by simpa using hi'
    rw [coverL, gt_cover _ _ _ _ _ h1, if_pos h1, coverL, gt_cover _ _ _ _ _ hi', if_pos hi', ← UInt8.xor_assoc, UInt8.xor_self, UInt8.zero_xor]
end Go.Kw
