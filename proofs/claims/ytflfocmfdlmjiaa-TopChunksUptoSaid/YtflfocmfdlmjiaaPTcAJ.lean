/- What the law's proof leans on. No condition. -/
import Derived.Test.YtflfocmfdlmjiaaPTcAG
import Derived.Test.YtflfocmfdlmjiaaPTcAI
namespace Go.Kw
set_option linter.unusedVariables false
set_option linter.unusedSimpArgs false

/-- Eight octets of a number, an octet a shift. -/
def longR (n : Nat) : List UInt8 := (List.range 8).map fun i => UInt8.ofNat (n / 2 ^ (56 - 8 * i))
theorem longR_eq (n : Nat) (h : n < 18446744073709551616) : longR n = octs8 (UInt64.ofNat n) := by
  have hinj : ∀ l m : List UInt8, l.map UInt8.toNat = m.map UInt8.toNat → l = m := fun l m hlm => List.map_inj_right (fun a b hab => UInt8.toNat_inj.1 hab) |>.1 hlm
  apply hinj
  have e : (UInt64.ofNat n).toNat = n := by simp; omega
  rw [octs8, List.map_append, octs_nat, octs_nat]
  simp only [UInt64.toNat_toUInt32, UInt64.toNat_shiftRight, Nat.shiftRight_eq_div_pow, e]
  rw [show (32 : UInt64).toNat % 64 = 32 from rfl]
  simp only [longR, List.map_map, List.range, List.range.loop, List.map_cons, List.map_nil, Function.comp, UInt8.toNat_ofNat', List.cons_append, List.nil_append, List.cons.injEq, and_true, Nat.reduceMul, Nat.reduceSub, Nat.reducePow]
  omega

def blkL (k n : List UInt8) (i : Nat) : List UInt8 := stirL (splice (splice (splice (List.replicate 64 0) 0 k) 32 n) 56 (octs8 (UInt64.ofNat i)))
@[simp] theorem blkL_len (k n : List UInt8) (i : Nat) : (blkL k n i).length = 64 := by simp [blkL]
def strO (k n : List UInt8) (j : Nat) : UInt8 := gt (blkL k n (j / 64)) (j % 64)
def streamL (k n : List UInt8) (fr m : Nat) : List UInt8 := (List.range m).map fun t => strO k n (fr + t)
@[simp] theorem streamL_len (k n : List UInt8) (fr m : Nat) : (streamL k n fr m).length = m := by simp [streamL]
def coverTo (k n text : List UInt8) (j : Nat) : List UInt8 := (List.range text.length).map fun i => if i < j then strO k n i ^^^ gt text i else strO k n i
def coverL (k n text : List UInt8) : List UInt8 := coverTo k n text text.length
@[simp] theorem coverTo_len (k n text : List UInt8) (j : Nat) : (coverTo k n text j).length = text.length := by simp [coverTo]
@[simp] theorem coverL_len (k n text : List UInt8) : (coverL k n text).length = text.length := by simp [coverL]
end Go.Kw
