/- What the law's proof leans on. No condition. -/
import Derived.Test.YtjnnhlbfgnopiaaGreatDoorPAAF
import Derived.Test.YtjnnhlbfgnopiaaGreatDoorPAAM
namespace Go.Kw
set_option linter.unusedVariables false
set_option linter.unusedSimpArgs false

def blkL (k n : List UInt8) (i : Nat) : List UInt8 := stirL (splice (splice (splice (List.replicate 64 0) 0 k) 32 n) 56 (octs8 (UInt64.ofNat i)))
@[simp] theorem blkL_len (k n : List UInt8) (i : Nat) : (blkL k n i).length = 64 := by simp [blkL]
def strO (k n : List UInt8) (j : Nat) : UInt8 := gt (blkL k n (j / 64)) (j % 64)
def streamL (k n : List UInt8) (fr m : Nat) : List UInt8 := (List.range m).map fun t => strO k n (fr + t)
@[simp] theorem streamL_len (k n : List UInt8) (fr m : Nat) : (streamL k n fr m).length = m := by simp [streamL]
def coverTo (k n text : List UInt8) (j : Nat) : List UInt8 := (List.range text.length).map fun i => if i < j then strO k n i ^^^ gt text i else strO k n i
def coverL (k n text : List UInt8) : List UInt8 := coverTo k n text text.length
@[simp] theorem coverTo_len (k n text : List UInt8) (j : Nat) : (coverTo k n text j).length = text.length := by simp [coverTo]
@[simp] theorem coverL_len (k n text : List UInt8) : (coverL k n text).length = text.length := by simp [coverL]
end Go.Kw
