/- What the law's proof leans on. No condition. -/
import Derived.Test.YtjnnhlbfgnopiaaGreatDoorPCAU
import Derived.Test.YtjnnhlbfgnopiaaGreatDoorPCAW
import Derived.Test.YtjnnhlbfgnopiaaGreatDoorPCAG
import Derived.Test.YtjnnhlbfgnopiaaGreatDoorPCAO
namespace Go.Kw
open Go.Lib
set_option linter.unusedVariables false
set_option linter.unusedSimpArgs false
def textL (s : List UInt8) : List UInt8 := UInt8.ofNat s.length :: s
def numX (x : BodyD) : Nat → Int
  | 6 => x.pu
  | 7 => x.re
  | 8 => x.ne
  | _ => x.ve
def part (x : BodyD) : Nat → List UInt8
  | 0 => x.tx
  | 1 => x.mb
  | 2 => UInt8.ofNat x.ro.length :: x.ro.flatMap textL
  | 3 => textL x.lb
  | 4 => x.cm
  | 5 => octs (UInt32.ofNat x.ep.toNat)
  | 9 => UInt8.ofNat x.ho.length :: x.ho.flatten
  | 11 => octs8 (UInt64.ofNat x.ct.toNat)
  | i => [UInt8.ofNat (numX x i).toNat]
/-- A body that is as it should be, for an act. -/
structure BodyGood (a : Nat) (x : BodyD) : Prop where
  a1 : 1 ≤ a
  a2 : a < 13
  no : ex x (needF a) 12 = false
  tx : x.tx.length ≤ 32768
  rn : x.ro.length ≤ 16
  hn : x.ho.length ≤ 32
  ro : rolesE x.ro = 0
  lb : ¬ (needF a 3 = true ∧ nameE x.lb = false)
  rg : ¬ rangeBad (needF a) x
  ho : holdersE x.ho = 0
namespace BodyGood
variable {a : Nat} {x : BodyD}
theorem zero (h : BodyGood a x) {i : Nat} (hi : i < 12) (hf : needF a i = false) : setB x i = false := ex_no 12 h.no i hi hf
theorem pu (h : BodyGood a x) : 0 ≤ x.pu ∧ x.pu ≤ 3 := by
  cases h3 : needF a 6 with
  | true =>
    have := h.rg
    by_cases ho : outI x.pu 1 3
    · exact absurd (.inl ⟨h3, ho⟩) this
    · unfold outI at ho; omega
  | false =>
    have := Decidable.of_not_not (of_decide_eq_false (h.zero (i := 6) (by omega) h3))
    omega
theorem re (h : BodyGood a x) : 0 ≤ x.re ∧ x.re ≤ 255 := by
  by_cases ho : outI x.re 0 255
  · exact absurd (.inr (.inl ho)) h.rg
  · unfold outI at ho; omega
theorem ve (h : BodyGood a x) : 0 ≤ x.ve ∧ x.ve ≤ 255 := by
  by_cases ho : outI x.ve 0 255
  · exact absurd (.inr (.inr (.inl ho))) h.rg
  · unfold outI at ho; omega
theorem ne (h : BodyGood a x) : 0 ≤ x.ne ∧ x.ne ≤ 32 := by
  cases h3 : needF a 8 with
  | true =>
    by_cases ho : outI x.ne 1 32
    · exact absurd (.inr (.inr (.inr (.inl ⟨h3, ho⟩)))) h.rg
    · unfold outI at ho; omega
  | false =>
    have := Decidable.of_not_not (of_decide_eq_false (h.zero (i := 8) (by omega) h3))
    omega
theorem ep (h : BodyGood a x) : 0 ≤ x.ep ∧ x.ep ≤ 4294967295 := by
  by_cases ho : outI x.ep 0 4294967295
  · exact absurd (.inr (.inr (.inr (.inr (.inl ho))))) h.rg
  · unfold outI at ho; omega
theorem ct (h : BodyGood a x) : 0 ≤ x.ct ∧ x.ct ≤ 65536 := by
  by_cases ho : outI x.ct 0 65536
  · exact absurd (.inr (.inr (.inr (.inr (.inr ho))))) h.rg
  · unfold outI at ho; omega
end BodyGood
section
variable {P : Program} {ρ : Operand → Value} {w : World} {dst : Option Tmp} {ty : TypeId} {pos : String} {aft : Array Edge} {g : Option (Nat × Bool)} {x : Operand} {T T2 : TypeId}
end
/-! ### Four numbers that may be said -/
/-! ### Lists, printed one by one -/
end Go.Kw
