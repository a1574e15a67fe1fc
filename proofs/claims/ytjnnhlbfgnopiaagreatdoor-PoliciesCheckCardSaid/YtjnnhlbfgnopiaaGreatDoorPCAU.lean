/- What the law's proof leans on. No condition. -/
import Derived.Test.YtjnnhlbfgnopiaaGreatDoorPCAP
import Derived.Test.YtjnnhlbfgnopiaaGreatDoorPCAO
import Derived.Test.YtjnnhlbfgnopiaaGreatDoorPCAT
namespace Go.Kw
open Go.Lib
set_option linter.unusedVariables false
set_option linter.unusedSimpArgs false
structure BodyD where
  tx : List UInt8
  mb : List UInt8
  ra : Option Addr
  ro : List (List UInt8)
  rc : Nat
  lb : List UInt8
  cm : List UInt8
  ep : Int
  pu : Int
  re : Int
  ne : Int
  ve : Int
  ct : Int
  ha : Option Addr
  ho : List (List UInt8)
  hc : Nat
def BodyD.mid (x : BodyD) : List Value := [.slice x.ra x.ro.length x.rc, sv x.lb]
def BodyD.tl (x : BodyD) : List Value := [iv x.ep, iv x.pu, iv x.re, iv x.ne, iv x.ve, iv x.ct, .slice x.ha x.ho.length x.hc]
def BodyD.v (x : BodyD) : List Value := [sv x.tx] ++ (x.mb.map b8 ++ (x.mid ++ (x.cm.map b8 ++ x.tl)))
structure BodyOk (x : BodyD) : Prop where
  mb : x.mb.length = 16
  cm : x.cm.length = 32
  h16 : SN 16 x.ho
  rc : x.ro.length ≤ x.rc
  rn : x.ro.length ≤ 140737488351232
  rl : ∀ s ∈ x.ro, s.length ≤ 9223372036854775807
  hc : x.ho.length ≤ x.hc
  hn : x.ho.length ≤ 8796093021952
  tl : x.tx.length ≤ 9223372036854775807
  ll : x.lb.length ≤ 9223372036854775807
section
variable {x : BodyD}
variable {w : World} {b : Nat} {E : TypeId} {fr : Nat × Nat}
end
/-! ### What an act needs -/
def needT : List (List Nat) := [[0], [1, 2], [1], [3, 4], [5, 4], [6, 5, 4], [7], [4], [8, 9, 5, 4], [9, 5, 4], [10, 4], [10, 11, 4]]
def needF (a : Nat) (i : Nat) : Bool := (gt needT (a - 1)).contains i
def setB (x : BodyD) : Nat → Bool
  | 0 => decide (¬ x.tx = [])
  | 1 => decide (¬ x.mb = List.replicate 16 0)
  | 2 => decide (0 < x.ro.length)
  | 3 => decide (¬ x.lb = [])
  | 4 => decide (¬ x.cm = List.replicate 32 0)
  | 5 => decide (¬ x.ep = 0)
  | 6 => decide (¬ x.pu = 0)
  | 7 => decide (¬ x.re = 0)
  | 8 => decide (¬ x.ne = 0)
  | 9 => decide (0 < x.ho.length)
  | 10 => decide (¬ x.ve = 0)
  | _ => decide (¬ x.ct = 0)
/-- Is one of the first fields set that the act does not need? -/
def ex (x : BodyD) (f : Nat → Bool) : Nat → Bool
  | 0 => false
  | i + 1 => ex x f i || (!(f i) && setB x i)
theorem ex_no {x : BodyD} {f : Nat → Bool} : ∀ n, ex x f n = false → ∀ i, i < n → f i = false → setB x i = false
  | 0, _, i, hi, _ => by omega
  | n + 1, h, i, hi, hf => by
    rw [ex, Bool.or_eq_false_iff] at h
    by_cases e : i = n
    · subst e
      have := h.2
      rw [hf] at this
      simpa using this
    · exact ex_no n h.1 i (by omega) hf
/-! ### What is wrong -/
def firstI (f : Nat → Int) : Nat → Nat → Int
  | 0, _ => 0
  | n + 1, i => if f i = 0 then firstI f n (i + 1) else f i
open Classical in
noncomputable def roleAt (l : List (List UInt8)) (i : Nat) : Int := if nameE (gt l i) = false then 6 else if 0 < i ∧ ¬ Op.bytesLess (gt l (i - 1)) (gt l i) = true then 9 else 0
noncomputable def rolesE (l : List (List UInt8)) : Int := firstI (roleAt l) l.length 0
def holdAt (l : List (List UInt8)) (i : Nat) : Int := if 0 < i ∧ 0 ≤ compareBytes (gt l (i - 1)) (gt l i) then 9 else 0
def holdersE (l : List (List UInt8)) : Int := firstI (holdAt l) l.length 0
def outI (n lo hi : Int) : Prop := n < lo ∨ hi < n
def rangeBad (f : Nat → Bool) (x : BodyD) : Prop := (f 6 = true ∧ outI x.pu 1 3) ∨ outI x.re 0 255 ∨ outI x.ve 0 255 ∨ (f 8 = true ∧ outI x.ne 1 32) ∨ outI x.ep 0 4294967295 ∨ outI x.ct 0 65536
open Classical in
/-- What is wrong with a body of an act. -/
noncomputable def bodyE (act : Int) (x : BodyD) : Int :=
  if act < 1 ∨ 12 < act then 3
  else if ex x (needF act.toNat) 12 = true then 2
  else if 32768 < x.tx.length ∨ 16 < x.ro.length ∨ 32 < x.ho.length then 5
  else if ¬ rolesE x.ro = 0 then rolesE x.ro
  else if needF act.toNat 3 = true ∧ nameE x.lb = false then 6
  else if rangeBad (needF act.toNat) x then 4
  else holdersE x.ho
section
variable {x : BodyD} {act : Int}
end
/-! ### The reference's form -/
section
variable {P : Program} {ρ : Operand → Value} {w w0 : World} {M : List Nat} {L : List Item} {dst : Option Tmp} {ty : TypeId} {pos : String} {aft : Array Edge} {g : Option (Nat × Bool)} {T E : TypeId} {dE : TypeDesc} {sz bts : Nat} {zv : Value}
end
end Go.Kw
