/- What the law's proof leans on. No condition. -/
import Derived.Test.YtbjjfpaiffckiaaDoorPFGAR
import Derived.Lib.LaidTab
namespace Go.Kw
open Go.Lib
set_option linter.unusedVariables false
set_option linter.unusedSimpArgs false
def dbTab : List UInt8 := [0, 1, 56, 2, 57, 49, 28, 3, 61, 58, 42, 50, 38, 29, 17, 4, 62, 47, 59, 36, 45, 43, 51, 22, 53, 39, 33, 30, 24, 18, 12, 5, 63, 55, 48, 27, 60, 41, 37, 16, 46, 35, 44, 21, 52, 32, 23, 11, 54, 26, 40, 15, 34, 20, 31, 10, 25, 14, 19, 9, 13, 8, 7, 6]
section
variable {P : Program} {ρ : Operand → Value} {w : World} {dst : Option Tmp} {ty : TypeId} {pos : String} {aft : Array Edge} {g : Option (Nat × Bool)} {x y : Operand} {T T2 : TypeId}
theorem r_neg64 {a : UInt64} (hx : ρ x = v64 a) : (execOp ρ ⟨dst, .unOp .neg T x, ty, pos, aft, g⟩).run P w = .ok (.value (v64 (0 - a))) w := by
  have h := a.toNat_lt
  have e : ((0 - (a.toNat : Int)) % 18446744073709551616) = ((0 - a : UInt64).toNat : Int) := by
    rw [UInt64.toNat_sub]
    have h0 : (0 : UInt64).toNat = 0 := rfl
    rw [h0]
    omega
  have e2 : (Op.intArith .sub .u64 0 (a.toNat : Int)).run P w = .ok (v64 (0 - a)) w := by
    simp only [Op.intArith, Sem.run_pure, wrap_u64, e]
  simp only [execOp, hx, Op.unary]
  simp [e2]
end
def tzS : Nat → Nat → Nat
  | 0, _ => 0
  | k + 1, n => if n % 2 = 1 then 0 else tzS k (n / 2) + 1
theorem tzS_eq : ∀ (k n : Nat), 0 < n → n < 2 ^ k → tzS k n = tzN n
  | 0, n, h0, h => by rw [Nat.pow_zero] at h; omega
  | k + 1, n, h0, h => by
    rw [Nat.pow_succ] at h
    by_cases h1 : n % 2 = 1
    · rw [tzS, if_pos h1, tzN_odd h1]
    · rw [tzS, if_neg h1, tzN_even h0 (by omega), tzS_eq k (n / 2) (by omega) (by omega)]
def tzIx (m : Nat) : Nat := (((UInt64.ofNat m &&& (0 - UInt64.ofNat m)) * 285870213051353865) >>> (UInt64.ofNat 58)).toNat
theorem tz_all : ∀ m, m < 64 → (tzIx m < 64 ∧ (0 < m → (gt dbTab (tzIx m)).toNat = tzS 6 m)) := by decide +kernel
theorem tz_tab {m : Nat} (h0 : 0 < m) (hm : m < 64) : (gt dbTab (tzIx m)).toNat = tzN m := by rw [(tz_all m hm).2 h0, tzS_eq 6 m h0 hm]
theorem flat32_takeV {l : List (List UInt8)} (h : S32 l) (k : Nat) : (l.flatten.map b8).take (k * 32) = (l.take k).flatten.map b8 := by rw [← List.map_take, flat32_take k h]
/-- The second table that a card's row speaks of. -/
theorem tab_second {P : Program} {W : World} {nm name : String} {k : IntKind} {zs : List Int} {x : DataW Unit} {rest : List (String × DataW Unit)} {g : Nat} {t e : TypeId} {n : Nat}
    (hg : P.globalNamed name = some g) (hty : (P.globals[g]?).map (·.type) = some t) (ht : P.underlying t = some (.array n e)) (he : P.underlying e = some (.int k)) (hce : P.cellsOf e = 1) (hct : P.cellsOf t = n)
    (h : laidMet P ((nm, x) :: (name, tabData k zs) :: rest) W) : TabIs P W name k zs := by
  obtain ⟨ps, ⟨_, _, _, _, _, _, _, _, _, _, ⟨g', t', cs, fuel, p, q, hg', ht', hvar, hd, _, _⟩, _⟩, _⟩ := h
  obtain rfl := Option.some.inj (hg.symm.trans hg')
  obtain rfl := Option.some.inj (hty.symm.trans ht')
  unfold TabIs
  rw [hvar, ← cells_of_tab ht he hce hct hd]
end Go.Kw
