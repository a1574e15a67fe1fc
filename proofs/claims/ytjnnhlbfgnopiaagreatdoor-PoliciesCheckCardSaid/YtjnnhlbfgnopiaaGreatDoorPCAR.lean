/- What the law's proof leans on. No condition. -/
import Derived.Test.YtjnnhlbfgnopiaaGreatDoorPCAP
import Derived.Test.YtjnnhlbfgnopiaaGreatDoorPCAQ
import Derived.Test.YtjnnhlbfgnopiaaGreatDoorPCAM
import Derived.Lib.AtoiAllCases
import Derived.Lib.ItoaLen
import Derived.Lib.IndexMore
import Derived.WideLaws
namespace Go.Kw
open Go.Lib
set_option linter.unusedVariables false
set_option linter.unusedSimpArgs false
abbrev zGOOD : List UInt8 := [103, 111, 111, 100, 32]
abbrev zENTRIES : List UInt8 := [32, 101, 110, 116, 114, 105, 101, 115, 44, 32]
abbrev zOCTETS : List UInt8 := [32, 111, 99, 116, 101, 116, 115]
abbrev zENTRY : List UInt8 := [101, 110, 116, 114, 121, 32]
abbrev zAT : List UInt8 := [32, 97, 116, 32]
abbrev zCOL : List UInt8 := [58, 32]
abbrev zPERR : List UInt8 := [32, 40, 101, 114, 114, 111, 114, 32]
abbrev zCLO : List UInt8 := [41]
abbrev zP1 : List UInt8 := [99, 97, 110, 110, 111, 116, 32, 98, 101, 32, 114, 101, 97, 100]
abbrev zP2 : List UInt8 := [100, 111, 101, 115, 32, 110, 111, 116, 32, 102, 111, 108, 108, 111, 119]
abbrev zP3 : List UInt8 := [119, 97, 115, 32, 110, 111, 116, 32, 97, 108, 108, 111, 119, 101, 100]
abbrev zP4 : List UInt8 := [105, 115, 32, 110, 111, 116, 32, 119, 104, 97, 116, 32, 119, 97, 115, 32, 115, 101, 97, 108, 101, 100]
def phraseL (s : Int) : List UInt8 := if s = 1 then zP1 else if s = 2 then zP2 else if s = 3 then zP3 else zP4
/-- A finding. -/
structure FD where
  st : Int
  en : Int
  at_ : Int
  er : Int
  deriving DecidableEq
def FD.v (f : FD) : List Value := [.int .i64 f.st, .int .i64 f.en, .int .i64 f.at_, .int .i64 f.er]
def FD.e (f : FD) : Int := if f.st < 0 ∨ 4 < f.st then 3 else if f.en < 0 ∨ f.at_ < 0 ∨ f.er < 0 then 4 else if decide (f.st = 0) = decide (f.er = 0) then 0 else 2
def FD.t (f : FD) : List UInt8 := if f.st = 0 then zGOOD ++ itoa f.en ++ zENTRIES ++ itoa f.at_ ++ zOCTETS else zENTRY ++ itoa f.en ++ zAT ++ itoa f.at_ ++ zCOL ++ phraseL f.st ++ zPERR ++ itoa f.er ++ zCLO
def FD.x (f : FD) : List UInt8 := if f.e = 0 then f.t else []
structure FD.In (f : FD) : Prop where
  s1 : -9223372036854775808 ≤ f.st
  s2 : f.st ≤ 9223372036854775807
  n1 : -9223372036854775808 ≤ f.en
  n2 : f.en ≤ 9223372036854775807
  a1 : -9223372036854775808 ≤ f.at_
  a2 : f.at_ ≤ 9223372036854775807
  e1 : -9223372036854775808 ≤ f.er
  e2 : f.er ≤ 9223372036854775807
def FD.z : FD := ⟨0, 0, 0, 0⟩
def atoiE (l : List UInt8) : Int × Bool := match atoiAll l with
  | .ok v => (v, true)
  | .range => (atoiSat l, false)
  | _ => (0, false)
theorem atoiE_in (l : List UInt8) : -9223372036854775808 ≤ (atoiE l).1 ∧ (atoiE l).1 ≤ 9223372036854775807 := by
  unfold atoiE
  split
  · rename_i v h; exact atoiAll_bounds h
  · unfold atoiSat; dsimp only; split <;> omega
  · simp
/-- What is behind a head that may be there. -/
def behind (s h : List UInt8) : List UInt8 := if pfx s h = true then s.drop h.length else s
theorem cut_le (s t : List UInt8) : (cut s t).1.length ≤ s.length ∧ (cut s t).2.1.length ≤ s.length := by
  unfold cut
  split
  · simp only [List.length_take, List.length_drop]; omega
  · simp
/-! ### What is written is read -/
theorem digit_of {u : Nat} (h : u < 10) : (UInt8.ofNat (48 + u)).toNat = 48 + u := by rw [UInt8.toNat_ofNat']; omega
theorem dec_digits : ∀ (u : Nat), ∀ c ∈ decDigits u, 48 ≤ c.toNat ∧ c.toNat ≤ 57 := by
  intro u
  induction u using Nat.strongRecOn with
  | _ u ih =>
    intro c hc
    rw [decDigits] at hc
    split at hc
    · simp only [List.mem_singleton] at hc; subst hc; rw [digit_of (by assumption)]; omega
    · rcases List.mem_append.1 hc with h | h
      · exact ih (u / 10) (by omega) c h
      · simp only [List.mem_singleton] at h; subst h; rw [digit_of (by omega)]; omega
theorem parse_app : ∀ (l r : List UInt8) (acc a : Nat), parseUint10 acc l = .ok a → parseUint10 acc (l ++ r) = parseUint10 a r
  | [], r, acc, a, h => by simp only [parseUint10, NumEnd.ok.injEq] at h; subst h; rfl
  | c :: l, r, acc, a, h => by
    simp only [parseUint10] at h
    rw [List.cons_append, parseUint10]
    split at h
    · rename_i h1
      rw [if_pos h1]
      split at h
      · cases h
      · rename_i h2
        rw [if_neg h2]
        split at h
        · cases h
        · rename_i h3
          rw [if_neg h3]
          exact parse_app l r _ a h
    · cases h
theorem parse_one {a d : Nat} (hd : d < 10) (ha : a * 10 + d < 9223372036854775808) : parseUint10 a [UInt8.ofNat (48 + d)] = .ok (a * 10 + d) := by
  rw [parseUint10, digit_of hd, if_pos (by omega), if_neg (by omega), if_neg (by omega), parseUint10]
  congr 1; omega
theorem parse_dec : ∀ (u : Nat), u < 9223372036854775808 → parseUint10 0 (decDigits u) = .ok u := by
  intro u
  induction u using Nat.strongRecOn with
  | _ u ih =>
    intro h
    rw [decDigits]
    split
    · have := parse_one (a := 0) (d := u) (by assumption) (by omega)
      simpa using this
    · rw [parse_app _ _ 0 (u / 10) (ih (u / 10) (by omega) (by omega)), parse_one (by omega) (by omega)]
      congr 1; omega
theorem dec_cons (u : Nat) : ∃ c r, decDigits u = c :: r := by
  cases h : decDigits u with
  | nil =>
    have := parse_dec 0 (by omega)
    have hl := decDigits_length u
    rw [h] at hl
    rw [decDigits] at h
    split at h <;> simp at h
  | cons c r => exact ⟨c, r, rfl⟩
theorem atoi_itoa {n : Int} (h0 : 0 ≤ n) (h1 : n ≤ 9223372036854775807) : atoiE (itoa n) = (n, true) := by
  obtain ⟨u, rfl⟩ : ∃ u : Nat, n = (u : Int) := ⟨n.toNat, by omega⟩
  rw [itoa_nonneg]
  have hp := parse_dec u (by omega)
  obtain ⟨c, r, hc⟩ := dec_cons u
  have hd := dec_digits u c (by rw [hc]; exact .head _)
  have ha : atoiAll (decDigits u) = .ok (u : Int) := by
    rw [hc] at hp ⊢
    unfold atoiAll
    simp only
    rw [if_neg (by omega)]
    unfold parseMag
    rw [if_neg (by simp), hp]
    simp only
    rw [if_neg (by omega), if_neg (by omega), if_neg (by omega)]
  unfold atoiE
  rw [ha]
theorem FD.e3 {f : FD} (h : f.st < 0 ∨ 4 < f.st) : f.e = 3 := by unfold FD.e; rw [if_pos h]
theorem FD.e4 {f : FD} (h : ¬ (f.st < 0 ∨ 4 < f.st)) (h2 : f.en < 0 ∨ f.at_ < 0 ∨ f.er < 0) : f.e = 4 := by unfold FD.e; rw [if_neg h, if_pos h2]
theorem FD.e0 {f : FD} (h : ¬ (f.st < 0 ∨ 4 < f.st)) (h2 : ¬ (f.en < 0 ∨ f.at_ < 0 ∨ f.er < 0)) (h3 : decide (f.st = 0) = decide (f.er = 0)) : f.e = 0 := by unfold FD.e; rw [if_neg h, if_neg h2, if_pos h3]
theorem FD.t0 {f : FD} (h : f.st = 0) : f.t = zGOOD ++ itoa f.en ++ zENTRIES ++ itoa f.at_ ++ zOCTETS := by unfold FD.t; rw [if_pos h]
theorem FD.t1 {f : FD} (h : ¬ f.st = 0) : f.t = zENTRY ++ itoa f.en ++ zAT ++ itoa f.at_ ++ zCOL ++ phraseL f.st ++ zPERR ++ itoa f.er ++ zCLO := by unfold FD.t; rw [if_neg h]
section
variable {P : Program} {ρ : Operand → Value} {w : World} {dst : Option Tmp} {ty : TypeId} {pos : String} {aft : Array Edge} {g : Option (Nat × Bool)} {x y : Operand} {T T2 : TypeId}
theorem r_eqlNil {ms : Array (String × TypeId)} {c : Value} (hT : P.underlying T = some (.interface ms)) (hx : ρ x = .nilIface) (hy : ρ (.const c) = .nilIface) : (execOp ρ ⟨dst, .binOp .eql T x (.const c) T2, ty, pos, aft, g⟩).run P w = .ok (.value (.bool true)) w := by
  have he : (eqGuard .eql T x (.const c) .nilIface .nilIface).run P w = .ok () w := by unfold eqGuard; simp
  have h2 : (binOp .eql T .nilIface .nilIface).run P w = .ok (.bool true) w := run_eql_nil_nil w T (hT.trans (by simp [Program.methodsAt, hT]))
  simp only [execOp, hx, hy, Sem.run_bind, he, Result.andThen_ok, h2, Sem.run_pure]
theorem r_eqlErr {ms : Array (String × TypeId)} {t : TypeId} {v : Value} (hT : P.underlying T = some (.interface ms)) (hx : ρ x = .iface t v) (hy : ρ y = .nilIface) : (execOp ρ ⟨dst, .binOp .eql T x y T2, ty, pos, aft, g⟩).run P w = .ok (.value (.bool false)) w := by
  have he : (eqGuard .eql T x y (.iface t v) .nilIface).run P w = .ok () w := by unfold eqGuard; simp
  have h2 : (binOp .eql T (.iface t v) .nilIface).run P w = .ok (.bool false) w := run_eql_held_nil w T t v (hT.trans (by simp [Program.methodsAt, hT]))
  simp only [execOp, hx, hy, Sem.run_bind, he, Result.andThen_ok, h2, Sem.run_pure]
end
end Go.Kw
