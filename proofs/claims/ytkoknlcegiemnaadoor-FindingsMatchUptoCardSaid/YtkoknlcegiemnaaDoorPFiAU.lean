/- What the law's proof leans on. No condition. -/
import Derived.Test.YtkoknlcegiemnaaDoorPFiAQ
import Derived.Test.YtkoknlcegiemnaaDoorPFiAR
import Derived.Test.YtkoknlcegiemnaaDoorPFiAT
import Derived.Lib.AtoiAllCases
import Derived.Lib.ItoaLen
import Derived.Lib.IndexMore
import Derived.WideLaws
namespace Go.Kw
open Go.Lib
set_option linter.unusedVariables false
set_option linter.unusedSimpArgs false
abbrev zGOOD : List UInt8 := [103, 111, 111, 100, 32]
abbrev zENTRIES : List UInt8 := [32, 101, 110, 116, 114, 105, 101, 115, 44, 32]
abbrev zOCTETS : List UInt8 := [32, 111, 99, 116, 101, 116, 115]
abbrev zENTRY : List UInt8 := [101, 110, 116, 114, 121, 32]
abbrev zAT : List UInt8 := [32, 97, 116, 32]
abbrev zCOL : List UInt8 := [58, 32]
abbrev zPAR : List UInt8 := [32, 40]
abbrev zERR : List UInt8 := [101, 114, 114, 111, 114, 32]
abbrev zPERR : List UInt8 := [32, 40, 101, 114, 114, 111, 114, 32]
abbrev zCLO : List UInt8 := [41]
abbrev zP1 : List UInt8 := [99, 97, 110, 110, 111, 116, 32, 98, 101, 32, 114, 101, 97, 100]
abbrev zP2 : List UInt8 := [100, 111, 101, 115, 32, 110, 111, 116, 32, 102, 111, 108, 108, 111, 119]
abbrev zP3 : List UInt8 := [119, 97, 115, 32, 110, 111, 116, 32, 97, 108, 108, 111, 119, 101, 100]
abbrev zP4 : List UInt8 := [105, 115, 32, 110, 111, 116, 32, 119, 104, 97, 116, 32, 119, 97, 115, 32, 115, 101, 97, 108, 101, 100]
def phraseL (s : Int) : List UInt8 := if s = 1 then zP1 else if s = 2 then zP2 else if s = 3 then zP3 else zP4
/-- A finding. -/
structure FD where
  st : Int
  en : Int
  at_ : Int
  er : Int
  deriving DecidableEq
def FD.v (f : FD) : List Value := [.int .i64 f.st, .int .i64 f.en, .int .i64 f.at_, .int .i64 f.er]
def FD.e (f : FD) : Int := if f.st < 0 ∨ 4 < f.st then 3 else if f.en < 0 ∨ f.at_ < 0 ∨ f.er < 0 then 4 else if decide (f.st = 0) = decide (f.er = 0) then 0 else 2
def FD.t (f : FD) : List UInt8 := if f.st = 0 then zGOOD ++ itoa f.en ++ zENTRIES ++ itoa f.at_ ++ zOCTETS else zENTRY ++ itoa f.en ++ zAT ++ itoa f.at_ ++ zCOL ++ phraseL f.st ++ zPERR ++ itoa f.er ++ zCLO
def FD.x (f : FD) : List UInt8 := if f.e = 0 then f.t else []
structure FD.In (f : FD) : Prop where
  s1 : -9223372036854775808 ≤ f.st
  s2 : f.st ≤ 9223372036854775807
  n1 : -9223372036854775808 ≤ f.en
  n2 : f.en ≤ 9223372036854775807
  a1 : -9223372036854775808 ≤ f.at_
  a2 : f.at_ ≤ 9223372036854775807
  e1 : -9223372036854775808 ≤ f.er
  e2 : f.er ≤ 9223372036854775807
def FD.z : FD := ⟨0, 0, 0, 0⟩
def atoiE (l : List UInt8) : Int × Bool := match atoiAll l with
  | .ok v => (v, true)
  | .range => (atoiSat l, false)
  | _ => (0, false)
theorem atoiE_in (l : List UInt8) : -9223372036854775808 ≤ (atoiE l).1 ∧ (atoiE l).1 ≤ 9223372036854775807 := by
  unfold atoiE
  split
  · rename_i v h; exact atoiAll_bounds h
  · unfold atoiSat; dsimp only; split <;> omega
  · simp
/-- What is behind a head that may be there. -/
def behind (s h : List UInt8) : List UInt8 := if pfx s h = true then s.drop h.length else s
theorem behind_le (s h : List UInt8) : (behind s h).length ≤ s.length := by unfold behind; split <;> simp
def btw (s h t : List UInt8) : Int × List UInt8 × Bool := ((atoiE (cut (behind s h) t).1).1, (cut (behind s h) t).2.1, pfx s h && (cut (behind s h) t).2.2 && (atoiE (cut (behind s h) t).1).2)
theorem cut_le (s t : List UInt8) : (cut s t).1.length ≤ s.length ∧ (cut s t).2.1.length ≤ s.length := by
  unfold cut
  split
  · simp only [List.length_take, List.length_drop]; omega
  · simp
theorem btw_le (s h t : List UInt8) : (btw s h t).2.1.length ≤ s.length := Nat.le_trans (cut_le _ _).2 (behind_le s h)
theorem btw_in (s h t : List UInt8) : -9223372036854775808 ≤ (btw s h t).1 ∧ (btw s h t).1 ≤ 9223372036854775807 := atoiE_in _
def stU (w : List UInt8) : Nat → Int
  | 0 => 0
  | k + 1 => if phraseL ((k : Int) + 1) = w then (k : Int) + 1 else stU w k
theorem stU_in (w : List UInt8) : ∀ k, 0 ≤ stU w k ∧ stU w k ≤ k
  | 0 => by simp [stU]
  | k + 1 => by
    have := stU_in w k
    unfold stU
    split <;> omega
/-- What a text says, if it can be read. -/
def pfC (l : List UInt8) : Option FD :=
  if (btw l zGOOD zENTRIES).2.2 = true ∧ (btw (btw l zGOOD zENTRIES).2.1 [] zOCTETS).2.2 = true then some ⟨0, (btw l zGOOD zENTRIES).1, (btw (btw l zGOOD zENTRIES).2.1 [] zOCTETS).1, 0⟩
  else if (btw l zENTRY zAT).2.2 = true ∧ (btw (btw l zENTRY zAT).2.1 [] zCOL).2.2 = true ∧ (btw (cut (btw (btw l zENTRY zAT).2.1 [] zCOL).2.1 zPAR).2.1 zERR zCLO).2.2 = true then
    some ⟨stU (cut (btw (btw l zENTRY zAT).2.1 [] zCOL).2.1 zPAR).1 4, (btw l zENTRY zAT).1, (btw (btw l zENTRY zAT).2.1 [] zCOL).1, (btw (cut (btw (btw l zENTRY zAT).2.1 [] zCOL).2.1 zPAR).2.1 zERR zCLO).1⟩
  else none
def pfR (l : List UInt8) : FD × Int := match pfC l with
  | none => (FD.z, 11)
  | some f => if f.e = 0 ∧ f.t = l then (f, 0) else (FD.z, 11)
theorem pfC_none {l : List UInt8} (h1 : ¬ ((btw l zGOOD zENTRIES).2.2 = true ∧ (btw (btw l zGOOD zENTRIES).2.1 [] zOCTETS).2.2 = true)) (h2 : ¬ ((btw l zENTRY zAT).2.2 = true ∧ (btw (btw l zENTRY zAT).2.1 [] zCOL).2.2 = true ∧ (btw (cut (btw (btw l zENTRY zAT).2.1 [] zCOL).2.1 zPAR).2.1 zERR zCLO).2.2 = true)) : pfR l = (FD.z, 11) := by
  unfold pfR pfC; rw [if_neg h1, if_neg h2]
theorem pfR_some {l : List UInt8} {f : FD} (h : pfC l = some f) : pfR l = if f.e = 0 ∧ f.t = l then (f, 0) else (FD.z, 11) := by unfold pfR; rw [h]
theorem pfC_in {l : List UInt8} {f : FD} (h : pfC l = some f) : f.In := by
  unfold pfC at h
  split at h
  · cases h
    have h1 := btw_in l zGOOD zENTRIES
    have h2 := btw_in (btw l zGOOD zENTRIES).2.1 [] zOCTETS
    exact ⟨by simp, by simp, h1.1, h1.2, h2.1, h2.2, by simp, by simp⟩
  · split at h
    · cases h
      have h1 := btw_in l zENTRY zAT
      have h2 := btw_in (btw l zENTRY zAT).2.1 [] zCOL
      have h3 := btw_in (cut (btw (btw l zENTRY zAT).2.1 [] zCOL).2.1 zPAR).2.1 zERR zCLO
      have h4 := stU_in (cut (btw (btw l zENTRY zAT).2.1 [] zCOL).2.1 zPAR).1 4
      exact ⟨by show _ ≤ stU _ 4; omega, by show stU _ 4 ≤ _; omega, h1.1, h1.2, h2.1, h2.2, h3.1, h3.2⟩
    · cases h
/-! ### What is written is read -/
theorem digit_of {u : Nat} (h : u < 10) : (UInt8.ofNat (48 + u)).toNat = 48 + u := by rw [UInt8.toNat_ofNat']; omega
theorem dec_digits : ∀ (u : Nat), ∀ c ∈ decDigits u, 48 ≤ c.toNat ∧ c.toNat ≤ 57 := by
  intro u
  induction u using Nat.strongRecOn with
  | _ u ih =>
    intro c hc
    rw [decDigits] at hc
    split at hc
    · simp only [List.mem_singleton] at hc; subst hc; rw [digit_of (by assumption)]; omega
    · rcases List.mem_append.1 hc with h | h
      · exact ih (u / 10) (by omega) c h
      · simp only [List.mem_singleton] at h; subst h; rw [digit_of (by omega)]; omega
theorem parse_app : ∀ (l r : List UInt8) (acc a : Nat), parseUint10 acc l = .ok a → parseUint10 acc (l ++ r) = parseUint10 a r
  | [], r, acc, a, h => by simp only [parseUint10, NumEnd.ok.injEq] at h; subst h; rfl
  | c :: l, r, acc, a, h => by
    simp only [parseUint10] at h
    rw [List.cons_append, parseUint10]
    split at h
    · rename_i h1
      rw [if_pos h1]
      split at h
      · cases h
      · rename_i h2
        rw [if_neg h2]
        split at h
        · cases h
        · rename_i h3
          rw [if_neg h3]
          exact parse_app l r _ a h
    · cases h
theorem parse_one {a d : Nat} (hd : d < 10) (ha : a * 10 + d < 9223372036854775808) : parseUint10 a [UInt8.ofNat (48 + d)] = .ok (a * 10 + d) := by
  rw [parseUint10, digit_of hd, if_pos (by omega), if_neg (by omega), if_neg (by omega), parseUint10]
  congr 1; omega
theorem parse_dec : ∀ (u : Nat), u < 9223372036854775808 → parseUint10 0 (decDigits u) = .ok u := by
  intro u
  induction u using Nat.strongRecOn with
  | _ u ih =>
    intro h
    rw [decDigits]
    split
    · have := parse_one (a := 0) (d := u) (by assumption) (by omega)
      simpa using this
    · rw [parse_app _ _ 0 (u / 10) (ih (u / 10) (by omega) (by omega)), parse_one (by omega) (by omega)]
      congr 1; omega
theorem dec_cons (u : Nat) : ∃ c r, decDigits u = c :: r := by
  cases h : decDigits u with
  | nil =>
    have := parse_dec 0 (by omega)
    have hl := decDigits_length u
    rw [h] at hl
    rw [decDigits] at h
    split at h <;> simp at h
  | cons c r => exact ⟨c, r, rfl⟩
theorem atoi_itoa {n : Int} (h0 : 0 ≤ n) (h1 : n ≤ 9223372036854775807) : atoiE (itoa n) = (n, true) := by
  obtain ⟨u, rfl⟩ : ∃ u : Nat, n = (u : Int) := ⟨n.toNat, by omega⟩
  rw [itoa_nonneg]
  have hp := parse_dec u (by omega)
  obtain ⟨c, r, hc⟩ := dec_cons u
  have hd := dec_digits u c (by rw [hc]; exact .head _)
  have ha : atoiAll (decDigits u) = .ok (u : Int) := by
    rw [hc] at hp ⊢
    unfold atoiAll
    simp only
    rw [if_neg (by omega)]
    unfold parseMag
    rw [if_neg (by simp), hp]
    simp only
    rw [if_neg (by omega), if_neg (by omega), if_neg (by omega)]
  unfold atoiE
  rw [ha]
theorem itoa_dig {n : Int} (h0 : 0 ≤ n) : ∀ c ∈ itoa n, 48 ≤ c.toNat ∧ c.toNat ≤ 57 := by
  obtain ⟨u, rfl⟩ : ∃ u : Nat, n = (u : Int) := ⟨n.toNat, by omega⟩
  rw [itoa_nonneg]; exact dec_digits u
theorem index_skip {x y s : List UInt8} {h : UInt8} (hx : ∀ c ∈ x, c ≠ h) : index (x ++ (h :: s) ++ y) (h :: s) = (x.length : Int) := by
  induction x with
  | nil => simp [index, List.isPrefixOf_iff_prefix]
  | cons c x ih =>
    have hc := hx c (.head _)
    have ih := ih (fun d hd => hx d (.tail _ hd))
    have hn : (h :: s).isPrefixOf (c :: x ++ (h :: s) ++ y) = false := by
      simp only [List.cons_append, List.isPrefixOf]
      have : (h == c) = false := by simpa using fun e => hc e.symm
      rw [this]; rfl
    have e : c :: x ++ (h :: s) ++ y = c :: (x ++ (h :: s) ++ y) := by simp
    rw [e] at hn ⊢
    rw [index, hn, ih]
    simp
theorem cut_at {x y s : List UInt8} {i : Int} (h : index (x ++ s ++ y) s = i) (hi : i = x.length) : cut (x ++ s ++ y) s = (x, y, true) := by
  unfold cut
  rw [h, hi, if_pos (by omega)]
  have e : ((x.length : Int)).toNat = x.length := by omega
  rw [e]
  simp
theorem cut_hit {x y s : List UInt8} {h : UInt8} (hx : ∀ c ∈ x, c ≠ h) : cut (x ++ (h :: s) ++ y) (h :: s) = (x, y, true) := cut_at (index_skip hx) rfl
theorem dig_ne {x : List UInt8} {h : UInt8} (hx : ∀ c ∈ x, 48 ≤ c.toNat ∧ c.toNat ≤ 57) (hh : h.toNat < 48 ∨ 57 < h.toNat) : ∀ c ∈ x, c ≠ h := fun c hc e => by
  have := hx c hc
  subst e; omega
theorem pfx_app (h r : List UInt8) : pfx (h ++ r) h = true := decide_eq_true ⟨by simp, by simp⟩
theorem behind_app (h r : List UInt8) : behind (h ++ r) h = r := by unfold behind; rw [if_pos (pfx_app h r)]; simp
theorem btw_hit {h r y s : List UInt8} {k : UInt8} {n : Int} (h0 : 0 ≤ n) (h1 : n ≤ 9223372036854775807) (hk : k.toNat < 48 ∨ 57 < k.toNat) (hr : r = itoa n ++ (k :: s) ++ y) : btw (h ++ r) h (k :: s) = (n, y, true) := by
  subst hr
  unfold btw
  rw [behind_app, cut_hit (dig_ne (itoa_dig h0) hk), pfx_app, atoi_itoa h0 h1]
  rfl
theorem index_ph {s : Int} (h1 : 1 ≤ s) (h4 : s ≤ 4) (y : List UInt8) : index (phraseL s ++ zPAR ++ y) zPAR = ((phraseL s).length : Int) := by
  have : s = 1 ∨ s = 2 ∨ s = 3 ∨ s = 4 := by omega
  rcases this with rfl | rfl | rfl | rfl <;> simp [phraseL, index, List.isPrefixOf]
theorem stU_ph {s : Int} (h1 : 1 ≤ s) (h4 : s ≤ 4) : stU (phraseL s) 4 = s := by
  have : s = 1 ∨ s = 2 ∨ s = 3 ∨ s = 4 := by omega
  rcases this with rfl | rfl | rfl | rfl <;> decide
theorem pf_back {f : FD} (hi : f.In) (h : f.e = 0) : pfR f.t = (f, 0) := by
  obtain ⟨st, en, at_, er⟩ := f
  have hb := hi
  obtain ⟨s1, s2, n1, n2, a1, a2, e1, e2⟩ := hi
  simp only at s1 s2 n1 n2 a1 a2 e1 e2
  have he := h
  unfold FD.e at h
  simp only at h
  split at h
  · cases h
  · rename_i c1
    split at h
    · cases h
    · rename_i c2
      split at h
      · rename_i c3
        rw [decide_eq_decide] at c3
        have hC : pfC (FD.t ⟨st, en, at_, er⟩) = some ⟨st, en, at_, er⟩ := by
          by_cases hs : st = 0
          · have her : er = 0 := c3.1 hs
            subst hs; subst her
            have et : FD.t ⟨0, en, at_, 0⟩ = zGOOD ++ (itoa en ++ zENTRIES ++ (itoa at_ ++ zOCTETS ++ [])) := by simp [FD.t]
            have b1 : btw (FD.t ⟨0, en, at_, 0⟩) zGOOD zENTRIES = (en, itoa at_ ++ zOCTETS ++ [], true) := by rw [et]; exact btw_hit (by omega) n2 (by decide) rfl
            have b2 : btw (itoa at_ ++ zOCTETS ++ []) [] zOCTETS = (at_, [], true) := btw_hit (h := []) (by omega) a2 (by decide) rfl
            unfold pfC
            rw [b1]
            simp only
            rw [b2, if_pos (by simp)]
          · have et : FD.t ⟨st, en, at_, er⟩ = zENTRY ++ (itoa en ++ zAT ++ (itoa at_ ++ zCOL ++ (phraseL st ++ zPAR ++ (zERR ++ (itoa er ++ zCLO ++ []))))) := by simp [FD.t, hs]
            have b0 : (btw (FD.t ⟨st, en, at_, er⟩) zGOOD zENTRIES).2.2 = false := by
              have : pfx (FD.t ⟨st, en, at_, er⟩) zGOOD = false := by rw [et]; exact decide_eq_false (fun hh => by simp at hh)
              unfold btw
              rw [this]; rfl
            have b1 : btw (FD.t ⟨st, en, at_, er⟩) zENTRY zAT = (en, itoa at_ ++ zCOL ++ (phraseL st ++ zPAR ++ (zERR ++ (itoa er ++ zCLO ++ []))), true) := by rw [et]; exact btw_hit (by omega) n2 (by decide) rfl
            have b2 : btw (itoa at_ ++ zCOL ++ (phraseL st ++ zPAR ++ (zERR ++ (itoa er ++ zCLO ++ [])))) [] zCOL = (at_, phraseL st ++ zPAR ++ (zERR ++ (itoa er ++ zCLO ++ [])), true) := btw_hit (h := []) (by omega) a2 (by decide) rfl
            have b3 : cut (phraseL st ++ zPAR ++ (zERR ++ (itoa er ++ zCLO ++ []))) zPAR = (phraseL st, zERR ++ (itoa er ++ zCLO ++ []), true) := cut_at (index_ph (by omega) (by omega) _) rfl
            have b4 : btw (zERR ++ (itoa er ++ zCLO ++ [])) zERR zCLO = (er, [], true) := btw_hit (by omega) e2 (by decide) rfl
            unfold pfC
            rw [if_neg (fun hh => by rw [b0] at hh; cases hh.1), b1]
            simp only
            rw [b2]
            simp only
            rw [b3]
            simp only
            rw [b4, if_pos (by simp), stU_ph (by omega) (by omega)]
        rw [pfR_some hC, if_pos ⟨he, rfl⟩]
      · cases h
/-- The second half of the law. -/
theorem pf_law (l : List UInt8) : ((pfR l).2 = 11 ∧ (pfR l).1 = FD.z) ∨ ((pfR l).2 = 0 ∧ (pfR l).1.In ∧ (pfR l).1.e = 0 ∧ (pfR l).1.t = l) := by
  cases h : pfC l with
  | none => left; unfold pfR; rw [h]; exact ⟨rfl, rfl⟩
  | some f =>
    rw [pfR_some h]
    by_cases hc : f.e = 0 ∧ f.t = l
    · right; rw [if_pos hc]; exact ⟨rfl, pfC_in h, hc.1, hc.2⟩
    · left; rw [if_neg hc]; exact ⟨rfl, rfl⟩
theorem ph_get (k : Nat) (h1 : 1 ≤ k) (h4 : k ≤ 4) : ([.string ⟨#[]⟩, .string ⟨zP1.toArray⟩, .string ⟨zP2.toArray⟩, .string ⟨zP3.toArray⟩, .string ⟨zP4.toArray⟩] : List Value)[k]? = some (.string ⟨(phraseL (k : Int)).toArray⟩) := by
  have : k = 1 ∨ k = 2 ∨ k = 3 ∨ k = 4 := by omega
  rcases this with rfl | rfl | rfl | rfl <;> rfl
theorem phrase_le (s : Int) : (phraseL s).length ≤ 30 := by unfold phraseL; split; decide; split; decide; split; decide; decide
theorem FD.x_ok {f : FD} (h : f.e = 0) : f.x = f.t := by unfold FD.x; rw [if_pos h]
theorem FD.x_no {f : FD} {k : Int} (h : f.e = k) (hk : ¬ k = 0) : f.x = [] := by unfold FD.x; rw [h, if_neg hk]
theorem FD.e3 {f : FD} (h : f.st < 0 ∨ 4 < f.st) : f.e = 3 := by unfold FD.e; rw [if_pos h]
theorem FD.e4 {f : FD} (h : ¬ (f.st < 0 ∨ 4 < f.st)) (h2 : f.en < 0 ∨ f.at_ < 0 ∨ f.er < 0) : f.e = 4 := by unfold FD.e; rw [if_neg h, if_pos h2]
theorem FD.e2_ {f : FD} (h : ¬ (f.st < 0 ∨ 4 < f.st)) (h2 : ¬ (f.en < 0 ∨ f.at_ < 0 ∨ f.er < 0)) (h3 : ¬ decide (f.st = 0) = decide (f.er = 0)) : f.e = 2 := by unfold FD.e; rw [if_neg h, if_neg h2, if_neg h3]
theorem FD.e0 {f : FD} (h : ¬ (f.st < 0 ∨ 4 < f.st)) (h2 : ¬ (f.en < 0 ∨ f.at_ < 0 ∨ f.er < 0)) (h3 : decide (f.st = 0) = decide (f.er = 0)) : f.e = 0 := by unfold FD.e; rw [if_neg h, if_neg h2, if_pos h3]
theorem FD.t0 {f : FD} (h : f.st = 0) : f.t = zGOOD ++ itoa f.en ++ zENTRIES ++ itoa f.at_ ++ zOCTETS := by unfold FD.t; rw [if_pos h]
theorem FD.t1 {f : FD} (h : ¬ f.st = 0) : f.t = zENTRY ++ itoa f.en ++ zAT ++ itoa f.at_ ++ zCOL ++ phraseL f.st ++ zPERR ++ itoa f.er ++ zCLO := by unfold FD.t; rw [if_neg h]
theorem FD.t_le {f : FD} (h : f.In) : f.t.length ≤ 200 := by
  have h1 := itoa_length_le f.en h.n1 h.n2
  have h2 := itoa_length_le f.at_ h.a1 h.a2
  have h3 := itoa_length_le f.er h.e1 h.e2
  have h4 := phrase_le f.st
  unfold FD.t
  split <;> (simp only [List.length_append, List.length_cons, List.length_nil]; omega)
theorem FD.x_le {f : FD} (h : f.In) : f.x.length ≤ 200 := by
  unfold FD.x
  split
  · exact FD.t_le h
  · simp
theorem behind_t {s h : List UInt8} (hp : pfx s h = true) : behind s h = s.drop h.length := by unfold behind; rw [if_pos hp]
theorem behind_f {s h : List UInt8} (hp : pfx s h = false) : behind s h = s := by unfold behind; rw [if_neg (by rw [hp]; simp)]
theorem btw_b {s h t : List UInt8} {a b c : Bool} (h1 : pfx s h = a) (h2 : (cut (behind s h) t).2.2 = b) (h3 : (atoiE (cut (behind s h) t).1).2 = c) : (btw s h t).2.2 = (a && b && c) := by
  subst h1; subst h2; subst h3; rfl
section
variable {P : Program} {ρ : Operand → Value} {w : World} {dst : Option Tmp} {ty : TypeId} {pos : String} {aft : Array Edge} {g : Option (Nat × Bool)} {x y : Operand} {T T2 : TypeId}
theorem r_eqlNil {ms : Array (String × TypeId)} {c : Value} (hT : P.underlying T = some (.interface ms)) (hx : ρ x = .nilIface) (hy : ρ (.const c) = .nilIface) : (execOp ρ ⟨dst, .binOp .eql T x (.const c) T2, ty, pos, aft, g⟩).run P w = .ok (.value (.bool true)) w := by
  have he : (eqGuard .eql T x (.const c) .nilIface .nilIface).run P w = .ok () w := by unfold eqGuard; simp
  have h2 : (binOp .eql T .nilIface .nilIface).run P w = .ok (.bool true) w := run_eql_nil_nil w T (hT.trans (by simp [Program.methodsAt, hT]))
  simp only [execOp, hx, hy, Sem.run_bind, he, Result.andThen_ok, h2, Sem.run_pure]
theorem r_eqlErr {ms : Array (String × TypeId)} {t : TypeId} {v : Value} (hT : P.underlying T = some (.interface ms)) (hx : ρ x = .iface t v) (hy : ρ y = .nilIface) : (execOp ρ ⟨dst, .binOp .eql T x y T2, ty, pos, aft, g⟩).run P w = .ok (.value (.bool false)) w := by
  have he : (eqGuard .eql T x y (.iface t v) .nilIface).run P w = .ok () w := by unfold eqGuard; simp
  have h2 : (binOp .eql T (.iface t v) .nilIface).run P w = .ok (.bool false) w := run_eql_held_nil w T t v (hT.trans (by simp [Program.methodsAt, hT]))
  simp only [execOp, hx, hy, Sem.run_bind, he, Result.andThen_ok, h2, Sem.run_pure]
end
end Go.Kw
