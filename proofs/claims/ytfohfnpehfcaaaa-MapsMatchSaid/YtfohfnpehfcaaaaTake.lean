/- What is taken from octets and put behind them, as plain functions. No condition. -/
import Derived.Test.YtfohfnpehfcaaaaMem4
import Derived.Test.YtfohfnpehfcaaaaSpec
namespace Go.Kw
set_option linter.unusedVariables false
set_option linter.unusedSimpArgs false

/-- The fault if there are not k octets from a place on. -/
def roomI (n : Nat) (at' : Int) (k : Nat) : Int := if at' < 0 then 4 else if (n : Int) < k ∨ (n : Int) - k < at' then 1 else 0
theorem room_neg {n k : Nat} {p : Int} (h : p < 0) : roomI n p k = 4 := by simp [roomI, h]
theorem room_out {n k : Nat} {p : Int} (h : ¬ p < 0) (h2 : (n : Int) < k ∨ (n : Int) - k < p) : roomI n p k = 1 := by unfold roomI; rw [if_neg h, if_pos h2]
theorem room_in {n k : Nat} {p : Int} (h : 0 ≤ p) (h2 : p + k ≤ n) : roomI n p k = 0 := by
  have h1 : ¬ p < 0 := by omega
  have h3 : ¬ ((n : Int) < k ∨ (n : Int) - k < p) := by omega
  unfold roomI; rw [if_neg h1, if_neg h3]
theorem room_zero {n k : Nat} {p : Int} (h : roomI n p k = 0) : 0 ≤ p ∧ p + k ≤ n := by
  unfold roomI at h
  split at h
  · omega
  · split at h <;> omega
theorem room_cases (n k : Nat) (p : Int) : roomI n p k = 0 ∨ roomI n p k = 1 ∨ roomI n p k = 4 := by
  unfold roomI
  split
  · simp
  · split <;> simp
theorem toNat_cast {p : Int} (h : 0 ≤ p) : ((p.toNat : Nat) : Int) = p := Int.toNat_of_nonneg h

def takeL (l : List UInt8) (at' : Int) (k : Nat) : List UInt8 := if roomI l.length at' k = 0 then (l.drop at'.toNat).take k else List.replicate k 0
theorem takeL_len (l : List UInt8) (p : Int) (k : Nat) : (takeL l p k).length = k := by
  unfold takeL
  split
  · rename_i h
    have := room_zero h
    simp
    omega
  · simp
theorem takeL_in {l : List UInt8} {p : Int} {k : Nat} (h : roomI l.length p k = 0) : takeL l p k = (l.drop p.toNat).take k := by simp [takeL, h]
theorem takeL_out {l : List UInt8} {p : Int} {k : Nat} (h : ¬ roomI l.length p k = 0) : takeL l p k = List.replicate k 0 := by simp [takeL, h]

/-- Eight octets as a number. -/
def long8 (o : List UInt8) : UInt64 := (word4 (o.take 4)).toUInt64 <<< 32 ||| (word4 (o.drop 4)).toUInt64
def longE (l : List UInt8) (at' : Int) : Int := if roomI l.length at' 8 = 0 then if 4611686018427387904 < (long8 (takeL l at' 8)).toNat then 4 else 0 else roomI l.length at' 8
def longV (l : List UInt8) (at' : Int) : Nat := if longE l at' = 0 then (long8 (takeL l at' 8)).toNat else 0
theorem longV_le (l : List UInt8) (p : Int) : longV l p ≤ 4611686018427387904 := by
  unfold longV
  split
  · rename_i h
    unfold longE at h
    split at h
    · split at h <;> omega
    · omega
  · omega

theorem long_out {l : List UInt8} {p : Int} (h : ¬ roomI l.length p 8 = 0) : longE l p = roomI l.length p 8 ∧ longV l p = 0 := by
  have e : longE l p = roomI l.length p 8 := by unfold longE; rw [if_neg h]
  exact ⟨e, by unfold longV; rw [e, if_neg h]⟩
theorem long_big {l : List UInt8} {p : Int} (h : roomI l.length p 8 = 0) (h2 : (4611686018427387904 : Int) < ((long8 (takeL l p 8)).toNat : Int)) : longE l p = 4 ∧ longV l p = 0 := by
  have e : longE l p = 4 := by unfold longE; rw [if_pos h, if_pos (by omega)]
  exact ⟨e, by unfold longV; rw [e]; rfl⟩
theorem long_in {l : List UInt8} {p : Int} (h : roomI l.length p 8 = 0) (h2 : ¬ (4611686018427387904 : Int) < ((long8 (takeL l p 8)).toNat : Int)) : longE l p = 0 ∧ longV l p = (long8 (takeL l p 8)).toNat := by
  have e : longE l p = 0 := by unfold longE; rw [if_pos h, if_neg (by omega)]
  exact ⟨e, by unfold longV; rw [e]; rfl⟩
theorem long8_take {l : List UInt8} {p : Int} (h : roomI l.length p 8 = 0) : long8 (takeL l p 8) = (word4 ((l.drop (p.toNat * 1)).take 4)).toUInt64 <<< (UInt64.ofNat 32) ||| (word4 ((l.drop ((p.toNat + 4) * 1)).take 4)).toUInt64 := by
  rw [takeL_in h, long8, Nat.mul_one, Nat.mul_one]
  congr 4
  · rw [List.take_take]; rfl
  · rw [List.drop_take, List.drop_drop]

/-- What PutLong writes for n. -/
def putN (n : Int) : Nat := if n < 0 ∨ 4611686018427387904 < n then 0 else n.toNat

theorem putN_out {n : Int} (h : n < 0 ∨ 4611686018427387904 < n) : putN n = 0 := by unfold putN; rw [if_pos h]
theorem putN_in {n : Int} (h0 : ¬ n < 0) (h1 : ¬ 4611686018427387904 < n) : ((putN n : Nat) : Int) = n := by unfold putN; rw [if_neg (by omega)]; omega
theorem putN_le (n : Int) : putN n ≤ 4611686018427387904 := by unfold putN; split <;> omega
theorem row_none {w : World} {cs : List Value} (h : Row w none cs) : cs = [] := by
  rcases h with h | ⟨_, _, h, _⟩
  · exact h
  · cases h
theorem nil_of_none {w : World} {a : Option Addr} {l : List UInt8} (h : Row w a (l.map b8)) (ha : a = none) : l = [] := by
  subst ha
  simpa using row_none h

theorem ba_eq (x y : List UInt8) : ((⟨x.toArray⟩ : ByteArray) = ⟨y.toArray⟩) ↔ x = y := by simp [ByteArray.mk.injEq]
theorem ba_dec (x y : List UInt8) : decide ((⟨x.toArray⟩ : ByteArray) = ⟨y.toArray⟩) = decide (x = y) := decide_eq_decide.2 (ba_eq x y)

/-- A slice as data: its place, its room and what lies in it. -/
structure Sl (α : Type) where
  a : Option Addr
  c : Nat
  xs : List α
instance {α : Type} : Inhabited (Sl α) := ⟨⟨none, 0, []⟩⟩
def Sl.v {α : Type} (s : Sl α) : Value := .slice s.a s.xs.length s.c
abbrev Piece := Sl UInt8
abbrev Piece.v (p : Piece) : Value := Sl.v p
def total (ps : List Piece) : Nat := (ps.map fun p => p.xs.length).sum
def joined (ps : List Piece) : List UInt8 := ps.flatMap (·.xs)
theorem total_take (ps : List Piece) (k : Nat) (h : k < ps.length) : total (ps.take (k + 1)) = total (ps.take k) + (gt ps k).xs.length := by
  rw [List.take_succ_eq_append_getElem h, gt_eq _ _ h]
  simp only [total, List.map_append, List.sum_append, List.map_cons, List.map_nil, List.sum_cons, List.sum_nil, Nat.add_zero]
theorem total_le (ps : List Piece) (k : Nat) : total (ps.take k) ≤ total ps := by
  have : total ps = total (ps.take k) + total (ps.drop k) := by
    conv => lhs; rw [← List.take_append_drop k ps]
    simp only [total, List.map_append, List.sum_append]
  omega
theorem joined_take (ps : List Piece) (k : Nat) (h : k < ps.length) : joined (ps.take (k + 1)) = joined (ps.take k) ++ (gt ps k).xs := by
  rw [List.take_succ_eq_append_getElem h, gt_eq _ _ h]
  simp only [joined, List.flatMap_append, List.flatMap_cons, List.flatMap_nil, List.append_nil]
theorem joined_len (ps : List Piece) : (joined ps).length = total ps := by simp [joined, total, List.length_flatMap]
theorem gt_mem {α : Type} [Inhabited α] (l : List α) (i : Nat) (h : i < l.length) : gt l i ∈ l := by rw [gt_eq l i h]; exact List.getElem_mem h
theorem one_piece (ps : List Piece) : One (ps.map Piece.v) := one_map ps fun _ => rfl
theorem gt_take {α : Type} [Inhabited α] (l : List α) (n j : Nat) (h : j < n) : gt (l.take n) j = gt l j := by simp [gt, List.getD_eq_getElem?_getD, List.getElem?_take, h]
theorem gt_drop {α : Type} [Inhabited α] (l : List α) (n j : Nat) : gt (l.drop n) j = gt l (n + j) := by simp [gt, List.getD_eq_getElem?_getD, List.getElem?_drop]
theorem word4_take (o : List UInt8) (n : Nat) (h : 4 ≤ n) : word4 (o.take n) = word4 o := by
  simp only [word4, gt_take o n 0 (by omega), gt_take o n 1 (by omega), gt_take o n 2 (by omega), gt_take o n 3 (by omega)]
theorem word4_row {l : List UInt8} {p : Int} (h : roomI l.length p 4 = 0) : word4 (takeL l p 4) = ((gt (l.drop p.toNat) 0).toUInt32 <<< (UInt32.ofNat 24) ||| (gt (l.drop p.toNat) 1).toUInt32 <<< (UInt32.ofNat 16) ||| (gt (l.drop p.toNat) 2).toUInt32 <<< (UInt32.ofNat 8)) ||| (gt (l.drop p.toNat) 3).toUInt32 := by
  rw [takeL_in h, word4_take _ _ (Nat.le_refl _)]; rfl
theorem long8_nat (o : List UInt8) : (long8 o).toNat = (word4 (o.take 4)).toNat * 4294967296 + (word4 (o.drop 4)).toNat := by
  have h1 := (word4 (o.take 4)).toNat_lt
  have h2 := (word4 (o.drop 4)).toNat_lt
  simp only [long8, UInt64.toNat_or, UInt64.toNat_shiftLeft, UInt32.toNat_toUInt64, Nat.shiftLeft_eq]
  rw [show (32 : UInt64).toNat % 64 = 32 from rfl, Nat.mod_eq_of_lt (by omega), or_add _ _ 32 (by omega)]
theorem long_octs (x : UInt64) : long8 (octs8 x) = x := by
  apply UInt64.toNat_inj.1
  have e1 : (octs8 x).take 4 = octs (x >>> 32).toUInt32 := rfl
  have e2 : (octs8 x).drop 4 = octs x.toUInt32 := rfl
  rw [long8_nat, e1, e2, word_octs, word_octs]
  have h := x.toNat_lt
  simp only [UInt64.toNat_toUInt32, UInt64.toNat_shiftRight, Nat.shiftRight_eq_div_pow]
  rw [show (32 : UInt64).toNat % 64 = 32 from rfl]
  omega
theorem octs_long (o : List UInt8) (ho : o.length = 8) : octs8 (long8 o) = o := by
  have h1 := (word4 (o.take 4)).toNat_lt
  have h2 := (word4 (o.drop 4)).toNat_lt
  have e1 : (long8 o >>> 32).toUInt32 = word4 (o.take 4) := by
    apply UInt32.toNat_inj.1
    simp only [UInt64.toNat_toUInt32, UInt64.toNat_shiftRight, Nat.shiftRight_eq_div_pow, long8_nat]
    rw [show (32 : UInt64).toNat % 64 = 32 from rfl]
    omega
  have e2 : (long8 o).toUInt32 = word4 (o.drop 4) := by
    apply UInt32.toNat_inj.1
    simp only [UInt64.toNat_toUInt32, long8_nat]
    omega
  rw [octs8, e1, e2, octs_word _ (by simp; omega), octs_word _ (by simp; omega), List.take_append_drop]
/-- A number is too great just if its first octet says so. -/
theorem long_gt (o : List UInt8) (ho : o.length = 8) : 4611686018427387904 < (long8 o).toNat ↔ 64 < (gt o 0).toNat ∨ ((gt o 0).toNat = 64 ∧ ¬ o.drop 1 = List.replicate 7 0) := by
  have hd : o.drop 1 = List.replicate 7 0 ↔ (gt o 1).toNat = 0 ∧ (gt o 2).toNat = 0 ∧ (gt o 3).toNat = 0 ∧ (gt o 4).toNat = 0 ∧ (gt o 5).toNat = 0 ∧ (gt o 6).toNat = 0 ∧ (gt o 7).toNat = 0 := by
    match o, ho with
    | [a, b, c, d, e, f, g, h], _ =>
      simp [gt, List.replicate, ← UInt8.toNat_inj]
  rw [hd, long8_nat, word4_nat, word4_nat]
  simp only [gt_take o 4 0 (by omega), gt_take o 4 1 (by omega), gt_take o 4 2 (by omega), gt_take o 4 3 (by omega), gt_drop, Nat.reduceAdd, Nat.add_zero]
  have := (gt o 0).toNat_lt; have := (gt o 1).toNat_lt; have := (gt o 2).toNat_lt; have := (gt o 3).toNat_lt
  have := (gt o 4).toNat_lt; have := (gt o 5).toNat_lt; have := (gt o 6).toNat_lt; have := (gt o 7).toNat_lt
  omega
theorem longE_zero {l : List UInt8} {p : Int} (h : longE l p = 0) : roomI l.length p 8 = 0 := by
  unfold longE at h
  split at h
  · assumption
  · exact h
theorem octs_longV {l : List UInt8} {p : Int} (h : longE l p = 0) : octs8 (UInt64.ofNat (putN (longV l p : Int))) = (l.drop p.toNat).take 8 := by
  have h0 := longE_zero h
  have hv := longV_le l p
  have e : putN (longV l p : Int) = longV l p := by have := putN_in (n := (longV l p : Int)) (by omega) (by omega); omega
  have e2 : longV l p = (long8 (takeL l p 8)).toNat := by unfold longV; rw [if_pos h]
  rw [e, e2, UInt64.ofNat_toNat, octs_long _ (takeL_len _ _ _), takeL_in h0]
/-- What is read where it was put. -/
theorem room_end (n m k : Nat) (h : m = k) : roomI (n + m) (n : Int) k = 0 := room_in (by omega) (by omega)
theorem number_end (l : List UInt8) (x : UInt32) : roomI (l ++ octs x).length (l.length : Int) 4 = 0 ∧ word4 (takeL (l ++ octs x) (l.length : Int) 4) = x := by
  have h : roomI (l ++ octs x).length (l.length : Int) 4 = 0 := room_in (by omega) (by simp)
  refine ⟨h, ?_⟩
  rw [takeL_in h, Int.toNat_natCast, List.drop_left, word4_take _ _ (Nat.le_refl _), word_octs]
theorem long_end (l : List UInt8) (m : Nat) (hm : m ≤ 4611686018427387904) : longE (l ++ octs8 (UInt64.ofNat m)) (l.length : Int) = 0 ∧ longV (l ++ octs8 (UInt64.ofNat m)) (l.length : Int) = m := by
  have h : roomI (l ++ octs8 (UInt64.ofNat m)).length (l.length : Int) 8 = 0 := room_in (by omega) (by simp)
  have ht : takeL (l ++ octs8 (UInt64.ofNat m)) (l.length : Int) 8 = octs8 (UInt64.ofNat m) := by
    rw [takeL_in h, Int.toNat_natCast, List.drop_left]; rfl
  have e : (UInt64.ofNat m).toNat = m := by simp; omega
  have hl : ¬ (4611686018427387904 : Int) < ((long8 (takeL (l ++ octs8 (UInt64.ofNat m)) (l.length : Int) 8)).toNat : Int) := by rw [ht, long_octs, e]; omega
  refine ⟨(long_in h hl).1, ?_⟩
  rw [(long_in h hl).2, ht, long_octs, e]
theorem Row.from' {w : World} {a : Option Addr} {c : Nat} {l : List UInt8} (h : Row w a (l.map b8)) (hc : l.length ≤ c) (i : Nat) : Row w (Kw.sub a c i 1) ((l.drop i).map b8) := by
  have := h.sub (cap := c) (l := i) (sz := 1) (by simpa using hc)
  simpa using this
theorem Row.mid {w : World} {a : Option Addr} {c : Nat} {l : List UInt8} (h : Row w a (l.map b8)) (hc : l.length ≤ c) (i n : Nat) : Row w (Kw.sub a c i 1) (((l.drop i).take n).map b8) := by
  have := (Row.from' h hc i).take (n := n)
  simpa using this
theorem Row.behind {w : World} {a : Option Addr} {c : Nat} {x y : List UInt8} (h : Row w a ((x ++ y).map b8)) (hc : (x ++ y).length ≤ c) : Row w (Kw.sub a c x.length 1) (y.map b8) := by
  have := Row.from' h hc x.length
  rwa [List.drop_left] at this
theorem Row.front {w : World} {a : Option Addr} {x y : List UInt8} (h : Row w a ((x ++ y).map b8)) : Row w a (x.map b8) := by
  have := h.take (n := x.length)
  rw [← List.map_take, List.take_left] at this
  exact this
theorem long_test {l : List UInt8} {p : Int} (h : roomI l.length p 8 = 0) : (4611686018427387904 : Int) < ((long8 (takeL l p 8)).toNat : Int) ↔ (64 : Int) < ((gt (l.drop p.toNat) 0).toNat : Int) ∨ (((gt (l.drop p.toNat) 0).toNat : Int) = 64 ∧ ¬ ((l.drop p.toNat).drop 1).take 7 = List.replicate 7 0) := by
  have h1 := long_gt (takeL l p 8) (takeL_len _ _ _)
  have e0 : gt (takeL l p 8) 0 = gt (l.drop p.toNat) 0 := by rw [takeL_in h, gt_take _ _ _ (by omega)]
  have e1 : (takeL l p 8).drop 1 = ((l.drop p.toNat).drop 1).take 7 := by rw [takeL_in h, List.drop_take]
  rw [e0, e1] at h1
  constructor
  · intro hh
    rcases h1.1 (by omega) with h2 | ⟨h2, h3⟩
    · exact .inl (by omega)
    · exact .inr ⟨by omega, h3⟩
  · rintro (h2 | ⟨h2, h3⟩)
    · have := h1.2 (.inl (by omega)); omega
    · have := h1.2 (.inr ⟨by omega, h3⟩); omega
end Go.Kw
