/- What the law's proof leans on. No condition. -/
import Derived.Test.YtbanoknkplcedaaPEMAG
import Derived.Test.YtbanoknkplcedaaPEMAC
namespace Go.Kw
set_option linter.unusedVariables false
set_option linter.unusedSimpArgs false

/-- The fault if there are not k octets from a place on. -/
def roomI (n : Nat) (at' : Int) (k : Nat) : Int := if at' < 0 then 4 else if (n : Int) < k ∨ (n : Int) - k < at' then 1 else 0
theorem room_neg {n k : Nat} {p : Int} (h : p < 0) : roomI n p k = 4 := by simp [roomI, h]
theorem room_out {n k : Nat} {p : Int} (h : ¬ p < 0) (h2 : (n : Int) < k ∨ (n : Int) - k < p) : roomI n p k = 1 := by unfold roomI; rw [if_neg h, if_pos h2]
theorem room_in {n k : Nat} {p : Int} (h : 0 ≤ p) (h2 : p + k ≤ n) : roomI n p k = 0 := by
  have h1 : ¬ p < 0 := by omega
  have h3 : ¬ ((n : Int) < k ∨ (n : Int) - k < p) := by omega
  unfold roomI; rw [if_neg h1, if_neg h3]
theorem room_zero {n k : Nat} {p : Int} (h : roomI n p k = 0) : 0 ≤ p ∧ p + k ≤ n := by
  unfold roomI at h
  split at h
  · omega
  · split at h <;> omega
theorem toNat_cast {p : Int} (h : 0 ≤ p) : ((p.toNat : Nat) : Int) = p := Int.toNat_of_nonneg h

def takeL (l : List UInt8) (at' : Int) (k : Nat) : List UInt8 := if roomI l.length at' k = 0 then (l.drop at'.toNat).take k else List.replicate k 0
theorem takeL_in {l : List UInt8} {p : Int} {k : Nat} (h : roomI l.length p k = 0) : takeL l p k = (l.drop p.toNat).take k := by simp [takeL, h]
theorem takeL_out {l : List UInt8} {p : Int} {k : Nat} (h : ¬ roomI l.length p k = 0) : takeL l p k = List.replicate k 0 := by simp [takeL, h]

/-- Eight octets as a number. -/
def long8 (o : List UInt8) : UInt64 := (word4 (o.take 4)).toUInt64 <<< 32 ||| (word4 (o.drop 4)).toUInt64
def longE (l : List UInt8) (at' : Int) : Int := if roomI l.length at' 8 = 0 then if 4611686018427387904 < (long8 (takeL l at' 8)).toNat then 4 else 0 else roomI l.length at' 8
def longV (l : List UInt8) (at' : Int) : Nat := if longE l at' = 0 then (long8 (takeL l at' 8)).toNat else 0
theorem long_out {l : List UInt8} {p : Int} (h : ¬ roomI l.length p 8 = 0) : longE l p = roomI l.length p 8 ∧ longV l p = 0 := by
  have e : longE l p = roomI l.length p 8 := by unfold longE; rw [if_neg h]
  exact ⟨e, by unfold longV; rw [e, if_neg h]⟩
theorem long_big {l : List UInt8} {p : Int} (h : roomI l.length p 8 = 0) (h2 : (4611686018427387904 : Int) < ((long8 (takeL l p 8)).toNat : Int)) : longE l p = 4 ∧ longV l p = 0 := by
  have e : longE l p = 4 := by unfold longE; rw [if_pos h, if_pos (by omega)]
  exact ⟨e, by unfold longV; rw [e]; rfl⟩
theorem long_in {l : List UInt8} {p : Int} (h : roomI l.length p 8 = 0) (h2 : ¬ (4611686018427387904 : Int) < ((long8 (takeL l p 8)).toNat : Int)) : longE l p = 0 ∧ longV l p = (long8 (takeL l p 8)).toNat := by
  have e : longE l p = 0 := by unfold longE; rw [if_pos h, if_neg (by omega)]
  exact ⟨e, by unfold longV; rw [e]; rfl⟩
theorem long8_take {l : List UInt8} {p : Int} (h : roomI l.length p 8 = 0) : long8 (takeL l p 8) = (word4 ((l.drop (p.toNat * 1)).take 4)).toUInt64 <<< (UInt64.ofNat 32) ||| (word4 ((l.drop ((p.toNat + 4) * 1)).take 4)).toUInt64 := by
  rw [takeL_in h, long8, Nat.mul_one, Nat.mul_one]
  congr 4
  · rw [List.take_take]; rfl
  · rw [List.drop_take, List.drop_drop]

/-- What PutLong writes for n. -/
def putN (n : Int) : Nat := if n < 0 ∨ 4611686018427387904 < n then 0 else n.toNat

theorem putN_out {n : Int} (h : n < 0 ∨ 4611686018427387904 < n) : putN n = 0 := by unfold putN; rw [if_pos h]
theorem putN_in {n : Int} (h0 : ¬ n < 0) (h1 : ¬ 4611686018427387904 < n) : ((putN n : Nat) : Int) = n := by unfold putN; rw [if_neg (by omega)]; omega
theorem putN_le (n : Int) : putN n ≤ 4611686018427387904 := by unfold putN; split <;> omega
theorem row_none {w : World} {cs : List Value} (h : Row w none cs) : cs = [] := by
  rcases h with h | ⟨_, _, h, _⟩
  · exact h
  · cases h
theorem nil_of_none {w : World} {a : Option Addr} {l : List UInt8} (h : Row w a (l.map b8)) (ha : a = none) : l = [] := by
  subst ha
  simpa using row_none h

/-- A slice as data: its place, its room and what lies in it. -/
structure Sl (α : Type) where
  a : Option Addr
  c : Nat
  xs : List α
instance {α : Type} : Inhabited (Sl α) := ⟨⟨none, 0, []⟩⟩
def Sl.v {α : Type} (s : Sl α) : Value := .slice s.a s.xs.length s.c
abbrev Piece := Sl UInt8
abbrev Piece.v (p : Piece) : Value := Sl.v p
def total (ps : List Piece) : Nat := (ps.map fun p => p.xs.length).sum
def joined (ps : List Piece) : List UInt8 := ps.flatMap (·.xs)
theorem total_take (ps : List Piece) (k : Nat) (h : k < ps.length) : total (ps.take (k + 1)) = total (ps.take k) + (gt ps k).xs.length := by
  rw [List.take_succ_eq_append_getElem h, gt_eq _ _ h]
  simp only [total, List.map_append, List.sum_append, List.map_cons, List.map_nil, List.sum_cons, List.sum_nil, Nat.add_zero]
theorem total_le (ps : List Piece) (k : Nat) : total (ps.take k) ≤ total ps := by
  have : total ps = total (ps.take k) + total (ps.drop k) := by
    conv => lhs; rw [← List.take_append_drop k ps]
    simp only [total, List.map_append, List.sum_append]
  omega
theorem joined_take (ps : List Piece) (k : Nat) (h : k < ps.length) : joined (ps.take (k + 1)) = joined (ps.take k) ++ (gt ps k).xs := by
  rw [List.take_succ_eq_append_getElem h, gt_eq _ _ h]
  simp only [joined, List.flatMap_append, List.flatMap_cons, List.flatMap_nil, List.append_nil]
theorem joined_len (ps : List Piece) : (joined ps).length = total ps := by simp [joined, total, List.length_flatMap]
theorem gt_mem {α : Type} [Inhabited α] (l : List α) (i : Nat) (h : i < l.length) : gt l i ∈ l := by rw [gt_eq l i h]; exact List.getElem_mem h
theorem gt_take {α : Type} [Inhabited α] (l : List α) (n j : Nat) (h : j < n) : gt (l.take n) j = gt l j := by simp [gt, List.getD_eq_getElem?_getD, List.getElem?_take, h]
theorem gt_drop {α : Type} [Inhabited α] (l : List α) (n j : Nat) : gt (l.drop n) j = gt l (n + j) := by simp [gt, List.getD_eq_getElem?_getD, List.getElem?_drop]
theorem long8_nat (o : List UInt8) : (long8 o).toNat = (word4 (o.take 4)).toNat * 4294967296 + (word4 (o.drop 4)).toNat := by
  have h1 := (word4 (o.take 4)).toNat_lt
  have h2 := (word4 (o.drop 4)).toNat_lt
  simp only [long8, UInt64.toNat_or, UInt64.toNat_shiftLeft, UInt32.toNat_toUInt64, Nat.shiftLeft_eq]
  rw [show (32 : UInt64).toNat % 64 = 32 from rfl, Nat.mod_eq_of_lt (by omega), or_add _ _ 32 (by omega)]
theorem long_octs (x : UInt64) : long8 (octs8 x) = x := by
  apply UInt64.toNat_inj.1
  have e1 : (octs8 x).take 4 = octs (x >>> 32).toUInt32 := rfl
  have e2 : (octs8 x).drop 4 = octs x.toUInt32 := rfl
  rw [long8_nat, e1, e2, word_octs, word_octs]
  have h := x.toNat_lt
  simp only [UInt64.toNat_toUInt32, UInt64.toNat_shiftRight, Nat.shiftRight_eq_div_pow]
  rw [show (32 : UInt64).toNat % 64 = 32 from rfl]
  omega
theorem Row.from' {w : World} {a : Option Addr} {c : Nat} {l : List UInt8} (h : Row w a (l.map b8)) (hc : l.length ≤ c) (i : Nat) : Row w (Kw.sub a c i 1) ((l.drop i).map b8) := by
  have := h.sub (cap := c) (l := i) (sz := 1) (by simpa using hc)
  simpa using this
theorem Row.mid {w : World} {a : Option Addr} {c : Nat} {l : List UInt8} (h : Row w a (l.map b8)) (hc : l.length ≤ c) (i n : Nat) : Row w (Kw.sub a c i 1) (((l.drop i).take n).map b8) := by
  have := (Row.from' h hc i).take (n := n)
  simpa using this
theorem Row.behind {w : World} {a : Option Addr} {c : Nat} {x y : List UInt8} (h : Row w a ((x ++ y).map b8)) (hc : (x ++ y).length ≤ c) : Row w (Kw.sub a c x.length 1) (y.map b8) := by
  have := Row.from' h hc x.length
  rwa [List.drop_left] at this
end Go.Kw
