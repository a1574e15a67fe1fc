/- How many bits of a number are set, as math/bits counts them. No condition. -/
import Derived.Test.YtfohfnpehfcaaaaDoorTree
namespace Go.Kw
set_option linter.unusedVariables false
set_option linter.unusedSimpArgs false
/-- How many bits are set. -/
def popN (n : Nat) : Nat := if h : n = 0 then 0 else n % 2 + popN (n / 2)
termination_by n
decreasing_by omega
theorem popN_zero : popN 0 = 0 := by rw [popN, dif_pos rfl]
theorem popN_step {n : Nat} (h : 0 < n) : popN n = n % 2 + popN (n / 2) := by rw [popN, dif_neg (by omega)]
theorem popN_two (b : Nat) : popN (2 * b) = popN b := by
  rcases Nat.eq_zero_or_pos b with rfl | h
  · rfl
  · rw [popN_step (n := 2 * b) (by omega), show 2 * b % 2 = 0 by omega, show 2 * b / 2 = b by omega, Nat.zero_add]
theorem popN_two1 (b : Nat) : popN (2 * b + 1) = popN b + 1 := by
  rw [popN_step (n := 2 * b + 1) (by omega), show (2 * b + 1) % 2 = 1 by omega, show (2 * b + 1) / 2 = b by omega, Nat.add_comm]
theorem popN_le : ∀ (k n : Nat), n < 2 ^ k → popN n ≤ k
  | 0, n, h => by
    obtain rfl : n = 0 := by simpa using h
    rw [popN_zero]; exact Nat.le_refl _
  | k + 1, n, h => by
    rcases Nat.eq_zero_or_pos n with rfl | h0
    · rw [popN_zero]; exact Nat.zero_le _
    · have := popN_le k (n / 2) (by rw [Nat.pow_succ] at h; omega)
      rw [popN_step h0]; omega
def onesA (x : UInt64) : UInt64 := ((x >>> UInt64.ofNat 1) &&& 6148914691236517205) + (x &&& 6148914691236517205)
def onesB (x : UInt64) : UInt64 := ((x >>> UInt64.ofNat 2) &&& 3689348814741910323) + (x &&& 3689348814741910323)
def onesC (x : UInt64) : UInt64 := ((x >>> UInt64.ofNat 4) + x) &&& 1085102592571150095
def onesD (x : UInt64) : UInt64 := x + x >>> UInt64.ofNat 8
def onesE (x : UInt64) : UInt64 := x + x >>> UInt64.ofNat 16
def onesG (x : UInt64) : UInt64 := x + x >>> UInt64.ofNat 32
def onesU (x : UInt64) : UInt64 := onesG (onesE (onesD (onesC (onesB (onesA x)))))
/-- The same in plain numbers. -/
def onesN (n : Nat) : Nat :=
  (fun a : Nat => (fun b : Nat => (fun c : Nat => (fun d : Nat => (fun e : Nat => e + e >>> 32) (d + d >>> 16)) (c + c >>> 8)) (((b >>> 4) + b) &&& 1085102592571150095)) (((a >>> 2) &&& 3689348814741910323) + (a &&& 3689348814741910323))) (((n >>> 1) &&& 6148914691236517205) + (n &&& 6148914691236517205))
def chkOnes : Nat → Nat → Nat → Bool
  | 0, b, p => Nat.beq (onesN b % 128) p
  | k + 1, b, p => chkOnes k (2 * b) p && chkOnes k (2 * b + 1) (p + 1)
theorem chk_all : ∀ (k b p : Nat), chkOnes k b p = true → p = popN b → ∀ m, m < 2 ^ k → onesN (b * 2 ^ k + m) % 128 = popN (b * 2 ^ k + m)
  | 0, b, p, h, hp, m, hm => by
    obtain rfl : m = 0 := by simpa using hm
    subst hp
    have := Nat.eq_of_beq_eq_true h
    simpa using this
  | k + 1, b, p, h, hp, m, hm => by
    simp only [chkOnes, Bool.and_eq_true] at h
    rw [Nat.pow_succ] at hm ⊢
    by_cases hlt : m < 2 ^ k
    · have := chk_all k (2 * b) p h.1 (by rw [popN_two]; exact hp) m hlt
      have e : b * (2 ^ k * 2) + m = 2 * b * 2 ^ k + m := by rw [Nat.mul_comm (2 ^ k) 2, ← Nat.mul_assoc, Nat.mul_comm b 2]
      rwa [e]
    · have := chk_all k (2 * b + 1) (p + 1) h.2 (by rw [popN_two1, hp]) (m - 2 ^ k) (by omega)
      have e : b * (2 ^ k * 2) + m = (2 * b + 1) * 2 ^ k + (m - 2 ^ k) := by
        rw [Nat.add_mul, Nat.one_mul, Nat.mul_comm (2 ^ k) 2, ← Nat.mul_assoc, Nat.mul_comm b 2]; omega
      rwa [e]
theorem ones_all : chkOnes 16 0 0 = true := by decide +kernel
theorem onesN_pop {n : Nat} (h : n ≤ 65536) : onesN n % 128 = popN n := by
  by_cases h2 : n < 65536
  · have := chk_all 16 0 0 ones_all (by rw [popN_zero]) n h2
    simpa using this
  · obtain rfl : n = 65536 := by omega
    have : popN 65536 = 1 := by
      show popN (2 * 32768) = 1
      rw [popN_two, show 32768 = 2 * 16384 from rfl, popN_two, show 16384 = 2 * 8192 from rfl, popN_two, show 8192 = 2 * 4096 from rfl, popN_two, show 4096 = 2 * 2048 from rfl, popN_two, show 2048 = 2 * 1024 from rfl, popN_two, show 1024 = 2 * 512 from rfl, popN_two,
        show 512 = 2 * 256 from rfl, popN_two, show 256 = 2 * 128 from rfl, popN_two, show 128 = 2 * 64 from rfl, popN_two, show 64 = 2 * 32 from rfl, popN_two, show 32 = 2 * 16 from rfl, popN_two, show 16 = 2 * 8 from rfl, popN_two, show 8 = 2 * 4 from rfl, popN_two, show 4 = 2 * 2 from rfl, popN_two,
        show 2 = 2 * 1 from rfl, popN_two, show 1 = 2 * 0 + 1 from rfl, popN_two1, popN_zero]
    rw [this]; decide +kernel
theorem shr_n (x : UInt64) (s n : Nat) (hs : s < 64) (h : x.toNat = n) : (x >>> UInt64.ofNat s).toNat = n >>> s := by
  subst h
  have : (UInt64.ofNat s).toNat % 64 = s := by rw [UInt64.toNat_ofNat', Nat.mod_eq_of_lt (by omega : s < 2 ^ 64), Nat.mod_eq_of_lt hs]
  rw [UInt64.toNat_shiftRight, this]
theorem add_n {x y : UInt64} {a b : Nat} (hx : x.toNat = a) (hy : y.toNat = b) (h : a + b < 18446744073709551616) : (x + y).toNat = a + b := by
  rw [UInt64.toNat_add, hx, hy, Nat.mod_eq_of_lt (by simpa using h)]
theorem and_n {x m : UInt64} {a : Nat} (hx : x.toNat = a) : (x &&& m).toNat = a &&& m.toNat := by rw [UInt64.toNat_and, hx]
theorem shr_le (a s : Nat) : a >>> s ≤ a := Nat.shiftRight_le a s
theorem onesU_nat {x : UInt64} {n : Nat} (hx : x.toNat = n) (h : n ≤ 65536) : (onesU x).toNat = onesN n ∧ onesN n ≤ 67108864 := by
  have a1 : (onesA x).toNat = ((n >>> 1) &&& 6148914691236517205) + (n &&& 6148914691236517205) :=
    add_n (and_n (shr_n x 1 n (by decide) hx)) (and_n hx) (by have := @Nat.and_le_left (n >>> 1) 6148914691236517205; have := @Nat.and_le_left n 6148914691236517205; have := shr_le n 1; omega)
  have b1 : ((n >>> 1) &&& 6148914691236517205) + (n &&& 6148914691236517205) ≤ 131072 := by have := @Nat.and_le_left (n >>> 1) 6148914691236517205; have := @Nat.and_le_left n 6148914691236517205; have := shr_le n 1; omega
  unfold onesU onesN
  generalize ((n >>> 1) &&& 6148914691236517205) + (n &&& 6148914691236517205) = p at *
  generalize onesA x = y at *
  have a2 : (onesB y).toNat = ((p >>> 2) &&& 3689348814741910323) + (p &&& 3689348814741910323) :=
    add_n (and_n (shr_n y 2 p (by decide) a1)) (and_n a1) (by have := @Nat.and_le_left (p >>> 2) 3689348814741910323; have := @Nat.and_le_left p 3689348814741910323; have := shr_le p 2; omega)
  have b2 : ((p >>> 2) &&& 3689348814741910323) + (p &&& 3689348814741910323) ≤ 262144 := by have := @Nat.and_le_left (p >>> 2) 3689348814741910323; have := @Nat.and_le_left p 3689348814741910323; have := shr_le p 2; omega
  simp only []
  generalize ((p >>> 2) &&& 3689348814741910323) + (p &&& 3689348814741910323) = q at *
  generalize onesB y = z at *
  have a3 : (onesC z).toNat = ((q >>> 4) + q) &&& 1085102592571150095 := and_n (add_n (shr_n z 4 q (by decide) a2) a2 (by have := shr_le q 4; omega))
  have b3 : ((q >>> 4) + q) &&& 1085102592571150095 ≤ 524288 := by have := @Nat.and_le_left ((q >>> 4) + q) 1085102592571150095; have := shr_le q 4; omega
  generalize ((q >>> 4) + q) &&& 1085102592571150095 = r at *
  generalize onesC z = u at *
  have a4 : (onesD u).toNat = r + r >>> 8 := add_n a3 (shr_n u 8 r (by decide) a3) (by have := shr_le r 8; omega)
  have b4 : r + r >>> 8 ≤ 1048576 := by have := shr_le r 8; omega
  generalize r + r >>> 8 = s at *
  generalize onesD u = v at *
  have a5 : (onesE v).toNat = s + s >>> 16 := add_n a4 (shr_n v 16 s (by decide) a4) (by have := shr_le s 16; omega)
  have b5 : s + s >>> 16 ≤ 2097152 := by have := shr_le s 16; omega
  generalize s + s >>> 16 = t at *
  generalize onesE v = o at *
  have a6 : (onesG o).toNat = t + t >>> 32 := add_n a5 (shr_n o 32 t (by decide) a5) (by have := shr_le t 32; omega)
  exact ⟨a6, by have := shr_le t 32; omega⟩
end Go.Kw
