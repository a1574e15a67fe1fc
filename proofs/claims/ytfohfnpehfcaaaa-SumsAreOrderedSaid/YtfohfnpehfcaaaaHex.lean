/- Octets written as digits, and read. No condition. -/
import Derived.Test.YtfohfnpehfcaaaaCut
import Derived.Test.YtfohfnpehfcaaaaTree
namespace Go.Kw
set_option linter.unusedVariables false
set_option linter.unusedSimpArgs false
section
variable {P : Program} {ρ : Operand → Value} {w w0 : World} {M : List Nat} {L l1 l2 : List Item} {dst : Option Tmp} {ty : TypeId} {pos : String} {aft : Array Edge} {g : Option (Nat × Bool)} {x y z : Operand} {T T2 E I : TypeId} {v : Value} {k k2 : IntKind}
theorem r_slStr_lh {l : List UInt8} {i j : Nat} (hT : P.underlying T = some .string) (hx : ρ x = .string ⟨l.toArray⟩) (hy : ρ y = .int k (i : Int)) (hz : ρ z = .int k2 (j : Int)) (hi : i ≤ j) (hj : j ≤ l.length) :
    (execOp ρ ⟨dst, .slice T x (some y) (some z) none, ty, pos, aft, g⟩).run P w = .ok (.value (.string ⟨((l.drop i).take (j - i)).toArray⟩)) w := by
  have hs : (⟨l.toArray⟩ : ByteArray).size = l.length := rfl
  simp [execOp, hx, hy, hz, Instr.sliceAt, Instr.slice, Instr.sliceBounds, run_underlying hT, hs, bound_ok hj, bound_ok hi, ext_str]
theorem r_addStrL {a b : List UInt8} (hlen : a.length + b.length ≤ 9223372036854775807) (hx : ρ x = .string ⟨a.toArray⟩) (hy : ρ y = .string ⟨b.toArray⟩) : (execOp ρ ⟨dst, .binOp .add T x y T2, ty, pos, aft, g⟩).run P w = .ok (.value (.string ⟨(a ++ b).toArray⟩)) w := by
  have he : (eqGuard .add T x y (.string ⟨a.toArray⟩) (.string ⟨b.toArray⟩)).run P w = .ok () w := by unfold eqGuard; simp
  have e : (⟨a.toArray⟩ : ByteArray) ++ ⟨b.toArray⟩ = ⟨(a ++ b).toArray⟩ := by
    apply ByteArray.ext
    rw [ByteArray.data_append]; simp
  have hno : ¬ (((⟨a.toArray⟩ : ByteArray).size + (⟨b.toArray⟩ : ByteArray).size : Nat) : Int) > IntKind.i64.max := by
    have h1 : (⟨a.toArray⟩ : ByteArray).size = a.length := rfl
    have h2 : (⟨b.toArray⟩ : ByteArray).size = b.length := rfl
    have h3 : IntKind.i64.max = 9223372036854775807 := rfl
    rw [h1, h2, h3]; omega
  simp only [execOp, hx, hy, Sem.run_bind, he, Result.andThen_ok, binOp, Op.stringOp, e, if_neg hno, Sem.run_pure]
end
abbrev dg (n : Nat) : UInt8 := gt hexDs n
theorem hexd_dg (c : UInt8) : hexd c = [dg (c >>> 4).toNat, dg (c &&& 15).toNat] := rfl
theorem hi_lt (c : UInt8) : (c >>> 4).toNat < 16 := by
  have := c.toNat_lt
  simp [UInt8.toNat_shiftRight, Nat.shiftRight_eq_div_pow]; omega
theorem lo_lt (c : UInt8) : (c &&& 15).toNat < 16 := by
  simp only [UInt8.toNat_and]
  exact Nat.lt_of_le_of_lt Nat.and_le_right (by decide)
theorem r_digAt {P : Program} {ρ : Operand → Value} {w : World} {dst : Option Tmp} {ty : TypeId} {pos : String} {aft : Array Edge} {g : Option (Nat × Bool)} {x y z : Operand} {T : TypeId} {c : UInt8} (hc : c.toNat < 16) (hT : P.underlying T = some .string) (hx : ρ x = .string ⟨hexDs.toArray⟩) (hy : ρ y = b8 c) (hz : ρ z = b8 (c + 1)) :
    (execOp ρ ⟨dst, .slice T x (some y) (some z) none, ty, pos, aft, g⟩).run P w = .ok (.value (.string ⟨[dg c.toNat].toArray⟩)) w := by
  have e : (c + 1).toNat = c.toNat + 1 := by rw [UInt8.toNat_add]; simp; omega
  have hl : hexDs.length = 16 := rfl
  rw [r_slStr_lh (l := hexDs) (i := c.toNat) (j := (c + 1).toNat) hT hx hy hz (by omega) (by omega), e, Nat.add_sub_cancel_left, List.drop_eq_getElem_cons (by omega), List.take_succ_cons, List.take_zero]
  rw [dg, gt_eq hexDs c.toNat (by omega)]
/-- What a digit tells. -/
def digI (c : UInt8) : Int := if 48 ≤ c.toNat ∧ c.toNat ≤ 57 then c.toNat - 48 else if 97 ≤ c.toNat ∧ c.toNat ≤ 102 then c.toNat - 87 else -1
def hexC (c : UInt8) : Bool := decide (0 ≤ digI c)
theorem digI_lt (c : UInt8) : digI c < 16 := by unfold digI; split <;> (try split) <;> omega
theorem digI_ge (c : UInt8) : -1 ≤ digI c := by unfold digI; split <;> (try split) <;> omega
theorem digI_a {c : UInt8} (h1 : 48 ≤ c.toNat) (h2 : c.toNat ≤ 57) : digI c = ((c - 48).toNat : Int) := by
  have e : (c - 48).toNat = c.toNat - 48 := UInt8.toNat_sub_of_le _ _ h1
  unfold digI; rw [if_pos ⟨h1, h2⟩, e]; omega
theorem digI_b {c : UInt8} (h1 : 97 ≤ c.toNat) (h2 : c.toNat ≤ 102) : digI c = ((c - 97).toNat : Int) + 10 := by
  have e : (c - 97).toNat = c.toNat - 97 := UInt8.toNat_sub_of_le _ _ h1
  unfold digI; rw [if_neg (by omega), if_pos ⟨h1, h2⟩, e]; omega
theorem digI_c {c : UInt8} (h1 : ¬ (48 ≤ c.toNat ∧ c.toNat ≤ 57)) (h2 : ¬ (97 ≤ c.toNat ∧ c.toNat ≤ 102)) : digI c = -1 := by
  unfold digI; rw [if_neg h1, if_neg h2]
theorem hexC_iff (c : UInt8) : hexC c = true ↔ (48 ≤ c.toNat ∧ c.toNat ≤ 57) ∨ (97 ≤ c.toNat ∧ c.toNat ≤ 102) := by
  unfold hexC digI
  rw [decide_eq_true_iff]
  split
  · omega
  · split <;> omega
theorem dg_digI : ∀ c : UInt8, 0 ≤ digI c → dg (digI c).toNat = c := by
  have h : ∀ n : Fin 256, 0 ≤ digI (UInt8.ofNat n) → dg (digI (UInt8.ofNat n)).toNat = UInt8.ofNat n := by decide +kernel
  intro c
  have := h ⟨c.toNat, c.toNat_lt⟩
  simpa using this
theorem digI_dg : ∀ n, n < 16 → digI (dg n) = n := by
  have h : ∀ n : Fin 16, digI (dg n) = (n : Nat) := by decide +kernel
  intro n hn
  exact h ⟨n, hn⟩
theorem nib (c : UInt8) : 16 * (c >>> 4).toNat + (c &&& 15).toNat = c.toNat := by
  have h : ∀ n : Fin 256, 16 * (UInt8.ofNat n >>> 4).toNat + (UInt8.ofNat n &&& 15).toNat = n := by decide +kernel
  have := h ⟨c.toNat, c.toNat_lt⟩
  simpa using this
theorem nib_of (a b : Nat) (ha : a < 16) (hb : b < 16) : (UInt8.ofNat (16 * a + b) >>> 4).toNat = a ∧ (UInt8.ofNat (16 * a + b) &&& 15).toNat = b := by
  have h : ∀ a b : Fin 16, (UInt8.ofNat (16 * a.1 + b.1) >>> 4).toNat = a.1 ∧ (UInt8.ofNat (16 * a.1 + b.1) &&& 15).toNat = b.1 := by decide +kernel
  exact h ⟨a, ha⟩ ⟨b, hb⟩
/-- The octets of the first pairs of digits. -/
def unhexTo (t : List UInt8) : Nat → List UInt8
  | 0 => []
  | k + 1 => unhexTo t k ++ [UInt8.ofNat (16 * (digI (gt t (2 * k))).toNat + (digI (gt t (2 * k + 1))).toNat)]
theorem unhexTo_len (t : List UInt8) : ∀ k, (unhexTo t k).length = k
  | 0 => rfl
  | k + 1 => by rw [unhexTo, List.length_append, unhexTo_len t k]; rfl
theorem hexL_app (a b : List UInt8) : hexL (a ++ b) = hexL a ++ hexL b := by simp [hexL]
theorem hex_unhexTo {t : List UInt8} : ∀ k, 2 * k ≤ t.length → (t.take (2 * k)).all hexC = true → hexL (unhexTo t k) = t.take (2 * k)
  | 0, _, _ => rfl
  | k + 1, h, ha => by
    have e : t.take (2 * (k + 1)) = t.take (2 * k) ++ [gt t (2 * k), gt t (2 * k + 1)] := by
      rw [show 2 * (k + 1) = 2 * k + 1 + 1 by omega, take_gt t (2 * k + 1) (by omega), take_gt t (2 * k) (by omega)]; simp
    rw [e, List.all_append, Bool.and_eq_true] at ha
    have h1 : 0 ≤ digI (gt t (2 * k)) := by have := ha.2; simp only [List.all_cons, Bool.and_eq_true] at this; exact of_decide_eq_true this.1
    have h2 : 0 ≤ digI (gt t (2 * k + 1)) := by have := ha.2; simp only [List.all_cons, Bool.and_eq_true] at this; exact of_decide_eq_true this.2.1
    have l1 := digI_lt (gt t (2 * k)); have l2 := digI_lt (gt t (2 * k + 1))
    rw [unhexTo, hexL_app, hex_unhexTo k (by omega) ha.1, e]
    congr 1
    have hn := nib_of (digI (gt t (2 * k))).toNat (digI (gt t (2 * k + 1))).toNat (by omega) (by omega)
    simp only [hexL, List.flatMap_cons, List.flatMap_nil, List.append_nil, hexd_dg, hn.1, hn.2, dg_digI _ h1, dg_digI _ h2]
theorem hexL_gt {l : List UInt8} {k : Nat} (h : k < l.length) : gt (hexL l) (2 * k) = dg (gt l k >>> 4).toNat ∧ gt (hexL l) (2 * k + 1) = dg (gt l k &&& 15).toNat := by
  induction l generalizing k with
  | nil => simp at h
  | cons c l ih =>
    cases k with
    | zero => exact ⟨rfl, rfl⟩
    | succ k =>
      have := ih (k := k) (by simpa using h)
      have e : hexL (c :: l) = dg (c >>> 4).toNat :: dg (c &&& 15).toNat :: hexL l := rfl
      rw [e, show 2 * (k + 1) = 2 * k + 1 + 1 by omega]
      exact this
theorem unhex_hex (l : List UInt8) : ∀ k, k ≤ l.length → unhexTo (hexL l) k = l.take k
  | 0, _ => by simp [unhexTo]
  | k + 1, h => by
    have hg := hexL_gt (l := l) (k := k) (by omega)
    rw [unhexTo, unhex_hex l k (by omega), take_gt l k (by omega), hg.1, hg.2, digI_dg _ (hi_lt _), digI_dg _ (lo_lt _)]
    have hn := nib (gt l k)
    congr 2
    rw [Int.toNat_natCast, Int.toNat_natCast, hn]
    simp
theorem hexC_dg {n : Nat} (h : n < 16) : hexC (dg n) = true := decide_eq_true (by rw [digI_dg n h]; omega)
theorem hexC_hex (l : List UInt8) : (hexL l).all hexC = true := by
  induction l with
  | nil => rfl
  | cons c l ih =>
    have e : hexL (c :: l) = dg (c >>> 4).toNat :: dg (c &&& 15).toNat :: hexL l := rfl
    rw [e, List.all_cons, List.all_cons, hexC_dg (hi_lt _), hexC_dg (lo_lt _), ih]; rfl
theorem hexC_f {t : List UInt8} {k : Nat} (h : k < t.length) (h2 : ¬ hexC (gt t k) = true) : t.all hexC = false := by
  rw [Bool.eq_false_iff]
  intro ha
  exact h2 (List.all_eq_true.1 ha _ (gt_mem t k h))
theorem hexC_step {t : List UInt8} {k : Nat} (h : k < t.length) (h1 : (t.take k).all hexC = true) (h2 : hexC (gt t k) = true) : (t.take (k + 1)).all hexC = true := by
  rw [take_gt t k h, List.all_append, h1, List.all_cons, h2]; rfl
/-- Octet by octet. -/
def xor32 (a b : List UInt8) (k : Nat) : List UInt8 := (List.range 32).map fun j => if j < k then gt a j ^^^ gt b j else gt a j
@[simp] theorem xor32_len (s b : List UInt8) (k : Nat) : (xor32 s b k).length = 32 := by simp [xor32]
theorem gt_xor32 (s b : List UInt8) (k j : Nat) (h : j < 32) : gt (xor32 s b k) j = if j < k then gt s j ^^^ gt b j else gt s j := by
  rw [gt_eq _ j (by simpa using h)]; simp [xor32]
theorem xor32_zero (s b : List UInt8) (hs : s.length = 32) : xor32 s b 0 = s := by
  apply ext_gt
  · simp [hs]
  · intro i hi
    rw [gt_xor32 _ _ _ _ (by simpa using hi), if_neg (by omega)]
theorem xor32_set (s b : List UInt8) (k : Nat) (h : k < 32) : (xor32 s b k).set k (gt (xor32 s b k) k ^^^ gt b k) = xor32 s b (k + 1) := by
  apply ext_gt
  · simp
  · intro i hi
    have hi' : i < 32 := by simpa using hi
    rw [gt_set, gt_xor32 _ _ _ _ hi', gt_xor32 _ _ _ _ hi', gt_xor32 _ _ _ _ h]
    by_cases hij : k = i
    · subst hij; simp [hi']
    · by_cases h2 : i < k
      · simp [hij, h2, Nat.lt_succ_of_lt h2]
      · simp [hij, h2, show ¬ i < k + 1 by omega]
end Go.Kw
