/- What the law's proof leans on. No condition. -/
import Derived.Test.YtflfocmfdlmjiaaPTcAP
import Derived.Test.YtflfocmfdlmjiaaPTcAK
section
namespace Go.Kw
set_option linter.unusedVariables false
set_option linter.unusedSimpArgs false

/-! ### Lists of sums -/
def S32 (l : List (List UInt8)) : Prop := ∀ s ∈ l, s.length = 32
theorem S32.nil : S32 [] := by intro s hs; cases hs
theorem S32.take {l : List (List UInt8)} (h : S32 l) (k : Nat) : S32 (l.take k) := fun s hs => h s (List.mem_of_mem_take hs)
theorem S32.drop {l : List (List UInt8)} (h : S32 l) (k : Nat) : S32 (l.drop k) := fun s hs => h s (List.mem_of_mem_drop hs)
theorem S32.app {l m : List (List UInt8)} (h : S32 l) (h' : S32 m) : S32 (l ++ m) := by
  intro s hs
  rcases List.mem_append.1 hs with hs | hs
  · exact h s hs
  · exact h' s hs
theorem S32.one {s : List UInt8} (h : s.length = 32) : S32 [s] := by intro x hx; rw [List.mem_singleton.1 hx]; exact h
theorem S32.gt {l : List (List UInt8)} (h : S32 l) {i : Nat} (hi : i < l.length) : (gt l i).length = 32 := h _ (gt_mem l i hi)
theorem flat32_len : ∀ {l : List (List UInt8)}, S32 l → l.flatten.length = l.length * 32
  | [], _ => rfl
  | s :: l, h => by
    rw [List.flatten_cons, List.length_append, h s (by simp), flat32_len (l := l) (fun x hx => h x (by simp [hx])), List.length_cons]; omega
theorem flat32_drop : ∀ {l : List (List UInt8)} (i : Nat), S32 l → l.flatten.drop (i * 32) = (l.drop i).flatten
  | l, 0, _ => by simp
  | [], i + 1, _ => by simp
  | s :: l, i + 1, h => by
    rw [List.flatten_cons, List.drop_append, List.drop_of_length_le (by rw [h s (by simp)]; omega), List.nil_append, h s (by simp), List.drop_succ_cons]
    rw [show (i + 1) * 32 - 32 = i * 32 by omega]
    exact flat32_drop i fun x hx => h x (by simp [hx])
theorem flat32_take : ∀ {l : List (List UInt8)} (i : Nat), S32 l → l.flatten.take (i * 32) = (l.take i).flatten
  | l, 0, _ => by simp
  | [], i + 1, _ => by simp
  | s :: l, i + 1, h => by
    rw [List.flatten_cons, List.take_append, List.take_of_length_le (by rw [h s (by simp)]; omega), h s (by simp), List.take_succ_cons, List.flatten_cons]
    rw [show (i + 1) * 32 - 32 = i * 32 by omega]
    rw [flat32_take i fun x hx => h x (by simp [hx])]
theorem flat32_get {l : List (List UInt8)} {i : Nat} (h : S32 l) (hi : i < l.length) : (l.flatten.drop (i * 32)).take 32 = gt l i := by
  rw [flat32_drop i h, show 32 = 1 * 32 from rfl, flat32_take 1 (h.drop i), List.drop_eq_getElem_cons hi, gt_eq l i hi, List.take_succ_cons, List.take_zero, List.flatten_cons, List.flatten_nil, List.append_nil]
theorem flat32_getV {l : List (List UInt8)} {i : Nat} (h : S32 l) (hi : i < l.length) : ((l.flatten.map b8).drop (i * 32)).take 32 = (gt l i).map b8 := by
  rw [← List.map_drop, ← List.map_take, flat32_get h hi]
theorem flat32_lenV {l : List (List UInt8)} (h : S32 l) : (l.flatten.map b8).length = l.length * 32 := by rw [List.length_map, flat32_len h]
theorem Row.from32 {w : World} {a : Option Addr} {c : Nat} {l : List (List UInt8)} (h : Row w a (l.flatten.map b8)) (h32 : S32 l) (hc : l.length ≤ c) (i : Nat) : Row w (Kw.sub a c i 32) ((l.drop i).flatten.map b8) := by
  have := h.sub (cap := c) (l := i) (sz := 32) (by rw [flat32_lenV h32]; omega)
  rwa [← List.map_drop, flat32_drop i h32] at this
theorem Row.take32 {w : World} {a : Option Addr} {l : List (List UInt8)} (h : Row w a (l.flatten.map b8)) (h32 : S32 l) (i : Nat) : Row w a ((l.take i).flatten.map b8) := by
  have := h.take (n := i * 32)
  rwa [← List.map_take, flat32_take i h32] at this
/-! ### The greatest power of two below a number -/
def halfN (n : Nat) : Nat := 2 ^ (n - 1).log2
theorem halfN_lt {n : Nat} (h : 2 ≤ n) : halfN n < n := by
  have := Nat.log2_self_le (n := n - 1) (by omega)
  unfold halfN; omega
theorem halfN_pos (n : Nat) : 0 < halfN n := Nat.two_pow_pos _
theorem halfN_of {n j : Nat} (h : 2 ≤ n) (h1 : 2 ^ j < n) (h2 : n ≤ 2 * 2 ^ j) : halfN n = 2 ^ j := by
  unfold halfN
  congr 1
  have h3 : (n - 1).log2 < j + 1 := (Nat.log2_lt (by omega)).2 (by rw [Nat.pow_succ]; omega)
  have h4 : ¬ (n - 1).log2 < j := fun hh => by
    have := (Nat.log2_lt (by omega)).1 hh
    omega
  omega
def lenN (n : Nat) : Nat := if n = 0 then 0 else n.log2 + 1
theorem lenN_shift (n k : Nat) (h : 2 ^ k ≤ n) : lenN n = lenN (n / 2 ^ k) + k := by
  have hp := Nat.two_pow_pos k
  have h1 : 0 < n / 2 ^ k := Nat.div_pos h hp
  unfold lenN
  rw [if_neg (by omega), if_neg (by omega)]
  have e : n.log2 = (n / 2 ^ k).log2 + k := by
    have ha := Nat.log2_self_le (n := n / 2 ^ k) (by omega)
    have hb := (Nat.log2_lt (n := n / 2 ^ k) (k := (n / 2 ^ k).log2 + 1) (by omega)).1 (Nat.lt_succ_self _)
    have h3 : n.log2 < (n / 2 ^ k).log2 + k + 1 := (Nat.log2_lt (by omega)).2 (by
      have := (Nat.div_lt_iff_lt_mul hp).1 hb
      rw [show (n / 2 ^ k).log2 + k + 1 = ((n / 2 ^ k).log2 + 1) + k by omega, Nat.pow_add]; exact this)
    have h4 : ¬ n.log2 < (n / 2 ^ k).log2 + k := fun hh => by
      have h5 := (Nat.log2_lt (by omega)).1 hh
      rw [Nat.pow_add] at h5
      have h6 : 2 ^ (n / 2 ^ k).log2 * 2 ^ k ≤ n / 2 ^ k * 2 ^ k := Nat.mul_le_mul_right _ ha
      have h7 := Nat.div_mul_le_self n (2 ^ k)
      omega
    omega
  omega
theorem lenN_half {n : Nat} (h : 2 ≤ n) : 2 ^ (lenN (n - 1) - 1) = halfN n := by
  unfold lenN halfN
  rw [if_neg (by omega), Nat.add_sub_cancel]
theorem lenN_pos {n : Nat} (h : 0 < n) : 0 < lenN n := by unfold lenN; rw [if_neg (by omega)]; omega
theorem lenN_le {n k : Nat} (h : n < 2 ^ k) : lenN n ≤ k := by
  unfold lenN
  split
  · omega
  · have := (Nat.log2_lt (n := n) (k := k) (by omega)).2 h
    omega

/-! ### Trees of sums -/
def nodeL (a b : List UInt8) : List UInt8 := sumL (UInt8.ofNat 2) (a ++ b)
@[simp] theorem nodeL_len (a b : List UInt8) : (nodeL a b).length = 32 := sumL_len _ _
def rootL (l : List (List UInt8)) : List UInt8 :=
  if h : l.length ≤ 1 then gt l 0 else nodeL (rootL (l.take (halfN l.length))) (rootL (l.drop (halfN l.length)))
  termination_by l.length
  decreasing_by
    · have := halfN_lt (n := l.length) (by omega); simp only [List.length_take]; omega
    · have := halfN_pos l.length; simp only [List.length_drop]; omega
theorem rootL_one {l : List (List UInt8)} (h : l.length = 1) : rootL l = gt l 0 := by rw [rootL, dif_pos (by omega)]
theorem rootL_two {l : List (List UInt8)} {n : Nat} (hn : l.length = n) (h : ¬ n = 1) (h0 : 0 < n) : rootL l = nodeL (rootL (l.take (halfN n))) (rootL (l.drop (halfN n))) := by subst hn; rw [rootL, dif_neg (by omega)]
theorem rootL_len (l : List (List UInt8)) (h : S32 l) (h0 : 0 < l.length) : (rootL l).length = 32 := by
  by_cases h1 : l.length = 1
  · rw [rootL_one h1]; exact h.gt (by omega)
  · rw [rootL_two rfl h1 h0]; simp

/-- The table of lengths of octets. -/
def lenTab : List UInt8 := [0, 1, 2, 2, 3, 3, 3, 3, 4, 4, 4, 4, 4, 4, 4, 4, 5, 5, 5, 5, 5, 5, 5, 5, 5, 5, 5, 5, 5, 5, 5, 5, 6, 6, 6, 6, 6, 6, 6, 6, 6, 6, 6, 6, 6, 6, 6, 6, 6, 6, 6, 6, 6, 6, 6, 6, 6, 6, 6, 6, 6, 6, 6, 6, 7, 7, 7, 7, 7, 7, 7, 7, 7, 7, 7, 7, 7, 7, 7, 7, 7, 7, 7, 7, 7, 7, 7, 7, 7, 7, 7, 7, 7, 7, 7, 7, 7, 7, 7, 7, 7, 7, 7, 7, 7, 7, 7, 7, 7, 7, 7, 7, 7, 7, 7, 7, 7, 7, 7, 7, 7, 7, 7, 7, 7, 7, 7, 7, 8, 8, 8, 8, 8, 8, 8, 8, 8, 8, 8, 8, 8, 8, 8, 8, 8, 8, 8, 8, 8, 8, 8, 8, 8, 8, 8, 8, 8, 8, 8, 8, 8, 8, 8, 8, 8, 8, 8, 8, 8, 8, 8, 8, 8, 8, 8, 8, 8, 8, 8, 8, 8, 8, 8, 8, 8, 8, 8, 8, 8, 8, 8, 8, 8, 8, 8, 8, 8, 8, 8, 8, 8, 8, 8, 8, 8, 8, 8, 8, 8, 8, 8, 8, 8, 8, 8, 8, 8, 8, 8, 8, 8, 8, 8, 8, 8, 8, 8, 8, 8, 8, 8, 8, 8, 8, 8, 8, 8, 8, 8, 8, 8, 8, 8, 8, 8, 8, 8, 8, 8, 8, 8, 8, 8, 8, 8, 8]
theorem lenTab_all : ∀ n, n < 256 → (gt lenTab n).toNat = lenN n := by decide +kernel
theorem len_tab (c : UInt64) (h : c.toNat < 256) : (gt lenTab c.toUInt8.toNat).toNat = lenN c.toNat := by
  have e : c.toUInt8.toNat = c.toNat := by rw [UInt64.toNat_toUInt8]; omega
  rw [e]; exact lenTab_all _ h
theorem shr64_nat (c : UInt64) (k : Nat) (hk : k < 64) : (c >>> UInt64.ofNat k).toNat = c.toNat / 2 ^ k := by
  rw [UInt64.toNat_shiftRight, UInt64.toNat_ofNat', Nat.mod_eq_of_lt (a := k) (by omega), Nat.mod_eq_of_lt hk, Nat.shiftRight_eq_div_pow]
theorem len_shift64 (c : UInt64) (k : Nat) (hk : k < 64) (h : 2 ^ k ≤ c.toNat) : lenN c.toNat = lenN (c >>> UInt64.ofNat k).toNat + k := by rw [shr64_nat c k hk]; exact lenN_shift _ _ h
theorem len_of (n : Nat) (h : n < 2 ^ 64) : lenN (UInt64.ofNat n).toNat = lenN n := by rw [UInt64.toNat_ofNat', Nat.mod_eq_of_lt h]

/-! ### Proofs of places -/
def stepsL (i n : Nat) : Nat := if h : n ≤ 1 then 0 else if i < halfN n then stepsL i (halfN n) + 1 else stepsL (i - halfN n) (n - halfN n) + 1
  termination_by n
  decreasing_by
    · exact halfN_lt (by omega)
    · have := halfN_pos n; omega
theorem stepsL_one (i : Nat) : stepsL i 1 = 0 := by rw [stepsL, dif_pos (Nat.le_refl _)]
theorem stepsL_lo {i n : Nat} (h : 1 < n) (hi : i < halfN n) : stepsL i n = stepsL i (halfN n) + 1 := by rw [stepsL, dif_neg (by omega), if_pos hi]
theorem stepsL_hi {i n : Nat} (h : 1 < n) (hi : ¬ i < halfN n) : stepsL i n = stepsL (i - halfN n) (n - halfN n) + 1 := by rw [stepsL, dif_neg (by omega), if_neg hi]
def leadL (leaf : List UInt8) (i n : Nat) (p : List (List UInt8)) : List UInt8 :=
  if h : n ≤ 1 then leaf else if i < halfN n then nodeL (leadL leaf i (halfN n) (p.take (p.length - 1))) (gt p (p.length - 1)) else nodeL (gt p (p.length - 1)) (leadL leaf (i - halfN n) (n - halfN n) (p.take (p.length - 1)))
  termination_by n
  decreasing_by
    · exact halfN_lt (by omega)
    · have := halfN_pos n; omega
theorem leadL_one (leaf : List UInt8) (i : Nat) (p : List (List UInt8)) : leadL leaf i 1 p = leaf := by rw [leadL, dif_pos (Nat.le_refl _)]
theorem leadL_lo {leaf : List UInt8} {i n m : Nat} {p : List (List UInt8)} (hp : p.length = m) (h : 1 < n) (hi : i < halfN n) : leadL leaf i n p = nodeL (leadL leaf i (halfN n) (p.take (m - 1))) (gt p (m - 1)) := by subst hp; rw [leadL, dif_neg (by omega), if_pos hi]
theorem leadL_hi {leaf : List UInt8} {i n m : Nat} {p : List (List UInt8)} (hp : p.length = m) (h : 1 < n) (hi : ¬ i < halfN n) : leadL leaf i n p = nodeL (gt p (m - 1)) (leadL leaf (i - halfN n) (n - halfN n) (p.take (m - 1))) := by subst hp; rw [leadL, dif_neg (by omega), if_neg hi]
theorem leadL_len (leaf : List UInt8) (i n : Nat) (p : List (List UInt8)) (hl : leaf.length = 32) : (leadL leaf i n p).length = 32 := by
  rw [leadL]
  split
  · exact hl
  · split <;> simp
def sidesL (i n : Nat) : List Bool := if h : n ≤ 1 then [] else if i < halfN n then sidesL i (halfN n) ++ [false] else sidesL (i - halfN n) (n - halfN n) ++ [true]
  termination_by n
  decreasing_by
    · exact halfN_lt (by omega)
    · have := halfN_pos n; omega
theorem sidesL_one (i : Nat) : sidesL i 1 = [] := by rw [sidesL, dif_pos (Nat.le_refl _)]
theorem sidesL_lo {i n : Nat} (h : 1 < n) (hi : i < halfN n) : sidesL i n = sidesL i (halfN n) ++ [false] := by rw [sidesL, dif_neg (by omega), if_pos hi]
theorem sidesL_hi {i n : Nat} (h : 1 < n) (hi : ¬ i < halfN n) : sidesL i n = sidesL (i - halfN n) (n - halfN n) ++ [true] := by rw [sidesL, dif_neg (by omega), if_neg hi]
theorem sides_steps : ∀ (N i n : Nat), n ≤ N → (sidesL i n).length = stepsL i n := by
  intro N
  induction N with
  | zero => intro i n h; rw [sidesL, stepsL, dif_pos (by omega), dif_pos (by omega)]; rfl
  | succ N ih =>
    intro i n h
    by_cases h1 : n ≤ 1
    · rw [sidesL, stepsL, dif_pos h1, dif_pos h1]; rfl
    · have hl := halfN_lt (n := n) (by omega)
      have hp := halfN_pos n
      by_cases hi : i < halfN n
      · rw [sidesL_lo (by omega) hi, stepsL_lo (by omega) hi, List.length_append, ih _ _ (by omega)]; rfl
      · rw [sidesL_hi (by omega) hi, stepsL_hi (by omega) hi, List.length_append, ih _ _ (by omega)]; rfl
theorem steps_le : ∀ (N i n : Nat), n ≤ N → stepsL i n ≤ n := by
  intro N
  induction N with
  | zero => intro i n h; rw [stepsL, dif_pos (by omega)]; omega
  | succ N ih =>
    intro i n h
    by_cases h1 : n ≤ 1
    · rw [stepsL, dif_pos h1]; omega
    · have hl := halfN_lt (n := n) (by omega)
      have hp := halfN_pos n
      by_cases hi : i < halfN n
      · rw [stepsL_lo (by omega) hi]; have := ih i (halfN n) (by omega); omega
      · rw [stepsL_hi (by omega) hi]; have := ih (i - halfN n) (n - halfN n) (by omega); omega
/-- The reference's way up. -/
def climb (leaf : List UInt8) (s : List Bool) (p : List (List UInt8)) : Nat → List UInt8
  | 0 => leaf
  | k + 1 => if gt s k then nodeL (gt p k) (climb leaf s p k) else nodeL (climb leaf s p k) (gt p k)
theorem gt_app {α : Type} [Inhabited α] (l m : List α) (i : Nat) (h : i < l.length) : gt (l ++ m) i = gt l i := by
  rw [gt_eq _ _ (by simp; omega), gt_eq _ _ h, List.getElem_append_left h]
theorem gt_last {α : Type} [Inhabited α] (l : List α) (x : α) (i : Nat) (h : i = l.length) : gt (l ++ [x]) i = x := by
  subst h; simp [gt]
theorem climb_len (leaf : List UInt8) (s : List Bool) (p : List (List UInt8)) (hl : leaf.length = 32) (k : Nat) : (climb leaf s p k).length = 32 := by
  cases k with
  | zero => exact hl
  | succ k => rw [climb]; split <;> simp
theorem climb_congr (leaf : List UInt8) (s s' : List Bool) (p p' : List (List UInt8)) : ∀ k, (∀ j, j < k → gt s j = gt s' j ∧ gt p j = gt p' j) → climb leaf s p k = climb leaf s' p' k
  | 0, _ => rfl
  | k + 1, h => by
    rw [climb, climb, (h k (by omega)).1, (h k (by omega)).2, climb_congr leaf s s' p p' k fun j hj => h j (by omega)]
theorem climb_lead : ∀ (N : Nat) (leaf : List UInt8) (i n : Nat) (p : List (List UInt8)), n ≤ N → p.length = stepsL i n → climb leaf (sidesL i n) p p.length = leadL leaf i n p := by
  intro N
  induction N with
  | zero => intro leaf i n p h hp; rw [stepsL, dif_pos (by omega)] at hp; rw [leadL, dif_pos (by omega), hp]; rfl
  | succ N ih =>
    intro leaf i n p h hp
    by_cases h1 : n ≤ 1
    · rw [stepsL, dif_pos h1] at hp; rw [leadL, dif_pos h1, hp]; rfl
    · have hl := halfN_lt (n := n) (by omega)
      have hp0 := halfN_pos n
      by_cases hi : i < halfN n
      · have hs := stepsL_lo (i := i) (n := n) (by omega) hi
        obtain ⟨m, hm⟩ : ∃ m, p.length = m + 1 := ⟨stepsL i (halfN n), by omega⟩
        have hlen : (sidesL i (halfN n)).length = m := by rw [sides_steps _ _ _ (Nat.le_refl _)]; omega
        have ht : (p.take m).length = m := by simp; omega
        rw [leadL_lo hm (by omega) hi, hm, climb, sidesL_lo (by omega) hi, gt_last _ _ _ hlen.symm, if_neg (by decide), Nat.add_sub_cancel]
        rw [← ih leaf i (halfN n) (p.take m) (by omega) (by rw [ht]; omega), ht]
        rw [climb_congr leaf _ (sidesL i (halfN n)) p (p.take m) m fun j hj => ⟨gt_app _ _ _ (by omega), (gt_take _ _ _ hj).symm⟩]
      · have hs := stepsL_hi (i := i) (n := n) (by omega) hi
        obtain ⟨m, hm⟩ : ∃ m, p.length = m + 1 := ⟨stepsL (i - halfN n) (n - halfN n), by omega⟩
        have hlen : (sidesL (i - halfN n) (n - halfN n)).length = m := by rw [sides_steps _ _ _ (Nat.le_refl _)]; omega
        have ht : (p.take m).length = m := by simp; omega
        rw [leadL_hi hm (by omega) hi, hm, climb, sidesL_hi (by omega) hi, gt_last _ _ _ hlen.symm, if_pos rfl, Nat.add_sub_cancel]
        rw [← ih leaf (i - halfN n) (n - halfN n) (p.take m) (by omega) (by rw [ht]; omega), ht]
        rw [climb_congr leaf _ (sidesL (i - halfN n) (n - halfN n)) p (p.take m) m fun j hj => ⟨gt_app _ _ _ (by omega), (gt_take _ _ _ hj).symm⟩]
/-- What RootBy tells: a root and an error. -/
def rootByE (i n : Int) (k : Nat) : Int := if n < 1 ∨ 65536 < n then 4 else if i < 0 ∨ n ≤ i then 7 else if k = stepsL i.toNat n.toNat then 0 else 12
def rootByL (leaf : List UInt8) (i n : Int) (p : List (List UInt8)) : List UInt8 := if rootByE i n p.length = 0 then leadL leaf i.toNat n.toNat p else List.replicate 32 0
theorem rootByE_range {i n : Int} {k : Nat} (h : n < 1 ∨ 65536 < n) : rootByE i n k = 4 := by unfold rootByE; rw [if_pos h]
theorem rootByE_none {i n : Int} {k : Nat} (h1 : ¬ n < 1) (h2 : ¬ 65536 < n) (h : i < 0 ∨ n ≤ i) : rootByE i n k = 7 := by unfold rootByE; rw [if_neg (by omega), if_pos h]
theorem rootByE_proof {i n k : Nat} (h1 : 1 ≤ n) (h2 : n ≤ 65536) (h : i < n) (hk : ¬ k = stepsL i n) : rootByE i n k = 12 := by unfold rootByE; rw [if_neg (by omega), if_neg (by omega), if_neg (by simpa using hk)]
theorem rootByE_ok {i n k : Nat} (h1 : 1 ≤ n) (h2 : n ≤ 65536) (h : i < n) (hk : k = stepsL i n) : rootByE i n k = 0 := by unfold rootByE; rw [if_neg (by omega), if_neg (by omega), if_pos (by simpa using hk)]
theorem rootByL_no {leaf : List UInt8} {i n : Int} {p : List (List UInt8)} {e : Int} (h : rootByE i n p.length = e) (he : ¬ e = 0) : rootByL leaf i n p = List.replicate 32 0 := by unfold rootByL; rw [h, if_neg he]
theorem rootByL_ok {leaf : List UInt8} {i n : Nat} {p : List (List UInt8)} (h : rootByE i n p.length = 0) : rootByL leaf i n p = leadL leaf i n p := by unfold rootByL; rw [if_pos h]; rfl
theorem rootByL_len (leaf : List UInt8) (i n : Int) (p : List (List UInt8)) (hl : leaf.length = 32) : (rootByL leaf i n p).length = 32 := by
  unfold rootByL
  split
  · exact leadL_len _ _ _ _ hl
  · simp

section
variable {P : Program} {ρ : Operand → Value} {w w0 : World} {M : List Nat} {L l1 l2 : List Item} {dst : Option Tmp} {ty : TypeId} {pos : String} {aft : Array Edge} {g : Option (Nat × Bool)} {x y z : Operand} {T T2 E I : TypeId} {v : Value} {k : IntKind}
  {d dE : TypeDesc} {sz bts b o : Nat} {zv : Value} {a : Option Addr} {cs C : List Value}
theorem r_ix32 {len cap m : Nat} {l : List (List UInt8)} (h : P.underlying T = some (.slice E)) (hE : TI P E dE 32 bts zv) (hx : ρ x = .slice a len cap) (hy : ρ y = .int k (m : Int)) (hr : Row w a (l.flatten.map b8)) (h32 : S32 l) (hl : l.length = len) (hm : m < len) :
    (execOp ρ ⟨dst, .indexAddr T x y, ty, pos, aft, g⟩).run P w = .ok (.value (.pointer (a.map (·.add (m * 32))))) w :=
  r_ixS h hE hx hy hr hm (by rw [flat32_lenV h32, hl]; omega)
theorem r_load32 {m : Nat} {l : List (List UInt8)} (h : TI P T d 32 bts zv) (hd : aggD d = true) (hx : ρ x = .pointer (a.map (·.add (m * 32)))) (hr : Row w a (l.flatten.map b8)) (h32 : S32 l) (hm : m < l.length) :
    (execOp ρ ⟨dst, .load T x, ty, pos, aft, g⟩).run P w = .ok (.value (.agg ((gt l m).map b8).toArray)) w := by
  rw [r_loadSA h hd hx hr (by decide) (by rw [flat32_lenV h32]; omega), flat32_getV h32 hm]
end
theorem bool_cases (b : Bool) : b = true ∨ b = false := by cases b <;> simp
theorem stepsL_pos {i n : Nat} (h : 1 < n) : 1 ≤ stepsL i n := by
  by_cases hi : i < halfN n
  · rw [stepsL_lo h hi]; omega
  · rw [stepsL_hi h hi]; omega
theorem rb_res {leaf : List UInt8} {i n : Int} {p : List (List UInt8)} {e : Int} (h : rootByE i n p.length = e) (he : ¬ e = 0) :
    Value.tuple #[.agg ((List.replicate 32 (0 : UInt8)).map b8).toArray, .int .i64 e] = .tuple #[.agg ((rootByL leaf i n p).map b8).toArray, .int .i64 (rootByE i n p.length)] := by rw [rootByL_no h he, h]
theorem rb_ok {leaf : List UInt8} {i n : Nat} {p : List (List UInt8)} {x : List UInt8} (h1 : 1 ≤ n) (h2 : n ≤ 65536) (h : i < n) (hk : p.length = stepsL i n) (hx : x = leadL leaf i n p) :
    Value.tuple #[.agg (x.map b8).toArray, .int .i64 0] = .tuple #[.agg ((rootByL leaf i n p).map b8).toArray, .int .i64 (rootByE i n p.length)] := by
  have he := rootByE_ok h1 h2 h hk
  rw [rootByL_ok he, he, hx]
def leafL (t : List UInt8) : List UInt8 := sumL (UInt8.ofNat 1) t
@[simp] theorem leafL_len (t : List UInt8) : (leafL t).length = 32 := sumL_len _ _
theorem take_gt {α : Type} [Inhabited α] (l : List α) (k : Nat) (h : k < l.length) : l.take (k + 1) = l.take k ++ [gt l k] := by
  rw [List.take_succ_eq_append_getElem h, gt_eq _ _ h]
theorem flat_take1 (l : List (List UInt8)) (k : Nat) (h : k < l.length) : (l.take (k + 1)).flatten = (l.take k).flatten ++ gt l k := by
  rw [take_gt l k h, List.flatten_append]; simp
/-- What Proved tells. -/
def provedE (root leaf : List UInt8) (i n : Int) (p : List (List UInt8)) : Int := if rootByE i n p.length = 0 ∧ ¬ rootByL leaf i n p = root then 12 else rootByE i n p.length
theorem provedE_bad {root leaf : List UInt8} {i n : Int} {p : List (List UInt8)} (h1 : rootByE i n p.length = 0) (h2 : ¬ rootByL leaf i n p = root) : provedE root leaf i n p = 12 := by unfold provedE; rw [if_pos ⟨h1, h2⟩]
theorem provedE_no {root leaf : List UInt8} {i n : Int} {p : List (List UInt8)} (h1 : ¬ rootByE i n p.length = 0) : provedE root leaf i n p = rootByE i n p.length := by unfold provedE; rw [if_neg (fun h => h1 h.1)]
theorem provedE_ok {root leaf : List UInt8} {i n : Int} {p : List (List UInt8)} (h2 : ¬ ¬ rootByL leaf i n p = root) : provedE root leaf i n p = rootByE i n p.length := by unfold provedE; rw [if_neg (fun h => h2 h.2)]
theorem climb_all {leaf : List UInt8} {i n : Nat} {p : List (List UInt8)} {k : Nat} (hk : k = p.length) (h : p.length = stepsL i n) : climb leaf (sidesL i n) p k = leadL leaf i n p := by subst hk; exact climb_lead n leaf i n p (Nat.le_refl _) h

/-! ### Proofs of growth -/
section
variable {older : List UInt8} {m n k : Nat} {wh : Bool} {p : List (List UInt8)} {x y : List UInt8}
end
/-! ### Proofs that are made -/
def pathL (l : List (List UInt8)) (i : Nat) : List (List UInt8) :=
  if h : l.length ≤ 1 then [] else if i < halfN l.length then pathL (l.take (halfN l.length)) i ++ [rootL (l.drop (halfN l.length))] else pathL (l.drop (halfN l.length)) (i - halfN l.length) ++ [rootL (l.take (halfN l.length))]
  termination_by l.length
  decreasing_by
    · have := halfN_lt (n := l.length) (by omega); simp only [List.length_take]; omega
    · have := halfN_pos l.length; simp only [List.length_drop]; omega
theorem pathL_one {l : List (List UInt8)} (i : Nat) (h : l.length = 1) : pathL l i = [] := by rw [pathL, dif_pos (by omega)]
theorem pathL_lo {l : List (List UInt8)} {i n : Nat} (hn : l.length = n) (h : 1 < n) (hi : i < halfN n) : pathL l i = pathL (l.take (halfN n)) i ++ [rootL (l.drop (halfN n))] := by subst hn; rw [pathL, dif_neg (by omega), if_pos hi]
theorem pathL_hi {l : List (List UInt8)} {i n : Nat} (hn : l.length = n) (h : 1 < n) (hi : ¬ i < halfN n) : pathL l i = pathL (l.drop (halfN n)) (i - halfN n) ++ [rootL (l.take (halfN n))] := by subst hn; rw [pathL, dif_neg (by omega), if_neg hi]
theorem pathL_len : ∀ (N : Nat) (l : List (List UInt8)) (i n : Nat), n ≤ N → l.length = n → (pathL l i).length = stepsL i n := by
  intro N
  induction N with
  | zero => intro l i n h hl; rw [pathL, stepsL, dif_pos (by omega), dif_pos (by omega)]; rfl
  | succ N ih =>
    intro l i n h hl
    by_cases h1 : n ≤ 1
    · rw [pathL, stepsL, dif_pos (by omega), dif_pos h1]; rfl
    · have hlt := halfN_lt (n := n) (by omega)
      have hp := halfN_pos n
      by_cases hi : i < halfN n
      · rw [pathL_lo hl (by omega) hi, stepsL_lo (by omega) hi, List.length_append, ih _ _ (halfN n) (by omega) (by simp; omega)]; rfl
      · rw [pathL_hi hl (by omega) hi, stepsL_hi (by omega) hi, List.length_append, ih _ _ (n - halfN n) (by omega) (by simp; omega)]; rfl
theorem pathL_32 : ∀ (N : Nat) (l : List (List UInt8)) (i : Nat), l.length ≤ N → S32 l → S32 (pathL l i) := by
  intro N
  induction N with
  | zero => intro l i h _; rw [pathL, dif_pos (by omega)]; exact S32.nil
  | succ N ih =>
    intro l i h h32
    by_cases h1 : l.length ≤ 1
    · rw [pathL, dif_pos h1]; exact S32.nil
    · have hlt := halfN_lt (n := l.length) (by omega)
      have hp := halfN_pos l.length
      by_cases hi : i < halfN l.length
      · rw [pathL_lo rfl (by omega) hi]
        exact (ih _ _ (by simp; omega) (h32.take _)).app (S32.one (rootL_len _ (h32.drop _) (by simp; omega)))
      · rw [pathL_hi rfl (by omega) hi]
        exact (ih _ _ (by simp; omega) (h32.drop _)).app (S32.one (rootL_len _ (h32.take _) (by simp; omega)))
theorem gt_last' {α : Type} [Inhabited α] (l : List α) (x : α) : gt (l ++ [x]) ((l ++ [x]).length - 1) = x := gt_last l x _ (by simp)
theorem take_last' {α : Type} (l : List α) (x : α) : (l ++ [x]).take ((l ++ [x]).length - 1) = l := by simp
/-- A proof that is made leads to the root. -/
theorem path_leads : ∀ (N : Nat) (l : List (List UInt8)) (i n : Nat), n ≤ N → l.length = n → i < n → leadL (gt l i) i n (pathL l i) = rootL l := by
  intro N
  induction N with
  | zero => intros; omega
  | succ N ih =>
    intro l i n h hl hin
    by_cases h1 : n = 1
    · subst h1
      obtain rfl : i = 0 := by omega
      rw [leadL_one, rootL_one hl]
    · have hlt := halfN_lt (n := n) (by omega)
      have hp := halfN_pos n
      by_cases hi : i < halfN n
      · rw [leadL_lo rfl (by omega) hi, pathL_lo hl (by omega) hi, gt_last', take_last', rootL_two hl h1 (by omega), ← ih (l.take (halfN n)) i (halfN n) (by omega) (by simp; omega) hi, gt_take _ _ _ hi]
      · rw [leadL_hi rfl (by omega) hi, pathL_hi hl (by omega) hi, gt_last', take_last', rootL_two hl h1 (by omega), ← ih (l.drop (halfN n)) (i - halfN n) (n - halfN n) (by omega) (by simp; omega) (by omega), gt_drop]
        rw [show halfN n + (i - halfN n) = i by omega]
theorem flat_snoc (l : List (List UInt8)) (x : List UInt8) : (l ++ [x]).flatten = l.flatten ++ x := by rw [List.flatten_append]; simp
/-- Octets in pieces of 32. -/
theorem chunk32 : ∀ (n : Nat) (us : List UInt8), us.length = n * 32 → ∃ l : List (List UInt8), S32 l ∧ l.length = n ∧ l.flatten = us
  | 0, us, h => ⟨[], S32.nil, rfl, (List.eq_nil_of_length_eq_zero (by omega)).symm⟩
  | n + 1, us, h => by
    obtain ⟨l, h1, h2, h3⟩ := chunk32 n (us.drop 32) (by simp; omega)
    refine ⟨us.take 32 :: l, ?_, by simp [h2], by rw [List.flatten_cons, h3, List.take_append_drop]⟩
    intro s hs
    rcases List.mem_cons.1 hs with rfl | hs
    · simp; omega
    · exact h1 s hs
theorem St.chunk {w0 w : World} {M : List Nat} {l1 l2 : List Item} {v : Value} {E : TypeId} {n : Nat} {us : List UInt8} (hS : St w0 M w (l1 ++ .row v E 32 n (us.map b8) :: l2)) : ∃ q : List (List UInt8), S32 q ∧ q.length = n ∧ St w0 M w (l1 ++ .row v E 32 n (q.flatten.map b8) :: l2) := by
  have hl := (hS.has (.row v E 32 n (us.map b8)) (by simp)).1.1
  obtain ⟨q, h1, h2, h3⟩ := chunk32 n us (by simpa using hl)
  exact ⟨q, h1, h2, by rw [h3]; exact hS⟩
theorem made_proved {l : List (List UInt8)} {i n : Nat} (hl : l.length = n) (hi : i < n) (hn : n ≤ 65536) : provedE (rootL l) (gt l i) i n (pathL l i) = 0 := by
  have hp := pathL_len n l i n (Nat.le_refl _) hl
  have he := rootByE_ok (i := i) (n := n) (by omega) hn hi hp
  have hr : rootByL (gt l i) i n (pathL l i) = rootL l := by rw [rootByL_ok he, path_leads n l i n (Nat.le_refl _) hl hi]
  rw [provedE_ok (not_not_intro hr), he]
end Go.Kw
end
section
namespace Go.Kw
set_option linter.unusedVariables false
set_option linter.unusedSimpArgs false

/-! ### Lists of elements of m octets -/
def SN (m : Nat) (l : List (List UInt8)) : Prop := ∀ s ∈ l, s.length = m
section
variable {m : Nat} {l : List (List UInt8)}
theorem SN.nil : SN m [] := by intro s hs; cases hs
theorem SN.app {l' : List (List UInt8)} (h : SN m l) (h' : SN m l') : SN m (l ++ l') := by
  intro s hs
  rcases List.mem_append.1 hs with hs | hs
  · exact h s hs
  · exact h' s hs
theorem SN.one {s : List UInt8} (h : s.length = m) : SN m [s] := by intro x hx; rw [List.mem_singleton.1 hx]; exact h
theorem SN.gt {i : Nat} (h : SN m l) (hi : i < l.length) : (gt l i).length = m := h _ (gt_mem l i hi)
theorem SN.filter (h : SN m l) (p : List UInt8 → Bool) : SN m (l.filter p) := fun s hs => h s (List.mem_filter.1 hs).1
theorem SN.take (h : SN m l) (k : Nat) : SN m (l.take k) := fun s hs => h s (List.mem_of_mem_take hs)
theorem SN.drop (h : SN m l) (k : Nat) : SN m (l.drop k) := fun s hs => h s (List.mem_of_mem_drop hs)
end
section
variable {P : Program} {ρ : Operand → Value} {w w0 : World} {M : List Nat} {L l1 l2 : List Item} {dst : Option Tmp} {ty : TypeId} {pos : String} {aft : Array Edge} {g : Option (Nat × Bool)} {x y z : Operand} {T T2 E I : TypeId} {v : Value} {k : IntKind}
  {d dE : TypeDesc} {sz bts b o : Nat} {zv : Value} {a : Option Addr} {cs C : List Value}
/-- A field of an element. -/
theorem r_fieldR {i off : Nat} (h : FA P T i off) (hx : ρ x = .pointer (a.map (·.add o))) (hr : Row w a cs) (hn : 0 < cs.length) : (execOp ρ ⟨dst, .fieldAddr T x i, ty, pos, aft, g⟩).run P w = .ok (.value (.pointer (a.map (·.add (o + off))))) w := by
  obtain ⟨b, q, rfl, _⟩ := hr.some_of hn
  have := r_field (ρ := ρ) (x := x) (dst := dst) (ty := ty) (pos := pos) (aft := aft) (g := g) (w := w) (b := b) (o := q + o) h (by rw [hx]; simp [add_lit])
  rw [this]
  simp [add_lit, Nat.add_assoc]
end

/-! ### Bits -/
def bitL (k : List UInt8) (i : Nat) : Nat := (gt k (i / 8) >>> UInt8.ofNat (7 - i % 8)).toNat % 2
theorem bitL_01 (k : List UInt8) (i : Nat) : bitL k i = 0 ∨ bitL k i = 1 := by unfold bitL; omega
/-! ### Marks of levels -/
/-! ### The way up -/
def sideL (k : List UInt8) (i : Nat) (s o : List UInt8) : List UInt8 := if bitL k i = 0 then nodeL s o else nodeL o s
@[simp] theorem sideL_len (k : List UInt8) (i : Nat) (s o : List UInt8) : (sideL k i s o).length = 32 := by unfold sideL; split <;> simp
def leafM (e : List UInt8) : List UInt8 := sumL (UInt8.ofNat 4) e
@[simp] theorem leafM_len (e : List UInt8) : (leafM e).length = 32 := sumL_len _ _
/-! ### The reference's root of entries (a key and its value, 64 octets) -/
/-- Keys that part from some level on. -/
def Parts (i : Nat) (l : List (List UInt8)) : Prop := l.Pairwise fun x y => ∃ j, i ≤ j ∧ j < 256 ∧ ¬ bitL x j = bitL y j
theorem Parts.zero {i : Nat} {l : List (List UInt8)} (h : Parts i l) : Parts (i + 1) (l.filter fun e => bitL e i == 0) := by
  unfold Parts
  rw [List.pairwise_filter]
  refine List.Pairwise.imp ?_ h
  rintro x y ⟨j, h1, h2, h3⟩ hx hy
  refine ⟨j, ?_, h2, h3⟩
  by_cases hij : j = i
  · subst hij
    simp only [beq_iff_eq] at hx hy
    omega
  · omega
theorem Parts.one {i : Nat} {l : List (List UInt8)} (h : Parts i l) : Parts (i + 1) (l.filter fun e => !(bitL e i == 0)) := by
  unfold Parts
  rw [List.pairwise_filter]
  refine List.Pairwise.imp ?_ h
  rintro x y ⟨j, h1, h2, h3⟩ hx hy
  refine ⟨j, ?_, h2, h3⟩
  by_cases hij : j = i
  · subst hij
    have := bitL_01 x j; have := bitL_01 y j
    simp only [Bool.not_eq_true', beq_eq_false_iff_ne, ne_eq] at hx hy
    omega
  · omega
section
variable {P : Program} {ρ : Operand → Value} {w w0 : World} {M : List Nat} {L l1 l2 : List Item} {dst : Option Tmp} {ty : TypeId} {pos : String} {aft : Array Edge} {g : Option (Nat × Bool)} {x y z : Operand} {T T2 E I : TypeId} {v : Value} {k : IntKind}
  {d dE : TypeDesc} {sz bts b o : Nat} {zv : Value} {a : Option Addr} {cs C : List Value}
end
end Go.Kw
end
section
namespace Go.Kw
set_option linter.unusedVariables false
set_option linter.unusedSimpArgs false
section
variable {P : Program} {ρ : Operand → Value} {w w0 : World} {M : List Nat} {L l1 l2 : List Item} {dst : Option Tmp} {ty : TypeId} {pos : String} {aft : Array Edge} {g : Option (Nat × Bool)} {x y z : Operand} {T T2 E I : TypeId} {v : Value} {k : IntKind}
  {d dE : TypeDesc} {sz bts b o : Nat} {zv : Value} {a : Option Addr} {cs C : List Value}
theorem flatM_gt {α : Type} [Inhabited α] {f : α → List Value} (hf : ∀ x, (f x).length = sz) {l : List α} {m : Nat} (hm : m < l.length) : ((l.flatMap f).drop (m * sz)).take sz = f (gt l m) := by
  apply List.ext_getElem?
  intro j
  by_cases hj : j < sz
  · rw [List.getElem?_take_of_lt hj, List.getElem?_drop, flatM_get hf l m j (gt l m) (by rw [gt_eq l m hm]; exact List.getElem?_eq_getElem hm) hj]
  · rw [List.getElem?_eq_none (by rw [List.length_take]; omega), List.getElem?_eq_none (by rw [hf]; omega)]
theorem r_ixF {α : Type} [Inhabited α] {f : α → List Value} {len cap m : Nat} {l : List α} (hf : ∀ x, (f x).length = sz) (h : P.underlying T = some (.slice E)) (hE : TI P E dE sz bts zv) (hx : ρ x = .slice a len cap) (hy : ρ y = .int k (m : Int)) (hr : Row w a (l.flatMap f)) (hl : l.length = len) (hm : m < len) (hz : 0 < sz) :
    (execOp ρ ⟨dst, .indexAddr T x y, ty, pos, aft, g⟩).run P w = .ok (.value (.pointer (a.map (·.add (m * sz))))) w :=
  r_ixS h hE hx hy hr hm (by rw [flatM_len hf, hl]; exact Nat.mul_lt_mul_of_pos_right hm hz)
theorem r_loadF {α : Type} [Inhabited α] {f : α → List Value} {m : Nat} {l : List α} (hf : ∀ x, (f x).length = sz) (h : TI P T d sz bts zv) (hd : aggD d = true) (hx : ρ x = .pointer (a.map (·.add (m * sz)))) (hr : Row w a (l.flatMap f)) (hm : m < l.length) (hz : 0 < sz) :
    (execOp ρ ⟨dst, .load T x, ty, pos, aft, g⟩).run P w = .ok (.value (.agg (f (gt l m)).toArray)) w := by
  have h1 : m * sz + sz ≤ l.length * sz := by rw [← Nat.succ_mul]; exact Nat.mul_le_mul_right _ hm
  rw [r_loadSA h hd hx hr hz (by rw [flatM_len hf]; exact h1), flatM_gt hf hm]
theorem r_fieldF {α : Type} [Inhabited α] {f : α → List Value} {i off m : Nat} {l : List α} (hf : ∀ x, (f x).length = sz) (h : FA P T i off) (hx : ρ x = .pointer (a.map (·.add (m * sz)))) (hr : Row w a (l.flatMap f)) (hm : m < l.length) (hz : 0 < sz) :
    (execOp ρ ⟨dst, .fieldAddr T x i, ty, pos, aft, g⟩).run P w = .ok (.value (.pointer (a.map (·.add (m * sz + off))))) w :=
  r_fieldR h hx hr (by rw [flatM_len hf]; have : 1 * 1 ≤ l.length * sz := Nat.mul_le_mul (by omega) hz; omega)
theorem r_loadFF {α : Type} [Inhabited α] {f : α → List Value} {m off : Nat} {l : List α} (hf : ∀ x, (f x).length = sz) (h : P.underlying T = some d) (hd : aggD d = false) (hx : ρ x = .pointer (a.map (·.add (m * sz + off)))) (hr : Row w a (l.flatMap f)) (hm : m < l.length) (ho : off < sz) (hv : (f (gt l m))[off]? = some v) :
    (execOp ρ ⟨dst, .load T x, ty, pos, aft, g⟩).run P w = .ok (.value v) w :=
  r_loadS1 h hd hx hr (by rw [flatM_get hf l m off (gt l m) (by rw [gt_eq l m hm]; exact List.getElem?_eq_getElem hm) ho]; exact hv)
end
end Go.Kw
end
