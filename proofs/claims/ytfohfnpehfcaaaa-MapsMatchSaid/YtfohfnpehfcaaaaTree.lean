/- Lists of sums in memory; the parts of trees as plain functions. No condition. -/
import Derived.Test.YtfohfnpehfcaaaaData
import Derived.Test.YtfohfnpehfcaaaaSum
namespace Go.Kw
set_option linter.unusedVariables false
set_option linter.unusedSimpArgs false

/-! ### Lists of sums -/
def S32 (l : List (List UInt8)) : Prop := ∀ s ∈ l, s.length = 32
theorem S32.nil : S32 [] := by intro s hs; cases hs
theorem S32.take {l : List (List UInt8)} (h : S32 l) (k : Nat) : S32 (l.take k) := fun s hs => h s (List.mem_of_mem_take hs)
theorem S32.drop {l : List (List UInt8)} (h : S32 l) (k : Nat) : S32 (l.drop k) := fun s hs => h s (List.mem_of_mem_drop hs)
theorem S32.app {l m : List (List UInt8)} (h : S32 l) (h' : S32 m) : S32 (l ++ m) := by
  intro s hs
  rcases List.mem_append.1 hs with hs | hs
  · exact h s hs
  · exact h' s hs
theorem S32.one {s : List UInt8} (h : s.length = 32) : S32 [s] := by intro x hx; rw [List.mem_singleton.1 hx]; exact h
theorem S32.gt {l : List (List UInt8)} (h : S32 l) {i : Nat} (hi : i < l.length) : (gt l i).length = 32 := h _ (gt_mem l i hi)
theorem flat32_len : ∀ {l : List (List UInt8)}, S32 l → l.flatten.length = l.length * 32
  | [], _ => rfl
  | s :: l, h => by
    rw [List.flatten_cons, List.length_append, h s (by simp), flat32_len (l := l) (fun x hx => h x (by simp [hx])), List.length_cons]; omega
theorem flat32_drop : ∀ {l : List (List UInt8)} (i : Nat), S32 l → l.flatten.drop (i * 32) = (l.drop i).flatten
  | l, 0, _ => by simp
  | [], i + 1, _ => by simp
  | s :: l, i + 1, h => by
    rw [List.flatten_cons, List.drop_append, List.drop_of_length_le (by rw [h s (by simp)]; omega), List.nil_append, h s (by simp), List.drop_succ_cons]
    rw [show (i + 1) * 32 - 32 = i * 32 by omega]
    exact flat32_drop i fun x hx => h x (by simp [hx])
theorem flat32_take : ∀ {l : List (List UInt8)} (i : Nat), S32 l → l.flatten.take (i * 32) = (l.take i).flatten
  | l, 0, _ => by simp
  | [], i + 1, _ => by simp
  | s :: l, i + 1, h => by
    rw [List.flatten_cons, List.take_append, List.take_of_length_le (by rw [h s (by simp)]; omega), h s (by simp), List.take_succ_cons, List.flatten_cons]
    rw [show (i + 1) * 32 - 32 = i * 32 by omega]
    rw [flat32_take i fun x hx => h x (by simp [hx])]
theorem flat32_get {l : List (List UInt8)} {i : Nat} (h : S32 l) (hi : i < l.length) : (l.flatten.drop (i * 32)).take 32 = gt l i := by
  rw [flat32_drop i h, show 32 = 1 * 32 from rfl, flat32_take 1 (h.drop i), List.drop_eq_getElem_cons hi, gt_eq l i hi, List.take_succ_cons, List.take_zero, List.flatten_cons, List.flatten_nil, List.append_nil]
theorem flat32_getV {l : List (List UInt8)} {i : Nat} (h : S32 l) (hi : i < l.length) : ((l.flatten.map b8).drop (i * 32)).take 32 = (gt l i).map b8 := by
  rw [← List.map_drop, ← List.map_take, flat32_get h hi]
theorem flat32_lenV {l : List (List UInt8)} (h : S32 l) : (l.flatten.map b8).length = l.length * 32 := by rw [List.length_map, flat32_len h]
theorem Row.from32 {w : World} {a : Option Addr} {c : Nat} {l : List (List UInt8)} (h : Row w a (l.flatten.map b8)) (h32 : S32 l) (hc : l.length ≤ c) (i : Nat) : Row w (Kw.sub a c i 32) ((l.drop i).flatten.map b8) := by
  have := h.sub (cap := c) (l := i) (sz := 32) (by rw [flat32_lenV h32]; omega)
  rwa [← List.map_drop, flat32_drop i h32] at this
theorem Row.take32 {w : World} {a : Option Addr} {l : List (List UInt8)} (h : Row w a (l.flatten.map b8)) (h32 : S32 l) (i : Nat) : Row w a ((l.take i).flatten.map b8) := by
  have := h.take (n := i * 32)
  rwa [← List.map_take, flat32_take i h32] at this
theorem opens_sums {P : Program} {w : World} {t e q : TypeId} (hu : P.underlying t = some (.slice e)) (he : P.underlying e = some (.array 32 q)) (hq : P.underlying q = some (.int .u8)) (hcq : P.cellsOf q = 1) (hc : P.cellsOf e = 32) (hby : P.bytesOf e = 32) :
    Opens P w t (fun s : Sl (List UInt8) => [s.v]) (fun s => Row w s.a (s.xs.flatten.map b8) ∧ s.xs.length ≤ s.c ∧ s.c * 32 ≤ 140737488351232 ∧ S32 s.xs) := by
  have h1 := (opens_bytesA (w := w) he hq hcq hc).to (f' := fun y : { s : List UInt8 // s.length = 32 } => y.1.map b8) (R' := fun _ => True) (fun s => if h : s.length = 32 then ⟨s, h⟩ else ⟨List.replicate 32 0, by simp⟩)
  intro H enc fuel cs x hx hw
  have h2 : Opens P w e (fun y : { s : List UInt8 // s.length = 32 } => y.1.map b8) (fun _ => True) := by
    intro H enc fuel cs x hx hw
    obtain ⟨y, e1, e2⟩ := opens_bytesA (w := w) he hq hcq hc H enc fuel cs x hx hw
    exact ⟨⟨y, e2⟩, e1, trivial⟩
  obtain ⟨y, e1, r1, r2, r3, _⟩ := opens_slice hu hc (by decide) hby (fun x => by simp [x.2]) h2 H enc fuel cs x hx hw
  have hf : y.xs.flatMap (fun y => y.1.map b8) = (y.xs.map (·.1)).flatten.map b8 := by
    simp [List.flatMap, List.map_flatten, Function.comp_def]
  refine ⟨⟨y.a, y.c, y.xs.map (·.1)⟩, by rw [e1]; simp [Sl.v], by rw [← hf]; exact r1, by simpa using r2, r3, ?_⟩
  intro s hs
  obtain ⟨z, _, rfl⟩ := List.mem_map.1 hs
  exact z.2

/-! ### The greatest power of two below a number -/
def halfN (n : Nat) : Nat := 2 ^ (n - 1).log2
theorem halfN_lt {n : Nat} (h : 2 ≤ n) : halfN n < n := by
  have := Nat.log2_self_le (n := n - 1) (by omega)
  unfold halfN; omega
theorem halfN_pos (n : Nat) : 0 < halfN n := Nat.two_pow_pos _
theorem halfN_of {n j : Nat} (h : 2 ≤ n) (h1 : 2 ^ j < n) (h2 : n ≤ 2 * 2 ^ j) : halfN n = 2 ^ j := by
  unfold halfN
  congr 1
  have h3 : (n - 1).log2 < j + 1 := (Nat.log2_lt (by omega)).2 (by rw [Nat.pow_succ]; omega)
  have h4 : ¬ (n - 1).log2 < j := fun hh => by
    have := (Nat.log2_lt (by omega)).1 hh
    omega
  omega
def lenN (n : Nat) : Nat := if n = 0 then 0 else n.log2 + 1
theorem lenN_shift (n k : Nat) (h : 2 ^ k ≤ n) : lenN n = lenN (n / 2 ^ k) + k := by
  have hp := Nat.two_pow_pos k
  have h1 : 0 < n / 2 ^ k := Nat.div_pos h hp
  unfold lenN
  rw [if_neg (by omega), if_neg (by omega)]
  have e : n.log2 = (n / 2 ^ k).log2 + k := by
    have ha := Nat.log2_self_le (n := n / 2 ^ k) (by omega)
    have hb := (Nat.log2_lt (n := n / 2 ^ k) (k := (n / 2 ^ k).log2 + 1) (by omega)).1 (Nat.lt_succ_self _)
    have h3 : n.log2 < (n / 2 ^ k).log2 + k + 1 := (Nat.log2_lt (by omega)).2 (by
      have := (Nat.div_lt_iff_lt_mul hp).1 hb
      rw [show (n / 2 ^ k).log2 + k + 1 = ((n / 2 ^ k).log2 + 1) + k by omega, Nat.pow_add]; exact this)
    have h4 : ¬ n.log2 < (n / 2 ^ k).log2 + k := fun hh => by
      have h5 := (Nat.log2_lt (by omega)).1 hh
      rw [Nat.pow_add] at h5
      have h6 : 2 ^ (n / 2 ^ k).log2 * 2 ^ k ≤ n / 2 ^ k * 2 ^ k := Nat.mul_le_mul_right _ ha
      have h7 := Nat.div_mul_le_self n (2 ^ k)
      omega
    omega
  omega
theorem lenN_half {n : Nat} (h : 2 ≤ n) : 2 ^ (lenN (n - 1) - 1) = halfN n := by
  unfold lenN halfN
  rw [if_neg (by omega), Nat.add_sub_cancel]
theorem lenN_pos {n : Nat} (h : 0 < n) : 0 < lenN n := by unfold lenN; rw [if_neg (by omega)]; omega
theorem lenN_le {n k : Nat} (h : n < 2 ^ k) : lenN n ≤ k := by
  unfold lenN
  split
  · omega
  · have := (Nat.log2_lt (n := n) (k := k) (by omega)).2 h
    omega

/-! ### Trees of sums -/
def nodeL (a b : List UInt8) : List UInt8 := sumL (UInt8.ofNat 2) (a ++ b)
@[simp] theorem nodeL_len (a b : List UInt8) : (nodeL a b).length = 32 := sumL_len _ _
def rootL (l : List (List UInt8)) : List UInt8 :=
  if h : l.length ≤ 1 then gt l 0 else nodeL (rootL (l.take (halfN l.length))) (rootL (l.drop (halfN l.length)))
  termination_by l.length
  decreasing_by
    · have := halfN_lt (n := l.length) (by omega); simp only [List.length_take]; omega
    · have := halfN_pos l.length; simp only [List.length_drop]; omega
theorem rootL_one {l : List (List UInt8)} (h : l.length = 1) : rootL l = gt l 0 := by rw [rootL, dif_pos (by omega)]
theorem rootL_two {l : List (List UInt8)} {n : Nat} (hn : l.length = n) (h : ¬ n = 1) (h0 : 0 < n) : rootL l = nodeL (rootL (l.take (halfN n))) (rootL (l.drop (halfN n))) := by subst hn; rw [rootL, dif_neg (by omega)]
theorem rootL_len (l : List (List UInt8)) (h : S32 l) (h0 : 0 < l.length) : (rootL l).length = 32 := by
  by_cases h1 : l.length = 1
  · rw [rootL_one h1]; exact h.gt (by omega)
  · rw [rootL_two rfl h1 h0]; simp

/-- The table of lengths of octets. -/
def lenTab : List UInt8 := [0, 1, 2, 2, 3, 3, 3, 3, 4, 4, 4, 4, 4, 4, 4, 4, 5, 5, 5, 5, 5, 5, 5, 5, 5, 5, 5, 5, 5, 5, 5, 5, 6, 6, 6, 6, 6, 6, 6, 6, 6, 6, 6, 6, 6, 6, 6, 6, 6, 6, 6, 6, 6, 6, 6, 6, 6, 6, 6, 6, 6, 6, 6, 6, 7, 7, 7, 7, 7, 7, 7, 7, 7, 7, 7, 7, 7, 7, 7, 7, 7, 7, 7, 7, 7, 7, 7, 7, 7, 7, 7, 7, 7, 7, 7, 7, 7, 7, 7, 7, 7, 7, 7, 7, 7, 7, 7, 7, 7, 7, 7, 7, 7, 7, 7, 7, 7, 7, 7, 7, 7, 7, 7, 7, 7, 7, 7, 7, 8, 8, 8, 8, 8, 8, 8, 8, 8, 8, 8, 8, 8, 8, 8, 8, 8, 8, 8, 8, 8, 8, 8, 8, 8, 8, 8, 8, 8, 8, 8, 8, 8, 8, 8, 8, 8, 8, 8, 8, 8, 8, 8, 8, 8, 8, 8, 8, 8, 8, 8, 8, 8, 8, 8, 8, 8, 8, 8, 8, 8, 8, 8, 8, 8, 8, 8, 8, 8, 8, 8, 8, 8, 8, 8, 8, 8, 8, 8, 8, 8, 8, 8, 8, 8, 8, 8, 8, 8, 8, 8, 8, 8, 8, 8, 8, 8, 8, 8, 8, 8, 8, 8, 8, 8, 8, 8, 8, 8, 8, 8, 8, 8, 8, 8, 8, 8, 8, 8, 8, 8, 8, 8, 8, 8, 8, 8, 8]
theorem lenTab_all : ∀ n, n < 256 → (gt lenTab n).toNat = lenN n := by decide +kernel
theorem len_tab (c : UInt64) (h : c.toNat < 256) : (gt lenTab c.toUInt8.toNat).toNat = lenN c.toNat := by
  have e : c.toUInt8.toNat = c.toNat := by rw [UInt64.toNat_toUInt8]; omega
  rw [e]; exact lenTab_all _ h
theorem shr64_nat (c : UInt64) (k : Nat) (hk : k < 64) : (c >>> UInt64.ofNat k).toNat = c.toNat / 2 ^ k := by
  rw [UInt64.toNat_shiftRight, UInt64.toNat_ofNat', Nat.mod_eq_of_lt (a := k) (by omega), Nat.mod_eq_of_lt hk, Nat.shiftRight_eq_div_pow]
theorem len_shift64 (c : UInt64) (k : Nat) (hk : k < 64) (h : 2 ^ k ≤ c.toNat) : lenN c.toNat = lenN (c >>> UInt64.ofNat k).toNat + k := by rw [shr64_nat c k hk]; exact lenN_shift _ _ h
theorem len_of (n : Nat) (h : n < 2 ^ 64) : lenN (UInt64.ofNat n).toNat = lenN n := by rw [UInt64.toNat_ofNat', Nat.mod_eq_of_lt h]

/-! ### Proofs of places -/
def stepsL (i n : Nat) : Nat := if h : n ≤ 1 then 0 else if i < halfN n then stepsL i (halfN n) + 1 else stepsL (i - halfN n) (n - halfN n) + 1
  termination_by n
  decreasing_by
    · exact halfN_lt (by omega)
    · have := halfN_pos n; omega
theorem stepsL_one (i : Nat) : stepsL i 1 = 0 := by rw [stepsL, dif_pos (Nat.le_refl _)]
theorem stepsL_lo {i n : Nat} (h : 1 < n) (hi : i < halfN n) : stepsL i n = stepsL i (halfN n) + 1 := by rw [stepsL, dif_neg (by omega), if_pos hi]
theorem stepsL_hi {i n : Nat} (h : 1 < n) (hi : ¬ i < halfN n) : stepsL i n = stepsL (i - halfN n) (n - halfN n) + 1 := by rw [stepsL, dif_neg (by omega), if_neg hi]
def leadL (leaf : List UInt8) (i n : Nat) (p : List (List UInt8)) : List UInt8 :=
  if h : n ≤ 1 then leaf else if i < halfN n then nodeL (leadL leaf i (halfN n) (p.take (p.length - 1))) (gt p (p.length - 1)) else nodeL (gt p (p.length - 1)) (leadL leaf (i - halfN n) (n - halfN n) (p.take (p.length - 1)))
  termination_by n
  decreasing_by
    · exact halfN_lt (by omega)
    · have := halfN_pos n; omega
theorem leadL_one (leaf : List UInt8) (i : Nat) (p : List (List UInt8)) : leadL leaf i 1 p = leaf := by rw [leadL, dif_pos (Nat.le_refl _)]
theorem leadL_lo {leaf : List UInt8} {i n m : Nat} {p : List (List UInt8)} (hp : p.length = m) (h : 1 < n) (hi : i < halfN n) : leadL leaf i n p = nodeL (leadL leaf i (halfN n) (p.take (m - 1))) (gt p (m - 1)) := by subst hp; rw [leadL, dif_neg (by omega), if_pos hi]
theorem leadL_hi {leaf : List UInt8} {i n m : Nat} {p : List (List UInt8)} (hp : p.length = m) (h : 1 < n) (hi : ¬ i < halfN n) : leadL leaf i n p = nodeL (gt p (m - 1)) (leadL leaf (i - halfN n) (n - halfN n) (p.take (m - 1))) := by subst hp; rw [leadL, dif_neg (by omega), if_neg hi]
theorem leadL_len (leaf : List UInt8) (i n : Nat) (p : List (List UInt8)) (hl : leaf.length = 32) : (leadL leaf i n p).length = 32 := by
  rw [leadL]
  split
  · exact hl
  · split <;> simp
def sidesL (i n : Nat) : List Bool := if h : n ≤ 1 then [] else if i < halfN n then sidesL i (halfN n) ++ [false] else sidesL (i - halfN n) (n - halfN n) ++ [true]
  termination_by n
  decreasing_by
    · exact halfN_lt (by omega)
    · have := halfN_pos n; omega
theorem sidesL_one (i : Nat) : sidesL i 1 = [] := by rw [sidesL, dif_pos (Nat.le_refl _)]
theorem sidesL_lo {i n : Nat} (h : 1 < n) (hi : i < halfN n) : sidesL i n = sidesL i (halfN n) ++ [false] := by rw [sidesL, dif_neg (by omega), if_pos hi]
theorem sidesL_hi {i n : Nat} (h : 1 < n) (hi : ¬ i < halfN n) : sidesL i n = sidesL (i - halfN n) (n - halfN n) ++ [true] := by rw [sidesL, dif_neg (by omega), if_neg hi]
theorem sides_steps : ∀ (N i n : Nat), n ≤ N → (sidesL i n).length = stepsL i n := by
  intro N
  induction N with
  | zero => intro i n h; rw [sidesL, stepsL, dif_pos (by omega), dif_pos (by omega)]; rfl
  | succ N ih =>
    intro i n h
    by_cases h1 : n ≤ 1
    · rw [sidesL, stepsL, dif_pos h1, dif_pos h1]; rfl
    · have hl := halfN_lt (n := n) (by omega)
      have hp := halfN_pos n
      by_cases hi : i < halfN n
      · rw [sidesL_lo (by omega) hi, stepsL_lo (by omega) hi, List.length_append, ih _ _ (by omega)]; rfl
      · rw [sidesL_hi (by omega) hi, stepsL_hi (by omega) hi, List.length_append, ih _ _ (by omega)]; rfl
theorem steps_le : ∀ (N i n : Nat), n ≤ N → stepsL i n ≤ n := by
  intro N
  induction N with
  | zero => intro i n h; rw [stepsL, dif_pos (by omega)]; omega
  | succ N ih =>
    intro i n h
    by_cases h1 : n ≤ 1
    · rw [stepsL, dif_pos h1]; omega
    · have hl := halfN_lt (n := n) (by omega)
      have hp := halfN_pos n
      by_cases hi : i < halfN n
      · rw [stepsL_lo (by omega) hi]; have := ih i (halfN n) (by omega); omega
      · rw [stepsL_hi (by omega) hi]; have := ih (i - halfN n) (n - halfN n) (by omega); omega
/-- The reference's way up. -/
def climb (leaf : List UInt8) (s : List Bool) (p : List (List UInt8)) : Nat → List UInt8
  | 0 => leaf
  | k + 1 => if gt s k then nodeL (gt p k) (climb leaf s p k) else nodeL (climb leaf s p k) (gt p k)
theorem gt_app {α : Type} [Inhabited α] (l m : List α) (i : Nat) (h : i < l.length) : gt (l ++ m) i = gt l i := by
  rw [gt_eq _ _ (by simp; omega), gt_eq _ _ h, List.getElem_append_left h]
theorem gt_last {α : Type} [Inhabited α] (l : List α) (x : α) (i : Nat) (h : i = l.length) : gt (l ++ [x]) i = x := by
  subst h; simp [gt]
theorem climb_len (leaf : List UInt8) (s : List Bool) (p : List (List UInt8)) (hl : leaf.length = 32) (k : Nat) : (climb leaf s p k).length = 32 := by
  cases k with
  | zero => exact hl
  | succ k => rw [climb]; split <;> simp
theorem climb_congr (leaf : List UInt8) (s s' : List Bool) (p p' : List (List UInt8)) : ∀ k, (∀ j, j < k → gt s j = gt s' j ∧ gt p j = gt p' j) → climb leaf s p k = climb leaf s' p' k
  | 0, _ => rfl
  | k + 1, h => by
    rw [climb, climb, (h k (by omega)).1, (h k (by omega)).2, climb_congr leaf s s' p p' k fun j hj => h j (by omega)]
theorem climb_lead : ∀ (N : Nat) (leaf : List UInt8) (i n : Nat) (p : List (List UInt8)), n ≤ N → p.length = stepsL i n → climb leaf (sidesL i n) p p.length = leadL leaf i n p := by
  intro N
  induction N with
  | zero => intro leaf i n p h hp; rw [stepsL, dif_pos (by omega)] at hp; rw [leadL, dif_pos (by omega), hp]; rfl
  | succ N ih =>
    intro leaf i n p h hp
    by_cases h1 : n ≤ 1
    · rw [stepsL, dif_pos h1] at hp; rw [leadL, dif_pos h1, hp]; rfl
    · have hl := halfN_lt (n := n) (by omega)
      have hp0 := halfN_pos n
      by_cases hi : i < halfN n
      · have hs := stepsL_lo (i := i) (n := n) (by omega) hi
        obtain ⟨m, hm⟩ : ∃ m, p.length = m + 1 := ⟨stepsL i (halfN n), by omega⟩
        have hlen : (sidesL i (halfN n)).length = m := by rw [sides_steps _ _ _ (Nat.le_refl _)]; omega
        have ht : (p.take m).length = m := by simp; omega
        rw [leadL_lo hm (by omega) hi, hm, climb, sidesL_lo (by omega) hi, gt_last _ _ _ hlen.symm, if_neg (by decide), Nat.add_sub_cancel]
        rw [← ih leaf i (halfN n) (p.take m) (by omega) (by rw [ht]; omega), ht]
        rw [climb_congr leaf _ (sidesL i (halfN n)) p (p.take m) m fun j hj => ⟨gt_app _ _ _ (by omega), (gt_take _ _ _ hj).symm⟩]
      · have hs := stepsL_hi (i := i) (n := n) (by omega) hi
        obtain ⟨m, hm⟩ : ∃ m, p.length = m + 1 := ⟨stepsL (i - halfN n) (n - halfN n), by omega⟩
        have hlen : (sidesL (i - halfN n) (n - halfN n)).length = m := by rw [sides_steps _ _ _ (Nat.le_refl _)]; omega
        have ht : (p.take m).length = m := by simp; omega
        rw [leadL_hi hm (by omega) hi, hm, climb, sidesL_hi (by omega) hi, gt_last _ _ _ hlen.symm, if_pos rfl, Nat.add_sub_cancel]
        rw [← ih leaf (i - halfN n) (n - halfN n) (p.take m) (by omega) (by rw [ht]; omega), ht]
        rw [climb_congr leaf _ (sidesL (i - halfN n) (n - halfN n)) p (p.take m) m fun j hj => ⟨gt_app _ _ _ (by omega), (gt_take _ _ _ hj).symm⟩]
/-- What RootBy tells: a root and an error. -/
def rootByE (i n : Int) (k : Nat) : Int := if n < 1 ∨ 65536 < n then 4 else if i < 0 ∨ n ≤ i then 7 else if k = stepsL i.toNat n.toNat then 0 else 12
def rootByL (leaf : List UInt8) (i n : Int) (p : List (List UInt8)) : List UInt8 := if rootByE i n p.length = 0 then leadL leaf i.toNat n.toNat p else List.replicate 32 0
theorem rootByE_range {i n : Int} {k : Nat} (h : n < 1 ∨ 65536 < n) : rootByE i n k = 4 := by unfold rootByE; rw [if_pos h]
theorem rootByE_none {i n : Int} {k : Nat} (h1 : ¬ n < 1) (h2 : ¬ 65536 < n) (h : i < 0 ∨ n ≤ i) : rootByE i n k = 7 := by unfold rootByE; rw [if_neg (by omega), if_pos h]
theorem rootByE_proof {i n k : Nat} (h1 : 1 ≤ n) (h2 : n ≤ 65536) (h : i < n) (hk : ¬ k = stepsL i n) : rootByE i n k = 12 := by unfold rootByE; rw [if_neg (by omega), if_neg (by omega), if_neg (by simpa using hk)]
theorem rootByE_ok {i n k : Nat} (h1 : 1 ≤ n) (h2 : n ≤ 65536) (h : i < n) (hk : k = stepsL i n) : rootByE i n k = 0 := by unfold rootByE; rw [if_neg (by omega), if_neg (by omega), if_pos (by simpa using hk)]
theorem rootByL_no {leaf : List UInt8} {i n : Int} {p : List (List UInt8)} {e : Int} (h : rootByE i n p.length = e) (he : ¬ e = 0) : rootByL leaf i n p = List.replicate 32 0 := by unfold rootByL; rw [h, if_neg he]
theorem rootByL_ok {leaf : List UInt8} {i n : Nat} {p : List (List UInt8)} (h : rootByE i n p.length = 0) : rootByL leaf i n p = leadL leaf i n p := by unfold rootByL; rw [if_pos h]; rfl
theorem rootByL_len (leaf : List UInt8) (i n : Int) (p : List (List UInt8)) (hl : leaf.length = 32) : (rootByL leaf i n p).length = 32 := by
  unfold rootByL
  split
  · exact leadL_len _ _ _ _ hl
  · simp

section
variable {P : Program} {ρ : Operand → Value} {w w0 : World} {M : List Nat} {L l1 l2 : List Item} {dst : Option Tmp} {ty : TypeId} {pos : String} {aft : Array Edge} {g : Option (Nat × Bool)} {x y z : Operand} {T T2 E I : TypeId} {v : Value} {k : IntKind}
  {d dE : TypeDesc} {sz bts b o : Nat} {zv : Value} {a : Option Addr} {cs C : List Value}
theorem r_ix32 {len cap m : Nat} {l : List (List UInt8)} (h : P.underlying T = some (.slice E)) (hE : TI P E dE 32 bts zv) (hx : ρ x = .slice a len cap) (hy : ρ y = .int k (m : Int)) (hr : Row w a (l.flatten.map b8)) (h32 : S32 l) (hl : l.length = len) (hm : m < len) :
    (execOp ρ ⟨dst, .indexAddr T x y, ty, pos, aft, g⟩).run P w = .ok (.value (.pointer (a.map (·.add (m * 32))))) w :=
  r_ixS h hE hx hy hr hm (by rw [flat32_lenV h32, hl]; omega)
theorem r_load32 {m : Nat} {l : List (List UInt8)} (h : TI P T d 32 bts zv) (hd : aggD d = true) (hx : ρ x = .pointer (a.map (·.add (m * 32)))) (hr : Row w a (l.flatten.map b8)) (h32 : S32 l) (hm : m < l.length) :
    (execOp ρ ⟨dst, .load T x, ty, pos, aft, g⟩).run P w = .ok (.value (.agg ((gt l m).map b8).toArray)) w := by
  rw [r_loadSA h hd hx hr (by decide) (by rw [flat32_lenV h32]; omega), flat32_getV h32 hm]
end
theorem bool_cases (b : Bool) : b = true ∨ b = false := by cases b <;> simp
theorem stepsL_pos {i n : Nat} (h : 1 < n) : 1 ≤ stepsL i n := by
  by_cases hi : i < halfN n
  · rw [stepsL_lo h hi]; omega
  · rw [stepsL_hi h hi]; omega
theorem rb_res {leaf : List UInt8} {i n : Int} {p : List (List UInt8)} {e : Int} (h : rootByE i n p.length = e) (he : ¬ e = 0) :
    Value.tuple #[.agg ((List.replicate 32 (0 : UInt8)).map b8).toArray, .int .i64 e] = .tuple #[.agg ((rootByL leaf i n p).map b8).toArray, .int .i64 (rootByE i n p.length)] := by rw [rootByL_no h he, h]
theorem rb_ok {leaf : List UInt8} {i n : Nat} {p : List (List UInt8)} {x : List UInt8} (h1 : 1 ≤ n) (h2 : n ≤ 65536) (h : i < n) (hk : p.length = stepsL i n) (hx : x = leadL leaf i n p) :
    Value.tuple #[.agg (x.map b8).toArray, .int .i64 0] = .tuple #[.agg ((rootByL leaf i n p).map b8).toArray, .int .i64 (rootByE i n p.length)] := by
  have he := rootByE_ok h1 h2 h hk
  rw [rootByL_ok he, he, hx]
def leafL (t : List UInt8) : List UInt8 := sumL (UInt8.ofNat 1) t
@[simp] theorem leafL_len (t : List UInt8) : (leafL t).length = 32 := sumL_len _ _
def leavesL (ps : List Piece) : List (List UInt8) := (ps.take 40).map fun q => leafL (q.xs.take 3000)
theorem leavesL_len (ps : List Piece) : (leavesL ps).length = min ps.length 40 := by simp [leavesL, Nat.min_comm]
theorem leavesL_32 (ps : List Piece) : S32 (leavesL ps) := by
  intro s hs
  obtain ⟨q, _, rfl⟩ := List.mem_map.1 hs
  simp
theorem leavesL_gt (ps : List Piece) (k : Nat) (h : k < min ps.length 40) : gt (leavesL ps) k = leafL ((gt ps k).xs.take 3000) := by
  rw [gt_eq _ _ (by rw [leavesL_len]; exact h), gt_eq _ _ (show k < ps.length by omega)]; simp [leavesL]
theorem take_gt {α : Type} [Inhabited α] (l : List α) (k : Nat) (h : k < l.length) : l.take (k + 1) = l.take k ++ [gt l k] := by
  rw [List.take_succ_eq_append_getElem h, gt_eq _ _ h]
theorem flat_take1 (l : List (List UInt8)) (k : Nat) (h : k < l.length) : (l.take (k + 1)).flatten = (l.take k).flatten ++ gt l k := by
  rw [take_gt l k h, List.flatten_append]; simp
theorem ba_max {n m : Nat} : (if n < m then n else m) = min n m := by split <;> omega
/-- What Proved tells. -/
def provedE (root leaf : List UInt8) (i n : Int) (p : List (List UInt8)) : Int := if rootByE i n p.length = 0 ∧ ¬ rootByL leaf i n p = root then 12 else rootByE i n p.length
theorem provedE_bad {root leaf : List UInt8} {i n : Int} {p : List (List UInt8)} (h1 : rootByE i n p.length = 0) (h2 : ¬ rootByL leaf i n p = root) : provedE root leaf i n p = 12 := by unfold provedE; rw [if_pos ⟨h1, h2⟩]
theorem provedE_no {root leaf : List UInt8} {i n : Int} {p : List (List UInt8)} (h1 : ¬ rootByE i n p.length = 0) : provedE root leaf i n p = rootByE i n p.length := by unfold provedE; rw [if_neg (fun h => h1 h.1)]
theorem provedE_ok {root leaf : List UInt8} {i n : Int} {p : List (List UInt8)} (h2 : ¬ ¬ rootByL leaf i n p = root) : provedE root leaf i n p = rootByE i n p.length := by unfold provedE; rw [if_neg (fun h => h2 h.2)]
theorem climb_all {leaf : List UInt8} {i n : Nat} {p : List (List UInt8)} {k : Nat} (hk : k = p.length) (h : p.length = stepsL i n) : climb leaf (sidesL i n) p k = leadL leaf i n p := by subst hk; exact climb_lead n leaf i n p (Nat.le_refl _) h

/-! ### Proofs of growth -/
def gstepsL (m n : Nat) (wh : Bool) : Nat := if h : n ≤ m ∨ n ≤ 1 then (if wh then 0 else 1) else if m ≤ halfN n then gstepsL m (halfN n) wh + 1 else gstepsL (m - halfN n) (n - halfN n) false + 1
  termination_by n
  decreasing_by
    · exact halfN_lt (by omega)
    · have := halfN_pos n; omega
theorem gstepsL_end {m n : Nat} (wh : Bool) (h : n ≤ m) : gstepsL m n wh = if wh then 0 else 1 := by rw [gstepsL, dif_pos (.inl h)]
theorem gstepsL_lo {m n : Nat} {wh : Bool} (h1 : 1 ≤ m) (h : m < n) (hi : m ≤ halfN n) : gstepsL m n wh = gstepsL m (halfN n) wh + 1 := by rw [gstepsL, dif_neg (by omega), if_pos hi]
theorem gstepsL_hi {m n : Nat} {wh : Bool} (h1 : 1 ≤ m) (h : m < n) (hi : ¬ m ≤ halfN n) : gstepsL m n wh = gstepsL (m - halfN n) (n - halfN n) false + 1 := by rw [gstepsL, dif_neg (by omega), if_neg hi]
theorem gstepsL_pos {m n : Nat} {wh : Bool} (h1 : 1 ≤ m) (h : m < n) : 1 ≤ gstepsL m n wh := by
  by_cases hi : m ≤ halfN n
  · rw [gstepsL_lo h1 h hi]; omega
  · rw [gstepsL_hi h1 h hi]; omega
theorem gsteps_le : ∀ (N m n : Nat) (wh : Bool), n ≤ N → gstepsL m n wh ≤ n + 1 := by
  intro N
  induction N with
  | zero => intro m n wh h; rw [gstepsL, dif_pos (.inr (by omega))]; split <;> omega
  | succ N ih =>
    intro m n wh h
    by_cases h1 : n ≤ m ∨ n ≤ 1
    · rw [gstepsL, dif_pos h1]; split <;> omega
    · have hl := halfN_lt (n := n) (by omega)
      have hp := halfN_pos n
      rw [gstepsL, dif_neg h1]
      split
      · have := ih m (halfN n) wh (by omega); omega
      · have := ih (m - halfN n) (n - halfN n) false (by omega); omega
def followL (older : List UInt8) (m n : Nat) (wh : Bool) (p : List (List UInt8)) : List UInt8 × List UInt8 :=
  if h : n ≤ m ∨ n ≤ 1 then (if wh then (older, older) else (gt p 0, gt p 0))
  else if m ≤ halfN n then ((followL older m (halfN n) wh (p.take (p.length - 1))).1, nodeL (followL older m (halfN n) wh (p.take (p.length - 1))).2 (gt p (p.length - 1)))
  else (nodeL (gt p (p.length - 1)) (followL older (m - halfN n) (n - halfN n) false (p.take (p.length - 1))).1, nodeL (gt p (p.length - 1)) (followL older (m - halfN n) (n - halfN n) false (p.take (p.length - 1))).2)
  termination_by n
  decreasing_by
    · exact halfN_lt (by omega)
    · have := halfN_pos n; omega
theorem followL_wh (older : List UInt8) {m n : Nat} (p : List (List UInt8)) (h : n ≤ m) : followL older m n true p = (older, older) := by rw [followL, dif_pos (.inl h), if_pos rfl]
theorem followL_no (older : List UInt8) {m n : Nat} (p : List (List UInt8)) (h : n ≤ m) : followL older m n false p = (gt p 0, gt p 0) := by rw [followL, dif_pos (.inl h), if_neg (by decide)]
theorem followL_lo {older : List UInt8} {m n k : Nat} {wh : Bool} {p : List (List UInt8)} (hp : p.length = k) (h1 : 1 ≤ m) (h : m < n) (hi : m ≤ halfN n) : followL older m n wh p = ((followL older m (halfN n) wh (p.take (k - 1))).1, nodeL (followL older m (halfN n) wh (p.take (k - 1))).2 (gt p (k - 1))) := by
  subst hp; rw [followL, dif_neg (by omega), if_pos hi]
theorem followL_hi {older : List UInt8} {m n k : Nat} {wh : Bool} {p : List (List UInt8)} (hp : p.length = k) (h1 : 1 ≤ m) (h : m < n) (hi : ¬ m ≤ halfN n) : followL older m n wh p = (nodeL (gt p (k - 1)) (followL older (m - halfN n) (n - halfN n) false (p.take (k - 1))).1, nodeL (gt p (k - 1)) (followL older (m - halfN n) (n - halfN n) false (p.take (k - 1))).2) := by
  subst hp; rw [followL, dif_neg (by omega), if_neg hi]
theorem followL_len : ∀ (N : Nat) (older : List UInt8) (m n : Nat) (wh : Bool) (p : List (List UInt8)), n ≤ N → older.length = 32 → S32 p → p.length = gstepsL m n wh → 1 ≤ m → m ≤ n → (followL older m n wh p).1.length = 32 ∧ (followL older m n wh p).2.length = 32 := by
  intro N
  induction N with
  | zero => intros; omega
  | succ N ih =>
    intro older m n wh p h ho h32 hp h1 hmn
    by_cases h2 : n ≤ m
    · rw [gstepsL_end wh h2] at hp
      cases wh with
      | true => rw [followL_wh _ _ h2]; exact ⟨ho, ho⟩
      | false => rw [followL_no _ _ h2]; have := h32.gt (i := 0) (by rw [hp]; decide); exact ⟨this, this⟩
    · have hl := halfN_lt (n := n) (by omega)
      have hp0 := halfN_pos n
      by_cases hi : m ≤ halfN n
      · rw [gstepsL_lo h1 (by omega) hi] at hp
        rw [followL_lo rfl h1 (by omega) hi]
        exact ⟨(ih older m (halfN n) wh _ (by omega) ho (h32.take _) (by simp; omega) h1 hi).1, nodeL_len _ _⟩
      · rw [followL_hi rfl h1 (by omega) hi]
        exact ⟨nodeL_len _ _, nodeL_len _ _⟩
def grownE (older newer : List UInt8) (m n : Int) (p : List (List UInt8)) : Int :=
  if n < 1 ∨ 65536 < n ∨ m < 1 ∨ n < m then 4 else if p.length = gstepsL m.toNat n.toNat true ∧ (followL older m.toNat n.toNat true p) = (older, newer) then 0 else 12
theorem grownE_range {older newer : List UInt8} {m n : Int} {p : List (List UInt8)} (h : n < 1 ∨ 65536 < n ∨ m < 1 ∨ n < m) : grownE older newer m n p = 4 := by unfold grownE; rw [if_pos h]
theorem grownE_len {older newer : List UInt8} {m n : Nat} {p : List (List UInt8)} (h1 : 1 ≤ m) (h2 : m ≤ n) (h3 : n ≤ 65536) (h : ¬ p.length = gstepsL m n true) : grownE older newer m n p = 12 := by unfold grownE; rw [if_neg (by omega), if_neg (fun hh => h hh.1)]
theorem grownE_no {older newer : List UInt8} {m n : Nat} {p : List (List UInt8)} (h1 : 1 ≤ m) (h2 : m ≤ n) (h3 : n ≤ 65536) (h : ¬ followL older m n true p = (older, newer)) : grownE older newer m n p = 12 := by unfold grownE; rw [if_neg (by omega), if_neg (fun hh => h hh.2)]
theorem grownE_ok {older newer : List UInt8} {m n : Nat} {p : List (List UInt8)} (h1 : 1 ≤ m) (h2 : m ≤ n) (h3 : n ≤ 65536) (h0 : p.length = gstepsL m n true) (h : followL older m n true p = (older, newer)) : grownE older newer m n p = 0 := by unfold grownE; rw [if_neg (by omega), if_pos ⟨h0, h⟩]
/-- What the reference finds of both roots. -/
def Grew (older : List UInt8) (m n : Nat) (wh : Bool) (p : List (List UInt8)) (v : Value) : Prop := ∃ x y : List UInt8, v = .tuple #[.agg (x.map b8).toArray, .agg (y.map b8).toArray, .bool (decide (p.length = gstepsL m n wh))] ∧ x.length = 32 ∧ y.length = 32 ∧ (p.length = gstepsL m n wh → followL older m n wh p = (x, y))
section
variable {older : List UInt8} {m n k : Nat} {wh : Bool} {p : List (List UInt8)} {x y : List UInt8}
theorem grew_wh (hp : p.length = k) (h : n ≤ m) (ho : older.length = 32) : Grew older m n true p (.tuple #[.agg (older.map b8).toArray, .agg (older.map b8).toArray, .bool (decide ((k : Int) = 0))]) := by
  refine ⟨older, older, ?_, ho, ho, fun _ => followL_wh _ _ h⟩
  have e : decide ((k : Int) = 0) = decide (p.length = gstepsL m n true) := decide_eq_decide.2 (by rw [gstepsL_end true h, if_pos rfl]; omega)
  rw [e]
theorem grew_bad (h : ¬ p.length = gstepsL m n wh) : Grew older m n wh p (.tuple #[.agg ((List.replicate 32 (0 : UInt8)).map b8).toArray, .agg ((List.replicate 32 (0 : UInt8)).map b8).toArray, .bool false]) :=
  ⟨List.replicate 32 0, List.replicate 32 0, by rw [decide_eq_false h], by simp, by simp, fun hh => absurd hh h⟩
theorem grew_one (h : n ≤ m) (hp : p.length = 1) (h32 : S32 p) : Grew older m n false p (.tuple #[.agg ((gt p 0).map b8).toArray, .agg ((gt p 0).map b8).toArray, .bool true]) := by
  have hg := h32.gt (i := 0) (by omega)
  have e : p.length = gstepsL m n false := by rw [gstepsL_end false h, hp]; rfl
  exact ⟨gt p 0, gt p 0, by rw [decide_eq_true e], hg, hg, fun _ => followL_no _ _ h⟩
theorem grew_lo (hp : p.length = k) (h1 : 1 ≤ m) (h : m < n) (hi : m ≤ halfN n) (hk : 0 < k) (hx : x.length = 32) (hxy : (p.take (k - 1)).length = gstepsL m (halfN n) wh → followL older m (halfN n) wh (p.take (k - 1)) = (x, y)) :
    Grew older m n wh p (.tuple #[.agg (x.map b8).toArray, .agg ((nodeL y (gt p (k - 1))).map b8).toArray, .bool (decide ((p.take (k - 1)).length = gstepsL m (halfN n) wh))]) := by
  have e0 : (p.take (k - 1)).length = gstepsL m (halfN n) wh ↔ p.length = gstepsL m n wh := by rw [gstepsL_lo h1 h hi]; simp; omega
  refine ⟨x, nodeL y (gt p (k - 1)), by rw [decide_eq_decide.2 e0], hx, nodeL_len _ _, fun hh => ?_⟩
  rw [followL_lo hp h1 h hi, hxy (e0.2 hh)]
theorem grew_hi (hp : p.length = k) (h1 : 1 ≤ m) (h : m < n) (hi : ¬ m ≤ halfN n) (hk : 0 < k) (hxy : (p.take (k - 1)).length = gstepsL (m - halfN n) (n - halfN n) false → followL older (m - halfN n) (n - halfN n) false (p.take (k - 1)) = (x, y)) :
    Grew older m n wh p (.tuple #[.agg ((nodeL (gt p (k - 1)) x).map b8).toArray, .agg ((nodeL (gt p (k - 1)) y).map b8).toArray, .bool (decide ((p.take (k - 1)).length = gstepsL (m - halfN n) (n - halfN n) false))]) := by
  have e0 : (p.take (k - 1)).length = gstepsL (m - halfN n) (n - halfN n) false ↔ p.length = gstepsL m n wh := by rw [gstepsL_hi h1 h hi]; simp; omega
  refine ⟨nodeL (gt p (k - 1)) x, nodeL (gt p (k - 1)) y, by rw [decide_eq_decide.2 e0], nodeL_len _ _, nodeL_len _ _, fun hh => ?_⟩
  rw [followL_hi hp h1 h hi, hxy (e0.2 hh)]
end
/-! ### Proofs that are made -/
def pathL (l : List (List UInt8)) (i : Nat) : List (List UInt8) :=
  if h : l.length ≤ 1 then [] else if i < halfN l.length then pathL (l.take (halfN l.length)) i ++ [rootL (l.drop (halfN l.length))] else pathL (l.drop (halfN l.length)) (i - halfN l.length) ++ [rootL (l.take (halfN l.length))]
  termination_by l.length
  decreasing_by
    · have := halfN_lt (n := l.length) (by omega); simp only [List.length_take]; omega
    · have := halfN_pos l.length; simp only [List.length_drop]; omega
theorem pathL_one {l : List (List UInt8)} (i : Nat) (h : l.length = 1) : pathL l i = [] := by rw [pathL, dif_pos (by omega)]
theorem pathL_lo {l : List (List UInt8)} {i n : Nat} (hn : l.length = n) (h : 1 < n) (hi : i < halfN n) : pathL l i = pathL (l.take (halfN n)) i ++ [rootL (l.drop (halfN n))] := by subst hn; rw [pathL, dif_neg (by omega), if_pos hi]
theorem pathL_hi {l : List (List UInt8)} {i n : Nat} (hn : l.length = n) (h : 1 < n) (hi : ¬ i < halfN n) : pathL l i = pathL (l.drop (halfN n)) (i - halfN n) ++ [rootL (l.take (halfN n))] := by subst hn; rw [pathL, dif_neg (by omega), if_neg hi]
theorem pathL_len : ∀ (N : Nat) (l : List (List UInt8)) (i n : Nat), n ≤ N → l.length = n → (pathL l i).length = stepsL i n := by
  intro N
  induction N with
  | zero => intro l i n h hl; rw [pathL, stepsL, dif_pos (by omega), dif_pos (by omega)]; rfl
  | succ N ih =>
    intro l i n h hl
    by_cases h1 : n ≤ 1
    · rw [pathL, stepsL, dif_pos (by omega), dif_pos h1]; rfl
    · have hlt := halfN_lt (n := n) (by omega)
      have hp := halfN_pos n
      by_cases hi : i < halfN n
      · rw [pathL_lo hl (by omega) hi, stepsL_lo (by omega) hi, List.length_append, ih _ _ (halfN n) (by omega) (by simp; omega)]; rfl
      · rw [pathL_hi hl (by omega) hi, stepsL_hi (by omega) hi, List.length_append, ih _ _ (n - halfN n) (by omega) (by simp; omega)]; rfl
theorem pathL_32 : ∀ (N : Nat) (l : List (List UInt8)) (i : Nat), l.length ≤ N → S32 l → S32 (pathL l i) := by
  intro N
  induction N with
  | zero => intro l i h _; rw [pathL, dif_pos (by omega)]; exact S32.nil
  | succ N ih =>
    intro l i h h32
    by_cases h1 : l.length ≤ 1
    · rw [pathL, dif_pos h1]; exact S32.nil
    · have hlt := halfN_lt (n := l.length) (by omega)
      have hp := halfN_pos l.length
      by_cases hi : i < halfN l.length
      · rw [pathL_lo rfl (by omega) hi]
        exact (ih _ _ (by simp; omega) (h32.take _)).app (S32.one (rootL_len _ (h32.drop _) (by simp; omega)))
      · rw [pathL_hi rfl (by omega) hi]
        exact (ih _ _ (by simp; omega) (h32.drop _)).app (S32.one (rootL_len _ (h32.take _) (by simp; omega)))
theorem gt_last' {α : Type} [Inhabited α] (l : List α) (x : α) : gt (l ++ [x]) ((l ++ [x]).length - 1) = x := gt_last l x _ (by simp)
theorem take_last' {α : Type} (l : List α) (x : α) : (l ++ [x]).take ((l ++ [x]).length - 1) = l := by simp
/-- A proof that is made leads to the root. -/
theorem path_leads : ∀ (N : Nat) (l : List (List UInt8)) (i n : Nat), n ≤ N → l.length = n → i < n → leadL (gt l i) i n (pathL l i) = rootL l := by
  intro N
  induction N with
  | zero => intros; omega
  | succ N ih =>
    intro l i n h hl hin
    by_cases h1 : n = 1
    · subst h1
      obtain rfl : i = 0 := by omega
      rw [leadL_one, rootL_one hl]
    · have hlt := halfN_lt (n := n) (by omega)
      have hp := halfN_pos n
      by_cases hi : i < halfN n
      · rw [leadL_lo rfl (by omega) hi, pathL_lo hl (by omega) hi, gt_last', take_last', rootL_two hl h1 (by omega), ← ih (l.take (halfN n)) i (halfN n) (by omega) (by simp; omega) hi, gt_take _ _ _ hi]
      · rw [leadL_hi rfl (by omega) hi, pathL_hi hl (by omega) hi, gt_last', take_last', rootL_two hl h1 (by omega), ← ih (l.drop (halfN n)) (i - halfN n) (n - halfN n) (by omega) (by simp; omega) (by omega), gt_drop]
        rw [show halfN n + (i - halfN n) = i by omega]
def gpathL (l : List (List UInt8)) (m : Nat) (wh : Bool) : List (List UInt8) :=
  if h : l.length ≤ m ∨ l.length ≤ 1 then (if wh then [] else [rootL l]) else if m ≤ halfN l.length then gpathL (l.take (halfN l.length)) m wh ++ [rootL (l.drop (halfN l.length))] else gpathL (l.drop (halfN l.length)) (m - halfN l.length) false ++ [rootL (l.take (halfN l.length))]
  termination_by l.length
  decreasing_by
    · have := halfN_lt (n := l.length) (by omega); simp only [List.length_take]; omega
    · have := halfN_pos l.length; simp only [List.length_drop]; omega
theorem gpathL_wh {l : List (List UInt8)} {m : Nat} (h : l.length ≤ m) : gpathL l m true = [] := by rw [gpathL, dif_pos (.inl h), if_pos rfl]
theorem gpathL_no {l : List (List UInt8)} {m : Nat} (h : l.length ≤ m) : gpathL l m false = [rootL l] := by rw [gpathL, dif_pos (.inl h), if_neg (by decide)]
theorem gpathL_lo {l : List (List UInt8)} {m n : Nat} {wh : Bool} (hn : l.length = n) (h1 : 1 ≤ m) (h : m < n) (hi : m ≤ halfN n) : gpathL l m wh = gpathL (l.take (halfN n)) m wh ++ [rootL (l.drop (halfN n))] := by subst hn; rw [gpathL, dif_neg (by omega), if_pos hi]
theorem gpathL_hi {l : List (List UInt8)} {m n : Nat} {wh : Bool} (hn : l.length = n) (h1 : 1 ≤ m) (h : m < n) (hi : ¬ m ≤ halfN n) : gpathL l m wh = gpathL (l.drop (halfN n)) (m - halfN n) false ++ [rootL (l.take (halfN n))] := by subst hn; rw [gpathL, dif_neg (by omega), if_neg hi]
theorem gpathL_len : ∀ (N : Nat) (l : List (List UInt8)) (m n : Nat) (wh : Bool), n ≤ N → l.length = n → 1 ≤ m → m ≤ n → (gpathL l m wh).length = gstepsL m n wh := by
  intro N
  induction N with
  | zero => intros; omega
  | succ N ih =>
    intro l m n wh h hl h1 hm
    by_cases h2 : n ≤ m
    · rw [gstepsL_end wh h2]
      cases wh with
      | true => rw [gpathL_wh (by omega)]; rfl
      | false => rw [gpathL_no (by omega)]; rfl
    · have hlt := halfN_lt (n := n) (by omega)
      have hp := halfN_pos n
      by_cases hi : m ≤ halfN n
      · rw [gpathL_lo hl h1 (by omega) hi, gstepsL_lo h1 (by omega) hi, List.length_append, ih _ _ (halfN n) wh (by omega) (by simp; omega) h1 hi]; rfl
      · rw [gpathL_hi hl h1 (by omega) hi, gstepsL_hi h1 (by omega) hi, List.length_append, ih _ _ (n - halfN n) false (by omega) (by simp; omega) (by omega) (by omega)]; rfl
theorem gpathL_32 : ∀ (N : Nat) (l : List (List UInt8)) (m : Nat) (wh : Bool), l.length ≤ N → 0 < l.length → 1 ≤ m → m ≤ l.length → S32 l → S32 (gpathL l m wh) := by
  intro N
  induction N with
  | zero => intros; omega
  | succ N ih =>
    intro l m wh h h0 h1 hm h32
    by_cases h2 : l.length ≤ m
    · cases wh with
      | true => rw [gpathL_wh h2]; exact S32.nil
      | false => rw [gpathL_no h2]; exact S32.one (rootL_len _ h32 h0)
    · have hlt := halfN_lt (n := l.length) (by omega)
      have hp := halfN_pos l.length
      by_cases hi : m ≤ halfN l.length
      · rw [gpathL_lo rfl h1 (by omega) hi]
        exact (ih _ _ _ (by simp; omega) (by simp; omega) h1 (by simp; omega) (h32.take _)).app (S32.one (rootL_len _ (h32.drop _) (by simp; omega)))
      · rw [gpathL_hi rfl h1 (by omega) hi]
        exact (ih _ _ _ (by simp; omega) (by simp; omega) (by omega) (by simp; omega) (h32.drop _)).app (S32.one (rootL_len _ (h32.take _) (by simp; omega)))
theorem halfN_two (n : Nat) (h : 2 ≤ n) : ∃ j, halfN n = 2 ^ j ∧ n ≤ 2 * 2 ^ j := by
  refine ⟨(n - 1).log2, rfl, ?_⟩
  have := (Nat.log2_lt (n := n - 1) (k := (n - 1).log2 + 1) (by omega)).1 (Nat.lt_succ_self _)
  rw [Nat.pow_succ] at this; omega
/-- A proof of growth that is made leads to both roots. -/
theorem gpath_leads : ∀ (N : Nat) (l : List (List UInt8)) (older : List UInt8) (m n : Nat) (wh : Bool), n ≤ N → l.length = n → 1 ≤ m → m ≤ n → (wh = true → older = rootL (l.take m)) → followL older m n wh (gpathL l m wh) = (rootL (l.take m), rootL l) := by
  intro N
  induction N with
  | zero => intros; omega
  | succ N ih =>
    intro l older m n wh h hl h1 hm ho
    by_cases h2 : n ≤ m
    · have ht : l.take m = l := List.take_of_length_le (by omega)
      cases wh with
      | true => rw [followL_wh _ _ h2, ho rfl, ht]
      | false => rw [followL_no _ _ h2, gpathL_no (by omega), ht]; rfl
    · have hlt := halfN_lt (n := n) (by omega)
      have hp := halfN_pos n
      by_cases hi : m ≤ halfN n
      · have e : (l.take (halfN n)).take m = l.take m := by rw [List.take_take, Nat.min_eq_left hi]
        rw [followL_lo rfl h1 (by omega) hi, gpathL_lo hl h1 (by omega) hi, gt_last', take_last', ih (l.take (halfN n)) older m (halfN n) wh (by omega) (by simp; omega) h1 hi (by rw [e]; exact ho), e, rootL_two hl (by omega) (by omega)]
      · have hh : halfN m = halfN n := by
          obtain ⟨j, e1, e2⟩ := halfN_two n (by omega)
          rw [e1]
          exact halfN_of (by omega) (by omega) (by omega)
        have hlm : (l.take m).length = m := by simp; omega
        have e3 : (l.take m).take (halfN n) = l.take (halfN n) := by rw [List.take_take, Nat.min_eq_left (by omega)]
        have e4 : (l.take m).drop (halfN n) = (l.drop (halfN n)).take (m - halfN n) := by rw [List.drop_take]
        rw [followL_hi rfl h1 (by omega) hi, gpathL_hi hl h1 (by omega) hi, gt_last', take_last', ih (l.drop (halfN n)) older (m - halfN n) (n - halfN n) false (by omega) (by simp; omega) (by omega) (by omega) (fun h => by cases h), rootL_two hl (by omega) (by omega), rootL_two hlm (by omega) (by omega), hh, e3, e4]
theorem flat_snoc (l : List (List UInt8)) (x : List UInt8) : (l ++ [x]).flatten = l.flatten ++ x := by rw [List.flatten_append]; simp
theorem ext32 {xs ys : List (List UInt8)} {k : Nat} (h : xs.take k = ys.take k) (h1 : k < xs.length) (h2 : k < ys.length) (h3 : gt xs k = gt ys k) : xs.take (k + 1) = ys.take (k + 1) := by rw [take_gt _ _ h1, take_gt _ _ h2, h, h3]
theorem ne32 {xs ys : List (List UInt8)} {k : Nat} (h3 : ¬ gt xs k = gt ys k) : ¬ xs = ys := fun h => h3 (by rw [h])
/-- Octets in pieces of 32. -/
theorem chunk32 : ∀ (n : Nat) (us : List UInt8), us.length = n * 32 → ∃ l : List (List UInt8), S32 l ∧ l.length = n ∧ l.flatten = us
  | 0, us, h => ⟨[], S32.nil, rfl, (List.eq_nil_of_length_eq_zero (by omega)).symm⟩
  | n + 1, us, h => by
    obtain ⟨l, h1, h2, h3⟩ := chunk32 n (us.drop 32) (by simp; omega)
    refine ⟨us.take 32 :: l, ?_, by simp [h2], by rw [List.flatten_cons, h3, List.take_append_drop]⟩
    intro s hs
    rcases List.mem_cons.1 hs with rfl | hs
    · simp; omega
    · exact h1 s hs
theorem St.chunk {w0 w : World} {M : List Nat} {l1 l2 : List Item} {v : Value} {E : TypeId} {n : Nat} {us : List UInt8} (hS : St w0 M w (l1 ++ .row v E 32 n (us.map b8) :: l2)) : ∃ q : List (List UInt8), S32 q ∧ q.length = n ∧ St w0 M w (l1 ++ .row v E 32 n (q.flatten.map b8) :: l2) := by
  have hl := (hS.has (.row v E 32 n (us.map b8)) (by simp)).1.1
  obtain ⟨q, h1, h2, h3⟩ := chunk32 n us (by simpa using hl)
  exact ⟨q, h1, h2, by rw [h3]; exact hS⟩
theorem made_proved {l : List (List UInt8)} {i n : Nat} (hl : l.length = n) (hi : i < n) (hn : n ≤ 65536) : provedE (rootL l) (gt l i) i n (pathL l i) = 0 := by
  have hp := pathL_len n l i n (Nat.le_refl _) hl
  have he := rootByE_ok (i := i) (n := n) (by omega) hn hi hp
  have hr : rootByL (gt l i) i n (pathL l i) = rootL l := by rw [rootByL_ok he, path_leads n l i n (Nat.le_refl _) hl hi]
  rw [provedE_ok (not_not_intro hr), he]
theorem made_grown {l : List (List UInt8)} {m n : Nat} (hl : l.length = n) (h1 : 1 ≤ m) (hm : m ≤ n) (hn : n ≤ 65536) : grownE (rootL (l.take m)) (rootL l) m n (gpathL l m true) = 0 :=
  grownE_ok h1 hm hn (gpathL_len n l m n true (Nat.le_refl _) hl h1 hm) (gpath_leads n l _ m n true (Nat.le_refl _) hl h1 hm (fun _ => rfl))
end Go.Kw
