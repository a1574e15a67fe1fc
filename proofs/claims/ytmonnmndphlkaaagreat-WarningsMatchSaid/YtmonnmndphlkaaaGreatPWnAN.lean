/- What the law's proof leans on. No condition. -/
import Derived.Test.YtmonnmndphlkaaaGreatPWnAK
import Derived.Test.YtmonnmndphlkaaaGreatPWnAM
section
namespace Go.Kw
set_option linter.unusedVariables false
set_option linter.unusedSimpArgs false

/-! ### Lists of sums -/
def S32 (l : List (List UInt8)) : Prop := ∀ s ∈ l, s.length = 32
theorem S32.nil : S32 [] := by intro s hs; cases hs
theorem S32.take {l : List (List UInt8)} (h : S32 l) (k : Nat) : S32 (l.take k) := fun s hs => h s (List.mem_of_mem_take hs)
theorem S32.drop {l : List (List UInt8)} (h : S32 l) (k : Nat) : S32 (l.drop k) := fun s hs => h s (List.mem_of_mem_drop hs)
theorem S32.gt {l : List (List UInt8)} (h : S32 l) {i : Nat} (hi : i < l.length) : (gt l i).length = 32 := h _ (gt_mem l i hi)
theorem flat32_len : ∀ {l : List (List UInt8)}, S32 l → l.flatten.length = l.length * 32
  | [], _ => rfl
  | s :: l, h => by
    rw [List.flatten_cons, List.length_append, h s (by simp), flat32_len (l := l) (fun x hx => h x (by simp [hx])), List.length_cons]; omega
theorem flat32_drop : ∀ {l : List (List UInt8)} (i : Nat), S32 l → l.flatten.drop (i * 32) = (l.drop i).flatten
  | l, 0, _ => by simp
  | [], i + 1, _ => by simp
  | s :: l, i + 1, h => by
    rw [List.flatten_cons, List.drop_append, List.drop_of_length_le (by rw [h s (by simp)]; omega), List.nil_append, h s (by simp), List.drop_succ_cons]
    rw [show (i + 1) * 32 - 32 = i * 32 by omega]
    exact flat32_drop i fun x hx => h x (by simp [hx])
theorem flat32_take : ∀ {l : List (List UInt8)} (i : Nat), S32 l → l.flatten.take (i * 32) = (l.take i).flatten
  | l, 0, _ => by simp
  | [], i + 1, _ => by simp
  | s :: l, i + 1, h => by
    rw [List.flatten_cons, List.take_append, List.take_of_length_le (by rw [h s (by simp)]; omega), h s (by simp), List.take_succ_cons, List.flatten_cons]
    rw [show (i + 1) * 32 - 32 = i * 32 by omega]
    rw [flat32_take i fun x hx => h x (by simp [hx])]
theorem flat32_get {l : List (List UInt8)} {i : Nat} (h : S32 l) (hi : i < l.length) : (l.flatten.drop (i * 32)).take 32 = gt l i := by
  rw [flat32_drop i h, show 32 = 1 * 32 from rfl, flat32_take 1 (h.drop i), List.drop_eq_getElem_cons hi, gt_eq l i hi, List.take_succ_cons, List.take_zero, List.flatten_cons, List.flatten_nil, List.append_nil]
theorem flat32_getV {l : List (List UInt8)} {i : Nat} (h : S32 l) (hi : i < l.length) : ((l.flatten.map b8).drop (i * 32)).take 32 = (gt l i).map b8 := by
  rw [← List.map_drop, ← List.map_take, flat32_get h hi]
theorem flat32_lenV {l : List (List UInt8)} (h : S32 l) : (l.flatten.map b8).length = l.length * 32 := by rw [List.length_map, flat32_len h]
/-! ### The greatest power of two below a number -/
/-! ### Trees of sums -/
def nodeL (a b : List UInt8) : List UInt8 := sumL (UInt8.ofNat 2) (a ++ b)
@[simp] theorem nodeL_len (a b : List UInt8) : (nodeL a b).length = 32 := sumL_len _ _
/-! ### Proofs of places -/
section
variable {P : Program} {ρ : Operand → Value} {w w0 : World} {M : List Nat} {L l1 l2 : List Item} {dst : Option Tmp} {ty : TypeId} {pos : String} {aft : Array Edge} {g : Option (Nat × Bool)} {x y z : Operand} {T T2 E I : TypeId} {v : Value} {k : IntKind}
  {d dE : TypeDesc} {sz bts b o : Nat} {zv : Value} {a : Option Addr} {cs C : List Value}
end
theorem bool_cases (b : Bool) : b = true ∨ b = false := by cases b <;> simp
def leafL (t : List UInt8) : List UInt8 := sumL (UInt8.ofNat 1) t
@[simp] theorem leafL_len (t : List UInt8) : (leafL t).length = 32 := sumL_len _ _
theorem take_gt {α : Type} [Inhabited α] (l : List α) (k : Nat) (h : k < l.length) : l.take (k + 1) = l.take k ++ [gt l k] := by
  rw [List.take_succ_eq_append_getElem h, gt_eq _ _ h]
/-! ### Proofs of growth -/
section
variable {older : List UInt8} {m n k : Nat} {wh : Bool} {p : List (List UInt8)} {x y : List UInt8}
end
/-! ### Proofs that are made -/
/-- Octets in pieces of 32. -/
theorem chunk32 : ∀ (n : Nat) (us : List UInt8), us.length = n * 32 → ∃ l : List (List UInt8), S32 l ∧ l.length = n ∧ l.flatten = us
  | 0, us, h => ⟨[], S32.nil, rfl, (List.eq_nil_of_length_eq_zero (by omega)).symm⟩
  | n + 1, us, h => by
    obtain ⟨l, h1, h2, h3⟩ := chunk32 n (us.drop 32) (by simp; omega)
    refine ⟨us.take 32 :: l, ?_, by simp [h2], by rw [List.flatten_cons, h3, List.take_append_drop]⟩
    intro s hs
    rcases List.mem_cons.1 hs with rfl | hs
    · simp; omega
    · exact h1 s hs
theorem St.chunk {w0 w : World} {M : List Nat} {l1 l2 : List Item} {v : Value} {E : TypeId} {n : Nat} {us : List UInt8} (hS : St w0 M w (l1 ++ .row v E 32 n (us.map b8) :: l2)) : ∃ q : List (List UInt8), S32 q ∧ q.length = n ∧ St w0 M w (l1 ++ .row v E 32 n (q.flatten.map b8) :: l2) := by
  have hl := (hS.has (.row v E 32 n (us.map b8)) (by simp)).1.1
  obtain ⟨q, h1, h2, h3⟩ := chunk32 n us (by simpa using hl)
  exact ⟨q, h1, h2, by rw [h3]; exact hS⟩
end Go.Kw
end
section
namespace Go.Kw
set_option linter.unusedVariables false
set_option linter.unusedSimpArgs false
/-- An order that a sort can lean on. -/
structure TOrd {α : Type} (le : α → α → Bool) : Prop where
  tr : ∀ a b c, le a b = true → le b c = true → le a c = true
  tot : ∀ a b, (le a b || le b a) = true
  anti : ∀ a b, le a b = true → le b a = true → a = b
theorem mem_gt {α : Type} [Inhabited α] {l : List α} {x : α} (h : x ∈ l) : ∃ i, i < l.length ∧ gt l i = x := by
  obtain ⟨i, hi, rfl⟩ := List.mem_iff_getElem.1 h
  exact ⟨i, hi, gt_eq _ _ hi⟩
theorem uq_keep {α : Type} [Inhabited α] {l xs : List α} {m j : Nat} {u : α} (h : ∀ i, j ≤ i → gt xs i = gt l i) (hm : m ≤ j) : ∀ i, j + 1 ≤ i → gt (xs.set m u) i = gt l i := fun i hi => by
  rw [gt_set, if_neg (by omega)]
  exact h i (by omega)
theorem sorted_uniq {α : Type} {le : α → α → Bool} (o : TOrd le) {l1 l2 : List α} (h1 : l1.Pairwise fun a b => le a b = true ∧ a ≠ b) (h2 : l2.Pairwise fun a b => le a b = true ∧ a ≠ b) (hm : ∀ x, x ∈ l1 ↔ x ∈ l2) : l1 = l2 := by
  have n1 : l1.Nodup := h1.imp fun h => h.2
  have n2 : l2.Nodup := h2.imp fun h => h.2
  exact ((List.perm_ext_iff_of_nodup n1 n2).2 hm).eq_of_pairwise (fun a b _ _ x y => o.anti a b x.1 y.1) h1 h2
section
variable {α : Type} [Inhabited α] [DecidableEq α]
/-- Of neighbours that are alike, one. -/
def uqTo (l : List α) : Nat → List α
  | 0 => []
  | k + 1 => if k ≠ 0 ∧ gt l k = gt l (k - 1) then uqTo l k else uqTo l k ++ [gt l k]
def uqL (l : List α) : List α := uqTo l l.length
theorem uq_small {l : List α} (h : l.length < 2) : uqL l = l := by
  unfold uqL
  rcases l with _ | ⟨x, _ | ⟨y, l⟩⟩
  · rfl
  · rfl
  · simp only [List.length_cons] at h; omega
theorem uqTo_eq {l : List α} {k : Nat} (h0 : k ≠ 0) (h : gt l k = gt l (k - 1)) : uqTo l (k + 1) = uqTo l k := by rw [uqTo, if_pos ⟨h0, h⟩]
theorem uqTo_ne {l : List α} {k : Nat} (h : k = 0 ∨ ¬ gt l k = gt l (k - 1)) : uqTo l (k + 1) = uqTo l k ++ [gt l k] := by rw [uqTo, if_neg (fun h' => h.elim h'.1 (fun h => h h'.2))]
theorem uqTo_len (l : List α) : ∀ k, (uqTo l k).length ≤ k
  | 0 => Nat.le_refl _
  | k + 1 => by
    have := uqTo_len l k
    rw [uqTo]
    split
    · omega
    · rw [List.length_append, List.length_singleton]; omega
theorem uqTo_mem {l : List α} {x : α} : ∀ k, k ≤ l.length → (x ∈ uqTo l k ↔ x ∈ l.take k)
  | 0, _ => by simp [uqTo]
  | k + 1, h => by
    have ih := uqTo_mem (l := l) (x := x) k (by omega)
    have htg := take_gt l k (show k < l.length by omega)
    rw [htg, List.mem_append, List.mem_singleton, ← ih]
    by_cases hc : k ≠ 0 ∧ gt l k = gt l (k - 1)
    · rw [uqTo, if_pos hc, ih]
      refine ⟨.inl, fun h' => ?_⟩
      rcases h' with h' | h'
      · exact h'
      · rw [h', hc.2]
        have e : gt (l.take k) (k - 1) = gt l (k - 1) := gt_take _ _ _ (by omega)
        rw [← e]
        have h0 := hc.1
        exact gt_mem (l.take k) (k - 1) (by rw [List.length_take]; omega)
    · rw [uqTo, if_neg hc, List.mem_append, List.mem_singleton]
theorem uq_step {l xs : List α} {m k : Nat} (hm : m < xs.length) (ht : xs.take m = uqTo l k) (hk : k ≠ 0) (hne : ¬ gt l k = gt l (k - 1)) : (xs.set m (gt l k)).take (m + 1) = uqTo l (k + 1) := by
  rw [uqTo_ne (.inr hne), ← ht, List.take_succ_eq_append_getElem (by rw [List.length_set]; exact hm), List.getElem_set_self, List.take_set_of_le (Nat.le_refl _)]
def usort (le : α → α → Bool) (l : List α) : List α := uqL (l.mergeSort le)
variable {le : α → α → Bool}
theorem uq_sorted (o : TOrd le) {l : List α} (h : l.Pairwise fun a b => le a b = true) : ∀ k, k ≤ l.length → (uqTo l k).Pairwise fun a b => le a b = true ∧ a ≠ b
  | 0, _ => List.Pairwise.nil
  | k + 1, hk => by
    have ih := uq_sorted o h k (by omega)
    by_cases hc : k ≠ 0 ∧ gt l k = gt l (k - 1)
    · rw [uqTo, if_pos hc]; exact ih
    · rw [uqTo, if_neg hc, List.pairwise_append]
      refine ⟨ih, List.pairwise_singleton _ _, fun x hx y hy => ?_⟩
      obtain rfl := List.mem_singleton.1 hy
      rw [uqTo_mem k (by omega)] at hx
      obtain ⟨i, hi, hix⟩ := mem_gt hx
      rw [List.length_take] at hi
      rw [gt_take _ _ _ (by omega)] at hix
      have hp : ∀ i j, i < j → j < l.length → le (gt l i) (gt l j) = true := fun i j hij hj => by
        rw [gt_eq l i (by omega), gt_eq l j hj]
        exact List.pairwise_iff_getElem.1 h i j (by omega) hj hij
      have hle : le x (gt l k) = true := by rw [← hix]; exact hp i k (by omega) (by omega)
      refine ⟨hle, fun e => ?_⟩
      have hk0 : k ≠ 0 := by omega
      have h1 : le x (gt l (k - 1)) = true := by
        by_cases hi1 : i = k - 1
        · rw [← hix, hi1]
          have := o.tot (gt l (k - 1)) (gt l (k - 1))
          simpa using this
        · rw [← hix]; exact hp i (k - 1) (by omega) (by omega)
      have h2 : le (gt l (k - 1)) x = true := by rw [e]; exact hp (k - 1) k (by omega) (by omega)
      exact hc ⟨hk0, by rw [← e]; exact o.anti _ _ h1 h2⟩
theorem usort_mem {l : List α} {x : α} : x ∈ usort le l ↔ x ∈ l := by
  unfold usort uqL
  rw [uqTo_mem _ (Nat.le_refl _), List.take_length]
  exact (List.mergeSort_perm l le).mem_iff
theorem usort_sorted (o : TOrd le) (l : List α) : (usort le l).Pairwise fun a b => le a b = true ∧ a ≠ b := uq_sorted o (List.pairwise_mergeSort o.tr o.tot l) _ (Nat.le_refl _)
/-- Keys, each once, in order: what the other side has sorted and made one of each. -/
theorem keys_sorted (o : TOrd le) {ks l : List α} (hn : ks.Nodup) (hm : ∀ x, x ∈ ks ↔ x ∈ l) : ks.mergeSort le = usort le l := by
  refine sorted_uniq o ?_ (usort_sorted o l) fun x => by rw [(List.mergeSort_perm ks le).mem_iff, hm, usort_mem]
  have h1 := List.pairwise_mergeSort o.tr o.tot ks
  have h2 : (ks.mergeSort le).Pairwise (· ≠ ·) := ((List.mergeSort_perm ks le).nodup_iff).2 hn
  exact h1.and h2
theorem usort_len (l : List α) : (usort le l).length ≤ l.length := by
  have := uqTo_len (l.mergeSort le) (l.mergeSort le).length
  rw [List.length_mergeSort] at this
  unfold usort uqL
  rw [List.length_mergeSort]; exact this
theorem usort_congr (o : TOrd le) {l1 l2 : List α} (hm : ∀ x, x ∈ l1 ↔ x ∈ l2) : usort le l1 = usort le l2 :=
  sorted_uniq o (usort_sorted o l1) (usort_sorted o l2) fun x => by rw [usort_mem, usort_mem, hm]
end
def leS (x y : List UInt8) : Bool := decide (x ≤ y)
def leI (x y : Int) : Bool := decide (x ≤ y)
theorem ordS : TOrd leS := ⟨fun a b c h1 h2 => by simp only [leS, decide_eq_true_eq] at *; exact List.le_trans h1 h2, fun a b => by simp only [leS, Bool.or_eq_true, decide_eq_true_eq]; exact List.le_total a b, fun a b h1 h2 => by simp only [leS, decide_eq_true_eq] at *; exact List.le_antisymm h1 h2⟩
theorem ordI : TOrd leI := ⟨fun a b c h1 h2 => by simp only [leI, decide_eq_true_eq] at *; omega, fun a b => by simp only [leI, Bool.or_eq_true, decide_eq_true_eq]; omega, fun a b h1 h2 => by simp only [leI, decide_eq_true_eq] at *; omega⟩
end Go.Kw
end
