/- What the law's proof leans on. No condition. -/
import Derived.Test.YtjnnhlbfgnopiaaGreatDoorPCAK
import Derived.Lib.FieldsP
import Derived.Lib.SplitLaws
import Derived.Lib.ReplaceLaws
import Derived.Lib.IndexBytes
import Derived.Lib.MapLaws
namespace Go.Kw
set_option linter.unusedVariables false
set_option linter.unusedSimpArgs false
open Go.Lib
def splitC (c : UInt8) : List UInt8 → List (List UInt8)
  | [] => [[]]
  | b :: l => if b = c then [] :: splitC c l else match splitC c l with
    | h :: t => (b :: h) :: t
    | [] => [[b]]
theorem splitC_none {c : UInt8} : ∀ {l : List UInt8}, c ∉ l → splitC c l = [l]
  | [], _ => rfl
  | b :: l, h => by
    have hb : b ≠ c := fun e => h (by simp [e])
    rw [splitC, if_neg hb, splitC_none (fun hm => h (by simp [hm]))]
theorem splitC_app {c : UInt8} {y : List UInt8} : ∀ {x : List UInt8}, c ∉ x → splitC c (x ++ c :: y) = x :: splitC c y
  | [], _ => by simp [splitC]
  | b :: x, h => by
    have hb : b ≠ c := fun e => h (by simp [e])
    rw [List.cons_append, splitC, if_neg hb, splitC_app (fun hm => h (by simp [hm]))]
theorem index_no {c : UInt8} : ∀ {l : List UInt8}, c ∉ l → index l [c] = -1
  | [], _ => by simp [index]
  | b :: l, h => by
    have hb : b ≠ c := fun e => h (by simp [e])
    rw [index, index_no (fun hm => h (by simp [hm]))]
    simp [List.isPrefixOf, Ne.symm hb]
theorem index_at {c : UInt8} {y : List UInt8} : ∀ {x : List UInt8}, c ∉ x → index (x ++ c :: y) [c] = (x.length : Int)
  | [], _ => by simp [index, List.isPrefixOf]
  | b :: x, h => by
    have hb : b ≠ c := fun e => h (by simp [e])
    have ih := index_at (y := y) (x := x) (c := c) (fun hm => h (by simp [hm]))
    rw [List.cons_append, index, ih]
    have hne : ¬ ((x.length : Int) = -1) := by omega
    simp [List.isPrefixOf, Ne.symm hb, hne]
theorem splitK_one (c : UInt8) : ∀ (n : Nat) (l : List UInt8), l.length ≤ n → splitK [c] 0 (count l [c]) l = splitC c l := by
  intro n
  induction n with
  | zero =>
    intro l hl
    obtain rfl : l = [] := List.eq_nil_of_length_eq_zero (by omega)
    rw [count_one]; rfl
  | succ n ih =>
    intro l hl
    by_cases h : c ∈ l
    · obtain ⟨x, y, rfl, hx⟩ := List.eq_append_cons_of_mem h
      have hc : count (x ++ c :: y) [c] = count y [c] + 1 := by
        rw [count_one, count_one, List.count_append, List.count_cons_self, List.count_eq_zero.2 hx]; omega
      rw [hc, splitK, index_at hx, splitC_app hx]
      have hne : ¬ (((x.length : Int) == -1) = true) := by simp only [beq_iff_eq]; omega
      rw [if_neg hne]
      have h1 : (x ++ c :: y).take ((x.length : Int).toNat + 0) = x := by simp
      have h2 : (x ++ c :: y).drop ((x.length : Int).toNat + [c].length) = y := by
        rw [show (x.length : Int).toNat + [c].length = x.length + 1 from rfl, ← List.drop_drop]; simp
      rw [h1, h2, ih y (by simp at hl; omega)]
    · rw [count_one, List.count_eq_zero.2 h, splitC_none h]; rfl
/-- strings.Split at one octet. -/
theorem splitB_one (c : UInt8) (l : List UInt8) : (splitB ⟨#[c]⟩ 0 (countB ⟨l.toArray⟩ ⟨#[c]⟩) ⟨l.toArray⟩).map Value.string = (splitC c l).map fun x => Value.string ⟨x.toArray⟩ := by
  have h := splitB_data ⟨#[c]⟩ 0 (countB ⟨l.toArray⟩ ⟨#[c]⟩) ⟨l.toArray⟩
  have hk : countB ⟨l.toArray⟩ ⟨#[c]⟩ = count l [c] := rfl
  rw [hk] at h ⊢
  have h2 : (splitB ⟨#[c]⟩ 0 (count l [c]) ⟨l.toArray⟩).map (fun x => x.data.toList) = splitC c l := h.trans (splitK_one c _ l (Nat.le_refl _))
  rw [← h2, List.map_map]
  refine List.map_congr_left fun x _ => ?_
  obtain ⟨⟨x⟩⟩ := x
  rfl
theorem splitC_len (c : UInt8) (l : List UInt8) : (splitC c l).length = countB ⟨l.toArray⟩ ⟨#[c]⟩ + 1 := by
  have := congrArg List.length (splitB_one c l)
  rw [List.length_map, List.length_map, splitB_all ⟨#[c]⟩ (Nat.le_refl _) 0 _ _ rfl] at this
  exact this.symm
theorem splitC_le (c : UInt8) : ∀ (l : List UInt8), (splitC c l).length ≤ l.length + 1 ∧ ∀ x ∈ splitC c l, x.length ≤ l.length
  | [] => ⟨by simp [splitC], by simp [splitC]⟩
  | b :: l => by
    have ih := splitC_le c l
    unfold splitC
    split
    · exact ⟨by simp; omega, fun x hx => by
        rcases List.mem_cons.1 hx with rfl | hx
        · simp
        · have := ih.2 x hx; simp; omega⟩
    · cases hs : splitC c l with
      | nil => exact ⟨by simp, by simp⟩
      | cons h t =>
        rw [hs] at ih
        exact ⟨by simp at ih ⊢; omega, fun x hx => by
          rcases List.mem_cons.1 hx with rfl | hx
          · have := ih.2 h (.head _); simp; omega
          · have := ih.2 x (.tail _ hx); simp; omega⟩
/-! ### Tabs made blanks -/
def untab (l : List UInt8) : List UInt8 := l.map fun b => if b = 9 then 32 else b
@[simp] theorem untab_len (l : List UInt8) : (untab l).length = l.length := by simp [untab]
theorem untab_no {l : List UInt8} (h : (9 : UInt8) ∉ l) : untab l = l := by
  unfold untab
  rw [show l = l.map id from (List.map_id l).symm]
  simp only [List.map_map]
  refine List.map_congr_left fun b hb => ?_
  have : b ≠ 9 := fun e => h (e ▸ by simpa using hb)
  simp [this]
theorem replaceK_tab : ∀ (n : Nat) (l : List UInt8), l.length ≤ n → replaceK [9] [32] (count l [9]) l = untab l := by
  intro n
  induction n with
  | zero =>
    intro l hl
    obtain rfl : l = [] := List.eq_nil_of_length_eq_zero (by omega)
    rw [count_one]; rfl
  | succ n ih =>
    intro l hl
    by_cases h : (9 : UInt8) ∈ l
    · obtain ⟨x, y, rfl, hx⟩ := List.eq_append_cons_of_mem h
      have hc : count (x ++ 9 :: y) [9] = count y [9] + 1 := by
        rw [count_one, count_one, List.count_append, List.count_cons_self, List.count_eq_zero.2 hx]; omega
      rw [hc, replaceK_hit _ _ _ _ x.length (index_at hx)]
      have h2 : (x ++ 9 :: y).drop (x.length + [(9 : UInt8)].length) = y := by
        rw [show x.length + [(9 : UInt8)].length = x.length + 1 from rfl, ← List.drop_drop]; simp
      rw [h2, ih y (by simp at hl; omega), List.take_left' rfl]
      have hu := untab_no hx
      unfold untab at hu ⊢
      rw [List.map_append, hu]
      simp
    · rw [count_one, List.count_eq_zero.2 h, untab_no h]; rfl
theorem replaceAll_tab (l : List UInt8) : replaceAll l [9] [32] = untab l := by
  have h0 : ¬ (([9] : List UInt8) == [32]) = true := by decide
  rw [replaceAll, replace, if_neg h0, replaceNum, if_pos (.inl (by decide))]
  exact replaceK_tab _ l (Nat.le_refl _)
/-! ### What lies ahead of a mark -/
def ahead1 (c : UInt8) (l : List UInt8) : List UInt8 := l.takeWhile fun b => b != c
theorem ahead1_no {c : UInt8} : ∀ {l : List UInt8}, c ∉ l → ahead1 c l = l
  | [], _ => rfl
  | b :: l, h => by
    have hb : b ≠ c := fun e => h (by simp [e])
    have ih := ahead1_no (l := l) (c := c) (fun hm => h (by simp [hm]))
    unfold ahead1 at ih ⊢
    rw [List.takeWhile_cons_of_pos (by simpa using hb), ih]
theorem ahead1_app {c : UInt8} {x y : List UInt8} (h : c ∉ x) : ahead1 c (x ++ c :: y) = x := by
  unfold ahead1
  rw [List.takeWhile_append_of_pos (fun b hb => by simp only [bne_iff_ne, ne_eq]; exact fun e => h (e ▸ hb))]
  simp
theorem cut_one (c : UInt8) (l : List UInt8) : (cut l [c]).1 = ahead1 c l := by
  by_cases h : c ∈ l
  · obtain ⟨x, y, rfl, hx⟩ := List.eq_append_cons_of_mem h
    rw [cut, index_at hx, if_pos (by omega), ahead1_app hx]
    simp
  · rw [cut, index_no h, if_neg (by decide), ahead1_no h]
theorem ahead1_le (c : UInt8) (l : List UInt8) : (ahead1 c l).length ≤ l.length := by
  unfold ahead1; exact (List.takeWhile_sublist _).length_le
/-! ### Words -/
def sepB (b : UInt8) : Bool := b == 32 || b == 9
def flds : List UInt8 → List UInt8 → List (List UInt8)
  | cur, [] => if cur = [] then [] else [cur]
  | cur, b :: t => if sepB b then (if cur = [] then flds [] t else cur :: flds [] t) else flds (cur ++ [b]) t
theorem flds_e {cur : List UInt8} (h : cur ≠ []) : flds cur [] = [cur] := by unfold flds; exact if_neg h
theorem flds_s {cur t : List UInt8} {b : UInt8} (hs : sepB b = true) (h : cur ≠ []) : flds cur (b :: t) = cur :: flds [] t := by rw [flds.eq_2, if_pos hs]; exact if_neg h
def wordsB (l : List UInt8) : List (List UInt8) := flds [] l
def noNil (ls : List (List UInt8)) : List (List UInt8) := ls.filter fun x => !decide (x = [])
def onto (cur : List UInt8) : List (List UInt8) → List (List UInt8)
  | h :: t => (cur ++ h) :: t
  | [] => [cur]
theorem splitC_ne (c : UInt8) (l : List UInt8) : splitC c l ≠ [] := by
  intro h
  have := splitC_len c l
  rw [h] at this; simp at this
theorem noNil_split : ∀ (l cur : List UInt8), noNil (onto cur (splitC 32 (untab l))) = flds cur l
  | [], cur => by
    by_cases h : cur = [] <;> simp [untab, splitC, onto, noNil, flds, h]
  | b :: t, cur => by
    have hu : untab (b :: t) = (if b = 9 then 32 else b) :: untab t := rfl
    by_cases hs : sepB b = true
    · have hb : (if b = 9 then (32 : UInt8) else b) = 32 := by
        simp only [sepB, Bool.or_eq_true, beq_iff_eq] at hs
        rcases hs with h | h
        · simp [h]
        · simp [h]
      have ih := noNil_split t []
      have ho : onto [] (splitC 32 (untab t)) = splitC 32 (untab t) := by
        cases hq : splitC 32 (untab t) with
        | nil => exact absurd hq (splitC_ne _ _)
        | cons h r => simp [onto]
      rw [ho] at ih
      rw [hu, hb, splitC, if_pos rfl, flds, if_pos hs]
      by_cases hc : cur = []
      · subst hc
        simp only [onto, List.append_nil, noNil, List.filter_cons, if_true]
        simpa [noNil] using ih
      · rw [if_neg hc]
        simp only [onto, List.append_nil, noNil, List.filter_cons]
        rw [if_pos (by simp [hc])]
        exact congrArg _ ih
    · have hs' : sepB b = false := by simpa using hs
      have hb : (if b = 9 then (32 : UInt8) else b) = b ∧ ¬ b = 32 := by
        simp only [sepB, Bool.or_eq_false_iff, beq_eq_false_iff_ne, ne_eq] at hs'
        exact ⟨if_neg hs'.2, hs'.1⟩
      have ih := noNil_split t (cur ++ [b])
      rw [hu, hb.1, splitC, if_neg hb.2, flds, hs']
      rw [if_neg (by decide), ← ih]
      cases hq : splitC 32 (untab t) with
      | nil => exact absurd hq (splitC_ne _ _)
      | cons h r => simp [onto]
/-- Blanks and tabs by Split, the empty pieces thrown away. -/
theorem words_split (l : List UInt8) : noNil (splitC 32 (untab l)) = wordsB l := by
  have := noNil_split l []
  cases hq : splitC 32 (untab l) with
  | nil => exact absurd hq (splitC_ne _ _)
  | cons h r => rw [hq] at this; simpa [onto, wordsB] using this
/-! ### Words by runes -/
theorem get_l (l : List UInt8) (i : Nat) : (⟨l.toArray⟩ : ByteArray).get! i = l.getD i 0 := by
  simp [ByteArray.get!, List.getD]
  rfl
theorem rune_at (l : List UInt8) {pos : Nat} (h : pos < l.length) :
    (∃ b, l[pos]? = some b ∧ b.toNat < 128 ∧ Utf8.decode ⟨l.toArray⟩ pos = (b.toNat, 1)) ∨
    (128 ≤ (Utf8.decode ⟨l.toArray⟩ pos).1 ∧ 1 ≤ (Utf8.decode ⟨l.toArray⟩ pos).2 ∧ pos + (Utf8.decode ⟨l.toArray⟩ pos).2 ≤ l.length ∧ ∀ j b, j < (Utf8.decode ⟨l.toArray⟩ pos).2 → l[pos + j]? = some b → 128 ≤ b.toNat) := by
  have hd := decode_at ⟨l.toArray⟩ pos
  have hsz : (⟨l.toArray⟩ : ByteArray).size = l.length := by simp [ByteArray.size]
  rw [hsz, get_l, get_l, get_l, get_l] at hd
  have g : ∀ (j : Nat) (b : UInt8), l[pos + j]? = some b → l.getD (pos + j) 0 = b := fun j b hb => by simp [List.getD, hb]
  have e0 : l[pos]? = some (l.getD pos 0) := by rw [List.getD, List.getElem?_eq_getElem h]; rfl
  by_cases h0 : (l.getD pos 0).toNat < 128
  · refine .inl ⟨_, e0, h0, ?_⟩
    rw [hd, decodeN, if_pos h0]
  · refine .inr ?_
    rcases decodeN_shape (l.length - pos) (l.getD pos 0).toNat (l.getD (pos + 1) 0).toNat (l.getD (pos + 2) 0).toNat (l.getD (pos + 3) 0).toNat with ⟨h1, _⟩ | ⟨h1, h2, h3, h4, h5⟩ | ⟨h1, h2, h3, h4, h5, h6, h7⟩ | ⟨h1, h2, h3, h4, h5, h6, h7, h8⟩ | h1
    · exact absurd h1 h0
    · rw [hd, h5]
      refine ⟨h4, by simp only; omega, by simp only; omega, fun j b hj hb => ?_⟩
      have hb' := g j b hb
      have : j = 0 ∨ j = 1 := by simp only at hj; omega
      rcases this with rfl | rfl
      · rw [← hb']; simpa using Nat.le_of_not_lt h0
      · rw [← hb']; omega
    · rw [hd, h7]
      refine ⟨by simp only; omega, by simp only; omega, by simp only; omega, fun j b hj hb => ?_⟩
      have hb' := g j b hb
      have : j = 0 ∨ j = 1 ∨ j = 2 := by simp only at hj; omega
      rcases this with rfl | rfl | rfl
      · rw [← hb']; simpa using Nat.le_of_not_lt h0
      · rw [← hb']; omega
      · rw [← hb']; omega
    · rw [hd, h8]
      refine ⟨by simp only; omega, by simp only; omega, by simp only; omega, fun j b hj hb => ?_⟩
      have hb' := g j b hb
      have : j = 0 ∨ j = 1 ∨ j = 2 ∨ j = 3 := by simp only at hj; omega
      rcases this with rfl | rfl | rfl | rfl
      · rw [← hb']; simpa using Nat.le_of_not_lt h0
      · rw [← hb']; omega
      · rw [← hb']; omega
      · rw [← hb']; omega
    · rw [hd, h1]
      refine ⟨by decide, by decide, by simp only; omega, fun j b hj hb => ?_⟩
      have hb' := g j b hb
      obtain rfl : j = 0 := by simp only at hj; omega
      rw [← hb']; simpa using Nat.le_of_not_lt h0
def sepR (r : Nat) : Bool := r == 32 || r == 9
theorem flds_run : ∀ (x cur t : List UInt8), (∀ b ∈ x, sepB b = false) → flds cur (x ++ t) = flds (cur ++ x) t
  | [], cur, t, _ => by simp
  | b :: x, cur, t, h => by
    rw [List.cons_append, flds, h b (.head _), if_neg (by decide), flds_run x _ t (fun c hc => h c (.tail _ hc))]
    simp
theorem spans_flds (l : List UInt8) : ∀ (f pos : Nat) (st : Option Nat) (acc : List (Nat × Nat)), l.length - pos ≤ f → pos ≤ l.length → (∀ a, st = some a → a < pos) →
    (closeSpans ⟨l.toArray⟩ (spansFromP sepR ⟨l.toArray⟩ f pos st acc)).map (fun x => pieceU l x.1 x.2) = acc.map (fun x => pieceU l x.1 x.2) ++ flds (openPiece l st pos) (l.drop pos) := by
  have hsz : (⟨l.toArray⟩ : ByteArray).size = l.length := by simp [ByteArray.size]
  intro f
  induction f with
  | zero =>
    intro pos st acc hf hp hst
    have hpe : pos = l.length := by omega
    subst hpe
    rw [spansFromP, List.drop_length]
    cases st with
    | none => simp [closeSpans, openPiece, flds]
    | some a =>
      have hne := pieceU_ne l a l.length (hst a rfl) (Nat.le_refl _)
      simp only [closeSpans, openPiece, List.map_append, List.map_cons, List.map_nil, hsz]
      exact congrArg _ (flds_e hne).symm
  | succ f ih =>
    intro pos st acc hf hp hst
    by_cases hlt : pos < l.length
    · unfold spansFromP
      rw [hsz, if_pos hlt]
      rcases rune_at l hlt with ⟨b, hb, hb1, hdec⟩ | ⟨h1, h2, h3, h4⟩
      · have hdrop : l.drop pos = b :: l.drop (pos + 1) := by
          rw [List.drop_eq_getElem_cons hlt]
          congr 1
          rw [List.getElem?_eq_getElem hlt] at hb
          exact Option.some.inj hb
        have hsb : sepR b.toNat = sepB b := by
          unfold sepR sepB
          congr 1
          · exact decide_eq_decide.2 ⟨fun h => UInt8.toNat_inj.1 h, fun h => by rw [h]; rfl⟩
          · exact decide_eq_decide.2 ⟨fun h => UInt8.toNat_inj.1 h, fun h => by rw [h]; rfl⟩
        simp only [hdec, hsb]
        rw [hdrop]
        by_cases hs : sepB b = true
        · rw [if_pos hs]
          cases st with
          | none =>
            simp only []
            rw [ih (pos + 1) none acc (by omega) (by omega) (fun a h => by cases h)]
            unfold openPiece
            simp only []
            rw [show flds [] (b :: l.drop (pos + 1)) = flds [] (l.drop (pos + 1)) by rw [flds, if_pos hs, if_pos rfl]]
          | some a =>
            have hne := pieceU_ne l a pos (hst a rfl) hp
            simp only []
            rw [ih (pos + 1) none _ (by omega) (by omega) (fun a h => by cases h)]
            unfold openPiece
            simp only []
            rw [flds_s hs hne]
            simp
        · rw [if_neg hs, flds, if_neg hs]
          cases st with
          | none =>
            simp only [openPiece, List.nil_append]
            rw [ih (pos + 1) (some pos) acc (by omega) (by omega) (fun a h => by cases h; omega)]
            have : pieceU l pos (pos + 1) = [b] := by
              unfold pieceU; rw [hdrop, show pos + 1 - pos = 1 by omega]; rfl
            simp [openPiece, this]
          | some a =>
            simp only [openPiece]
            rw [ih (pos + 1) (some a) acc (by omega) (by omega) (fun c h => by cases h; have := hst a rfl; omega)]
            have := pieceU_grow l a pos 1 (Nat.le_of_lt (hst a rfl))
            rw [hdrop] at this
            simp only [openPiece, ← this, List.take_succ_cons, List.take_zero]
      · obtain ⟨w, hw⟩ : ∃ w, w = (Utf8.decode ⟨l.toArray⟩ pos).2 := ⟨_, rfl⟩
        rw [← hw] at h2 h3 h4
        have hns : sepR (Utf8.decode ⟨l.toArray⟩ pos).1 = false := by
          unfold sepR
          simp only [Bool.or_eq_false_iff, beq_eq_false_iff_ne, ne_eq]
          omega
        have hx : ∀ b ∈ (l.drop pos).take w, sepB b = false := by
          intro b hb
          obtain ⟨j, hj⟩ := List.mem_iff_getElem?.1 hb
          rw [List.getElem?_take] at hj
          split at hj
          · rename_i hjw
            rw [List.getElem?_drop] at hj
            have := h4 j b hjw hj
            unfold sepB
            simp only [Bool.or_eq_false_iff, beq_eq_false_iff_ne, ne_eq]
            constructor <;> (intro e; subst e; revert this; decide)
          · cases hj
        have hfl : ∀ cur, flds cur (l.drop pos) = flds (cur ++ (l.drop pos).take w) (l.drop (pos + w)) := fun cur => by
          have := flds_run ((l.drop pos).take w) cur ((l.drop pos).drop w) hx
          rw [List.take_append_drop, List.drop_drop] at this
          exact this
        rw [hns, ← hw]
        simp only [Bool.false_eq_true, if_false]
        cases st with
        | none =>
          simp only []
          rw [ih (pos + w) (some pos) acc (by omega) h3 (fun a h => by cases h; omega), hfl]
          simp only [openPiece, List.nil_append]
          unfold pieceU
          rw [show pos + w - pos = w by omega]
        | some a =>
          simp only []
          rw [ih (pos + w) (some a) acc (by omega) h3 (fun c h => by cases h; have := hst a rfl; omega), hfl]
          simp only [openPiece]
          rw [pieceU_grow l a pos w (Nat.le_of_lt (hst a rfl))]
    · rw [spansFromP_end _ _ _ _ _ _ (by rw [hsz]; exact hlt)]
      have hpe : pos = l.length := by omega
      subst hpe
      rw [List.drop_length]
      cases st with
      | none => simp [closeSpans, openPiece, flds]
      | some a =>
        have hne := pieceU_ne l a l.length (hst a rfl) (Nat.le_refl _)
        simp only [closeSpans, openPiece, List.map_append, List.map_cons, List.map_nil, hsz]
        exact congrArg _ (flds_e hne).symm
/-- strings.FieldsFunc at blanks and tabs. -/
theorem fieldsP_words (l : List UInt8) : (goFieldsP sepR ⟨l.toArray⟩).map Value.string = (wordsB l).map fun x => Value.string ⟨x.toArray⟩ := by
  have hsz : (⟨l.toArray⟩ : ByteArray).size = l.length := by simp [ByteArray.size]
  have h := spans_flds l l.length 0 none [] (by omega) (by omega) (fun a h => by cases h)
  simp only [List.map_nil, List.nil_append, List.drop_zero, openPiece] at h
  unfold goFieldsP spansOfP wordsB
  rw [hsz, ← h, List.map_map, List.map_map]
  refine List.map_congr_left fun x _ => ?_
  simp only [Function.comp]
  rw [ext_str]; rfl
theorem wordsB_len (l : List UInt8) : (goFieldsP sepR ⟨l.toArray⟩).length = (wordsB l).length := by
  have := congrArg List.length (fieldsP_words l)
  simpa using this
theorem flds_le : ∀ (l cur : List UInt8), (flds cur l).length ≤ l.length + 1 ∧ ∀ x ∈ flds cur l, x.length ≤ cur.length + l.length
  | [], cur => by
    unfold flds
    split
    · exact ⟨by simp, fun x hx => by cases hx⟩
    · exact ⟨by simp, fun x hx => by rw [List.mem_singleton.1 hx]; simp⟩
  | b :: t, cur => by
    unfold flds
    split
    · have ih := flds_le t []
      split
      · exact ⟨by simp; omega, fun x hx => by have := ih.2 x hx; simp at this ⊢; omega⟩
      · exact ⟨by simp; omega, fun x hx => by
          rcases List.mem_cons.1 hx with rfl | hx
          · simp
          · have := ih.2 x hx; simp at this ⊢; omega⟩
    · have ih := flds_le t (cur ++ [b])
      exact ⟨by simp; omega, fun x hx => by have := ih.2 x hx; simp at this ⊢; omega⟩
end Go.Kw
