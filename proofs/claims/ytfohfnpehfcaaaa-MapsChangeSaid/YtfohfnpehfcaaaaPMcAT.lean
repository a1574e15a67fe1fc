/- What the law's proof leans on. No condition. -/
import Derived.Test.YtfohfnpehfcaaaaPMcAR
import Derived.Test.YtfohfnpehfcaaaaPMcAS
namespace Go.Kw
open Go.Lib
set_option linter.unusedVariables false
/-- The bit of an octet. -/
def bit8 (u : UInt8) (t : Nat) : Nat := (u.toNat / 2 ^ (7 - t)) % 2
theorem bitL_8 (k : List UInt8) (i : Nat) : bitL k i = bit8 (gt k (i / 8)) (i % 8) := by
  unfold bitL bit8
  have h : (UInt8.ofNat (7 - i % 8)).toNat = 7 - i % 8 := by rw [UInt8.toNat_ofNat']; omega
  rw [UInt8.toNat_shiftRight, h, Nat.shiftRight_eq_div_pow]
  congr 3
  omega
theorem top_eq {u v : UInt8} : ∀ t, t ≤ 8 → (∀ s, s < t → bit8 u s = bit8 v s) → u.toNat / 2 ^ (8 - t) = v.toNat / 2 ^ (8 - t)
  | 0, _, _ => by have := u.toNat_lt; have := v.toNat_lt; omega
  | t + 1, ht, h => by
    have ih := top_eq t (by omega) fun s hs => h s (by omega)
    have hb := h t (by omega)
    unfold bit8 at hb
    have e : 2 ^ (8 - t) = 2 ^ (7 - t) * 2 := by rw [show 8 - t = (7 - t) + 1 by omega, Nat.pow_succ]
    rw [e, ← Nat.div_div_eq_div_mul, ← Nat.div_div_eq_div_mul] at ih
    rw [show 8 - (t + 1) = 7 - t by omega]
    omega
theorem lt_of_bit {u v : UInt8} {t : Nat} (ht : t < 8) (h : ∀ s, s < t → bit8 u s = bit8 v s) (h0 : bit8 u t = 0) (h1 : bit8 v t = 1) : u < v := by
  have hq := top_eq t (by omega) h
  have e : 2 ^ (8 - t) = 2 ^ (7 - t) * 2 := by rw [show 8 - t = (7 - t) + 1 by omega, Nat.pow_succ]
  rw [e, ← Nat.div_div_eq_div_mul, ← Nat.div_div_eq_div_mul] at hq
  unfold bit8 at h0 h1
  have hlt : u.toNat / 2 ^ (7 - t) < v.toNat / 2 ^ (7 - t) := by omega
  show u.toNat < v.toNat
  rcases Nat.lt_or_ge u.toNat v.toNat with g | g
  · exact g
  · have := Nat.div_le_div_right (c := 2 ^ (7 - t)) g
    omega
theorem cmp_at : ∀ {x y : List UInt8} {b : Nat}, b < x.length → b < y.length → (∀ i, i < b → gt x i = gt y i) → gt x b < gt y b → compareBytes x y = -1
  | [], _, _, h, _, _, _ => by simp at h
  | _ :: _, [], _, _, h, _, _ => by simp at h
  | a :: x, c :: y, 0, _, _, _, h => by
    have h' : a < c := h
    unfold compareBytes; rw [if_pos h']
  | a :: x, c :: y, b + 1, h1, h2, he, h => by
    have e0 : a = c := he 0 (by omega)
    subst e0
    unfold compareBytes
    rw [if_neg (UInt8.lt_irrefl a), if_neg (UInt8.lt_irrefl a)]
    exact cmp_at (b := b) (by simpa using h1) (by simpa using h2) (fun i hi => he (i + 1) (by omega)) h
theorem byte_eq {u v : UInt8} (h : ∀ s, s < 8 → bit8 u s = bit8 v s) : u = v := by
  have := top_eq 8 (Nat.le_refl _) h
  simp at this
  exact UInt8.toNat_inj.1 this
theorem cmp_bit {x y : List UInt8} {lev : Nat} (hx : x.length = 32) (hy : y.length = 32) (hlev : lev < 256) (h : ∀ j, j < lev → bitL x j = bitL y j) (h0 : bitL x lev = 0) (h1 : bitL y lev = 1) : compareBytes x y < 0 := by
  have hb : ∀ i s, s < 8 → 8 * i + s < lev → bit8 (gt x i) s = bit8 (gt y i) s := fun i s hs hl => by
    have := h (8 * i + s) hl
    rw [bitL_8, bitL_8] at this
    rwa [show (8 * i + s) / 8 = i by omega, show (8 * i + s) % 8 = s by omega] at this
  rw [bitL_8] at h0 h1
  have := cmp_at (x := x) (y := y) (b := lev / 8) (by omega) (by omega) (fun i hi => byte_eq fun s hs => hb i s hs (by omega)) (lt_of_bit (t := lev % 8) (by omega) (fun s hs => hb _ s (by omega) (by omega)) h0 h1)
  omega
/-- All the same below a level. -/
def Alike (lev : Nat) (l : List (List UInt8)) : Prop := ∀ x ∈ l, ∀ y ∈ l, ∀ j, j < lev → bitL x j = bitL y j
theorem halves_filter {l : List (List UInt8)} {i lev : Nat} (h32 : S32 l) (hlev : lev < 256) (hal : Alike lev l) (hs : l.Pairwise LtB) (hi : i ≤ l.length) (hz : ∀ j, j < i → bitL (gt l j) lev = 0) (hn : i < l.length → ¬ bitL (gt l i) lev = 0) :
    l.filter (fun e => bitL e lev == 0) = l.take i ∧ l.filter (fun e => !(bitL e lev == 0)) = l.drop i := by
  have ht : ∀ x ∈ l.take i, bitL x lev = 0 := by
    intro x hx
    obtain ⟨j, hj, rfl⟩ := List.mem_iff_getElem.1 hx
    have hj' : j < i := by rw [List.length_take] at hj; omega
    have := hz j hj'
    rw [gt_eq l j (by omega)] at this
    rw [List.getElem_take]; exact this
  have hd : ∀ x ∈ l.drop i, ¬ bitL x lev = 0 := by
    intro x hx h0
    obtain ⟨j, hj, rfl⟩ := List.mem_iff_getElem.1 hx
    have hj' : i + j < l.length := by rw [List.length_drop] at hj; omega
    rw [List.getElem_drop] at h0
    have h1 := hn (by omega)
    rw [gt_eq l i (by omega)] at h1
    by_cases e : j = 0
    · subst e; exact h1 h0
    · have hlt : compareBytes l[i] l[i + j] < 0 := List.pairwise_iff_getElem.1 hs i (i + j) (by omega) hj' (by omega)
      have hb1 : bitL l[i] lev = 1 := (bitL_01 _ _).resolve_left h1
      have := cmp_bit (x := l[i + j]) (y := l[i]) (h32 _ (List.getElem_mem _)) (h32 _ (List.getElem_mem _)) hlev (hal _ (List.getElem_mem _) _ (List.getElem_mem _)) h0 hb1
      have hsw := cmp_swap l[i] l[i + j]
      omega
  constructor
  · conv => lhs; rw [← List.take_append_drop i l]
    rw [List.filter_append, List.filter_eq_self.2 (fun x hx => by simp [ht x hx]), List.filter_eq_nil_iff.2 (fun x hx => by simp [hd x hx]), List.append_nil]
  · conv => lhs; rw [← List.take_append_drop i l]
    rw [List.filter_append, List.filter_eq_nil_iff.2 (fun x hx => by simp [ht x hx]), List.filter_eq_self.2 (fun x hx => by simp [hd x hx]), List.nil_append]
theorem Alike.next {lev : Nat} {l m : List (List UInt8)} {v : Nat} (h : Alike lev l) (hm : ∀ x ∈ m, x ∈ l) (hv : ∀ x ∈ m, bitL x lev = v) : Alike (lev + 1) m := by
  intro x hx y hy j hj
  by_cases e : j = lev
  · subst e; rw [hv x hx, hv y hy]
  · exact h x (hm x hx) y (hm y hy) j (by omega)
theorem alike_short {l : List (List UInt8)} (h32 : S32 l) (h : Alike 256 l) (hn : l.Nodup) : l.length ≤ 1 := by
  match l, h32, h, hn with
  | [], _, _, _ => simp
  | [_], _, _, _ => simp
  | x :: y :: l, h32, h, hn =>
    exfalso
    have hx := h32 x (by simp); have hy := h32 y (by simp)
    have he : x = y := by
      apply ext_gt
      · rw [hx, hy]
      · intro i hi
        refine byte_eq fun s hs => ?_
        have := h x (by simp) y (by simp) (8 * i + s) (by omega)
        rw [bitL_8, bitL_8] at this
        rwa [show (8 * i + s) / 8 = i by omega, show (8 * i + s) % 8 = s by omega] at this
    rw [he] at hn
    simp at hn
/-- A key's value. -/
def valM (E : List MapE) (k : Sum32) : Sum32 := (getM E k).getD default
/-- Keys with their values. -/
def entM (E : List MapE) (ds : List Sum32) : List (List UInt8) := ds.map fun k => k.1 ++ (valM E k).1
def rawL (ds : List Sum32) : List (List UInt8) := ds.map (·.1)
theorem rawL_32 (ds : List Sum32) : S32 (rawL ds) := S32.of ds
theorem rawL_len (ds : List Sum32) : (rawL ds).length = ds.length := by simp [rawL]
theorem rawL_gt {ds : List Sum32} {i : Nat} (h : i < ds.length) : gt (rawL ds) i = (gt ds i).1 := by
  rw [gt_eq _ i (by rw [rawL_len]; exact h), gt_eq _ i h]; simp [rawL]
theorem bit_ent (E : List MapE) (k : Sum32) {lev : Nat} (h : lev < 256) : bitL (k.1 ++ (valM E k).1) lev = bitL k.1 lev := by
  unfold bitL
  rw [gt_app _ _ _ (by rw [k.2]; omega)]
theorem ent_filter (E : List MapE) (ds : List Sum32) {lev : Nat} (h : lev < 256) (b : Bool) : (entM E ds).filter (fun e => (bitL e lev == 0) == b) = entM E (ds.filter fun k => (bitL k.1 lev == 0) == b) := by
  unfold entM
  rw [List.filter_map]
  congr 1
  apply List.filter_congr
  intro k hk
  simp only [Function.comp, bit_ent E k h]
theorem part_zero {E : List MapE} {ds : List Sum32} {f lev : Nat} (h : ds.length = 0) : mapRootF f (entM E ds) lev = Z32L := by
  have e : (entM E ds).length = 0 := by simp [entM, h]
  cases f <;> (rw [mapRootF, if_pos e])
theorem part_one {E : List MapE} {ds : List Sum32} {f lev : Nat} {v0 : Sum32} (h : ds.length = 1) (hg : getM E (gt ds 0) = some v0) : mapRootF f (entM E ds) lev = leafM ((gt ds 0).1 ++ v0.1) := by
  obtain ⟨d, rfl⟩ : ∃ d, ds = [d] := List.length_eq_one_iff.1 h
  have hv : valM E d = v0 := by
    have : getM E d = some v0 := hg
    rw [valM, this]; rfl
  have e0 : gt (entM E [d]) 0 = d.1 ++ v0.1 := by
    show d.1 ++ (valM E d).1 = _
    rw [hv]
  have e1 : (entM E [d]).length = 1 := rfl
  have e2 : gt [d] 0 = d := rfl
  cases f <;> simp only [mapRootF, e1, e0, e2, if_true, if_false, Nat.one_ne_zero]
theorem part_more {E : List MapE} {ds : List Sum32} {f lev i : Nat} (h : 2 ≤ ds.length) (hlev : lev < 256) (hal : Alike lev (rawL ds)) (hs : (rawL ds).Pairwise LtB) (hi : i ≤ ds.length) (hz : ∀ j, j < i → bitL (gt (rawL ds) j) lev = 0) (hn : i < ds.length → ¬ bitL (gt (rawL ds) i) lev = 0) :
    mapRootF (f + 1) (entM E ds) lev = nodeL (mapRootF f (entM E (ds.take i)) (lev + 1)) (mapRootF f (entM E (ds.drop i)) (lev + 1)) := by
  have hl : (entM E ds).length = ds.length := by simp [entM]
  have hf := halves_filter (rawL_32 ds) hlev hal hs (by rw [rawL_len]; exact hi) hz (by rw [rawL_len]; exact hn)
  have inj : ∀ {a b : List Sum32}, rawL a = rawL b → a = b := fun {a b} e => List.map_inj_right (fun x y h => Subtype.ext h) |>.1 e
  have f0 : ds.filter (fun k => bitL k.1 lev == 0) = ds.take i := inj (by
    rw [show rawL (ds.filter fun k => bitL k.1 lev == 0) = (rawL ds).filter (fun e => bitL e lev == 0) from by unfold rawL; rw [List.filter_map]; rfl, hf.1]; simp [rawL, List.map_take])
  have f1 : ds.filter (fun k => !(bitL k.1 lev == 0)) = ds.drop i := inj (by
    rw [show rawL (ds.filter fun k => !(bitL k.1 lev == 0)) = (rawL ds).filter (fun e => !(bitL e lev == 0)) from by unfold rawL; rw [List.filter_map]; rfl, hf.2]; simp [rawL, List.map_drop])
  have g0 : (entM E ds).filter (fun e => bitL e lev == 0) = entM E (ds.take i) := by
    rw [← f0]; have := ent_filter E ds hlev true; simpa using this
  have g1 : (entM E ds).filter (fun e => !(bitL e lev == 0)) = entM E (ds.drop i) := by
    rw [← f1]; have := ent_filter E ds hlev false; simpa using this
  rw [mapRootF, if_neg (by omega), if_neg (by omega), g0, g1]
/-- A map's keys, in order. -/
def keysD (E : List MapE) : List Sum32 := sums32 (sortL (keysM E)) (sort_32 (keysM_32 E))
theorem keysD_raw (E : List MapE) : rawL (keysD E) = sortL (keysM E) := sums32_map _
theorem keysD_len (E : List MapE) : (keysD E).length = E.length := by
  rw [keysD, sums32_len, sortL_len]; simp [keysM]
theorem keysD_lt {E : List MapE} {clock : Nat} (hwf : WfM E clock) : (rawL (keysD E)).Pairwise LtB := by
  rw [keysD_raw]
  have hnd : (sortL (keysM E)).Nodup := (List.mergeSort_perm (keysM E) _).nodup_iff.2 (by
    have := hwf.keys
    have e : keysM E = (E.map (·.k)).map (·.1) := by simp [keysM]
    rw [e]
    exact List.Pairwise.map _ (fun a b h e => h (Subtype.ext e)) this)
  have hs := sortL_sorted (keysM E)
  refine List.pairwise_iff_getElem.2 fun i j hi hj hij => ?_
  have h1 := List.pairwise_iff_getElem.1 hs i j hi hj hij
  have h2 := List.pairwise_iff_getElem.1 hnd i j hi hj hij
  have sw := cmp_swap (sortL (keysM E))[i] (sortL (keysM E))[j]
  simp only [LtB] at h1 ⊢
  rcases cmp_range (sortL (keysM E))[i] (sortL (keysM E))[j] with e | e | e
  · omega
  · exact absurd (cmp_eq0 e) h2
  · omega
theorem keysD_get (E : List MapE) : ∀ k ∈ keysD E, ∃ v, getM E k = some v := by
  intro k hk
  have hm : k.1 ∈ rawL (keysD E) := List.mem_map.2 ⟨k, hk, rfl⟩
  rw [keysD_raw] at hm
  have hm2 := (List.mergeSort_perm (keysM E) _).mem_iff.1 hm
  obtain ⟨x, hx, he⟩ := List.mem_map.1 hm2
  rcases getM_cases E k with h | h
  · exact absurd (Subtype.ext he) (getM_none.1 h x hx)
  · exact h
theorem alike0 (l : List (List UInt8)) : Alike 0 l := fun x _ y _ j hj => by omega
end Go.Kw
