/- What the law's proof leans on. No condition. -/
import Derived.Test.YtjnnhlbfgnopiaaGreatDoorPCAG
import Derived.Laws.Tables
namespace Go.Kw
set_option linter.unusedVariables false
set_option linter.unusedSimpArgs false
set_option linter.unusedSectionVars false

/-! ### Blocks taken into a state -/
def xorTo (s b : List UInt8) (k : Nat) : List UInt8 := (List.range 64).map fun j => if j < k then gt s j ^^^ gt b j else gt s j
@[simp] theorem xorTo_len (s b : List UInt8) (k : Nat) : (xorTo s b k).length = 64 := by simp [xorTo]
theorem gt_xorTo (s b : List UInt8) (k j : Nat) (h : j < 64) : gt (xorTo s b k) j = if j < k then gt s j ^^^ gt b j else gt s j := by
  rw [gt_eq _ j (by simpa using h)]; simp [xorTo]
theorem xorTo_zero (s b : List UInt8) (hs : s.length = 64) : xorTo s b 0 = s := by
  apply ext_gt
  · simp [hs]
  · intro i hi
    rw [gt_xorTo _ _ _ _ (by simpa using hi), if_neg (by omega)]
theorem xorTo_set (s b : List UInt8) (k : Nat) (h : k < 64) : (xorTo s b k).set k (gt (xorTo s b k) k ^^^ gt b k) = xorTo s b (k + 1) := by
  apply ext_gt
  · simp
  · intro i hi
    have hi' : i < 64 := by simpa using hi
    rw [gt_set, gt_xorTo _ _ _ _ hi', gt_xorTo _ _ _ _ hi', gt_xorTo _ _ _ _ h]
    by_cases hij : k = i
    · subst hij; simp [hi']
    · by_cases h2 : i < k
      · simp [hij, h2, Nat.lt_succ_of_lt h2]
      · simp [hij, h2, show ¬ i < k + 1 by omega]
def chunk (s b : List UInt8) : List UInt8 := stirL (xorTo s b 32)
@[simp] theorem chunk_len (s b : List UInt8) : (chunk s b).length = 64 := by simp [chunk]
theorem chunk_take (s b : List UInt8) (n : Nat) (h : 32 ≤ n) : chunk s (b.take n) = chunk s b := by
  unfold chunk xorTo
  congr 1
  apply List.map_congr_left
  intro j hj
  by_cases h2 : j < 32
  · simp only [h2, if_true]; rw [gt_take _ _ _ (by omega)]
  · simp only [h2, if_false]

/-- All whole blocks of a text, and what is left of it. -/
def absorb : Nat → List UInt8 → List UInt8 → List UInt8
  | 0, s, _ => s
  | k + 1, s, t => absorb k (chunk s (t.take 32)) (t.drop 32)
def soak (s t : List UInt8) : List UInt8 := absorb (t.length / 32) s t
def left (t : List UInt8) : List UInt8 := t.drop (32 * (t.length / 32))
theorem left_len (t : List UInt8) : (left t).length = t.length % 32 := by simp [left]; omega
theorem soak_short (s t : List UInt8) (h : t.length < 32) : soak s t = s := by simp [soak, Nat.div_eq_of_lt h, absorb]
theorem left_short (t : List UInt8) (h : t.length < 32) : left t = t := by simp [left, Nat.div_eq_of_lt h]
theorem soak_step (s t : List UInt8) (h : 32 ≤ t.length) : soak s t = soak (chunk s (t.take 32)) (t.drop 32) := by
  have e : t.length / 32 = (t.drop 32).length / 32 + 1 := by simp; omega
  rw [soak, e, absorb, soak]
theorem left_step (t : List UInt8) (h : 32 ≤ t.length) : left t = left (t.drop 32) := by
  unfold left
  rw [List.drop_drop]
  congr 1
  simp; omega
theorem absorb_len : ∀ (k : Nat) (s t : List UInt8), s.length = 64 → (absorb k s t).length = 64
  | 0, _, _, h => h
  | k + 1, s, t, _ => absorb_len k _ _ (chunk_len _ _)
theorem soak_len (s t : List UInt8) (h : s.length = 64) : (soak s t).length = 64 := absorb_len _ _ _ h
theorem absorb_app : ∀ (k : Nat) (s t u : List UInt8), 32 * k ≤ t.length → absorb k s (t ++ u) = absorb k s t
  | 0, _, _, _, _ => rfl
  | k + 1, s, t, u, h => by
    rw [absorb, absorb, List.take_append_of_le_length (by omega), List.drop_append_of_le_length (by omega)]
    exact absorb_app k _ _ _ (by simp; omega)
theorem absorb_add : ∀ (k m : Nat) (s t : List UInt8), absorb (k + m) s t = absorb m (absorb k s t) (t.drop (32 * k))
  | 0, m, s, t => by simp [absorb]
  | k + 1, m, s, t => by
    rw [show k + 1 + m = (k + m) + 1 by omega, absorb, absorb_add k m, absorb, List.drop_drop]
    congr 2
    omega
/-- A text in two pieces. -/
theorem soak_app (s t u : List UInt8) : soak s (t ++ u) = soak (soak s t) (left t ++ u) := by
  have hle : 32 * (t.length / 32) ≤ t.length := Nat.mul_div_le _ _
  have e : (t ++ u).length / 32 = t.length / 32 + (left t ++ u).length / 32 := by
    simp only [List.length_append, left_len]; omega
  unfold soak
  rw [e, absorb_add, absorb_app _ _ _ _ hle]
  congr 1
  rw [List.drop_append_of_le_length hle, left]
theorem left_app (t u : List UInt8) : left (t ++ u) = left (left t ++ u) := by
  have hle : 32 * (t.length / 32) ≤ t.length := Nat.mul_div_le _ _
  have e : 32 * ((t ++ u).length / 32) = 32 * (t.length / 32) + 32 * ((left t ++ u).length / 32) := by
    simp only [List.length_append, left_len]; omega
  conv => lhs; rw [left, e, ← List.drop_drop, List.drop_append_of_le_length hle]
  rfl

/-! ### A summer's cells -/
def sumC (st rest : List UInt8) (have' total : Nat) : List Value := st.map b8 ++ (rest.map b8 ++ [vi have', vi total])
section
variable {st rest : List UInt8} {h t : Nat} (h1 : st.length = 64) (h2 : rest.length = 32)
include h1 h2
theorem sumC_len : (sumC st rest h t).length = 98 := by simp [sumC, h1, h2]
theorem sumC_have : (sumC st rest h t)[96]? = some (vi h) := by
  rw [sumC, List.getElem?_append_right (by simp [h1]), List.getElem?_append_right (by simp [h1, h2])]; simp [h1, h2]
theorem sumC_total : (sumC st rest h t)[97]? = some (vi t) := by
  rw [sumC, List.getElem?_append_right (by simp [h1]), List.getElem?_append_right (by simp [h1, h2])]; simp [h1, h2]
theorem sumC_st {i : Nat} (hi : i < 64) : (sumC st rest h t)[i]? = some (b8 (gt st i)) := by
  rw [sumC, List.getElem?_append_left (by simp [h1, hi])]
  exact map_gt b8 st i (by omega)
theorem sumC_rest {i : Nat} (hi : i < 32) : (sumC st rest h t)[64 + i * 1]? = some (b8 (gt rest i)) := by
  rw [sumC, Nat.mul_one, List.getElem?_append_right (by simp [h1])]
  simp only [List.length_map, h1, Nat.add_sub_cancel_left]
  rw [List.getElem?_append_left (by simp [h2, hi])]
  exact map_gt b8 rest i (by omega)
theorem sumC_setHave (x : Nat) : (sumC st rest h t).set 96 (vi x) = sumC st rest x t := by
  rw [sumC, List.set_append_right _ _ (by simp [h1]), List.set_append_right _ _ (by simp [h1, h2])]; simp [h1, h2, sumC]
theorem sumC_setTotal (x : Nat) : (sumC st rest h t).set 97 (vi x) = sumC st rest h x := by
  rw [sumC, List.set_append_right _ _ (by simp [h1]), List.set_append_right _ _ (by simp [h1, h2])]; simp [h1, h2, sumC]
theorem sumC_setSt {i : Nat} (hi : i < 64) (x : UInt8) : (sumC st rest h t).set i (b8 x) = sumC (st.set i x) rest h t := by
  rw [sumC, List.set_append_left _ _ (by simp [h1, hi]), ← List.map_set]; rfl
theorem sumC_state : ((sumC st rest h t).drop 0).take 64 = st.map b8 := by
  rw [List.drop_zero, sumC]
  exact List.take_left' (by simp [h1])
theorem sumC_putState {st' : List UInt8} (h3 : st'.length = 64) : splice (sumC st rest h t) 0 (st'.map b8) = sumC st' rest h t := by
  simp only [splice, sumC, List.take_zero, List.nil_append, List.length_map, h3, Nat.zero_add]
  rw [List.drop_left' (by simp [h1])]
theorem sumC_putRest {o : Nat} {cs : List UInt8} (ho : o + cs.length ≤ 32) : splice (sumC st rest h t) (64 + o) (cs.map b8) = sumC st (splice rest o cs) h t := by
  simp only [splice, sumC, List.length_map, List.map_append, List.map_take, List.map_drop]
  rw [List.take_append, List.take_of_length_le (by simp [h1]), show 64 + o + cs.length = (st.map b8).length + (o + cs.length) by simp [h1]; omega, List.drop_append]
  simp only [List.length_map, h1, Nat.add_sub_cancel_left, List.append_assoc]
  rw [List.take_append_of_le_length (by simp [h2]; omega), List.drop_append_of_le_length (by simp [h2]; omega)]
  simp
  omega
end
theorem Row.stM {w0 w : World} {M : List Nat} {L : List Item} {a : Option Addr} {cs : List Value} (h : Row w0 a cs) (hS : St w0 M w L) (hb : ∀ b o, cs ≠ [] → a = some ⟨b, o, none⟩ → b ∉ M) : Row w a cs := by
  rcases h with h | ⟨b, off, ha, hA⟩
  · exact .inl h
  · by_cases hc : cs = []
    · exact .inl hc
    · exact .inr ⟨b, off, ha, hA.stM hS (hb b off hc ha)⟩
/-- What is read lies apart from the block that turns. -/
def Sep (a : Option Addr) (l : List UInt8) (bs : Nat) : Prop := l ≠ [] → ∀ x, a = some x → x.block ≠ bs
theorem Sep.not {a : Option Addr} {l : List UInt8} {bs : Nat} (h : Sep a l bs) : ∀ b o, l.map b8 ≠ [] → a = some ⟨b, o, none⟩ → b ∉ [bs] := by
  intro b o hl ha
  have := h (by simpa using hl) _ ha
  simpa using this
theorem add_block (x : Addr) (n : Nat) : (x.add n).block = x.block := by unfold Addr.add; split <;> rfl
theorem Sep.drop {a : Option Addr} {l : List UInt8} {bs c k : Nat} (h : Sep a l bs) : Sep (Kw.sub a c k 1) (l.drop k) bs := by
  intro hl x hx
  have hl' : l ≠ [] := by rintro rfl; simp at hl
  unfold Kw.sub at hx
  split at hx
  · exact h hl' x hx
  · cases a with
    | none => cases hx
    | some y =>
      simp only [Option.map_some, Option.some.injEq] at hx
      rw [← hx, add_block]
      exact h hl' y rfl
theorem put_take (rest l : List UInt8) (hv : Nat) (h2 : rest.length = 32) (hh : hv < 32) (hs : l.length < 32 - hv) : (splice rest hv (l.take (32 - hv))).take (hv + l.length) = rest.take hv ++ l := by
  rw [List.take_of_length_le (l := l) (by omega)]
  simp only [splice, ← List.append_assoc]
  exact List.take_left' (by simp; omega)
theorem put_full (rest l : List UInt8) (hv : Nat) (h2 : rest.length = 32) (hh : hv < 32) (hs : 32 - hv ≤ l.length) : splice rest hv (l.take (32 - hv)) = (rest.take hv ++ l).take 32 := by
  simp only [splice]
  have e : hv + (l.take (32 - hv)).length = 32 := by simp; omega
  rw [e, List.drop_of_length_le (by omega), List.append_nil, List.take_append, List.take_take, Nat.min_eq_right (by omega)]
  congr 2
  simp; omega
theorem put_behind (rest l : List UInt8) (hv : Nat) (h2 : rest.length = 32) (hh : hv < 32) : (rest.take hv ++ l).drop 32 = l.drop (32 - hv) := by
  rw [List.drop_append, List.drop_of_length_le (by simp; omega), List.nil_append]
  congr 1
  simp; omega
theorem put_head (rest l : List UInt8) (h : l.length ≤ rest.length) : (splice rest 0 l).take l.length = l := by simp [splice]
theorem r_build00 {P : Program} {ρ : Operand → Value} {w : World} {dst : Option Tmp} {ty T : TypeId} {pos : String} {aft : Array Edge} {g : Option (Nat × Bool)} {cs : List Value} (h : P.built T [] = some cs.toArray) :
    (execOp ρ ⟨dst, .build T #[], ty, pos, aft, g⟩).run P w = .ok (.value (.agg cs.toArray)) w := by
  have := run_build w T #[] cs.toArray (by simpa using h)
  simp [execOp, this]
def ini (d : UInt8) : List UInt8 := (List.replicate 64 (0 : UInt8)).set 63 d
@[simp] theorem ini_len (d : UInt8) : (ini d).length = 64 := by simp [ini]
/-- A block that was handed over and is as it was. -/
theorem St.unown {w w' : World} {b : Nat} {o : Obj} (hb : w.heap[b]? = some o) (h : St w [b] w' [.blk b o]) : St w [] w' [] := by
  refine ⟨h.os, h.tape, h.output, h.size, fun k hk _ => ?_, by simp, by simp⟩
  by_cases hkb : k = b
  · subst hkb; rw [hb]; exact h.heap (.head _)
  · exact h.old k hk (by simpa using hkb)
theorem St.ne2 {w0 w : World} {M : List Nat} {a b : Nat} {o p : Obj} {L : List Item} (h : St w0 M w (.blk a o :: .blk b p :: L)) : a ≠ b := by
  have := h.apart
  simp only [List.filterMap_cons, Item.id, List.nodup_cons, List.mem_cons, not_or] at this
  exact this.1.1
theorem Sep.ofNe {a b o : Nat} {l : List UInt8} (h : a ≠ b) : Sep (some ⟨a, o, none⟩) l b := by
  intro _ x hx
  cases hx
  exact h
theorem one_sumC (st rest : List UInt8) (h t : Nat) : One (sumC st rest h t) := one_app (one_b8 _) (one_app (one_b8 _) (one_cons rfl (one_cons rfl one_nil)))
/-- A text, its mark, and noughts up to a whole block. -/
def pad (t : List UInt8) : List UInt8 := (t ++ [128]) ++ List.replicate ((32 - (left (t ++ [128])).length) % 32) 0
theorem left_lt (t : List UInt8) : (left t).length < 32 := by rw [left_len]; omega
theorem pad_some (t : List UInt8) (h : 0 < (left (t ++ [128])).length) : (t ++ [128]) ++ List.replicate ((32 - (left (t ++ [128])).length) * 1) (0 : UInt8) = pad t := by
  have := left_lt (t ++ [128])
  rw [pad, Nat.mul_one, Nat.mod_eq_of_lt (by omega)]
theorem pad_none (t : List UInt8) (h : ¬ 0 < (left (t ++ [128])).length) : t ++ [128] = pad t := by
  rw [pad, show (left (t ++ [128])).length = 0 by omega]; simp
theorem pad_left (t : List UInt8) : left (pad t) = [] := by
  apply List.eq_nil_of_length_eq_zero
  have h := left_len (t ++ [128])
  rw [left_len, pad, List.length_append, List.length_replicate, h]
  omega
def lastB (n : Nat) : List UInt8 := splice (List.replicate 32 (0 : UInt8)) 24 (octs8 (UInt64.ofNat n))
theorem lastB_len (n : Nat) : (lastB n).length = 32 := by rw [lastB, splice_len _ _ _ (by simp)]; simp
def endL (s0 t : List UInt8) : List UInt8 := chunk (soak s0 (pad t)) (lastB t.length)
@[simp] theorem endL_len (s0 t : List UInt8) : (endL s0 t).length = 64 := by simp [endL]
theorem St.oldHeap {w0 w : World} {M : List Nat} {L : List Item} {b : Nat} {o : Obj} (hS : St w0 M w L) (hb : w0.heap[b]? = some o) (hn : b ∉ M) : w.heap[b]? = some o := by
  rw [hS.old b (Array.getElem?_eq_some_iff.1 hb).1 hn]; exact hb
/-- An owned row with something in it, as a block. -/
theorem St.rowBlk {w0 w : World} {M : List Nat} {l1 l2 : List Item} {a : Option Addr} {n c sz : Nat} {E : TypeId} {xs : List Value} (hS : St w0 M w (l1 ++ .row (.slice a n c) E sz n xs :: l2)) (hn : 0 < n) :
    ∃ g C, a = some ⟨g, 0, none⟩ ∧ C.take (n * sz) = xs ∧ n * sz ≤ C.length ∧ n ≤ c ∧ St w0 M w (l1 ++ .blk g (cl C E) :: l2) := by
  have hx := hS.has (.row (.slice a n c) E sz n xs) (by simp)
  obtain ⟨hl, hw⟩ := hx.1
  rcases hw with ⟨hv, h0⟩ | ⟨gq, cap, cur, hv, h1, h2, h3, h4, h5, h6⟩
  · omega
  simp only [Value.slice.injEq] at hv
  obtain ⟨rfl, _, rfl⟩ := hv
  have hle : n * sz ≤ c * sz := Nat.mul_le_mul_right _ h3
  refine ⟨gq, cur.toList, rfl, h6, by simp only [Array.length_toList]; omega, h3, ?_⟩
  refine hS.turnAt rfl rfl rfl (Nat.le_refl _) (fun _ _ _ => rfl) ?_ (fun k hk => .inl (by simpa [Item.id, Value.ownBlock] using hk))
  exact ⟨by simpa using h2, hx.2 gq rfl⟩
/-- The reference's padded text. -/
def refText (t : List UInt8) : List UInt8 := (pad t ++ List.replicate 24 0) ++ octs8 (UInt64.ofNat t.length)
theorem lastB_eq (n : Nat) : List.replicate 24 (0 : UInt8) ++ octs8 (UInt64.ofNat n) = lastB n := by
  simp [lastB, splice]
theorem state_end (s0 t : List UInt8) : soak s0 (refText t) = endL s0 t := by
  rw [refText, List.append_assoc, lastB_eq, soak_app, pad_left, List.nil_append, soak_step _ _ (by rw [lastB_len]; decide), soak_short _ _ (by simp [lastB_len]), List.take_of_length_le (by rw [lastB_len]; decide)]
  rfl
theorem refText_len (t : List UInt8) : (refText t).length % 32 = 0 := by
  have h := left_len (pad t)
  rw [pad_left] at h
  simp only [refText, List.length_append, List.length_replicate, octs8_len, List.length_nil] at *
  omega
theorem pad_steps (t : List UInt8) (k : Nat) (hk : k ≤ (32 - (left (t ++ [128])).length) % 32) : ((t ++ [128]) ++ List.replicate k (0 : UInt8)).length % 32 = 0 ↔ k = (32 - (left (t ++ [128])).length) % 32 := by
  have h := left_len (t ++ [128])
  simp only [List.length_append, List.length_replicate] at *
  omega
theorem zero_b8 (n : Nat) : (Builtin.zeroCells (Value.int .u8 0).cells n).toList = (List.replicate n (0 : UInt8)).map b8 := by
  apply List.ext_getElem
  · simp [Builtin.zeroCells, Value.cells]
  · intro i h1 h2
    simp [Builtin.zeroCells, Value.cells, Nat.mod_one]
theorem one_zero (n : Nat) : One (Builtin.zeroCells (Value.int .u8 0).cells n).toList := by rw [zero_b8]; exact one_b8 _
/-- The sum of a text. -/
def sumL (d : UInt8) (t : List UInt8) : List UInt8 := (endL (ini d) t).take 32
def tagL (k t : List UInt8) : List UInt8 := (sumL (UInt8.ofNat 8) (k ++ t)).take 16
def sealL (k t : List UInt8) : List UInt8 := stirL (endL (ini (UInt8.ofNat 9)) (k ++ t))
@[simp] theorem sealL_len (k t : List UInt8) : (sealL k t).length = 64 := by simp [sealL]
@[simp] theorem sumL_len (d : UInt8) (t : List UInt8) : (sumL d t).length = 32 := by simp [sumL]
/-- What lies in memory from the beginning lies apart from a new block. -/
theorem Sep.old {w0 w : World} {L : List Item} {a : Option Addr} {l : List UInt8} {bs : Nat} {o : Obj} (hS : St w0 [] w L) (hm : Item.blk bs o ∈ L) (h : Row w0 a (l.map b8)) : Sep a l bs := by
  intro hl x hx hb
  have hge : w0.heap.size ≤ bs := by
    rcases (hS.has _ hm).2 with h1 | h1
    · exact h1
    · cases h1
  rcases h with h | ⟨b, off, ha, hA⟩
  · exact hl (by simpa using h)
  · have hlt := hA.lt (by cases l with | nil => exact absurd rfl hl | cons _ _ => simp)
    rw [ha] at hx
    cases hx
    simp only at hb
    omega
@[simp] theorem tagL_len (k t : List UInt8) : (tagL k t).length = 16 := by simp [tagL]
theorem joined_zero (ps : List Piece) : joined (ps.take 0) = [] := by simp [joined]
theorem joined_one (x : List UInt8) (a : Option Addr) (c : Nat) : joined [⟨a, c, x⟩] = x := by simp [joined]
theorem total_one (x : List UInt8) (a : Option Addr) (c : Nat) : total [⟨a, c, x⟩] = x.length := by simp [total]
end Go.Kw
