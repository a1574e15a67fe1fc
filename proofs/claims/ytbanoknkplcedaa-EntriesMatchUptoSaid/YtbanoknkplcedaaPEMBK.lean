/- What the law's proof leans on. No condition. -/
import Derived.Test.YtbanoknkplcedaaPEMBJ
import Derived.Test.YtbanoknkplcedaaPEMAK
import Derived.Test.YtbanoknkplcedaaPEMAM
import Derived.Laws.RangeString
section
namespace Go.Kw
open Go.Lib
set_option linter.unusedVariables false
set_option linter.unusedSimpArgs false
section
variable {P : Program} {ρ : Operand → Value} {w w0 : World} {M : List Nat} {L l1 l2 : List Item} {dst : Option Tmp} {ty : TypeId} {pos : String} {aft : Array Edge} {g : Option (Nat × Bool)} {x : Operand} {T : TypeId}
theorem x_rangeS {s : List UInt8} (hS : St w0 M w L) (hT : P.underlying T = some .string) (hx : ρ x = sv s) :
    ∃ v w', (execOp ρ ⟨dst, .range T x, ty, pos, aft, g⟩).run P w = .ok (.value v) w' ∧ ∃ r, v = pt r 0 ∧ St w0 M w' (.blk r (.stringIter ⟨s.toArray⟩ 0) :: L) := by
  refine ⟨pt w.heap.size 0, w.alloc (.stringIter ⟨s.toArray⟩ 0), ?_, w.heap.size, rfl, hS.alloc _⟩
  simp only [execOp, hx]
  rw [Sem.run_bind, run_range_string w T _ hT]
  rfl
theorem x_nextS (l1 : List Item) {l2 : List Item} {s : List UInt8} {k r : Nat} (n : Nat) (hS : St w0 M w (l1 ++ .blk r (.stringIter ⟨s.toArray⟩ k) :: l2)) (hx : ρ x = pt r 0) (hk : k < s.length) (hn : (gt s k).toNat = n) (ha : n < 128) :
    ∃ v w', (execOp ρ ⟨dst, .next x true, ty, pos, aft, g⟩).run P w = .ok (.value v) w' ∧ v = .tuple #[.bool true, vi k, .int .i32 n] ∧ St w0 M w' (l1 ++ .blk r (.stringIter ⟨s.toArray⟩ (k + 1)) :: l2) := by
  have hit := hS.has (.blk r (.stringIter ⟨s.toArray⟩ k)) (by simp)
  have hr : w.heap[r]? = some (.stringIter ⟨s.toArray⟩ k) := hit.1
  have hlt : r < w.heap.size := (Array.getElem?_eq_some_iff.1 hr).1
  have hsz : k < (⟨s.toArray⟩ : ByteArray).size := hk
  have hget : ((⟨s.toArray⟩ : ByteArray)[k]'hsz) = gt s k := by rw [gt_eq _ _ hk]; rfl
  have hd : Utf8.decode ⟨s.toArray⟩ k = (n, 1) := by
    rw [decode_ascii _ k hsz (by rw [hget, hn]; exact ha), hget, hn]
  refine ⟨_, { w with heap := w.heap.setIfInBounds r (.stringIter ⟨s.toArray⟩ (k + 1)) }, ?_, rfl, ?_⟩
  · simp only [execOp, hx]
    rw [Sem.run_bind]
    have : (Instr.next (pt r 0) true ty).run P w = .ok (.tuple #[.bool true, vi k, .int .i32 n]) { w with heap := w.heap.setIfInBounds r (.stringIter ⟨s.toArray⟩ (k + 1)) } := by
      have hz : (⟨s.toArray⟩ : ByteArray).size = s.length := rfl
      simp [Instr.next, getObj, setObj, Sem.run, hr, hz, hk, hd, goInt]
    rw [this]; rfl
  · refine hS.turnAt rfl rfl rfl (by simp) (fun k' hk' hne => ?_) ⟨?_, hit.2⟩ (fun k' hk' => .inl hk')
    · have : r ≠ k' := fun e => hne (by rw [e]; rfl)
      simp [Array.getElem?_setIfInBounds, this]
    · simp [Array.getElem?_setIfInBounds, hlt]
theorem x_overS (l1 : List Item) {l2 : List Item} {s : List UInt8} {k r : Nat} (hS : St w0 M w (l1 ++ .blk r (.stringIter ⟨s.toArray⟩ k) :: l2)) (hx : ρ x = pt r 0) (hk : ¬ k < s.length) :
    ∃ v w', (execOp ρ ⟨dst, .next x true, ty, pos, aft, g⟩).run P w = .ok (.value v) w' ∧ v = .tuple #[.bool false] ∧ St w0 M w' (l1 ++ .blk r (.stringIter ⟨s.toArray⟩ k) :: l2) := by
  have hr : w.heap[r]? = some (.stringIter ⟨s.toArray⟩ k) := hS.heap (by simp)
  refine ⟨_, w, ?_, rfl, hS⟩
  simp only [execOp, hx]
  rw [Sem.run_bind]
  have : (Instr.next (pt r 0) true ty).run P w = .ok (.tuple #[.bool false]) w := by
    have hz : (⟨s.toArray⟩ : ByteArray).size = s.length := rfl
    simp [Instr.next, getObj, Sem.run, hr, hz, hk]
  rw [this]; rfl
end
theorem at_idx {a k : Nat} (h1 : 1 ≤ a) (h2 : a < 13) (hk : k < (gt usesT a).length) : ∃ i, gt (gt needT (a - 1)) k = i ∧ gt (gt usesT a) k = gt letters i ∧ i < 12 ∧ needF a i = true ∧ k < (gt needT (a - 1)).length := by
  have hu := uses_idx a h2 h1
  have hk' : k < (gt needT (a - 1)).length := by rw [hu, List.length_map] at hk; exact hk
  refine ⟨_, rfl, by rw [hu, gt_map _ _ _ hk'], ?_, ?_, hk'⟩
  · exact (idx_lt a h2 h1 _ (gt_mem _ _ hk')).1
  · exact (idx_lt a h2 h1 _ (gt_mem _ _ hk')).2
theorem over_len {a k : Nat} (h1 : 1 ≤ a) (h2 : a < 13) (hk : ¬ k < (gt usesT a).length) : (gt needT (a - 1)).length ≤ k := by
  rw [uses_idx a h2 h1, List.length_map] at hk; omega
theorem short_at4 {w : World} {b n : Nat} {E : TypeId} {fr : Nat × Nat} (h : w.heap[b]? = some (.cells ((octs8 (UInt64.ofNat n)).map b8).toArray E fr)) : At w b 4 ((octs (UInt32.ofNat n)).map b8) := by
  have e : (octs8 (UInt64.ofNat n)).drop 4 = octs (UInt32.ofNat n) := by
    have h0 : (UInt64.ofNat n).toUInt32 = UInt32.ofNat n := by
      apply UInt32.toNat_inj.1
      rw [UInt64.toNat_toUInt32, UInt64.toNat_ofNat', UInt32.toNat_ofNat']; omega
    show octs (UInt64.ofNat n).toUInt32 = _
    rw [h0]
  have h9 := at_part (off := 4) (n := 4) h
  rwa [← List.map_drop, e, List.take_of_length_le (by simp)] at h9
end Go.Kw
end
section
namespace Go.Kw
open Go.Lib
set_option linter.unusedVariables false
set_option linter.unusedSimpArgs false
/-- A body without the places of its lists. -/
structure BV where
  tx : List UInt8
  mb : List UInt8
  ro : List (List UInt8)
  lb : List UInt8
  cm : List UInt8
  ep : Int
  pu : Int
  re : Int
  ne : Int
  ve : Int
  ct : Int
  ho : List (List UInt8)
def BV.zero : BV := ⟨[], List.replicate 16 0, [], [], List.replicate 32 0, 0, 0, 0, 0, 0, 0, []⟩
def BV.d (b : BV) (ra : Option Addr) (rc : Nat) (ha : Option Addr) (hc : Nat) : BodyD := ⟨b.tx, b.mb, ra, b.ro, rc, b.lb, b.cm, b.ep, b.pu, b.re, b.ne, b.ve, b.ct, ha, b.ho, hc⟩
def BodyD.bv (x : BodyD) : BV := ⟨x.tx, x.mb, x.ro, x.lb, x.cm, x.ep, x.pu, x.re, x.ne, x.ve, x.ct, x.ho⟩
structure BVok (b : BV) : Prop where
  mb : b.mb.length = 16
  cm : b.cm.length = 32
  h16 : SN 16 b.ho
  rn : b.ro.length ≤ 255
  hn : b.ho.length ≤ 255
  rl : ∀ s ∈ b.ro, s.length ≤ 255
  tl : b.tx.length ≤ 140737488355328
  ll : b.lb.length ≤ 255
theorem BVok.zero : BVok .zero := ⟨rfl, rfl, SN.nil, by decide, by decide, (fun s hs => nomatch hs), by decide, by decide⟩
theorem BVok.body {b : BV} (h : BVok b) {ra ha : Option Addr} {rc hc : Nat} (h1 : b.ro.length ≤ rc) (h2 : b.ho.length ≤ hc) : BodyOk (b.d ra rc ha hc) := by
  have h3 := h.rn; have h4 := h.hn; have h5 := h.tl; have h6 := h.ll
  refine ⟨h.mb, h.cm, h.h16, h1, ?_, fun s hs => ?_, h2, ?_, ?_, ?_⟩
  · show b.ro.length ≤ _; omega
  · have := h.rl s hs; omega
  · show b.ho.length ≤ _; omega
  · show b.tx.length ≤ _; omega
  · show b.lb.length ≤ _; omega
noncomputable def BV.e (act : Int) (b : BV) : Int := bodyE act (b.d none 0 none 0)
theorem bodyE_d (act : Int) (b : BV) (ra ha : Option Addr) (rc hc : Nat) : bodyE act (b.d ra rc ha hc) = b.e act := rfl
/-! ### Readers -/
abbrev Rd := List UInt8 × Bool
def tkV (l : List UInt8) (m : Nat) : List UInt8 := if m ≤ l.length then l.take m else List.replicate m 0
def tkR (keep : Bool) (l : List UInt8) (m : Nat) : List UInt8 := if m ≤ l.length then l.drop m else if keep then l else []
def tkS (l : List UInt8) (m : Nat) (sh : Bool) : Bool := sh || decide (l.length < m)
def tk (keep : Bool) (s : Rd) (m : Nat) : List UInt8 × Rd := (tkV s.1 m, tkR keep s.1 m, tkS s.1 m s.2)
theorem tkV_len (l : List UInt8) (m : Nat) : (tkV l m).length = m := by
  unfold tkV; split
  · rw [List.length_take]; omega
  · simp
theorem tkR_le (keep : Bool) (l : List UInt8) (m : Nat) : (tkR keep l m).length ≤ l.length := by
  unfold tkR; split
  · rw [List.length_drop]; omega
  · split <;> simp
theorem tk_len (keep : Bool) (s : Rd) (m : Nat) : (tk keep s m).1.length = m := tkV_len _ _
theorem tk_le (keep : Bool) (s : Rd) (m : Nat) : (tk keep s m).2.1.length ≤ s.1.length := tkR_le _ _ _
def one1 (keep : Bool) (s : Rd) : Nat × Rd := ((gt (tk keep s 1).1 0).toNat, (tk keep s 1).2)
theorem one1_le (keep : Bool) (s : Rd) : (one1 keep s).1 ≤ 255 := by have := (gt (tk keep s 1).1 0).toNat_lt; show (gt (tk keep s 1).1 0).toNat ≤ 255; omega
theorem one1_rest (keep : Bool) (s : Rd) : (one1 keep s).2.1.length ≤ s.1.length := tk_le keep s 1
def octB (keep : Bool) (is : Bool) (s : Rd) : Nat × Rd := if is then one1 keep s else (0, s)
theorem octB_le (keep is : Bool) (s : Rd) : (octB keep is s).1 ≤ 255 := by
  cases is
  · exact Nat.zero_le _
  · exact one1_le keep s
theorem octB_rest (keep is : Bool) (s : Rd) : (octB keep is s).2.1.length ≤ s.1.length := by
  cases is
  · exact Nat.le_refl _
  · exact one1_rest keep s
def text1 (keep : Bool) (s : Rd) : List UInt8 × Rd := tk keep (one1 keep s).2 (one1 keep s).1
theorem text1_len (keep : Bool) (s : Rd) : (text1 keep s).1.length ≤ 255 := by rw [text1, tk_len]; exact one1_le keep s
theorem text1_rest (keep : Bool) (s : Rd) : (text1 keep s).2.1.length ≤ s.1.length := Nat.le_trans (tk_le _ _ _) (one1_rest keep s)
def texts (keep : Bool) : Nat → Rd → List (List UInt8) × Rd
  | 0, s => ([], s)
  | n + 1, s => ((texts keep n s).1 ++ [(text1 keep (texts keep n s).2).1], (text1 keep (texts keep n s).2).2)
theorem texts_num (keep : Bool) (s : Rd) : ∀ n, (texts keep n s).1.length = n
  | 0 => rfl
  | n + 1 => by rw [texts, List.length_append, texts_num keep s n]; rfl
theorem texts_len (keep : Bool) (s : Rd) : ∀ n, ∀ t ∈ (texts keep n s).1, t.length ≤ 255
  | 0 => fun t ht => nomatch ht
  | n + 1 => by
    intro t ht
    rw [texts] at ht
    rcases List.mem_append.1 ht with h | h
    · exact texts_len keep s n t h
    · rw [List.mem_singleton.1 h]; exact text1_len _ _
theorem texts_rest (keep : Bool) (s : Rd) : ∀ n, (texts keep n s).2.1.length ≤ s.1.length
  | 0 => Nat.le_refl _
  | n + 1 => Nat.le_trans (text1_rest _ _) (texts_rest keep s n)
def ids (keep : Bool) : Nat → Rd → List (List UInt8) × Rd
  | 0, s => ([], s)
  | n + 1, s => ((ids keep n s).1 ++ [(tk keep (ids keep n s).2 16).1], (tk keep (ids keep n s).2 16).2)
theorem ids_num (keep : Bool) (s : Rd) : ∀ n, (ids keep n s).1.length = n
  | 0 => rfl
  | n + 1 => by rw [ids, List.length_append, ids_num keep s n]; rfl
theorem ids_16 (keep : Bool) (s : Rd) : ∀ n, SN 16 (ids keep n s).1
  | 0 => SN.nil
  | n + 1 => by
    intro t ht
    rw [ids] at ht
    rcases List.mem_append.1 ht with h | h
    · exact ids_16 keep s n t h
    · rw [List.mem_singleton.1 h]; exact tk_len _ _ _
theorem ids_rest (keep : Bool) (s : Rd) : ∀ n, (ids keep n s).2.1.length ≤ s.1.length
  | 0 => Nat.le_refl _
  | n + 1 => Nat.le_trans (tk_le _ _ _) (ids_rest keep s n)
def ctV (keep : Bool) (l : List UInt8) : Int := if keep then (if 4611686018427387904 < (long8 l).toNat then 65537 else (long8 l).toNat) else sgN (natN l)
/-- One field, read. -/
def stepP (keep : Bool) (i : Nat) (q : BV × Rd) : BV × Rd :=
  match i with
  | 0 => ({ q.1 with tx := (tk keep q.2 q.2.1.length).1 }, (tk keep q.2 q.2.1.length).2)
  | 1 => ({ q.1 with mb := (tk keep q.2 16).1 }, (tk keep q.2 16).2)
  | 2 => ({ q.1 with ro := (texts keep (one1 keep q.2).1 (one1 keep q.2).2).1 }, (texts keep (one1 keep q.2).1 (one1 keep q.2).2).2)
  | 3 => ({ q.1 with lb := (text1 keep q.2).1 }, (text1 keep q.2).2)
  | 4 => ({ q.1 with cm := (tk keep q.2 32).1 }, (tk keep q.2 32).2)
  | 5 => ({ q.1 with ep := (word4 (tk keep q.2 4).1).toNat }, (tk keep q.2 4).2)
  | 6 => ({ q.1 with pu := (one1 keep q.2).1 }, (one1 keep q.2).2)
  | 7 => ({ q.1 with re := (one1 keep q.2).1 }, (one1 keep q.2).2)
  | 8 => ({ q.1 with ne := (one1 keep q.2).1 }, (one1 keep q.2).2)
  | 9 => ({ q.1 with ho := (ids keep (one1 keep q.2).1 (one1 keep q.2).2).1 }, (ids keep (one1 keep q.2).1 (one1 keep q.2).2).2)
  | 10 => ({ q.1 with ve := (one1 keep q.2).1 }, (one1 keep q.2).2)
  | _ => ({ q.1 with ct := ctV keep (tk keep q.2 8).1 }, (tk keep q.2 8).2)
theorem stepP_ok {keep : Bool} {i : Nat} {q : BV × Rd} (h : BVok q.1) (hl : q.2.1.length ≤ 140737488355328) : BVok (stepP keep i q).1 ∧ (stepP keep i q).2.1.length ≤ 140737488355328 := by
  have hone := one1_rest keep q.2
  have htx := text1_rest keep q.2
  have tks := fun m => tk_le keep q.2 m
  unfold stepP
  split
  · exact ⟨{ h with tl := by show (tk keep q.2 q.2.1.length).1.length ≤ _; rw [tk_len]; exact hl }, Nat.le_trans (tks _) hl⟩
  · exact ⟨{ h with mb := tk_len keep q.2 16 }, Nat.le_trans (tks _) hl⟩
  · exact ⟨{ h with rn := by show (texts _ _ _).1.length ≤ _; rw [texts_num]; exact one1_le _ _, rl := texts_len keep (one1 keep q.2).2 (one1 keep q.2).1 }, Nat.le_trans (texts_rest _ _ _) (Nat.le_trans hone hl)⟩
  · exact ⟨{ h with ll := text1_len keep q.2 }, Nat.le_trans htx hl⟩
  · exact ⟨{ h with cm := tk_len keep q.2 32 }, Nat.le_trans (tks _) hl⟩
  · exact ⟨{ h with }, Nat.le_trans (tks _) hl⟩
  · exact ⟨{ h with }, Nat.le_trans hone hl⟩
  · exact ⟨{ h with }, Nat.le_trans hone hl⟩
  · exact ⟨{ h with }, Nat.le_trans hone hl⟩
  · exact ⟨{ h with hn := by show (ids _ _ _).1.length ≤ _; rw [ids_num]; exact one1_le _ _, h16 := ids_16 keep (one1 keep q.2).2 (one1 keep q.2).1 }, Nat.le_trans (ids_rest _ _ _) (Nat.le_trans hone hl)⟩
  · exact ⟨{ h with }, Nat.le_trans hone hl⟩
  · exact ⟨{ h with }, Nat.le_trans (tks _) hl⟩
def runP (keep : Bool) (l : List Nat) (q : BV × Rd) : BV × Rd := l.foldl (fun q i => stepP keep i q) q
/-! ### The two readers side by side -/
def Sam {α : Type} (p q : α × Rd) : Prop := (p.2.2 = true ∧ q.2.2 = true) ∨ (p = q ∧ p.2.2 = false)
theorem tk_short {keep : Bool} {s : Rd} {m : Nat} (h : s.2 = true) : (tk keep s m).2.2 = true := by show tkS s.1 m s.2 = true; rw [tkS, h]; rfl
theorem tk_sam (s : Rd) (h : s.2 = false) (m : Nat) : Sam (tk true s m) (tk false s m) := by
  by_cases hm : m ≤ s.1.length
  · refine .inr ⟨?_, ?_⟩
    · simp only [tk, tkR, if_pos hm]
    · show tkS s.1 m s.2 = false; rw [tkS, h]; simp; omega
  · refine .inl ⟨?_, ?_⟩ <;> (show tkS s.1 m s.2 = true; rw [tkS, h]; simp; omega)
theorem one_short {keep : Bool} {s : Rd} (h : s.2 = true) : (one1 keep s).2.2 = true := tk_short h
theorem one_sam (s : Rd) (h : s.2 = false) : Sam (one1 true s) (one1 false s) := by
  rcases tk_sam s h 1 with ⟨h1, h2⟩ | ⟨h1, h2⟩
  · exact .inl ⟨h1, h2⟩
  · exact .inr ⟨by rw [one1, one1, h1], h2⟩
theorem text_short {keep : Bool} {s : Rd} (h : s.2 = true) : (text1 keep s).2.2 = true := tk_short (one_short h)
theorem text_sam (s : Rd) (h : s.2 = false) : Sam (text1 true s) (text1 false s) := by
  rcases one_sam s h with ⟨h1, h2⟩ | ⟨h1, h2⟩
  · exact .inl ⟨tk_short h1, tk_short h2⟩
  · rw [text1, text1, ← h1]; exact tk_sam _ h2 _
theorem texts_short {keep : Bool} {s : Rd} (h : s.2 = true) : ∀ n, (texts keep n s).2.2 = true
  | 0 => h
  | n + 1 => text_short (texts_short h n)
theorem texts_sam (s : Rd) (h : s.2 = false) : ∀ n, Sam (texts true n s) (texts false n s)
  | 0 => .inr ⟨rfl, h⟩
  | n + 1 => by
    rcases texts_sam s h n with ⟨h1, h2⟩ | ⟨h1, h2⟩
    · exact .inl ⟨text_short h1, text_short h2⟩
    · have h3 := text_sam (texts true n s).2 h2
      rw [texts, texts, ← h1]
      rcases h3 with ⟨h4, h5⟩ | ⟨h4, h5⟩
      · exact .inl ⟨h4, h5⟩
      · exact .inr ⟨by rw [h4], h5⟩
theorem ids_short {keep : Bool} {s : Rd} (h : s.2 = true) : ∀ n, (ids keep n s).2.2 = true
  | 0 => h
  | n + 1 => tk_short (ids_short h n)
theorem ids_sam (s : Rd) (h : s.2 = false) : ∀ n, Sam (ids true n s) (ids false n s)
  | 0 => .inr ⟨rfl, h⟩
  | n + 1 => by
    rcases ids_sam s h n with ⟨h1, h2⟩ | ⟨h1, h2⟩
    · exact .inl ⟨tk_short h1, tk_short h2⟩
    · have h3 := tk_sam (ids true n s).2 h2 16
      rw [ids, ids, ← h1]
      rcases h3 with ⟨h4, h5⟩ | ⟨h4, h5⟩
      · exact .inl ⟨h4, h5⟩
      · exact .inr ⟨by rw [h4], h5⟩
def badCt (z : Int) : Prop := z < 0 ∨ 65536 < z
/-- Equal, but for contents that are both out of range. -/
def Agr (b b' : BV) : Prop := { b with ct := 0 } = { b' with ct := 0 } ∧ (b.ct = b'.ct ∨ (badCt b.ct ∧ badCt b'.ct))
def Rel (p q : BV × Rd) : Prop := (p.2.2 = true ∧ q.2.2 = true) ∨ (p.2 = q.2 ∧ p.2.2 = false ∧ Agr p.1 q.1)
theorem ct_agr {l : List UInt8} (h : l.length = 8) : ctV true l = ctV false l ∨ (badCt (ctV true l) ∧ badCt (ctV false l)) := by
  have hn := natN_8 h
  have hlt := natN_lt8 h
  show (if 4611686018427387904 < (long8 l).toNat then (65537 : Int) else (long8 l).toNat) = sgN (natN l) ∨ (badCt (if 4611686018427387904 < (long8 l).toNat then (65537 : Int) else (long8 l).toNat) ∧ badCt (sgN (natN l)))
  rw [hn]
  rw [hn] at hlt
  by_cases hb : 4611686018427387904 < (long8 l).toNat
  · rw [if_pos hb]
    exact .inr ⟨.inr (by decide), sgN_out (by omega) hlt⟩
  · rw [if_neg hb, sgN_small (by omega)]
    exact .inl rfl
theorem Agr.set {b b' : BV} (h : Agr b b') (F : BV → BV) (hF : ∀ b, { F b with ct := 0 } = F { b with ct := 0 }) (hc : ∀ b, (F b).ct = b.ct) : Agr (F b) (F b') :=
  ⟨by rw [hF, hF, h.1], by rw [hc, hc]; exact h.2⟩
theorem step_rel {p q : BV × Rd} (h : Rel p q) (i : Nat) : Rel (stepP true i p) (stepP false i q) := by
  rcases h with ⟨h1, h2⟩ | ⟨h1, h2, h3⟩
  · refine .inl ?_
    unfold stepP
    split <;> first
      | exact ⟨tk_short h1, tk_short h2⟩
      | exact ⟨one_short h1, one_short h2⟩
      | exact ⟨text_short h1, text_short h2⟩
      | exact ⟨texts_short (one_short h1) _, texts_short (one_short h2) _⟩
      | exact ⟨ids_short (one_short h1) _, ids_short (one_short h2) _⟩
  · obtain ⟨b, s⟩ := p
    obtain ⟨b', s'⟩ := q
    simp only at h1 h2 h3
    subst h1
    unfold stepP
    split
    · rcases tk_sam s h2 s.1.length with h | ⟨h, h4⟩
      · exact .inl h
      · exact .inr ⟨(congrArg Prod.snd h :), h4, by rw [h]; exact h3.set (fun b => { b with tx := _ }) (fun _ => rfl) (fun _ => rfl)⟩
    · rcases tk_sam s h2 16 with h | ⟨h, h4⟩
      · exact .inl h
      · exact .inr ⟨(congrArg Prod.snd h :), h4, by rw [h]; exact h3.set (fun b => { b with mb := _ }) (fun _ => rfl) (fun _ => rfl)⟩
    · rcases one_sam s h2 with h | ⟨h, h4⟩
      · exact .inl ⟨texts_short h.1 _, texts_short h.2 _⟩
      · rcases texts_sam (one1 true s).2 h4 (one1 true s).1 with h5 | ⟨h5, h6⟩
        · exact .inl ⟨h5.1, by show (texts false (one1 false s).1 (one1 false s).2).2.2 = true; rw [← h]; exact h5.2⟩
        · rw [h] at h5
          refine .inr ⟨?_, h6, ?_⟩
          · show (texts true (one1 true s).1 (one1 true s).2).2 = (texts false (one1 false s).1 (one1 false s).2).2
            rw [h, h5]
          · show Agr { b with ro := (texts true (one1 true s).1 (one1 true s).2).1 } { b' with ro := (texts false (one1 false s).1 (one1 false s).2).1 }
            rw [h, h5]; exact h3.set (fun b => { b with ro := _ }) (fun _ => rfl) (fun _ => rfl)
    · rcases text_sam s h2 with h | ⟨h, h4⟩
      · exact .inl h
      · exact .inr ⟨(congrArg Prod.snd h :), h4, by rw [h]; exact h3.set (fun b => { b with lb := _ }) (fun _ => rfl) (fun _ => rfl)⟩
    · rcases tk_sam s h2 32 with h | ⟨h, h4⟩
      · exact .inl h
      · exact .inr ⟨(congrArg Prod.snd h :), h4, by rw [h]; exact h3.set (fun b => { b with cm := _ }) (fun _ => rfl) (fun _ => rfl)⟩
    · rcases tk_sam s h2 4 with h | ⟨h, h4⟩
      · exact .inl h
      · exact .inr ⟨(congrArg Prod.snd h :), h4, by rw [h]; exact h3.set (fun b => { b with ep := _ }) (fun _ => rfl) (fun _ => rfl)⟩
    · rcases one_sam s h2 with h | ⟨h, h4⟩
      · exact .inl h
      · exact .inr ⟨(congrArg Prod.snd h :), h4, by rw [h]; exact h3.set (fun b => { b with pu := _ }) (fun _ => rfl) (fun _ => rfl)⟩
    · rcases one_sam s h2 with h | ⟨h, h4⟩
      · exact .inl h
      · exact .inr ⟨(congrArg Prod.snd h :), h4, by rw [h]; exact h3.set (fun b => { b with re := _ }) (fun _ => rfl) (fun _ => rfl)⟩
    · rcases one_sam s h2 with h | ⟨h, h4⟩
      · exact .inl h
      · exact .inr ⟨(congrArg Prod.snd h :), h4, by rw [h]; exact h3.set (fun b => { b with ne := _ }) (fun _ => rfl) (fun _ => rfl)⟩
    · rcases one_sam s h2 with h | ⟨h, h4⟩
      · exact .inl ⟨ids_short h.1 _, ids_short h.2 _⟩
      · rcases ids_sam (one1 true s).2 h4 (one1 true s).1 with h5 | ⟨h5, h6⟩
        · exact .inl ⟨h5.1, by show (ids false (one1 false s).1 (one1 false s).2).2.2 = true; rw [← h]; exact h5.2⟩
        · rw [h] at h5
          refine .inr ⟨?_, h6, ?_⟩
          · show (ids true (one1 true s).1 (one1 true s).2).2 = (ids false (one1 false s).1 (one1 false s).2).2
            rw [h, h5]
          · show Agr { b with ho := (ids true (one1 true s).1 (one1 true s).2).1 } { b' with ho := (ids false (one1 false s).1 (one1 false s).2).1 }
            rw [h, h5]; exact h3.set (fun b => { b with ho := _ }) (fun _ => rfl) (fun _ => rfl)
    · rcases one_sam s h2 with h | ⟨h, h4⟩
      · exact .inl h
      · exact .inr ⟨(congrArg Prod.snd h :), h4, by rw [h]; exact h3.set (fun b => { b with ve := _ }) (fun _ => rfl) (fun _ => rfl)⟩
    · rcases tk_sam s h2 8 with h | ⟨h, h4⟩
      · exact .inl h
      · refine .inr ⟨(congrArg Prod.snd h :), h4, ?_⟩
        show Agr { b with ct := ctV true (tk true s 8).1 } { b' with ct := ctV false (tk false s 8).1 }
        rw [h]
        exact ⟨h3.1, ct_agr (tk_len false s 8)⟩
theorem run_rel : ∀ (l : List Nat) {p q : BV × Rd}, Rel p q → Rel (runP true l p) (runP false l q)
  | [], _, _, h => h
  | i :: l, _, _, h => run_rel l (step_rel h i)
end Go.Kw
end
section
namespace Go.Kw
open Go.Lib
set_option linter.unusedVariables false
set_option linter.unusedSimpArgs false
def P0 (l : List UInt8) : BV × Rd := (BV.zero, (l, false))
def runA (keep : Bool) (a : Nat) (l : List UInt8) : BV × Rd := runP keep (gt needT (a - 1)) (P0 l)
open Classical in
noncomputable def parsE (keep : Bool) (act : Int) (l : List UInt8) : Int :=
  if act < 1 ∨ 12 < act then 3 else if 32768 < l.length then 5 else if (runA keep act.toNat l).2.2 = true then 1 else if 0 < (runA keep act.toNat l).2.1.length then 2 else (runA keep act.toNat l).1.e act
open Classical in
noncomputable def parsX (keep : Bool) (act : Int) (l : List UInt8) : BV := if parsE keep act l = 0 then (runA keep act.toNat l).1 else BV.zero
theorem ex_congr {x x' : BodyD} {f : Nat → Bool} (h : ∀ i, setB x i = setB x' i) : ∀ n, ex x f n = ex x' f n
  | 0 => rfl
  | n + 1 => by rw [ex, ex, ex_congr h n, h]
theorem bodyE_congr {act : Int} {x x' : BodyD} (hs : ∀ i, setB x i = setB x' i) (h1 : x.tx = x'.tx) (h2 : x.ro = x'.ro) (h3 : x.ho = x'.ho) (h4 : x.lb = x'.lb) (h5 : ∀ f, rangeBad f x ↔ rangeBad f x') : bodyE act x = bodyE act x' := by
  unfold bodyE
  have e : rangeBad (needF act.toNat) x = rangeBad (needF act.toNat) x' := propext (h5 _)
  rw [ex_congr hs, h1, h2, h3, h4]
  congr 5
  by_cases hb : rangeBad (needF act.toNat) x
  · rw [if_pos hb, if_pos (e ▸ hb)]
  · rw [if_neg hb, if_neg (e ▸ hb)]
theorem ct_e {act : Int} {b : BV} {z : Int} (h1 : badCt b.ct) (h2 : badCt z) : b.e act = ({ b with ct := z } : BV).e act := by
  refine bodyE_congr (fun i => ?_) rfl rfl rfl rfl (fun f => ?_)
  · match i with
    | 0 => rfl
    | 1 => rfl
    | 2 => rfl
    | 3 => rfl
    | 4 => rfl
    | 5 => rfl
    | 6 => rfl
    | 7 => rfl
    | 8 => rfl
    | 9 => rfl
    | 10 => rfl
    | i + 11 =>
      show decide (¬ b.ct = 0) = decide (¬ z = 0)
      unfold badCt at h1 h2
      rw [decide_eq_true (by omega), decide_eq_true (by omega)]
  · exact ⟨fun _ => .inr (.inr (.inr (.inr (.inr h2)))), fun _ => .inr (.inr (.inr (.inr (.inr h1))))⟩
theorem agr_e {act : Int} {b b' : BV} (h : Agr b b') : b.e act = b'.e act := by
  obtain ⟨h1, h2⟩ := h
  have e : b' = { b with ct := b'.ct } := by
    cases b; cases b'
    simp only [BV.mk.injEq] at h1 ⊢
    obtain ⟨rfl, rfl, rfl, rfl, rfl, rfl, rfl, rfl, rfl, rfl, _, rfl⟩ := h1
    simp
  rcases h2 with h2 | ⟨h2, h3⟩
  · rw [e, ← h2]
  · rw [e]; exact ct_e h2 h3
theorem agr_eq {act : Int} {b b' : BV} (h : Agr b b') (he : b.e act = 0) : b = b' := by
  obtain ⟨a, _, hg⟩ := body_good he
  have hc : 0 ≤ b.ct ∧ b.ct ≤ 65536 := hg.ct
  obtain ⟨h1, h2⟩ := h
  rcases h2 with h2 | ⟨h2, _⟩
  · cases b; cases b'
    simp only [BV.mk.injEq] at h1 h2 ⊢
    obtain ⟨rfl, rfl, rfl, rfl, rfl, rfl, rfl, rfl, rfl, rfl, _, rfl⟩ := h1
    simp [h2]
  · unfold badCt at h2; omega
theorem run_same (a : Nat) (l : List UInt8) : Rel (runA true a l) (runA false a l) := run_rel _ (.inr ⟨rfl, rfl, rfl, .inl rfl⟩)
theorem pars_same (act : Int) (l : List UInt8) : parsE true act l = parsE false act l ∧ parsX true act l = parsX false act l := by
  by_cases h1 : act < 1 ∨ 12 < act
  · simp [parsE, parsX, h1]
  by_cases h2 : 32768 < l.length
  · simp [parsE, parsX, h1, h2]
  rcases run_same act.toNat l with ⟨h3, h4⟩ | ⟨h3, h4, h5⟩
  · simp [parsE, parsX, h1, h2, h3, h4]
  · have h6 : (runA false act.toNat l).2.2 = false := by rw [← h3]; exact h4
    have h7 : (runA false act.toNat l).2.1 = (runA true act.toNat l).2.1 := by rw [h3]
    have e1 : ∀ k, (runA k act.toNat l).2.2 = false → parsE k act l = if 0 < (runA k act.toNat l).2.1.length then 2 else (runA k act.toNat l).1.e act := by
      intro k hk
      rw [parsE, if_neg h1, if_neg h2, if_neg (by rw [hk]; decide)]
    have e2 : parsE true act l = parsE false act l := by rw [e1 _ h4, e1 _ h6, h7, agr_e h5]
    refine ⟨e2, ?_⟩
    rw [parsX, parsX, ← e2]
    by_cases h8 : parsE true act l = 0
    · rw [if_pos h8, if_pos h8]
      refine agr_eq (act := act) h5 ?_
      rw [e1 _ h4] at h8
      by_cases h9 : 0 < (runA true act.toNat l).2.1.length
      · rw [if_pos h9] at h8; exact absurd h8 (by decide)
      · rwa [if_neg h9] at h8
    · rw [if_neg h8, if_neg h8]
/-! ### Read back -/
end Go.Kw
end
section
namespace Go.Kw
open Go.Lib
set_option linter.unusedVariables false
set_option linter.unusedSimpArgs false
section
variable {P : Program} {ρ : Operand → Value} {w : World} {dst : Option Tmp} {ty : TypeId} {pos : String} {aft : Array Edge} {g : Option (Nat × Bool)} {x y z : Operand} {T E : TypeId} {dE : TypeDesc} {sz bts : Nat} {zv : Value} {a : Option Addr}
theorem r_sl_hm {len cap h m : Nat} {u : Operand} (hT : P.underlying T = some (.slice E)) (hE : TI P E dE sz bts zv) (hx : ρ x = .slice a len cap) {k2 k3 : IntKind} (hz : ρ z = .int k2 (h : Int)) (hu : ρ u = .int k3 (m : Int)) (hhm : h ≤ m) (hc : m ≤ cap) :
    (execOp ρ ⟨dst, .slice T x none (some z) (some u), ty, pos, aft, g⟩).run P w = .ok (.value (.slice a h m)) w := by
  have e := sub_zero (a := a) (cap := m) (sz := sz)
  simp only [sub] at e
  simp [execOp, hx, hz, hu, Instr.sliceAt, Instr.slice, Instr.sliceBounds, run_underlying hT, run_sizeOf hE, bound_ok hc, bound_ok hhm]
  simpa using e
end
theorem tkV_t {l : List UInt8} {m : Nat} (h : m ≤ l.length) : tkV l m = l.take m := if_pos h
theorem tkV_f {l : List UInt8} {m : Nat} (h : l.length < m) : tkV l m = List.replicate m 0 := if_neg (by omega)
theorem tkR_t {k : Bool} {l : List UInt8} {m : Nat} (h : m ≤ l.length) : tkR k l m = l.drop m := if_pos h
theorem tkR_f {l : List UInt8} {m : Nat} (h : l.length < m) : tkR true l m = l := by rw [tkR, if_neg (by omega)]; rfl
theorem tkR_g {l : List UInt8} {m : Nat} (h : l.length < m) : tkR false l m = [] := by rw [tkR, if_neg (by omega)]; rfl
theorem tkS_t {l : List UInt8} {m : Nat} {sh : Bool} (h : m ≤ l.length) : tkS l m sh = sh := by rw [tkS, decide_eq_false (by omega), Bool.or_false]
theorem tkS_f {l : List UInt8} {m : Nat} {sh : Bool} (h : l.length < m) : tkS l m sh = true := by rw [tkS, decide_eq_true h, Bool.or_true]
theorem Row.rest {w : World} {a : Option Addr} {l : List UInt8} {c m : Nat} (h : Row w a (l.map b8)) (hc : l.length ≤ c) : Row w (Kw.sub a c m 1) ((l.drop m).map b8) := by
  have := h.sub (cap := c) (l := m) (sz := 1) (by rw [List.length_map]; omega)
  rwa [Nat.mul_one, ← List.map_drop] at this
theorem Row.head {w : World} {a : Option Addr} {l : List UInt8} {m : Nat} (h : Row w a (l.map b8)) : Row w a ((l.take m).map b8) := by
  have := h.take (n := m)
  rwa [← List.map_take] at this
theorem long_ct {l : List UInt8} (h : l.length = 8) : (¬ longE l 0 = 0 → ctV true l = 65537) ∧ (longE l 0 = 0 → ctV true l = (longV l 0 : Nat)) := by
  have hr : roomI l.length 0 8 = 0 := by rw [h]; decide
  have ht : takeL l 0 8 = l := by simp [takeL, hr]; rw [List.take_of_length_le (by omega)]
  unfold longV longE
  rw [if_pos hr, ht]
  show (_ → (if 4611686018427387904 < (long8 l).toNat then (65537 : Int) else (long8 l).toNat) = 65537) ∧ (_ → (if 4611686018427387904 < (long8 l).toNat then (65537 : Int) else (long8 l).toNat) = _)
  by_cases hb : 4611686018427387904 < (long8 l).toNat
  · rw [if_pos hb, if_pos hb]
    exact ⟨fun _ => rfl, fun h => absurd h (by decide)⟩
  · rw [if_neg hb, if_neg hb]
    exact ⟨fun h => absurd rfl h, fun _ => rfl⟩
end Go.Kw
end
section
namespace Go.Kw
open Go.Lib
set_option linter.unusedVariables false
set_option linter.unusedSimpArgs false
section
variable (f : Nat → Bool) (s : Rd)
def g0 : List UInt8 × Rd := if f 0 = true then tk true s s.1.length else ([], s)
def g1 : List UInt8 × Rd := if f 1 = true then tk true (g0 f s).2 16 else (List.replicate 16 0, (g0 f s).2)
def g2n : Nat × Rd := octB true (f 2) (g1 f s).2
def g2 : List (List UInt8) × Rd := texts true (g2n f s).1 (g2n f s).2
def g3 : List UInt8 × Rd := if f 3 = true then text1 true (g2 f s).2 else ([], (g2 f s).2)
def g6 : Nat × Rd := octB true (f 6) (g3 f s).2
def g7 : Nat × Rd := octB true (f 7) (g6 f s).2
def g8 : Nat × Rd := octB true (f 8) (g7 f s).2
def g10 : Nat × Rd := octB true (f 10) (g8 f s).2
def g9n : Nat × Rd := octB true (f 9) (g10 f s).2
def g9 : List (List UInt8) × Rd := ids true (g9n f s).1 (g9n f s).2
def g5 : Nat × Rd := if f 5 = true then ((word4 (tk true (g9 f s).2 4).1).toNat, (tk true (g9 f s).2 4).2) else (0, (g9 f s).2)
def g11 : Int × Rd := if f 11 = true then (ctV true (tk true (g5 f s).2 8).1, (tk true (g5 f s).2 8).2) else (0, (g5 f s).2)
def g4 : List UInt8 × Rd := if f 4 = true then tk true (g11 f s).2 32 else (List.replicate 32 0, (g11 f s).2)
def gB : BV := ⟨(g0 f s).1, (g1 f s).1, (g2 f s).1, (g3 f s).1, (g4 f s).1, (g5 f s).1, (g6 f s).1, (g7 f s).1, (g8 f s).1, (g10 f s).1, (g11 f s).1, (g9 f s).1⟩
theorem g1_len : (g1 f s).1.length = 16 := by
  unfold g1; split
  · exact tk_len _ _ _
  · rfl
theorem g4_len : (g4 f s).1.length = 32 := by
  unfold g4; split
  · exact tk_len _ _ _
  · rfl
end
/-- Stage for stage the program reads what its act needs. -/
theorem g_run {a : Nat} (h1 : 1 ≤ a) (h2 : a < 13) (l : List UInt8) : (gB (needF a) (l, false), (g4 (needF a) (l, false)).2) = runA true a l := by
  have hc : a = 1 ∨ a = 2 ∨ a = 3 ∨ a = 4 ∨ a = 5 ∨ a = 6 ∨ a = 7 ∨ a = 8 ∨ a = 9 ∨ a = 10 ∨ a = 11 ∨ a = 12 := by omega
  rcases hc with rfl | rfl | rfl | rfl | rfl | rfl | rfl | rfl | rfl | rfl | rfl | rfl <;> rfl
/-! ### A body's cells, one field put anew -/
theorem app_set {α : Type} {l m : List α} {n : Nat} (h : l.length = n) (i : Nat) (v : α) : (l ++ m).set (n + i) v = l ++ m.set i v := by
  rw [List.set_append_right _ _ (by omega), h, Nat.add_sub_cancel_left]
section
variable {x : BodyD}
theorem v_up (h : x.mb.length = 16) (i : Nat) (v : Value) : x.v.set (17 + i) v = [sv x.tx] ++ (x.mb.map b8 ++ (x.mid ++ (x.cm.map b8 ++ x.tl)).set i v) := by
  rw [show 17 + i = 1 + (16 + i) by omega, BodyD.v, app_set (n := 1) (l := [sv x.tx]) rfl, app_set (n := 16) (by rw [List.length_map, h])]
theorem v_set0 (t : List UInt8) : x.v.set 0 (sv t) = ({ x with tx := t } : BodyD).v := rfl
theorem v_set17 (h : x.mb.length = 16) {a : Option Addr} {n c : Nat} (l : List (List UInt8)) (hn : l.length = n) : x.v.set 17 (.slice a n c) = ({ x with ra := a, ro := l, rc := c } : BodyD).v := by subst hn; exact v_up h 0 _
theorem v_set18 (h : x.mb.length = 16) (t : List UInt8) : x.v.set 18 (sv t) = ({ x with lb := t } : BodyD).v := v_up h 1 _
theorem v_tl (h : x.mb.length = 16) (h' : x.cm.length = 32) (i : Nat) (v : Value) : x.v.set (51 + i) v = [sv x.tx] ++ (x.mb.map b8 ++ (x.mid ++ (x.cm.map b8 ++ x.tl.set i v))) := by
  rw [show 51 + i = 17 + (2 + (32 + i)) by omega, v_up h, app_set (n := 2) (l := x.mid) rfl, app_set (n := 32) (by rw [List.length_map, h'])]
theorem v_set51 (h : x.mb.length = 16) (h' : x.cm.length = 32) (z : Int) : x.v.set 51 (iv z) = ({ x with ep := z } : BodyD).v := v_tl h h' 0 _
theorem v_set52 (h : x.mb.length = 16) (h' : x.cm.length = 32) (z : Int) : x.v.set 52 (iv z) = ({ x with pu := z } : BodyD).v := v_tl h h' 1 _
theorem v_set53 (h : x.mb.length = 16) (h' : x.cm.length = 32) (z : Int) : x.v.set 53 (iv z) = ({ x with re := z } : BodyD).v := v_tl h h' 2 _
theorem v_set54 (h : x.mb.length = 16) (h' : x.cm.length = 32) (z : Int) : x.v.set 54 (iv z) = ({ x with ne := z } : BodyD).v := v_tl h h' 3 _
theorem v_set55 (h : x.mb.length = 16) (h' : x.cm.length = 32) (z : Int) : x.v.set 55 (iv z) = ({ x with ve := z } : BodyD).v := v_tl h h' 4 _
theorem v_set56 (h : x.mb.length = 16) (h' : x.cm.length = 32) (z : Int) : x.v.set 56 (iv z) = ({ x with ct := z } : BodyD).v := v_tl h h' 5 _
theorem v_set57 (h : x.mb.length = 16) (h' : x.cm.length = 32) {a : Option Addr} {n c : Nat} (l : List (List UInt8)) (hn : l.length = n) : x.v.set 57 (.slice a n c) = ({ x with ha := a, ho := l, hc := c } : BodyD).v := by subst hn; exact v_tl h h' 6 _
theorem v_put1 (h : x.mb.length = 16) (m : List UInt8) : x.v.take 1 ++ m.map b8 ++ x.v.drop 17 = ({ x with mb := m } : BodyD).v := by
  have h1 : x.v.drop (1 + (16 + 0)) = x.mid ++ (x.cm.map b8 ++ x.tl) := by
    rw [BodyD.v, app_dr (n := 1) (l := [sv x.tx]) rfl, app_dr (n := 16) (by rw [List.length_map, h]), List.drop_zero]
  rw [show (17 : Nat) = 1 + (16 + 0) from rfl, h1]
  show ([sv x.tx] ++ m.map b8) ++ _ = _
  rw [List.append_assoc]; rfl
theorem v_len (h : x.mb.length = 16) (h' : x.cm.length = 32) : x.v.length = 58 := by simp [BodyD.v, BodyD.mid, BodyD.tl, h, h']
theorem v_get17 (h : x.mb.length = 16) : x.v[17]? = some (.slice x.ra x.ro.length x.rc) := by
  rw [show 17 = 1 + (16 + 0) by omega, BodyD.v, app_at (n := 1) (l := [sv x.tx]) rfl, app_at (n := 16) (by rw [List.length_map, h])]; rfl
theorem v_get57 (h : x.mb.length = 16) (h' : x.cm.length = 32) : x.v[57]? = some (.slice x.ha x.ho.length x.hc) := by
  rw [show 57 = 1 + (16 + (2 + (32 + 6))) by omega, BodyD.v, app_at (n := 1) (l := [sv x.tx]) rfl, app_at (n := 16) (by rw [List.length_map, h]), app_at (n := 2) (l := x.mid) rfl, app_at (n := 32) (by rw [List.length_map, h'])]; rfl
theorem v_splice1 (h : x.mb.length = 16) {m : List UInt8} (hm : m.length = 16) : splice x.v 1 (m.map b8) = ({ x with mb := m } : BodyD).v := by
  rw [splice, List.length_map, hm]; exact v_put1 h m
theorem v_put19 (h : x.mb.length = 16) (h' : x.cm.length = 32) (m : List UInt8) : x.v.take 19 ++ m.map b8 ++ x.v.drop 51 = ({ x with cm := m } : BodyD).v := by
  have h1 : x.v.drop (1 + (16 + (2 + (32 + 0)))) = x.tl := by
    rw [BodyD.v, app_dr (n := 1) (l := [sv x.tx]) rfl, app_dr (n := 16) (by rw [List.length_map, h]), app_dr (n := 2) (l := x.mid) rfl, app_dr (n := 32) (by rw [List.length_map, h']), List.drop_zero]
  have h2 : x.v.take 19 = [sv x.tx] ++ (x.mb.map b8 ++ x.mid) := by
    rw [BodyD.v, ← List.append_assoc (x.mb.map b8), ← List.append_assoc [sv x.tx]]
    exact List.take_left' (by simp [BodyD.mid, h])
  rw [show (51 : Nat) = 1 + (16 + (2 + (32 + 0))) from rfl, h1, h2]
  simp [BodyD.v, BodyD.mid, BodyD.tl]
theorem v_splice19 (h : x.mb.length = 16) (h' : x.cm.length = 32) {m : List UInt8} (hm : m.length = 32) : splice x.v 19 (m.map b8) = ({ x with cm := m } : BodyD).v := by
  rw [splice, List.length_map, hm, ← List.append_assoc]; exact v_put19 h h' m
end
theorem St.reBlk {w0 w : World} {M : List Nat} {L : List Item} {b : Nat} {E : TypeId} {C C' : List Value} (h : St w0 M w (.blk b (cl C E) :: L)) (e : C = C') : St w0 M w (.blk b (cl C' E) :: L) := e ▸ h
theorem St.reRow1 {w0 w : World} {M : List Nat} {L : List Item} {a : Option Addr} {n k c sz : Nat} {E : TypeId} {ys zs : List Value} (h : St w0 M w (.row (.slice a n c) E sz n ys :: L)) (hn : k = n) (hy : ys = zs) : St w0 M w (.row (.slice a k c) E sz k zs :: L) := by
  subst hn; subst hy; exact h
end Go.Kw
end
section
namespace Go.Kw
open Go.Lib
set_option linter.unusedVariables false
set_option linter.unusedSimpArgs false
theorem runP_ok {keep : Bool} : ∀ (l : List Nat) {q : BV × Rd}, BVok q.1 → q.2.1.length ≤ 140737488355328 → BVok (runP keep l q).1
  | [], _, h, _ => h
  | i :: l, q, h, h' => by
    have h2 := stepP_ok (keep := keep) (i := i) h h'
    exact runP_ok l (q := stepP keep i q) h2.1 h2.2
theorem runA_ok (keep : Bool) (a : Nat) {l : List UInt8} (h : l.length ≤ 140737488355328) : BVok (runA keep a l).1 := runP_ok _ BVok.zero h
section
variable {k : Bool} {l : List UInt8} {q : BV × Rd} {a : Nat}
theorem parsE_1 {act : Int} (h : act < 1 ∨ 12 < act) : parsE k act l = 3 := by rw [parsE, if_pos h]
theorem parsE_2 {act : Int} (h1 : ¬ (act < 1 ∨ 12 < act)) (h : 32768 < l.length) : parsE k act l = 5 := by rw [parsE, if_neg h1, if_pos h]
theorem parsE_3 (h1 : ¬ ((a : Int) < 1 ∨ 12 < (a : Int))) (h2 : ¬ 32768 < l.length) (hq : q = runA k a l) (h : q.2.2 = true) : parsE k (a : Int) l = 1 := by
  subst hq; rw [parsE, if_neg h1, if_neg h2, Int.toNat_natCast, if_pos h]
theorem parsE_4 (h1 : ¬ ((a : Int) < 1 ∨ 12 < (a : Int))) (h2 : ¬ 32768 < l.length) (hq : q = runA k a l) (h3 : q.2.2 = false) (h : 0 < q.2.1.length) : parsE k (a : Int) l = 2 := by
  subst hq; rw [parsE, if_neg h1, if_neg h2, Int.toNat_natCast, if_neg (by rw [h3]; decide), if_pos h]
theorem parsE_5 (h1 : ¬ ((a : Int) < 1 ∨ 12 < (a : Int))) (h2 : ¬ 32768 < l.length) (hq : q = runA k a l) (h3 : q.2.2 = false) (h : ¬ 0 < q.2.1.length) : parsE k (a : Int) l = q.1.e a := by
  subst hq; rw [parsE, if_neg h1, if_neg h2, Int.toNat_natCast, if_neg (by rw [h3]; decide), if_neg h]
theorem parsX_n {act : Int} (h : ¬ parsE k act l = 0) : parsX k act l = BV.zero := by rw [parsX, if_neg h]
theorem parsX_0 (hq : q = runA k a l) (h : parsE k (a : Int) l = 0) : parsX k (a : Int) l = q.1 := by subst hq; rw [parsX, if_pos h, Int.toNat_natCast]
end
/-- The answer of a parser: a body, its lists, and what is wrong. -/
def PAns (T1 T2 : TypeId) (k : Bool) (act : Int) (l : List UInt8) (w w' : World) (v : Value) : Prop :=
  ∃ x : BodyD, v = .tuple #[.agg x.v.toArray, .int .i64 (parsE k act l)] ∧ x.bv = parsX k act l ∧ BodyOk x ∧ St w [] w' [.row (.slice x.ra x.ro.length x.rc) T1 1 x.ro.length (x.ro.map sv), .row (.slice x.ha x.ho.length x.hc) T2 16 x.ho.length (x.ho.flatten.map b8)]
theorem PAns.bad {T1 T2 : TypeId} {k : Bool} {act : Int} {l : List UInt8} {w w' : World} {e : Int} (he : parsE k act l = e) (h0 : ¬ e = 0) (hS : St w [] w' []) : PAns T1 T2 k act l w w' (.tuple #[.agg (BodyD.v (BV.d BV.zero none 0 none 0)).toArray, .int .i64 e]) := by
  subst he
  exact ⟨BV.d BV.zero none 0 none 0, rfl, (parsX_n h0).symm, BVok.zero.body (Nat.le_refl _) (Nat.le_refl _), St.nilRow (E := T1) (sz := 1) (St.nilRow (E := T2) (sz := 16) hS)⟩
theorem PAns.good {T1 T2 : TypeId} {k : Bool} {a : Nat} {l : List UInt8} {w w' : World} {q : BV × Rd} {ra ha : Option Addr} {rc hd : Nat} (hq : q = runA k a l) (he : parsE k (a : Int) l = 0) (hok : BVok q.1) (h1 : q.1.ro.length ≤ rc) (h2 : q.1.ho.length ≤ hd)
    (hS : St w [] w' [.row (.slice ra q.1.ro.length rc) T1 1 q.1.ro.length (q.1.ro.map sv), .row (.slice ha q.1.ho.length hd) T2 16 q.1.ho.length (q.1.ho.flatten.map b8)]) :
    PAns T1 T2 k (a : Int) l w w' (.tuple #[.agg (BodyD.v (BV.d q.1 ra rc ha hd)).toArray, vi 0]) :=
  ⟨BV.d q.1 ra rc ha hd, by rw [he]; rfl, (parsX_0 hq he).symm, hok.body h1 h2, hS⟩
end Go.Kw
end
section
namespace Go.Kw
open Go.Lib
set_option linter.unusedVariables false
set_option linter.unusedSimpArgs false
/-- What the reference has read when k letters are done. -/
def rq (a : Nat) (l : List UInt8) (k : Nat) : BV × Rd := runP false ((gt needT (a - 1)).take k) (P0 l)
theorem rq_0 (a : Nat) (l : List UInt8) : rq a l 0 = P0 l := by simp [rq, runP]
theorem rq_s {a k i : Nat} (l : List UInt8) (hk : k < (gt needT (a - 1)).length) (hi : gt (gt needT (a - 1)) k = i) : rq a l (k + 1) = stepP false i (rq a l k) := by
  rw [rq, rq, List.take_succ_eq_append_getElem hk, ← gt_eq _ _ hk, hi, runP, runP, List.foldl_append]; rfl
theorem rq_all {a k : Nat} (l : List UInt8) (hk : (gt needT (a - 1)).length ≤ k) : rq a l k = runA false a l := by rw [rq, runA, List.take_of_length_le hk]
theorem stepP_rest (keep : Bool) (i : Nat) (q : BV × Rd) : (stepP keep i q).2.1.length ≤ q.2.1.length := by
  have hone := one1_rest keep q.2
  have tks := fun m => tk_le keep q.2 m
  unfold stepP
  split
  · exact tks _
  · exact tks _
  · exact Nat.le_trans (texts_rest _ _ _) hone
  · exact text1_rest _ _
  · exact tks _
  · exact tks _
  · exact hone
  · exact hone
  · exact hone
  · exact Nat.le_trans (ids_rest _ _ _) hone
  · exact hone
  · exact tks _
theorem runP_rest (keep : Bool) : ∀ (l : List Nat) (q : BV × Rd), (runP keep l q).2.1.length ≤ q.2.1.length
  | [], _ => Nat.le_refl _
  | i :: l, q => Nat.le_trans (runP_rest keep l (stepP keep i q)) (stepP_rest keep i q)
theorem rq_rest (a : Nat) (l : List UInt8) (k : Nat) : (rq a l k).2.1.length ≤ l.length := runP_rest false _ (P0 l)
theorem rq_ok (a : Nat) {l : List UInt8} (h : l.length ≤ 140737488355328) (k : Nat) : BVok (rq a l k).1 := runP_ok _ BVok.zero h
/-- The lists are read once. -/
theorem rq_ro {a k : Nat} (l : List UInt8) (h1 : 1 ≤ a) (h2 : a < 13) (hk : k < (gt needT (a - 1)).length) (hi : gt (gt needT (a - 1)) k = 2) : (rq a l k).1.ro = [] := by
  have := (show ∀ a, a < 13 → 1 ≤ a → ∀ k, k < (gt needT (a - 1)).length → gt (gt needT (a - 1)) k = 2 → a = 2 ∧ k = 1 by decide) a h2 h1 k hk hi
  obtain ⟨rfl, rfl⟩ := this
  rfl
theorem rq_ho {a k : Nat} (l : List UInt8) (h1 : 1 ≤ a) (h2 : a < 13) (hk : k < (gt needT (a - 1)).length) (hi : gt (gt needT (a - 1)) k = 9) : (rq a l k).1.ho = [] := by
  have := (show ∀ a, a < 13 → 1 ≤ a → ∀ k, k < (gt needT (a - 1)).length → gt (gt needT (a - 1)) k = 9 → a + k = 10 ∧ 9 ≤ a by decide) a h2 h1 k hk hi
  rcases (show (a = 9 ∧ k = 1) ∨ (a = 10 ∧ k = 0) by have h3 : a ≤ 10 := (by omega); omega) with ⟨rfl, rfl⟩ | ⟨rfl, rfl⟩ <;> rfl
theorem bv_ro {b : BV} (h : b.ro = []) : b = { b with ro := [] } := by cases b; simp only at h; subst h; rfl
theorem bv_ho {b : BV} (h : b.ho = []) : b = { b with ho := [] } := by cases b; simp only at h; subst h; rfl
end Go.Kw
end
section
namespace Go.Kw
open Go.Lib
set_option linter.unusedVariables false
set_option linter.unusedSimpArgs false
abbrev I16 := { l : List UInt8 // l.length = 16 }
section
variable {P : Program} {w : World} {t : TypeId}
abbrev BodyT := List UInt8 × List UInt8 × Sl (List UInt8) × List UInt8 × List UInt8 × Int × Int × Int × Int × Int × Int × Sl I16 × Unit
def BodyT.d (y : BodyT) : BodyD := ⟨y.1, y.2.1, y.2.2.1.a, y.2.2.1.xs, y.2.2.1.c, y.2.2.2.1, y.2.2.2.2.1, y.2.2.2.2.2.1, y.2.2.2.2.2.2.1, y.2.2.2.2.2.2.2.1, y.2.2.2.2.2.2.2.2.1, y.2.2.2.2.2.2.2.2.2.1, y.2.2.2.2.2.2.2.2.2.2.1, y.2.2.2.2.2.2.2.2.2.2.2.1.a, y.2.2.2.2.2.2.2.2.2.2.2.1.xs.map (·.1), y.2.2.2.2.2.2.2.2.2.2.2.1.c⟩
end
end Go.Kw
end
section
namespace Go.Kw
open Go.Lib
set_option linter.unusedVariables false
set_option linter.unusedSimpArgs false
structure EV where
  nr : Int
  tm : Int
  act : Int
  ac : List UInt8
  ky : List UInt8
  pv : List UInt8
  bo : List UInt8
structure EVok (e : EV) : Prop where
  ac : e.ac.length = 16
  ky : e.ky.length = 16
  pv : e.pv.length = 32
  bn : e.bo.length ≤ 140737488351232
structure EntD where
  e : EV
  ba : Option Addr
  bc : Nat
def EntD.tl (x : EntD) : List Value := [.slice x.ba x.e.bo.length x.bc]
def EntD.v (x : EntD) : List Value := [iv x.e.nr, iv x.e.tm, iv x.e.act] ++ (x.e.ac.map b8 ++ (x.e.ky.map b8 ++ (x.e.pv.map b8 ++ x.tl)))
structure EntOk (x : EntD) : Prop where
  e : EVok x.e
  bc : x.e.bo.length ≤ x.bc
section
variable {x : EntD}
theorem ent_len (h : EntOk x) : x.v.length = 68 := by simp [EntD.v, EntD.tl, h.e.ac, h.e.ky, h.e.pv]
theorem ent_nr : x.v[0]? = some (iv x.e.nr) := rfl
theorem ent_tm : x.v[1]? = some (iv x.e.tm) := rfl
theorem ent_act : x.v[2]? = some (iv x.e.act) := rfl
theorem ent_bo (h : EntOk x) : x.v[67]? = some (.slice x.ba x.e.bo.length x.bc) := by
  rw [show 67 = 3 + (16 + (16 + (32 + 0))) by rfl, EntD.v, app_at (n := 3) (l := [iv x.e.nr, iv x.e.tm, iv x.e.act]) rfl, app_at (n := 16) (by rw [List.length_map, h.e.ac]), app_at (n := 16) (by rw [List.length_map, h.e.ky]), app_at (n := 32) (by rw [List.length_map, h.e.pv])]
  rfl
theorem ent_d3 (h : EntOk x) : (x.v.drop 3).take 16 = x.e.ac.map b8 := by
  rw [EntD.v, show (3 : Nat) = 3 + 0 from rfl, app_dr (n := 3) (l := [iv x.e.nr, iv x.e.tm, iv x.e.act]) rfl, List.drop_zero, List.take_left' (by rw [List.length_map, h.e.ac])]
theorem ent_d19 (h : EntOk x) : (x.v.drop 19).take 16 = x.e.ky.map b8 := by
  rw [EntD.v, show (19 : Nat) = 3 + (16 + 0) from rfl, app_dr (n := 3) (l := [iv x.e.nr, iv x.e.tm, iv x.e.act]) rfl, app_dr (n := 16) (by rw [List.length_map, h.e.ac]), List.drop_zero, List.take_left' (by rw [List.length_map, h.e.ky])]
theorem ent_d35 (h : EntOk x) : (x.v.drop 35).take 32 = x.e.pv.map b8 := by
  rw [EntD.v, show (35 : Nat) = 3 + (16 + (16 + 0)) from rfl, app_dr (n := 3) (l := [iv x.e.nr, iv x.e.tm, iv x.e.act]) rfl, app_dr (n := 16) (by rw [List.length_map, h.e.ac]), app_dr (n := 16) (by rw [List.length_map, h.e.ky]), List.drop_zero, List.take_left' (by rw [List.length_map, h.e.pv])]
variable {w : World} {b : Nat} {E : TypeId} {fr : Nat × Nat}
theorem ent_at3 (hb : w.heap[b]? = some (.cells x.v.toArray E fr)) (h : EntOk x) : At w b 3 (x.e.ac.map b8) := by
  have := at_part (off := 3) (n := 16) hb
  rwa [ent_d3 h] at this
theorem ent_at19 (hb : w.heap[b]? = some (.cells x.v.toArray E fr)) (h : EntOk x) : At w b 19 (x.e.ky.map b8) := by
  have := at_part (off := 19) (n := 16) hb
  rwa [ent_d19 h] at this
theorem ent_at35 (hb : w.heap[b]? = some (.cells x.v.toArray E fr)) (h : EntOk x) : At w b 35 (x.e.pv.map b8) := by
  have := at_part (off := 35) (n := 32) hb
  rwa [ent_d35 h] at this
end
/-! ### What is wrong with an entry, and its octets -/
open Classical in
noncomputable def EV.F (e : EV) : Int := if e.nr < 0 ∨ 65535 < e.nr ∨ e.tm < 0 ∨ 1099511627776 < e.tm then 4 else parsE true e.act e.bo
def EV.H (e : EV) : List UInt8 := [75, 87, 69, 49] ++ octs8 (UInt64.ofNat e.nr.toNat) ++ octs8 (UInt64.ofNat e.tm.toNat)
def EV.M (e : EV) : List UInt8 := e.H ++ [UInt8.ofNat e.act.toNat] ++ e.ac ++ e.ky
def EV.L (e : EV) : List UInt8 := e.M ++ e.pv ++ octs (UInt32.ofNat e.bo.length) ++ e.bo
def EV.S (e : EV) : List UInt8 := sumL (UInt8.ofNat 3) e.L
def EV.P (e : EV) : List UInt8 := e.L ++ e.S
def EV.zero : EV := ⟨0, 0, 0, List.replicate 16 0, List.replicate 16 0, List.replicate 32 0, []⟩
theorem EVok.zero : EVok EV.zero := ⟨by simp [EV.zero], by simp [EV.zero], by simp [EV.zero], by simp [EV.zero]⟩
structure EGood (e : EV) : Prop where
  n0 : 0 ≤ e.nr
  n1 : e.nr ≤ 65535
  t0 : 0 ≤ e.tm
  t1 : e.tm ≤ 1099511627776
  a0 : 1 ≤ e.act
  a1 : e.act ≤ 12
  bl : e.bo.length ≤ 32768
section
variable {e : EV}
theorem EV.F_4 (h : e.nr < 0 ∨ 65535 < e.nr ∨ e.tm < 0 ∨ 1099511627776 < e.tm) : e.F = 4 := by rw [EV.F, if_pos h]
theorem EV.F_p (h : ¬ (e.nr < 0 ∨ 65535 < e.nr ∨ e.tm < 0 ∨ 1099511627776 < e.tm)) : e.F = parsE true e.act e.bo := by rw [EV.F, if_neg h]
theorem EV.good (h : e.F = 0) : EGood e := by
  by_cases h1 : e.nr < 0 ∨ 65535 < e.nr ∨ e.tm < 0 ∨ 1099511627776 < e.tm
  · rw [EV.F_4 h1] at h; exact absurd h (by decide)
  rw [EV.F_p h1] at h
  by_cases h2 : e.act < 1 ∨ 12 < e.act
  · rw [parsE, if_pos h2] at h; exact absurd h (by decide)
  by_cases h3 : 32768 < e.bo.length
  · rw [parsE, if_neg h2, if_pos h3] at h; exact absurd h (by decide)
  exact ⟨by omega, by omega, by omega, by omega, by omega, by omega, by omega⟩
@[simp] theorem EV.H_len : e.H.length = 20 := by simp [EV.H]
theorem EV.M_len (h : EVok e) : e.M.length = 53 := by simp [EV.M, h.ac, h.ky]
theorem EV.L_len (h : EVok e) : e.L.length = 89 + e.bo.length := by simp [EV.L, EV.M_len h, h.pv]; omega
@[simp] theorem EV.S_len : e.S.length = 32 := by simp [EV.S]
theorem EV.P_len (h : EVok e) : e.P.length = 121 + e.bo.length := by simp [EV.P, EV.L_len h]; omega
end
/-! ### What a parser finds -/
def magicE : List UInt8 := [75, 87, 69, 49]
def lenE (o : List UInt8) : Nat := (word4 ((o.drop 85).take 4)).toNat
def rawE (o : List UInt8) (n : Nat) : EV := ⟨sgN (natN ((o.drop 4).take 8)), sgN (natN ((o.drop 12).take 8)), ((gt o 20).toNat : Nat), (o.drop 21).take 16, (o.drop 37).take 16, (o.drop 53).take 32, (o.drop 89).take n⟩
open Classical in
noncomputable def oE (o : List UInt8) : Int :=
  if o.length < 89 then 1 else if ¬ o.take 4 = magicE then 2 else if 32768 < lenE o then 5 else if o.length < 121 + lenE o then 1 else
  if ¬ sumL (UInt8.ofNat 3) (o.take (89 + lenE o)) = (o.drop (89 + lenE o)).take 32 then 13 else (rawE o (lenE o)).F
noncomputable def entE (b : List UInt8) (p : Int) : Int := if p < 0 then 4 else if (b.length : Int) < p + 89 then 1 else oE (b.drop p.toNat)
open Classical in
noncomputable def entX (b : List UInt8) (p : Int) : EV := if entE b p = 0 then rawE (b.drop p.toNat) (lenE (b.drop p.toNat)) else EV.zero
noncomputable def entZ (b : List UInt8) (p : Int) : Int := if entE b p = 0 then p + (121 + lenE (b.drop p.toNat)) else 0
section
variable {o b : List UInt8} {p : Int}
theorem oE_2 (h1 : 89 ≤ o.length) (h2 : ¬ o.take 4 = magicE) : oE o = 2 := by rw [oE, if_neg (by omega), if_pos h2]
theorem oE_5 (h1 : 89 ≤ o.length) (h2 : o.take 4 = magicE) (h3 : 32768 < lenE o) : oE o = 5 := by rw [oE, if_neg (by omega), if_neg (fun h => h h2), if_pos h3]
theorem oE_1 (h1 : 89 ≤ o.length) (h2 : o.take 4 = magicE) (h3 : ¬ 32768 < lenE o) (h4 : o.length < 121 + lenE o) : oE o = 1 := by rw [oE, if_neg (by omega), if_neg (fun h => h h2), if_neg h3, if_pos h4]
theorem oE_13 (h2 : o.take 4 = magicE) (h3 : ¬ 32768 < lenE o) (h4 : ¬ o.length < 121 + lenE o) (h5 : ¬ sumL (UInt8.ofNat 3) (o.take (89 + lenE o)) = (o.drop (89 + lenE o)).take 32) : oE o = 13 := by
  rw [oE, if_neg (by omega), if_neg (fun h => h h2), if_neg h3, if_neg h4, if_pos h5]
theorem oE_F (h2 : o.take 4 = magicE) (h3 : ¬ 32768 < lenE o) (h4 : ¬ o.length < 121 + lenE o) (h5 : sumL (UInt8.ofNat 3) (o.take (89 + lenE o)) = (o.drop (89 + lenE o)).take 32) : oE o = (rawE o (lenE o)).F := by
  rw [oE, if_neg (by omega), if_neg (fun h => h h2), if_neg h3, if_neg h4, if_neg (fun h => h h5)]
theorem entE_4 (h : p < 0) : entE b p = 4 := by rw [entE, if_pos h]
theorem entE_1 (h : ¬ p < 0) (h1 : (b.length : Int) < p + 89) : entE b p = 1 := by rw [entE, if_neg h, if_pos h1]
theorem entE_o (h : ¬ p < 0) (h1 : ¬ (b.length : Int) < p + 89) : entE b p = oE (b.drop p.toNat) := by rw [entE, if_neg h, if_neg h1]
theorem rawE_ok {n : Nat} (h : 89 ≤ o.length) (hn : n ≤ 32768) : EVok (rawE o n) :=
  ⟨by simp [rawE]; omega, by simp [rawE]; omega, by simp [rawE]; omega, by simp [rawE]; omega⟩
end
/-- The answer of a parser of entries. -/
def EAns (T : TypeId) (b : List UInt8) (p : Int) (w w' : World) (v : Value) : Prop :=
  ∃ y : EntD, v = .tuple #[.agg y.v.toArray, .int .i64 (entZ b p), .int .i64 (entE b p)] ∧ y.e = entX b p ∧ EntOk y ∧ St w [] w' [.row (.slice y.ba y.e.bo.length y.bc) T 1 y.e.bo.length (y.e.bo.map b8)]
section
variable {T : TypeId} {b : List UInt8} {p : Int} {w w' : World} {er : Int}
theorem EAns.bad (he : entE b p = er) (h0 : ¬ er = 0) (hS : St w [] w' []) : EAns T b p w w' (.tuple #[.agg (EntD.v ⟨EV.zero, none, 0⟩).toArray, vi 0, .int .i64 er]) := by
  subst he
  exact ⟨⟨EV.zero, none, 0⟩, by rw [entZ, if_neg h0]; rfl, by rw [entX, if_neg h0], ⟨EVok.zero, Nat.le_refl _⟩, St.nilRow (E := T) (sz := 1) hS⟩
theorem EAns.good {o : List UInt8} {n c : Nat} {a : Option Addr} {z : Int} (he : entE b p = 0) (ho : o = b.drop p.toNat) (hn : n = lenE o) (hz : z = p + (121 + n)) (hok : EVok (rawE o n)) (hc : (rawE o n).bo.length ≤ c)
    (hS : St w [] w' [.row (.slice a (rawE o n).bo.length c) T 1 (rawE o n).bo.length ((rawE o n).bo.map b8)]) : EAns T b p w w' (.tuple #[.agg (EntD.v ⟨rawE o n, a, c⟩).toArray, .int .i64 z, vi 0]) := by
  subst ho hn hz
  exact ⟨⟨rawE (b.drop p.toNat) (lenE (b.drop p.toNat)), a, c⟩, (by rw [he, entZ, if_pos he]; rfl), (by rw [entX, if_pos he]), ⟨hok, hc⟩, hS⟩
end
/-! ### What is printed is read -/
theorem seg {α : Type} {p m r l : List α} {i k : Nat} (h : l = p ++ (m ++ r)) (hi : p.length = i) (hk : m.length = k) : (l.drop i).take k = m := by
  subst h; rw [List.drop_left' hi, List.take_left' hk]
section
variable {e : EV} {t : List UInt8}
theorem oct8_back {z : Int} (h0 : 0 ≤ z) (h1 : z ≤ 1099511627776) : sgN (natN (octs8 (UInt64.ofNat z.toNat))) = z := by
  have h2 : (UInt64.ofNat z.toNat).toNat = z.toNat := by
    rw [UInt64.toNat_ofNat']; exact Nat.mod_eq_of_lt (by omega)
  rw [natN_8 (octs8_len _), long_octs, h2, sgN_small (by omega)]; omega
theorem back_4 : (e.P ++ t).take 4 = magicE := by simp [EV.P, EV.L, EV.M, EV.H, magicE]
theorem back_len (h : EVok e) (hb : e.bo.length ≤ 32768) : lenE (e.P ++ t) = e.bo.length := by
  rw [lenE, seg (k := 4) (p := e.M ++ e.pv) (m := octs (UInt32.ofNat e.bo.length)) (r := e.bo ++ (e.S ++ t)) (by simp [EV.P, EV.L]) (by simp [EV.M_len h, h.pv]) rfl, word_octs, UInt32.toNat_ofNat']
  exact Nat.mod_eq_of_lt (by omega)
theorem back_raw (h : EVok e) (hg : EGood e) : rawE (e.P ++ t) e.bo.length = e := by
  have e1 : ((e.P ++ t).drop 4).take 8 = octs8 (UInt64.ofNat e.nr.toNat) := seg (p := magicE) (r := octs8 (UInt64.ofNat e.tm.toNat) ++ ([UInt8.ofNat e.act.toNat] ++ (e.ac ++ (e.ky ++ (e.pv ++ (octs (UInt32.ofNat e.bo.length) ++ (e.bo ++ (e.S ++ t)))))))) (by simp [EV.P, EV.L, EV.M, EV.H, magicE]) rfl rfl
  have e2 : ((e.P ++ t).drop 12).take 8 = octs8 (UInt64.ofNat e.tm.toNat) := seg (p := magicE ++ octs8 (UInt64.ofNat e.nr.toNat)) (r := [UInt8.ofNat e.act.toNat] ++ (e.ac ++ (e.ky ++ (e.pv ++ (octs (UInt32.ofNat e.bo.length) ++ (e.bo ++ (e.S ++ t))))))) (by simp [EV.P, EV.L, EV.M, EV.H, magicE]) rfl rfl
  have e3 : gt (e.P ++ t) 20 = UInt8.ofNat e.act.toNat := by
    have e0 : e.P ++ t = e.H ++ ([UInt8.ofNat e.act.toNat] ++ (e.ac ++ (e.ky ++ (e.pv ++ (octs (UInt32.ofNat e.bo.length) ++ (e.bo ++ (e.S ++ t))))))) := by simp [EV.P, EV.L, EV.M]
    rw [e0, show (20 : Nat) = 20 + 0 from rfl, ← gt_drop, List.drop_left' EV.H_len]
    rfl
  have e4 : ((e.P ++ t).drop 21).take 16 = e.ac := seg (p := e.H ++ [UInt8.ofNat e.act.toNat]) (r := e.ky ++ (e.pv ++ (octs (UInt32.ofNat e.bo.length) ++ (e.bo ++ (e.S ++ t))))) (by simp [EV.P, EV.L, EV.M]) (by simp) h.ac
  have e5 : ((e.P ++ t).drop 37).take 16 = e.ky := seg (p := e.H ++ [UInt8.ofNat e.act.toNat] ++ e.ac) (r := e.pv ++ (octs (UInt32.ofNat e.bo.length) ++ (e.bo ++ (e.S ++ t)))) (by simp [EV.P, EV.L, EV.M]) (by simp [h.ac]) h.ky
  have e6 : ((e.P ++ t).drop 53).take 32 = e.pv := seg (p := e.M) (r := octs (UInt32.ofNat e.bo.length) ++ (e.bo ++ (e.S ++ t))) (by simp [EV.P, EV.L]) (EV.M_len h) h.pv
  have e7 : ((e.P ++ t).drop 89).take e.bo.length = e.bo := seg (p := e.M ++ e.pv ++ octs (UInt32.ofNat e.bo.length)) (r := e.S ++ t) (by simp [EV.P, EV.L]) (by simp [EV.M_len h, h.pv]) rfl
  have e8 : (((UInt8.ofNat e.act.toNat).toNat : Nat) : Int) = e.act := by
    have h0 := hg.a0; have h1 := hg.a1
    rw [UInt8.toNat_ofNat', Nat.mod_eq_of_lt (by omega)]; omega
  rw [rawE, e1, e2, e3, e4, e5, e6, e7, e8, oct8_back hg.n0 (by have := hg.n1; omega), oct8_back hg.t0 hg.t1]
theorem back_sum (h : EVok e) : sumL (UInt8.ofNat 3) ((e.P ++ t).take (89 + e.bo.length)) = ((e.P ++ t).drop (89 + e.bo.length)).take 32 := by
  rw [seg (l := e.P ++ t) (p := e.L) (m := e.S) (r := t) (by simp [EV.P]) (EV.L_len h) EV.S_len, EV.P, List.append_assoc, List.take_left' (EV.L_len h)]
  rfl
theorem back_o (h : EVok e) (hf : e.F = 0) : oE (e.P ++ t) = 0 := by
  have hg := EV.good hf; have hl := back_len (t := t) h hg.bl; have hb := hg.bl
  have hP := EV.P_len h
  rw [oE_F back_4 (by omega) (by rw [List.length_append, hP, hl]; omega) (by rw [hl]; exact back_sum h), hl, back_raw h hg, hf]
/-- An entry that is printed stands between any octets and is read there. -/
theorem ent_back {s : List UInt8} (h : EVok e) (hf : e.F = 0) : entE (s ++ (e.P ++ t)) (s.length : Int) = 0 ∧ entX (s ++ (e.P ++ t)) (s.length : Int) = e ∧ entZ (s ++ (e.P ++ t)) (s.length : Int) = s.length + e.P.length := by
  have hg := EV.good hf
  have hP := EV.P_len h
  have hd : (s ++ (e.P ++ t)).drop ((s.length : Int)).toNat = e.P ++ t := by rw [Int.toNat_natCast, List.drop_left' rfl]
  have h0 : entE (s ++ (e.P ++ t)) (s.length : Int) = 0 := by
    rw [entE_o (by omega) (by simp only [List.length_append]; omega), hd, back_o h hf]
  refine ⟨h0, ?_, ?_⟩
  · rw [entX, if_pos h0, hd, back_len h hg.bl, back_raw h hg]
  · rw [entZ, if_pos h0, hd, back_len h hg.bl, hP]; omega
end
end Go.Kw
end
section
namespace Go.Kw
open Go.Lib
set_option linter.unusedVariables false
set_option linter.unusedSimpArgs false
theorem fill_step {place : Nat → Option (Nat × Nat)} {pre mid post c : List Value} {parts : List (Nat × Value)} {j : Nat} {u : Value} (h2 : u.cells = c.toArray) (h3 : place j = some (pre.length, c.length)) (hmid : mid.length = c.length) :
    Instr.fill place (pre ++ (mid ++ post)).toArray ((j, u) :: parts) = Instr.fill place ((pre ++ c) ++ post).toArray parts := by
  have hfold := fold_put (o := pre.length) #[] c 0 pre mid post (by omega) (by omega)
  simp only [Instr.fill, h3, h2]
  have hz : (c.toArray.zipIdx.foldl (fun (cs : Array Value) (x : Value × Nat) => cs.setIfInBounds (pre.length + x.2) x.1) (pre ++ (mid ++ post)).toArray) = (pre ++ c ++ post).toArray := by
    rw [← Array.foldl_toList, Array.toList_zipIdx, ← List.append_assoc]
    exact hfold
  simp only [ne_eq, List.size_toArray, not_true_eq_false, decide_false, Bool.false_or]
  rw [if_neg (by simp; omega), hz]
def entPL : List (Nat × Nat) := [(0, 1), (1, 1), (2, 1), (3, 16), (19, 16), (35, 32), (67, 1)]
section
variable {e : EV} {r : List (Nat × Value)}
theorem ent_fill (h : EVok e) : Instr.fill (entPL.toArray[·]?) (EntD.v ⟨EV.zero, none, 0⟩).toArray ((0, iv e.nr) :: (1, iv e.tm) :: (2, iv e.act) :: (3, .agg (e.ac.map b8).toArray) :: (4, .agg (e.ky.map b8).toArray) :: (5, .agg (e.pv.map b8).toArray) :: r) =
    Instr.fill (entPL.toArray[·]?) (([iv e.nr] ++ [iv e.tm] ++ [iv e.act] ++ e.ac.map b8 ++ e.ky.map b8 ++ e.pv.map b8) ++ [Value.slice none 0 0]).toArray r := by
  have z0 : (EntD.v ⟨EV.zero, none, 0⟩).toArray = (([] : List Value) ++ ([iv 0] ++ ([iv 0] ++ ([iv 0] ++ ((List.replicate 16 (0 : UInt8)).map b8 ++ ((List.replicate 16 (0 : UInt8)).map b8 ++ ((List.replicate 32 (0 : UInt8)).map b8 ++ [Value.slice none 0 0]))))))).toArray := rfl
  rw [z0, fill_step (mid := [iv 0]) (c := [iv e.nr]) rfl rfl rfl, fill_step (mid := [iv 0]) (c := [iv e.tm]) rfl rfl rfl, fill_step (mid := [iv 0]) (c := [iv e.act]) rfl rfl rfl,
    fill_step (mid := (List.replicate 16 (0 : UInt8)).map b8) (c := e.ac.map b8) rfl (by rw [List.length_map, h.ac]; rfl) (by rw [List.length_map, List.length_map, h.ac]; rfl),
    fill_step (mid := (List.replicate 16 (0 : UInt8)).map b8) (c := e.ky.map b8) rfl (by simp only [List.length_append, List.length_map, h.ac, h.ky]; rfl) (by rw [List.length_map, List.length_map, h.ky]; rfl),
    fill_step (mid := (List.replicate 32 (0 : UInt8)).map b8) (c := e.pv.map b8) rfl (by simp only [List.length_append, List.length_map, h.ac, h.ky, h.pv]; rfl) (by rw [List.length_map, List.length_map, h.pv]; rfl)]
  rfl
variable {P : Program} {ρ : Operand → Value} {w w0 : World} {M : List Nat} {L l1 l2 : List Item} {dst : Option Tmp} {ty : TypeId} {pos : String} {aft : Array Edge} {g : Option (Nat × Bool)} {T : TypeId} {d : TypeDesc} {sz bts n c : Nat} {a : Option Addr}
theorem ent_v (a : Option Addr) (c : Nat) : EntD.v ⟨e, a, c⟩ = ([iv e.nr] ++ [iv e.tm] ++ [iv e.act] ++ e.ac.map b8 ++ e.ky.map b8 ++ e.pv.map b8) ++ [Value.slice a e.bo.length c] := by simp [EntD.v, EntD.tl]
/-- All fields said. -/
theorem r_buildEnt {parts : Array (Nat × Operand)} (hp : placesOf P T = some entPL) (hZ : TI P T d sz bts (.agg (EntD.v ⟨EV.zero, none, 0⟩).toArray)) (h : EVok e)
    (hv : parts.toList.map (fun x => (x.1, ρ x.2)) = [(0, iv e.nr), (1, iv e.tm), (2, iv e.act), (3, .agg (e.ac.map b8).toArray), (4, .agg (e.ky.map b8).toArray), (5, .agg (e.pv.map b8).toArray), (6, .slice a e.bo.length c)]) :
    (execOp ρ ⟨dst, .build T parts, ty, pos, aft, g⟩).run P w = .ok (.value (.agg (EntD.v ⟨e, a, c⟩).toArray)) w := by
  refine r_buildP hp hZ hv ?_
  have hz : (Value.agg (EntD.v ⟨EV.zero, none, 0⟩).toArray).cells = (EntD.v ⟨EV.zero, none, 0⟩).toArray := rfl
  have e1 := fill_step (place := (entPL.toArray[·]?)) (pre := [iv e.nr] ++ [iv e.tm] ++ [iv e.act] ++ e.ac.map b8 ++ e.ky.map b8 ++ e.pv.map b8) (mid := [Value.slice none 0 0]) (post := []) (c := [Value.slice a e.bo.length c]) (parts := []) (j := 6) (u := .slice a e.bo.length c) rfl (by simp only [List.length_append, List.length_map, h.ac, h.ky, h.pv]; rfl) rfl
  rw [List.append_nil, List.append_nil] at e1
  rw [hz, ent_fill h, e1, ent_v]
  rfl
/-- The same, the fields as they lie about. -/
theorem r_buildEntV {parts : Array (Nat × Operand)} {n1 n2 n3 : Int} {l1 l2 l3 l4 : List UInt8} (hp : placesOf P T = some entPL) (hZ : TI P T d sz bts (.agg (EntD.v ⟨EV.zero, none, 0⟩).toArray)) (he : (⟨n1, n2, n3, l1, l2, l3, l4⟩ : EV) = e) (h : EVok e) (hn : l4.length = n)
    (hv : parts.toList.map (fun x => (x.1, ρ x.2)) = [(0, .int .i64 n1), (1, .int .i64 n2), (2, .int .i64 n3), (3, .agg (l1.map b8).toArray), (4, .agg (l2.map b8).toArray), (5, .agg (l3.map b8).toArray), (6, .slice a n c)]) :
    (execOp ρ ⟨dst, .build T parts, ty, pos, aft, g⟩).run P w = .ok (.value (.agg (EntD.v ⟨e, a, c⟩).toArray)) w := by
  subst he hn
  exact r_buildEnt hp hZ h hv
end
/-! ### An entry as an argument -/
section
variable {P : Program} {w : World} {t : TypeId}
abbrev EntT := Int × Int × Int × List UInt8 × List UInt8 × List UInt8 × Sl UInt8 × Unit
def EntT.d (y : EntT) : EntD := ⟨⟨y.1, y.2.1, y.2.2.1, y.2.2.2.1, y.2.2.2.2.1, y.2.2.2.2.2.1, y.2.2.2.2.2.2.1.xs⟩, y.2.2.2.2.2.2.1.a, y.2.2.2.2.2.2.1.c⟩
theorem opens_ent {B : Int → Prop} (h : Opens P w t (fun y : EntT => [Value.int .i64 y.1] ++ ([Value.int .i64 y.2.1] ++ ([Value.int .i64 y.2.2.1] ++ (y.2.2.2.1.map b8 ++ (y.2.2.2.2.1.map b8 ++ (y.2.2.2.2.2.1.map b8 ++ ([y.2.2.2.2.2.2.1.v] ++ [])))))))
      (fun y => B y.1 ∧ B y.2.1 ∧ B y.2.2.1 ∧ y.2.2.2.1.length = 16 ∧ y.2.2.2.2.1.length = 16 ∧ y.2.2.2.2.2.1.length = 32 ∧ (Row w y.2.2.2.2.2.2.1.a (y.2.2.2.2.2.2.1.xs.map b8) ∧ y.2.2.2.2.2.2.1.xs.length ≤ y.2.2.2.2.2.2.1.c ∧ y.2.2.2.2.2.2.1.c ≤ 140737488351232) ∧ True)) :
    Opens P w t (fun x : EntD => x.v) (fun x => EntOk x ∧ Row w x.ba (x.e.bo.map b8) ∧ (B x.e.nr ∧ B x.e.tm ∧ B x.e.act)) :=
  h.to EntT.d (fun y => by simp [EntD.v, EntD.tl, EntT.d, Sl.v, iv]) (fun y ⟨h1, h2, h3, h4, h5, h6, ⟨h7, h8, h9⟩, _⟩ => ⟨⟨⟨h4, h5, h6, by show y.2.2.2.2.2.2.1.xs.length ≤ _; omega⟩, h8⟩, h7, h1, h2, h3⟩)
end
/-! ### Parts of an entry that was cut -/
section
variable {o O : List UInt8} {n : Nat}
theorem raw_cut (h : O = o.take (121 + n)) : rawE O n = rawE o n := by
  subst h
  have e : ∀ i k, i + k ≤ 121 + n → ((o.take (121 + n)).drop i).take k = (o.drop i).take k := fun i k hi => by rw [List.drop_take, List.take_take, Nat.min_eq_left (by omega)]
  have e3 : gt (o.take (121 + n)) 20 = gt o 20 := gt_take _ _ _ (by omega)
  rw [rawE, rawE, e 4 8 (by omega), e 12 8 (by omega), e3, e 21 16 (by omega), e 37 16 (by omega), e 53 32 (by omega), e 89 n (by omega)]
theorem cut_seal (h : O = o.take (121 + n)) : O.drop (89 + n) = (o.drop (89 + n)).take 32 := by subst h; rw [List.drop_take]; congr 1; omega
theorem cut_len (h : O = o.take (121 + n)) (hl : ¬ o.length < 121 + n) : O.length = 121 + n := by subst h; rw [List.length_take]; omega
theorem raw_body (hl : 121 + n ≤ o.length) : (rawE o n).bo.length = n := by simp [rawE]; omega
theorem sgN_far {X : Nat} (h : 4611686018427387904 < X) (h2 : X < 18446744073709551616) : sgN X < 0 ∨ 4611686018427387904 < sgN X := by
  rcases Nat.lt_or_ge X 9223372036854775808 with h3 | h3
  · rw [sgN_small h3]; omega
  · exact .inl (sgN_big h3 h2)
theorem entE_q {b : List UInt8} {q : Nat} (h : q + 89 ≤ b.length) : entE b (q : Int) = oE (b.drop q) := entE_o (by omega) (by omega)
/-- What the parsers take for an entry, from the fields they read. -/
theorem raw_prog {q : Nat} {b O : List UInt8} {L : Nat} (h : O = (b.drop q).take (121 + L)) (h1 : natN ((O.drop 4).take 8) ≤ 4611686018427387904) (h2 : natN ((O.drop 12).take 8) ≤ 4611686018427387904) :
    (⟨(natN ((O.drop 4).take 8) : Nat), (natN ((O.drop 12).take 8) : Nat), ((gt O 20).toNat : Nat), (O.drop 21).take 16, (O.drop 37).take 16, (O.drop 53).take 32, (O.drop 89).take L⟩ : EV) = rawE (b.drop q) L := by
  rw [← raw_cut h, rawE, sgN_small (by omega), sgN_small (by omega)]
theorem raw_far {q : Nat} {b O : List UInt8} {L : Nat} (h : O = (b.drop q).take (121 + L)) (hl : O.length = 121 + L) (h1 : 4611686018427387904 < natN ((O.drop 4).take 8) ∨ 4611686018427387904 < natN ((O.drop 12).take 8)) : (rawE (b.drop q) L).F = 4 := by
  rw [← raw_cut h]
  refine EV.F_4 ?_
  have b1 := natN_lt8 (l := (O.drop 4).take 8) (by rw [List.length_take, List.length_drop]; omega)
  have b2 := natN_lt8 (l := (O.drop 12).take 8) (by rw [List.length_take, List.length_drop]; omega)
  rcases h1 with h1 | h1
  · have := sgN_far h1 b1
    show sgN _ < 0 ∨ 65535 < sgN _ ∨ _
    omega
  · have := sgN_far h1 b2
    show _ ∨ _ ∨ sgN (natN ((O.drop 12).take 8)) < 0 ∨ 1099511627776 < sgN (natN ((O.drop 12).take 8))
    omega
theorem seal_row {w : World} {a : Option Addr} {c k : Nat} {o O : List UInt8} (hO : Row w a (O.map b8)) (h : O = o.take (121 + n)) (hl : O.length ≤ c) (hk : k = 89 + n) : Row w (Kw.sub a c k 1) (((o.drop (89 + n)).take 32).map b8) := by
  subst hk
  rw [← cut_seal h]
  exact Row.from' hO hl _
end
end Go.Kw
end
section
namespace Go.Kw
open Go.Lib
set_option linter.unusedVariables false
set_option linter.unusedSimpArgs false
section
variable {P : Program} {ρ : Operand → Value} {w w0 : World} {M : List Nat} {L l1 l2 : List Item} {dst : Option Tmp} {ty : TypeId} {pos : String} {aft : Array Edge} {g : Option (Nat × Bool)} {x y z : Operand} {T T2 E I : TypeId} {v : Value} {k : IntKind}
  {d dE : TypeDesc} {sz bts b o : Nat} {zv : Value} {a : Option Addr} {cs C : List Value}
end
theorem Row.upto {w : World} {a : Option Addr} {l : List UInt8} (h : Row w a (l.map b8)) (k : Nat) : Row w a ((l.take k).map b8) := by rw [List.map_take]; exact h.take
theorem ev_same {x y : EV} (h1 : x.nr = y.nr) (h2 : x.tm = y.tm) (h3 : x.act = y.act) (h4 : x.ac = y.ac) (h5 : x.ky = y.ky) (h6 : x.pv = y.pv) (h7 : x.bo = y.bo) : x = y := by
  cases x; cases y; simp_all
end Go.Kw
end
