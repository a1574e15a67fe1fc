/- What the law's proof leans on. No condition. -/
import Derived.Test.YtbanoknkplcedaaPBMBM
section
namespace Go.Kw
open Go.Lib
set_option linter.unusedVariables false
set_option linter.unusedSimpArgs false
/-- A body without the places of its lists. -/
structure BV where
  tx : List UInt8
  mb : List UInt8
  ro : List (List UInt8)
  lb : List UInt8
  cm : List UInt8
  ep : Int
  pu : Int
  re : Int
  ne : Int
  ve : Int
  ct : Int
  ho : List (List UInt8)
def BV.zero : BV := ⟨[], List.replicate 16 0, [], [], List.replicate 32 0, 0, 0, 0, 0, 0, 0, []⟩
def BV.d (b : BV) (ra : Option Addr) (rc : Nat) (ha : Option Addr) (hc : Nat) : BodyD := ⟨b.tx, b.mb, ra, b.ro, rc, b.lb, b.cm, b.ep, b.pu, b.re, b.ne, b.ve, b.ct, ha, b.ho, hc⟩
def BodyD.bv (x : BodyD) : BV := ⟨x.tx, x.mb, x.ro, x.lb, x.cm, x.ep, x.pu, x.re, x.ne, x.ve, x.ct, x.ho⟩
structure BVok (b : BV) : Prop where
  mb : b.mb.length = 16
  cm : b.cm.length = 32
  h16 : SN 16 b.ho
  rn : b.ro.length ≤ 255
  hn : b.ho.length ≤ 255
  rl : ∀ s ∈ b.ro, s.length ≤ 255
  tl : b.tx.length ≤ 140737488355328
  ll : b.lb.length ≤ 255
theorem BVok.zero : BVok .zero := ⟨rfl, rfl, SN.nil, by decide, by decide, (fun s hs => nomatch hs), by decide, by decide⟩
theorem BVok.body {b : BV} (h : BVok b) {ra ha : Option Addr} {rc hc : Nat} (h1 : b.ro.length ≤ rc) (h2 : b.ho.length ≤ hc) : BodyOk (b.d ra rc ha hc) := by
  have h3 := h.rn; have h4 := h.hn; have h5 := h.tl; have h6 := h.ll
  refine ⟨h.mb, h.cm, h.h16, h1, ?_, fun s hs => ?_, h2, ?_, ?_, ?_⟩
  · show b.ro.length ≤ _; omega
  · have := h.rl s hs; omega
  · show b.ho.length ≤ _; omega
  · show b.tx.length ≤ _; omega
  · show b.lb.length ≤ _; omega
noncomputable def BV.e (act : Int) (b : BV) : Int := bodyE act (b.d none 0 none 0)
theorem bodyE_bv (act : Int) (x : BodyD) : bodyE act x = x.bv.e act := rfl
theorem bodyE_d (act : Int) (b : BV) (ra ha : Option Addr) (rc hc : Nat) : bodyE act (b.d ra rc ha hc) = b.e act := rfl
/-! ### Readers -/
abbrev Rd := List UInt8 × Bool
def tkV (l : List UInt8) (m : Nat) : List UInt8 := if m ≤ l.length then l.take m else List.replicate m 0
def tkR (keep : Bool) (l : List UInt8) (m : Nat) : List UInt8 := if m ≤ l.length then l.drop m else if keep then l else []
def tkS (l : List UInt8) (m : Nat) (sh : Bool) : Bool := sh || decide (l.length < m)
def tk (keep : Bool) (s : Rd) (m : Nat) : List UInt8 × Rd := (tkV s.1 m, tkR keep s.1 m, tkS s.1 m s.2)
theorem tkV_len (l : List UInt8) (m : Nat) : (tkV l m).length = m := by
  unfold tkV; split
  · rw [List.length_take]; omega
  · simp
theorem tkR_le (keep : Bool) (l : List UInt8) (m : Nat) : (tkR keep l m).length ≤ l.length := by
  unfold tkR; split
  · rw [List.length_drop]; omega
  · split <;> simp
theorem tk_len (keep : Bool) (s : Rd) (m : Nat) : (tk keep s m).1.length = m := tkV_len _ _
theorem tk_le (keep : Bool) (s : Rd) (m : Nat) : (tk keep s m).2.1.length ≤ s.1.length := tkR_le _ _ _
def one1 (keep : Bool) (s : Rd) : Nat × Rd := ((gt (tk keep s 1).1 0).toNat, (tk keep s 1).2)
theorem one1_le (keep : Bool) (s : Rd) : (one1 keep s).1 ≤ 255 := by have := (gt (tk keep s 1).1 0).toNat_lt; show (gt (tk keep s 1).1 0).toNat ≤ 255; omega
theorem one1_rest (keep : Bool) (s : Rd) : (one1 keep s).2.1.length ≤ s.1.length := tk_le keep s 1
def octB (keep : Bool) (is : Bool) (s : Rd) : Nat × Rd := if is then one1 keep s else (0, s)
theorem octB_le (keep is : Bool) (s : Rd) : (octB keep is s).1 ≤ 255 := by
  cases is
  · exact Nat.zero_le _
  · exact one1_le keep s
theorem octB_rest (keep is : Bool) (s : Rd) : (octB keep is s).2.1.length ≤ s.1.length := by
  cases is
  · exact Nat.le_refl _
  · exact one1_rest keep s
def text1 (keep : Bool) (s : Rd) : List UInt8 × Rd := tk keep (one1 keep s).2 (one1 keep s).1
theorem text1_len (keep : Bool) (s : Rd) : (text1 keep s).1.length ≤ 255 := by rw [text1, tk_len]; exact one1_le keep s
theorem text1_rest (keep : Bool) (s : Rd) : (text1 keep s).2.1.length ≤ s.1.length := Nat.le_trans (tk_le _ _ _) (one1_rest keep s)
def texts (keep : Bool) : Nat → Rd → List (List UInt8) × Rd
  | 0, s => ([], s)
  | n + 1, s => ((texts keep n s).1 ++ [(text1 keep (texts keep n s).2).1], (text1 keep (texts keep n s).2).2)
theorem texts_num (keep : Bool) (s : Rd) : ∀ n, (texts keep n s).1.length = n
  | 0 => rfl
  | n + 1 => by rw [texts, List.length_append, texts_num keep s n]; rfl
theorem texts_len (keep : Bool) (s : Rd) : ∀ n, ∀ t ∈ (texts keep n s).1, t.length ≤ 255
  | 0 => fun t ht => nomatch ht
  | n + 1 => by
    intro t ht
    rw [texts] at ht
    rcases List.mem_append.1 ht with h | h
    · exact texts_len keep s n t h
    · rw [List.mem_singleton.1 h]; exact text1_len _ _
theorem texts_rest (keep : Bool) (s : Rd) : ∀ n, (texts keep n s).2.1.length ≤ s.1.length
  | 0 => Nat.le_refl _
  | n + 1 => Nat.le_trans (text1_rest _ _) (texts_rest keep s n)
def ids (keep : Bool) : Nat → Rd → List (List UInt8) × Rd
  | 0, s => ([], s)
  | n + 1, s => ((ids keep n s).1 ++ [(tk keep (ids keep n s).2 16).1], (tk keep (ids keep n s).2 16).2)
theorem ids_num (keep : Bool) (s : Rd) : ∀ n, (ids keep n s).1.length = n
  | 0 => rfl
  | n + 1 => by rw [ids, List.length_append, ids_num keep s n]; rfl
theorem ids_16 (keep : Bool) (s : Rd) : ∀ n, SN 16 (ids keep n s).1
  | 0 => SN.nil
  | n + 1 => by
    intro t ht
    rw [ids] at ht
    rcases List.mem_append.1 ht with h | h
    · exact ids_16 keep s n t h
    · rw [List.mem_singleton.1 h]; exact tk_len _ _ _
theorem ids_rest (keep : Bool) (s : Rd) : ∀ n, (ids keep n s).2.1.length ≤ s.1.length
  | 0 => Nat.le_refl _
  | n + 1 => Nat.le_trans (tk_le _ _ _) (ids_rest keep s n)
def ctV (keep : Bool) (l : List UInt8) : Int := if keep then (if 4611686018427387904 < (long8 l).toNat then 65537 else (long8 l).toNat) else sgN (natN l)
/-- One field, read. -/
def stepP (keep : Bool) (i : Nat) (q : BV × Rd) : BV × Rd :=
  match i with
  | 0 => ({ q.1 with tx := (tk keep q.2 q.2.1.length).1 }, (tk keep q.2 q.2.1.length).2)
  | 1 => ({ q.1 with mb := (tk keep q.2 16).1 }, (tk keep q.2 16).2)
  | 2 => ({ q.1 with ro := (texts keep (one1 keep q.2).1 (one1 keep q.2).2).1 }, (texts keep (one1 keep q.2).1 (one1 keep q.2).2).2)
  | 3 => ({ q.1 with lb := (text1 keep q.2).1 }, (text1 keep q.2).2)
  | 4 => ({ q.1 with cm := (tk keep q.2 32).1 }, (tk keep q.2 32).2)
  | 5 => ({ q.1 with ep := (word4 (tk keep q.2 4).1).toNat }, (tk keep q.2 4).2)
  | 6 => ({ q.1 with pu := (one1 keep q.2).1 }, (one1 keep q.2).2)
  | 7 => ({ q.1 with re := (one1 keep q.2).1 }, (one1 keep q.2).2)
  | 8 => ({ q.1 with ne := (one1 keep q.2).1 }, (one1 keep q.2).2)
  | 9 => ({ q.1 with ho := (ids keep (one1 keep q.2).1 (one1 keep q.2).2).1 }, (ids keep (one1 keep q.2).1 (one1 keep q.2).2).2)
  | 10 => ({ q.1 with ve := (one1 keep q.2).1 }, (one1 keep q.2).2)
  | _ => ({ q.1 with ct := ctV keep (tk keep q.2 8).1 }, (tk keep q.2 8).2)
theorem stepP_ok {keep : Bool} {i : Nat} {q : BV × Rd} (h : BVok q.1) (hl : q.2.1.length ≤ 140737488355328) : BVok (stepP keep i q).1 ∧ (stepP keep i q).2.1.length ≤ 140737488355328 := by
  have hone := one1_rest keep q.2
  have htx := text1_rest keep q.2
  have tks := fun m => tk_le keep q.2 m
  unfold stepP
  split
  · exact ⟨{ h with tl := by show (tk keep q.2 q.2.1.length).1.length ≤ _; rw [tk_len]; exact hl }, Nat.le_trans (tks _) hl⟩
  · exact ⟨{ h with mb := tk_len keep q.2 16 }, Nat.le_trans (tks _) hl⟩
  · exact ⟨{ h with rn := by show (texts _ _ _).1.length ≤ _; rw [texts_num]; exact one1_le _ _, rl := texts_len keep (one1 keep q.2).2 (one1 keep q.2).1 }, Nat.le_trans (texts_rest _ _ _) (Nat.le_trans hone hl)⟩
  · exact ⟨{ h with ll := text1_len keep q.2 }, Nat.le_trans htx hl⟩
  · exact ⟨{ h with cm := tk_len keep q.2 32 }, Nat.le_trans (tks _) hl⟩
  · exact ⟨{ h with }, Nat.le_trans (tks _) hl⟩
  · exact ⟨{ h with }, Nat.le_trans hone hl⟩
  · exact ⟨{ h with }, Nat.le_trans hone hl⟩
  · exact ⟨{ h with }, Nat.le_trans hone hl⟩
  · exact ⟨{ h with hn := by show (ids _ _ _).1.length ≤ _; rw [ids_num]; exact one1_le _ _, h16 := ids_16 keep (one1 keep q.2).2 (one1 keep q.2).1 }, Nat.le_trans (ids_rest _ _ _) (Nat.le_trans hone hl)⟩
  · exact ⟨{ h with }, Nat.le_trans hone hl⟩
  · exact ⟨{ h with }, Nat.le_trans (tks _) hl⟩
def runP (keep : Bool) (l : List Nat) (q : BV × Rd) : BV × Rd := l.foldl (fun q i => stepP keep i q) q
/-! ### The two readers side by side -/
def Sam {α : Type} (p q : α × Rd) : Prop := (p.2.2 = true ∧ q.2.2 = true) ∨ (p = q ∧ p.2.2 = false)
theorem tk_short {keep : Bool} {s : Rd} {m : Nat} (h : s.2 = true) : (tk keep s m).2.2 = true := by show tkS s.1 m s.2 = true; rw [tkS, h]; rfl
theorem tk_sam (s : Rd) (h : s.2 = false) (m : Nat) : Sam (tk true s m) (tk false s m) := by
  by_cases hm : m ≤ s.1.length
  · refine .inr ⟨?_, ?_⟩
    · simp only [tk, tkR, if_pos hm]
    · show tkS s.1 m s.2 = false; rw [tkS, h]; simp; omega
  · refine .inl ⟨?_, ?_⟩ <;> (show tkS s.1 m s.2 = true; rw [tkS, h]; simp; omega)
theorem one_short {keep : Bool} {s : Rd} (h : s.2 = true) : (one1 keep s).2.2 = true := tk_short h
theorem one_sam (s : Rd) (h : s.2 = false) : Sam (one1 true s) (one1 false s) := by
  rcases tk_sam s h 1 with ⟨h1, h2⟩ | ⟨h1, h2⟩
  · exact .inl ⟨h1, h2⟩
  · exact .inr ⟨by rw [one1, one1, h1], h2⟩
theorem text_short {keep : Bool} {s : Rd} (h : s.2 = true) : (text1 keep s).2.2 = true := tk_short (one_short h)
theorem text_sam (s : Rd) (h : s.2 = false) : Sam (text1 true s) (text1 false s) := by
  rcases one_sam s h with ⟨h1, h2⟩ | ⟨h1, h2⟩
  · exact .inl ⟨tk_short h1, tk_short h2⟩
  · rw [text1, text1, ← h1]; exact tk_sam _ h2 _
theorem texts_short {keep : Bool} {s : Rd} (h : s.2 = true) : ∀ n, (texts keep n s).2.2 = true
  | 0 => h
  | n + 1 => text_short (texts_short h n)
theorem texts_sam (s : Rd) (h : s.2 = false) : ∀ n, Sam (texts true n s) (texts false n s)
  | 0 => .inr ⟨rfl, h⟩
  | n + 1 => by
    rcases texts_sam s h n with ⟨h1, h2⟩ | ⟨h1, h2⟩
    · exact .inl ⟨text_short h1, text_short h2⟩
    · have h3 := text_sam (texts true n s).2 h2
      rw [texts, texts, ← h1]
      rcases h3 with ⟨h4, h5⟩ | ⟨h4, h5⟩
      · exact .inl ⟨h4, h5⟩
      · exact .inr ⟨by rw [h4], h5⟩
theorem ids_short {keep : Bool} {s : Rd} (h : s.2 = true) : ∀ n, (ids keep n s).2.2 = true
  | 0 => h
  | n + 1 => tk_short (ids_short h n)
theorem ids_sam (s : Rd) (h : s.2 = false) : ∀ n, Sam (ids true n s) (ids false n s)
  | 0 => .inr ⟨rfl, h⟩
  | n + 1 => by
    rcases ids_sam s h n with ⟨h1, h2⟩ | ⟨h1, h2⟩
    · exact .inl ⟨tk_short h1, tk_short h2⟩
    · have h3 := tk_sam (ids true n s).2 h2 16
      rw [ids, ids, ← h1]
      rcases h3 with ⟨h4, h5⟩ | ⟨h4, h5⟩
      · exact .inl ⟨h4, h5⟩
      · exact .inr ⟨by rw [h4], h5⟩
def badCt (z : Int) : Prop := z < 0 ∨ 65536 < z
/-- Equal, but for contents that are both out of range. -/
def Agr (b b' : BV) : Prop := { b with ct := 0 } = { b' with ct := 0 } ∧ (b.ct = b'.ct ∨ (badCt b.ct ∧ badCt b'.ct))
def Rel (p q : BV × Rd) : Prop := (p.2.2 = true ∧ q.2.2 = true) ∨ (p.2 = q.2 ∧ p.2.2 = false ∧ Agr p.1 q.1)
theorem ct_agr {l : List UInt8} (h : l.length = 8) : ctV true l = ctV false l ∨ (badCt (ctV true l) ∧ badCt (ctV false l)) := by
  have hn := natN_8 h
  have hlt := natN_lt8 h
  show (if 4611686018427387904 < (long8 l).toNat then (65537 : Int) else (long8 l).toNat) = sgN (natN l) ∨ (badCt (if 4611686018427387904 < (long8 l).toNat then (65537 : Int) else (long8 l).toNat) ∧ badCt (sgN (natN l)))
  rw [hn]
  rw [hn] at hlt
  by_cases hb : 4611686018427387904 < (long8 l).toNat
  · rw [if_pos hb]
    exact .inr ⟨.inr (by decide), sgN_out (by omega) hlt⟩
  · rw [if_neg hb, sgN_small (by omega)]
    exact .inl rfl
theorem Agr.set {b b' : BV} (h : Agr b b') (F : BV → BV) (hF : ∀ b, { F b with ct := 0 } = F { b with ct := 0 }) (hc : ∀ b, (F b).ct = b.ct) : Agr (F b) (F b') :=
  ⟨by rw [hF, hF, h.1], by rw [hc, hc]; exact h.2⟩
theorem step_rel {p q : BV × Rd} (h : Rel p q) (i : Nat) : Rel (stepP true i p) (stepP false i q) := by
  rcases h with ⟨h1, h2⟩ | ⟨h1, h2, h3⟩
  · refine .inl ?_
    unfold stepP
    split <;> first
      | exact ⟨tk_short h1, tk_short h2⟩
      | exact ⟨one_short h1, one_short h2⟩
      | exact ⟨text_short h1, text_short h2⟩
      | exact ⟨texts_short (one_short h1) _, texts_short (one_short h2) _⟩
      | exact ⟨ids_short (one_short h1) _, ids_short (one_short h2) _⟩
  · obtain ⟨b, s⟩ := p
    obtain ⟨b', s'⟩ := q
    simp only at h1 h2 h3
    subst h1
    unfold stepP
    split
    · rcases tk_sam s h2 s.1.length with h | ⟨h, h4⟩
      · exact .inl h
      · exact .inr ⟨(congrArg Prod.snd h :), h4, by rw [h]; exact h3.set (fun b => { b with tx := _ }) (fun _ => rfl) (fun _ => rfl)⟩
    · rcases tk_sam s h2 16 with h | ⟨h, h4⟩
      · exact .inl h
      · exact .inr ⟨(congrArg Prod.snd h :), h4, by rw [h]; exact h3.set (fun b => { b with mb := _ }) (fun _ => rfl) (fun _ => rfl)⟩
    · rcases one_sam s h2 with h | ⟨h, h4⟩
      · exact .inl ⟨texts_short h.1 _, texts_short h.2 _⟩
      · rcases texts_sam (one1 true s).2 h4 (one1 true s).1 with h5 | ⟨h5, h6⟩
        · exact .inl ⟨h5.1, by show (texts false (one1 false s).1 (one1 false s).2).2.2 = true; rw [← h]; exact h5.2⟩
        · rw [h] at h5
          refine .inr ⟨?_, h6, ?_⟩
          · show (texts true (one1 true s).1 (one1 true s).2).2 = (texts false (one1 false s).1 (one1 false s).2).2
            rw [h, h5]
          · show Agr { b with ro := (texts true (one1 true s).1 (one1 true s).2).1 } { b' with ro := (texts false (one1 false s).1 (one1 false s).2).1 }
            rw [h, h5]; exact h3.set (fun b => { b with ro := _ }) (fun _ => rfl) (fun _ => rfl)
    · rcases text_sam s h2 with h | ⟨h, h4⟩
      · exact .inl h
      · exact .inr ⟨(congrArg Prod.snd h :), h4, by rw [h]; exact h3.set (fun b => { b with lb := _ }) (fun _ => rfl) (fun _ => rfl)⟩
    · rcases tk_sam s h2 32 with h | ⟨h, h4⟩
      · exact .inl h
      · exact .inr ⟨(congrArg Prod.snd h :), h4, by rw [h]; exact h3.set (fun b => { b with cm := _ }) (fun _ => rfl) (fun _ => rfl)⟩
    · rcases tk_sam s h2 4 with h | ⟨h, h4⟩
      · exact .inl h
      · exact .inr ⟨(congrArg Prod.snd h :), h4, by rw [h]; exact h3.set (fun b => { b with ep := _ }) (fun _ => rfl) (fun _ => rfl)⟩
    · rcases one_sam s h2 with h | ⟨h, h4⟩
      · exact .inl h
      · exact .inr ⟨(congrArg Prod.snd h :), h4, by rw [h]; exact h3.set (fun b => { b with pu := _ }) (fun _ => rfl) (fun _ => rfl)⟩
    · rcases one_sam s h2 with h | ⟨h, h4⟩
      · exact .inl h
      · exact .inr ⟨(congrArg Prod.snd h :), h4, by rw [h]; exact h3.set (fun b => { b with re := _ }) (fun _ => rfl) (fun _ => rfl)⟩
    · rcases one_sam s h2 with h | ⟨h, h4⟩
      · exact .inl h
      · exact .inr ⟨(congrArg Prod.snd h :), h4, by rw [h]; exact h3.set (fun b => { b with ne := _ }) (fun _ => rfl) (fun _ => rfl)⟩
    · rcases one_sam s h2 with h | ⟨h, h4⟩
      · exact .inl ⟨ids_short h.1 _, ids_short h.2 _⟩
      · rcases ids_sam (one1 true s).2 h4 (one1 true s).1 with h5 | ⟨h5, h6⟩
        · exact .inl ⟨h5.1, by show (ids false (one1 false s).1 (one1 false s).2).2.2 = true; rw [← h]; exact h5.2⟩
        · rw [h] at h5
          refine .inr ⟨?_, h6, ?_⟩
          · show (ids true (one1 true s).1 (one1 true s).2).2 = (ids false (one1 false s).1 (one1 false s).2).2
            rw [h, h5]
          · show Agr { b with ho := (ids true (one1 true s).1 (one1 true s).2).1 } { b' with ho := (ids false (one1 false s).1 (one1 false s).2).1 }
            rw [h, h5]; exact h3.set (fun b => { b with ho := _ }) (fun _ => rfl) (fun _ => rfl)
    · rcases one_sam s h2 with h | ⟨h, h4⟩
      · exact .inl h
      · exact .inr ⟨(congrArg Prod.snd h :), h4, by rw [h]; exact h3.set (fun b => { b with ve := _ }) (fun _ => rfl) (fun _ => rfl)⟩
    · rcases tk_sam s h2 8 with h | ⟨h, h4⟩
      · exact .inl h
      · refine .inr ⟨(congrArg Prod.snd h :), h4, ?_⟩
        show Agr { b with ct := ctV true (tk true s 8).1 } { b' with ct := ctV false (tk false s 8).1 }
        rw [h]
        exact ⟨h3.1, ct_agr (tk_len false s 8)⟩
theorem run_rel : ∀ (l : List Nat) {p q : BV × Rd}, Rel p q → Rel (runP true l p) (runP false l q)
  | [], _, _, h => h
  | i :: l, _, _, h => run_rel l (step_rel h i)
end Go.Kw
end
section
namespace Go.Kw
open Go.Lib
set_option linter.unusedVariables false
set_option linter.unusedSimpArgs false
def P0 (l : List UInt8) : BV × Rd := (BV.zero, (l, false))
def runA (keep : Bool) (a : Nat) (l : List UInt8) : BV × Rd := runP keep (gt needT (a - 1)) (P0 l)
open Classical in
noncomputable def parsE (keep : Bool) (act : Int) (l : List UInt8) : Int :=
  if act < 1 ∨ 12 < act then 3 else if 32768 < l.length then 5 else if (runA keep act.toNat l).2.2 = true then 1 else if 0 < (runA keep act.toNat l).2.1.length then 2 else (runA keep act.toNat l).1.e act
open Classical in
noncomputable def parsX (keep : Bool) (act : Int) (l : List UInt8) : BV := if parsE keep act l = 0 then (runA keep act.toNat l).1 else BV.zero
theorem ex_congr {x x' : BodyD} {f : Nat → Bool} (h : ∀ i, setB x i = setB x' i) : ∀ n, ex x f n = ex x' f n
  | 0 => rfl
  | n + 1 => by rw [ex, ex, ex_congr h n, h]
theorem bodyE_congr {act : Int} {x x' : BodyD} (hs : ∀ i, setB x i = setB x' i) (h1 : x.tx = x'.tx) (h2 : x.ro = x'.ro) (h3 : x.ho = x'.ho) (h4 : x.lb = x'.lb) (h5 : ∀ f, rangeBad f x ↔ rangeBad f x') : bodyE act x = bodyE act x' := by
  unfold bodyE
  have e : rangeBad (needF act.toNat) x = rangeBad (needF act.toNat) x' := propext (h5 _)
  rw [ex_congr hs, h1, h2, h3, h4]
  congr 5
  by_cases hb : rangeBad (needF act.toNat) x
  · rw [if_pos hb, if_pos (e ▸ hb)]
  · rw [if_neg hb, if_neg (e ▸ hb)]
theorem ct_e {act : Int} {b : BV} {z : Int} (h1 : badCt b.ct) (h2 : badCt z) : b.e act = ({ b with ct := z } : BV).e act := by
  refine bodyE_congr (fun i => ?_) rfl rfl rfl rfl (fun f => ?_)
  · match i with
    | 0 => rfl
    | 1 => rfl
    | 2 => rfl
    | 3 => rfl
    | 4 => rfl
    | 5 => rfl
    | 6 => rfl
    | 7 => rfl
    | 8 => rfl
    | 9 => rfl
    | 10 => rfl
    | i + 11 =>
      show decide (¬ b.ct = 0) = decide (¬ z = 0)
      unfold badCt at h1 h2
      rw [decide_eq_true (by omega), decide_eq_true (by omega)]
  · exact ⟨fun _ => .inr (.inr (.inr (.inr (.inr h2)))), fun _ => .inr (.inr (.inr (.inr (.inr h1))))⟩
theorem agr_e {act : Int} {b b' : BV} (h : Agr b b') : b.e act = b'.e act := by
  obtain ⟨h1, h2⟩ := h
  have e : b' = { b with ct := b'.ct } := by
    cases b; cases b'
    simp only [BV.mk.injEq] at h1 ⊢
    obtain ⟨rfl, rfl, rfl, rfl, rfl, rfl, rfl, rfl, rfl, rfl, _, rfl⟩ := h1
    simp
  rcases h2 with h2 | ⟨h2, h3⟩
  · rw [e, ← h2]
  · rw [e]; exact ct_e h2 h3
theorem agr_eq {act : Int} {b b' : BV} (h : Agr b b') (he : b.e act = 0) : b = b' := by
  obtain ⟨a, _, hg⟩ := body_good he
  have hc : 0 ≤ b.ct ∧ b.ct ≤ 65536 := hg.ct
  obtain ⟨h1, h2⟩ := h
  rcases h2 with h2 | ⟨h2, _⟩
  · cases b; cases b'
    simp only [BV.mk.injEq] at h1 h2 ⊢
    obtain ⟨rfl, rfl, rfl, rfl, rfl, rfl, rfl, rfl, rfl, rfl, _, rfl⟩ := h1
    simp [h2]
  · unfold badCt at h2; omega
theorem run_same (a : Nat) (l : List UInt8) : Rel (runA true a l) (runA false a l) := run_rel _ (.inr ⟨rfl, rfl, rfl, .inl rfl⟩)
theorem pars_same (act : Int) (l : List UInt8) : parsE true act l = parsE false act l ∧ parsX true act l = parsX false act l := by
  by_cases h1 : act < 1 ∨ 12 < act
  · simp [parsE, parsX, h1]
  by_cases h2 : 32768 < l.length
  · simp [parsE, parsX, h1, h2]
  rcases run_same act.toNat l with ⟨h3, h4⟩ | ⟨h3, h4, h5⟩
  · simp [parsE, parsX, h1, h2, h3, h4]
  · have h6 : (runA false act.toNat l).2.2 = false := by rw [← h3]; exact h4
    have h7 : (runA false act.toNat l).2.1 = (runA true act.toNat l).2.1 := by rw [h3]
    have e1 : ∀ k, (runA k act.toNat l).2.2 = false → parsE k act l = if 0 < (runA k act.toNat l).2.1.length then 2 else (runA k act.toNat l).1.e act := by
      intro k hk
      rw [parsE, if_neg h1, if_neg h2, if_neg (by rw [hk]; decide)]
    have e2 : parsE true act l = parsE false act l := by rw [e1 _ h4, e1 _ h6, h7, agr_e h5]
    refine ⟨e2, ?_⟩
    rw [parsX, parsX, ← e2]
    by_cases h8 : parsE true act l = 0
    · rw [if_pos h8, if_pos h8]
      refine agr_eq (act := act) h5 ?_
      rw [e1 _ h4] at h8
      by_cases h9 : 0 < (runA true act.toNat l).2.1.length
      · rw [if_pos h9] at h8; exact absurd h8 (by decide)
      · rwa [if_neg h9] at h8
    · rw [if_neg h8, if_neg h8]
/-! ### Read back -/
theorem tk_app (keep : Bool) (u r : List UInt8) {m : Nat} (hm : u.length = m) : tk keep (u ++ r, false) m = (u, (r, false)) := by
  subst hm
  have h : u.length ≤ (u ++ r).length := by rw [List.length_append]; omega
  simp only [tk, tkV, tkR, tkS, if_pos h, List.take_left, List.drop_left, Bool.false_or]
  rw [decide_eq_false (by omega)]
theorem one_app1 (keep : Bool) (c : UInt8) (r : List UInt8) : one1 keep (c :: r, false) = (c.toNat, (r, false)) := by
  rw [one1, show (c :: r, false) = (([c] ++ r : List UInt8), false) from rfl, tk_app keep [c] r (m := 1) rfl]; rfl
theorem text_app (keep : Bool) {s : List UInt8} (h : s.length ≤ 255) (r : List UInt8) : text1 keep (textL s ++ r, false) = (s, (r, false)) := by
  rw [text1, textL, List.cons_append, one_app1]
  exact tk_app keep s r (by rw [UInt8.toNat_ofNat']; omega)
theorem texts_app (keep : Bool) {l : List (List UInt8)} (h : ∀ s ∈ l, s.length ≤ 255) (r : List UInt8) : ∀ k, k ≤ l.length → texts keep k (l.flatMap textL ++ r, false) = (l.take k, ((l.drop k).flatMap textL ++ r, false))
  | 0, _ => by simp [texts]
  | k + 1, hk => by
    have hk' : k < l.length := hk
    have ih := texts_app keep h r k (by omega)
    rw [texts, ih]
    rw [List.drop_eq_getElem_cons hk', List.flatMap_cons, List.append_assoc]
    rw [text_app keep (h _ (List.getElem_mem hk')), List.take_succ_eq_append_getElem hk']
theorem ids_app (keep : Bool) {l : List (List UInt8)} (h : SN 16 l) (r : List UInt8) : ∀ k, k ≤ l.length → ids keep k (l.flatten ++ r, false) = (l.take k, ((l.drop k).flatten ++ r, false))
  | 0, _ => by simp [ids]
  | k + 1, hk => by
    have hk' : k < l.length := hk
    have ih := ids_app keep h r k (by omega)
    rw [ids, ih]
    rw [List.drop_eq_getElem_cons hk', List.flatten_cons, List.append_assoc]
    rw [tk_app keep _ _ (h _ (List.getElem_mem hk')), List.take_succ_eq_append_getElem hk']
def setF (x : BodyD) (i : Nat) (y : BV) : BV :=
  match i with
  | 0 => { y with tx := x.tx }
  | 1 => { y with mb := x.mb }
  | 2 => { y with ro := x.ro }
  | 3 => { y with lb := x.lb }
  | 4 => { y with cm := x.cm }
  | 5 => { y with ep := x.ep }
  | 6 => { y with pu := x.pu }
  | 7 => { y with re := x.re }
  | 8 => { y with ne := x.ne }
  | 9 => { y with ho := x.ho }
  | 10 => { y with ve := x.ve }
  | _ => { y with ct := x.ct }
theorem step_part {a : Nat} {x : BodyD} (h : BodyGood a x) (hx : BodyOk x) (keep : Bool) (i : Nat) (hi : 1 ≤ i) (hi2 : i < 12) (y : BV) (r : List UInt8) : stepP keep i (y, (part x i ++ r, false)) = (setF x i y, (r, false)) := by
  have hnum : ∀ z : Int, 0 ≤ z → z ≤ 255 → (((UInt8.ofNat z.toNat).toNat : Nat) : Int) = z := fun z h1 h2 => by rw [UInt8.toNat_ofNat']; omega
  have hrn := h.rn; have hhn := h.hn
  have hpu := h.pu; have hre := h.re; have hne := h.ne; have hve := h.ve; have hep := h.ep; have hct := h.ct
  match i, hi, hi2 with
  | 1, _, _ => simp only [stepP, part, setF, tk_app keep x.mb r hx.mb]
  | 2, _, _ =>
    have hn : (UInt8.ofNat x.ro.length).toNat = x.ro.length := by rw [UInt8.toNat_ofNat']; omega
    simp only [stepP, part, setF, List.cons_append, one_app1, hn]
    rw [texts_app keep (fun s hs => Nat.le_trans (h.roles s hs) (by decide)) r _ (Nat.le_refl _)]
    simp
  | 3, _, _ => simp only [stepP, part, setF, text_app keep (Nat.le_trans h.label (by decide)) r]
  | 4, _, _ => simp only [stepP, part, setF, tk_app keep x.cm r hx.cm]
  | 5, _, _ =>
    have hw : (word4 (octs (UInt32.ofNat x.ep.toNat))).toNat = x.ep := by rw [word_octs, UInt32.toNat_ofNat']; omega
    simp only [stepP, part, setF, tk_app keep _ r (octs_len _), hw]
  | 6, _, _ => simp only [stepP, part, setF, numX, List.cons_append, List.nil_append, one_app1, hnum x.pu hpu.1 (by omega)]
  | 7, _, _ => simp only [stepP, part, setF, numX, List.cons_append, List.nil_append, one_app1, hnum x.re hre.1 (by omega)]
  | 8, _, _ => simp only [stepP, part, setF, numX, List.cons_append, List.nil_append, one_app1, hnum x.ne hne.1 (by omega)]
  | 9, _, _ =>
    have hn : (UInt8.ofNat x.ho.length).toNat = x.ho.length := by rw [UInt8.toNat_ofNat']; omega
    simp only [stepP, part, setF, List.cons_append, one_app1, hn]
    rw [ids_app keep hx.h16 r _ (Nat.le_refl _)]
    simp
  | 10, _, _ => simp only [stepP, part, setF, numX, List.cons_append, List.nil_append, one_app1, hnum x.ve hve.1 (by omega)]
  | 11, _, _ =>
    have h8 : long8 (octs8 (UInt64.ofNat x.ct.toNat)) = UInt64.ofNat x.ct.toNat := long_octs _
    have h9 : (UInt64.ofNat x.ct.toNat).toNat = x.ct.toNat := by rw [UInt64.toNat_ofNat']; omega
    have hc : ctV keep (octs8 (UInt64.ofNat x.ct.toNat)) = x.ct := by
      cases keep
      · show sgN (natN (octs8 (UInt64.ofNat x.ct.toNat))) = x.ct
        rw [natN_8 (octs8_len _), h8, h9, sgN_small (by omega)]; omega
      · show (if 4611686018427387904 < (long8 (octs8 (UInt64.ofNat x.ct.toNat))).toNat then (65537 : Int) else (long8 (octs8 (UInt64.ofNat x.ct.toNat))).toNat) = x.ct
        rw [h8, h9, if_neg (by omega)]; omega
    simp only [stepP, part, setF, tk_app keep _ r (octs8_len _), hc]
theorem run_parts {a : Nat} {x : BodyD} (h : BodyGood a x) (hx : BodyOk x) (keep : Bool) : ∀ (l : List Nat) (y : BV), (∀ i ∈ l, 1 ≤ i ∧ i < 12) → runP keep l (y, (l.flatMap (part x), false)) = (l.foldl (fun y i => setF x i y) y, ([], false))
  | [], y, _ => rfl
  | i :: l, y, hl => by
    rw [List.flatMap_cons]
    show runP keep l (stepP keep i (y, (part x i ++ l.flatMap (part x), false))) = _
    rw [step_part h hx keep i (hl i (by simp)).1 (hl i (by simp)).2]
    exact run_parts h hx keep l _ fun j hj => hl j (by simp [hj])
theorem run_text (x : BodyD) (keep : Bool) : runP keep [0] (P0 (part x 0)) = (setF x 0 .zero, ([], false)) := by
  show stepP keep 0 (P0 (x.tx)) = _
  have := tk_app keep x.tx [] rfl
  rw [List.append_nil] at this
  simp only [stepP, P0, this, setF]
theorem all_set {a : Nat} {x : BodyD} (h : BodyGood a x) : (gt needT (a - 1)).foldl (fun y i => setF x i y) .zero = x.bv := by
  have h1 := h.a1; have h2 := h.a2
  have z : ∀ i, i < 12 → needF a i = false → setB x i = false := fun i hi hf => h.zero hi hf
  have z0 : needF a 0 = false → x.tx = [] := fun hf => Decidable.of_not_not (of_decide_eq_false (z 0 (by omega) hf))
  have z1 : needF a 1 = false → x.mb = List.replicate 16 0 := fun hf => Decidable.of_not_not (of_decide_eq_false (z 1 (by omega) hf))
  have z2 : needF a 2 = false → x.ro = [] := fun hf => List.eq_nil_of_length_eq_zero (by have := of_decide_eq_false (z 2 (by omega) hf); omega)
  have z3 : needF a 3 = false → x.lb = [] := fun hf => Decidable.of_not_not (of_decide_eq_false (z 3 (by omega) hf))
  have z4 : needF a 4 = false → x.cm = List.replicate 32 0 := fun hf => Decidable.of_not_not (of_decide_eq_false (z 4 (by omega) hf))
  have z5 : needF a 5 = false → x.ep = 0 := fun hf => Decidable.of_not_not (of_decide_eq_false (z 5 (by omega) hf))
  have z6 : needF a 6 = false → x.pu = 0 := fun hf => Decidable.of_not_not (of_decide_eq_false (z 6 (by omega) hf))
  have z7 : needF a 7 = false → x.re = 0 := fun hf => Decidable.of_not_not (of_decide_eq_false (z 7 (by omega) hf))
  have z8 : needF a 8 = false → x.ne = 0 := fun hf => Decidable.of_not_not (of_decide_eq_false (z 8 (by omega) hf))
  have z9 : needF a 9 = false → x.ho = [] := fun hf => List.eq_nil_of_length_eq_zero (by have := of_decide_eq_false (z 9 (by omega) hf); omega)
  have z10 : needF a 10 = false → x.ve = 0 := fun hf => Decidable.of_not_not (of_decide_eq_false (z 10 (by omega) hf))
  have z11 : needF a 11 = false → x.ct = 0 := fun hf => Decidable.of_not_not (of_decide_eq_false (z 11 (by omega) hf))
  have hc : a = 1 ∨ a = 2 ∨ a = 3 ∨ a = 4 ∨ a = 5 ∨ a = 6 ∨ a = 7 ∨ a = 8 ∨ a = 9 ∨ a = 10 ∨ a = 11 ∨ a = 12 := by omega
  clear z h1 h2
  rcases hc with rfl | rfl | rfl | rfl | rfl | rfl | rfl | rfl | rfl | rfl | rfl | rfl <;>
    simp [needF, needT, gt] at z0 z1 z2 z3 z4 z5 z6 z7 z8 z9 z10 z11 <;> simp [needT, gt, setF, BodyD.bv, BV.zero, *]
/-- What is printed is read back. -/
theorem read_back {a : Nat} {x : BodyD} (h : BodyGood a x) (hx : BodyOk x) (keep : Bool) : runA keep a (stage (needF a) x 11) = (x.bv, ([], false)) := by
  have h1 := h.a1; have h2 := h.a2
  rw [runA, stage_all h, ← all_set h]
  by_cases ha : a = 1
  · subst ha
    have := run_text x keep
    simpa [needT, gt] using this
  · exact run_parts h hx keep _ _ fun i hi => ⟨by have := (show ∀ a, a < 13 → 1 ≤ a → ¬ a = 1 → ∀ i ∈ gt needT (a - 1), 1 ≤ i by decide) a h2 h1 ha i hi; exact this, (idx_lt a h2 h1 i hi).1⟩
theorem pars_back {act : Int} {a : Nat} {x : BodyD} (ha : act = a) (h : BodyGood a x) (hx : BodyOk x) (hl : (stage (needF a) x 11).length ≤ 32768) (keep : Bool) : parsE keep act (stage (needF a) x 11) = 0 ∧ parsX keep act (stage (needF a) x 11) = x.bv := by
  subst ha
  have h1 := h.a1; have h2 := h.a2
  have hr : runA keep ((a : Int).toNat) (stage (needF a) x 11) = (x.bv, ([], false)) := by rw [Int.toNat_natCast]; exact read_back h hx keep
  have he : x.bv.e a = 0 := (bodyE_bv _ x).symm.trans (good_body h)
  have e : parsE keep (a : Int) (stage (needF a) x 11) = 0 := by
    rw [parsE, if_neg (by omega), if_neg (by omega), hr]
    simp [he]
  exact ⟨e, by rw [parsX, if_pos e, hr]⟩
theorem stage_max {a : Nat} {x : BodyD} (h : BodyGood a x) (hx : BodyOk x) : (stage (needF a) x 11).length ≤ 32768 := by
  have h1 := h.a1; have h2 := h.a2; have h3 := h.tx
  by_cases ha : a = 1
  · subst ha
    rw [stage_all h]
    have : (gt needT (1 - 1)).flatMap (part x) = x.tx := by simp [needT, gt, part]
    rw [this]; exact h3
  · have hf : needF a 0 = false := (show ∀ a, a < 13 → 1 ≤ a → ¬ a = 1 → needF a 0 = false by decide) a h2 h1 ha
    have ht : x.tx = [] := Decidable.of_not_not (of_decide_eq_false (h.zero (i := 0) (by omega) hf))
    have h4 : ∀ k, k ≤ 11 → (stage (needF a) x k).length ≤ x.tx.length + k * 2000 := by
      intro k
      induction k with
      | zero => intro _; rw [stage_0]; omega
      | succ k ih =>
        intro hk
        have h5 := ih (by omega)
        rw [stage_s (by omega), List.length_append]
        have h6 : (optP (needF a) x (gt ordL k)).length ≤ 2000 := by
          rw [optP]; split
          · exact part_len h hx ((show ∀ k, k < 11 → 1 ≤ gt ordL k by decide) k (by omega))
          · simp
        omega
    have := h4 11 (by omega)
    rw [ht] at this
    simp only [List.length_nil] at this
    omega
end Go.Kw
end
section
namespace Go.Kw
open Go.Lib
set_option linter.unusedVariables false
set_option linter.unusedSimpArgs false
section
variable {P : Program} {ρ : Operand → Value} {w : World} {dst : Option Tmp} {ty : TypeId} {pos : String} {aft : Array Edge} {g : Option (Nat × Bool)} {x y z : Operand} {T E : TypeId} {dE : TypeDesc} {sz bts : Nat} {zv : Value} {a : Option Addr}
theorem r_sl_hm {len cap h m : Nat} {u : Operand} (hT : P.underlying T = some (.slice E)) (hE : TI P E dE sz bts zv) (hx : ρ x = .slice a len cap) {k2 k3 : IntKind} (hz : ρ z = .int k2 (h : Int)) (hu : ρ u = .int k3 (m : Int)) (hhm : h ≤ m) (hc : m ≤ cap) :
    (execOp ρ ⟨dst, .slice T x none (some z) (some u), ty, pos, aft, g⟩).run P w = .ok (.value (.slice a h m)) w := by
  have e := sub_zero (a := a) (cap := m) (sz := sz)
  simp only [sub] at e
  simp [execOp, hx, hz, hu, Instr.sliceAt, Instr.slice, Instr.sliceBounds, run_underlying hT, run_sizeOf hE, bound_ok hc, bound_ok hhm]
  simpa using e
end
theorem tkV_t {l : List UInt8} {m : Nat} (h : m ≤ l.length) : tkV l m = l.take m := if_pos h
theorem tkV_f {l : List UInt8} {m : Nat} (h : l.length < m) : tkV l m = List.replicate m 0 := if_neg (by omega)
theorem tkR_t {k : Bool} {l : List UInt8} {m : Nat} (h : m ≤ l.length) : tkR k l m = l.drop m := if_pos h
theorem tkR_f {l : List UInt8} {m : Nat} (h : l.length < m) : tkR true l m = l := by rw [tkR, if_neg (by omega)]; rfl
theorem tkR_g {l : List UInt8} {m : Nat} (h : l.length < m) : tkR false l m = [] := by rw [tkR, if_neg (by omega)]; rfl
theorem tkS_t {l : List UInt8} {m : Nat} {sh : Bool} (h : m ≤ l.length) : tkS l m sh = sh := by rw [tkS, decide_eq_false (by omega), Bool.or_false]
theorem tkS_f {l : List UInt8} {m : Nat} {sh : Bool} (h : l.length < m) : tkS l m sh = true := by rw [tkS, decide_eq_true h, Bool.or_true]
theorem Row.rest {w : World} {a : Option Addr} {l : List UInt8} {c m : Nat} (h : Row w a (l.map b8)) (hc : l.length ≤ c) : Row w (Kw.sub a c m 1) ((l.drop m).map b8) := by
  have := h.sub (cap := c) (l := m) (sz := 1) (by rw [List.length_map]; omega)
  rwa [Nat.mul_one, ← List.map_drop] at this
theorem Row.head {w : World} {a : Option Addr} {l : List UInt8} {m : Nat} (h : Row w a (l.map b8)) : Row w a ((l.take m).map b8) := by
  have := h.take (n := m)
  rwa [← List.map_take] at this
theorem long_ct {l : List UInt8} (h : l.length = 8) : (¬ longE l 0 = 0 → ctV true l = 65537) ∧ (longE l 0 = 0 → ctV true l = (longV l 0 : Nat)) := by
  have hr : roomI l.length 0 8 = 0 := by rw [h]; decide
  have ht : takeL l 0 8 = l := by simp [takeL, hr]; rw [List.take_of_length_le (by omega)]
  unfold longV longE
  rw [if_pos hr, ht]
  show (_ → (if 4611686018427387904 < (long8 l).toNat then (65537 : Int) else (long8 l).toNat) = 65537) ∧ (_ → (if 4611686018427387904 < (long8 l).toNat then (65537 : Int) else (long8 l).toNat) = _)
  by_cases hb : 4611686018427387904 < (long8 l).toNat
  · rw [if_pos hb, if_pos hb]
    exact ⟨fun _ => rfl, fun h => absurd h (by decide)⟩
  · rw [if_neg hb, if_neg hb]
    exact ⟨fun h => absurd rfl h, fun _ => rfl⟩
end Go.Kw
end
