/- Rows of records; policies and what they decide. No condition. -/
import Derived.Test.YtafdmlpfgpaicaaAsk
import Derived.Test.YtafdmlpfgpaicaaMap
import Derived.Test.YtafdmlpfgpaicaaNum
namespace Go.Kw
set_option linter.unusedVariables false
set_option linter.unusedSimpArgs false
instance : Inhabited RuleD := ⟨⟨false, none, [], 0, none, [], 0, none, [], 0, 0, 0, 0, []⟩⟩
theorem rule_v8 (r : RuleD) : r.v.length = 8 := rfl
section
variable {P : Program} {ρ : Operand → Value} {w w0 : World} {M : List Nat} {L l1 l2 : List Item} {dst : Option Tmp} {ty : TypeId} {pos : String} {aft : Array Edge} {g : Option (Nat × Bool)} {x y z : Operand} {T T2 E I : TypeId} {v : Value} {k : IntKind}
  {d dE : TypeDesc} {sz bts b o : Nat} {zv : Value} {a : Option Addr} {cs C : List Value}
theorem flatM_gt {α : Type} [Inhabited α] {f : α → List Value} (hf : ∀ x, (f x).length = sz) {l : List α} {m : Nat} (hm : m < l.length) : ((l.flatMap f).drop (m * sz)).take sz = f (gt l m) := by
  apply List.ext_getElem?
  intro j
  by_cases hj : j < sz
  · rw [List.getElem?_take_of_lt hj, List.getElem?_drop, flatM_get hf l m j (gt l m) (by rw [gt_eq l m hm]; exact List.getElem?_eq_getElem hm) hj]
  · rw [List.getElem?_eq_none (by rw [List.length_take]; omega), List.getElem?_eq_none (by rw [hf]; omega)]
theorem r_ixF {α : Type} [Inhabited α] {f : α → List Value} {len cap m : Nat} {l : List α} (hf : ∀ x, (f x).length = sz) (h : P.underlying T = some (.slice E)) (hE : TI P E dE sz bts zv) (hx : ρ x = .slice a len cap) (hy : ρ y = .int k (m : Int)) (hr : Row w a (l.flatMap f)) (hl : l.length = len) (hm : m < len) (hz : 0 < sz) :
    (execOp ρ ⟨dst, .indexAddr T x y, ty, pos, aft, g⟩).run P w = .ok (.value (.pointer (a.map (·.add (m * sz))))) w :=
  r_ixS h hE hx hy hr hm (by rw [flatM_len hf, hl]; exact Nat.mul_lt_mul_of_pos_right hm hz)
theorem r_loadF {α : Type} [Inhabited α] {f : α → List Value} {m : Nat} {l : List α} (hf : ∀ x, (f x).length = sz) (h : TI P T d sz bts zv) (hd : aggD d = true) (hx : ρ x = .pointer (a.map (·.add (m * sz)))) (hr : Row w a (l.flatMap f)) (hm : m < l.length) (hz : 0 < sz) :
    (execOp ρ ⟨dst, .load T x, ty, pos, aft, g⟩).run P w = .ok (.value (.agg (f (gt l m)).toArray)) w := by
  have h1 : m * sz + sz ≤ l.length * sz := by rw [← Nat.succ_mul]; exact Nat.mul_le_mul_right _ hm
  rw [r_loadSA h hd hx hr hz (by rw [flatM_len hf]; exact h1), flatM_gt hf hm]
theorem r_fieldF {α : Type} [Inhabited α] {f : α → List Value} {i off m : Nat} {l : List α} (hf : ∀ x, (f x).length = sz) (h : FA P T i off) (hx : ρ x = .pointer (a.map (·.add (m * sz)))) (hr : Row w a (l.flatMap f)) (hm : m < l.length) (hz : 0 < sz) :
    (execOp ρ ⟨dst, .fieldAddr T x i, ty, pos, aft, g⟩).run P w = .ok (.value (.pointer (a.map (·.add (m * sz + off))))) w :=
  r_fieldR h hx hr (by rw [flatM_len hf]; have : 1 * 1 ≤ l.length * sz := Nat.mul_le_mul (by omega) hz; omega)
theorem r_loadFF {α : Type} [Inhabited α] {f : α → List Value} {m off : Nat} {l : List α} (hf : ∀ x, (f x).length = sz) (h : P.underlying T = some d) (hd : aggD d = false) (hx : ρ x = .pointer (a.map (·.add (m * sz + off)))) (hr : Row w a (l.flatMap f)) (hm : m < l.length) (ho : off < sz) (hv : (f (gt l m))[off]? = some v) :
    (execOp ρ ⟨dst, .load T x, ty, pos, aft, g⟩).run P w = .ok (.value v) w :=
  r_loadS1 h hd hx hr (by rw [flatM_get hf l m off (gt l m) (by rw [gt_eq l m hm]; exact List.getElem?_eq_getElem hm) ho]; exact hv)
end
/-- A rule's own lists lie in memory. -/
structure RuleAt (w : World) (r : RuleD) : Prop where
  ok : RuleOk r
  h1 : Row w r.ra (r.ro.map sv)
  h2 : Row w r.aa (r.acs.map iv)
  h3 : Row w r.la (r.las.map sv)
theorem RuleAt.st {w0 w : World} {L : List Item} {r : RuleD} (h : RuleAt w0 r) (hS : St w0 [] w L) : RuleAt w r := ⟨h.ok, h.h1.st hS, h.h2.st hS, h.h3.st hS⟩
theorem one_rule (r : RuleD) : One r.v := one_cons rfl (one_cons rfl (one_cons rfl (one_cons rfl (one_cons rfl (one_cons rfl (one_cons rfl (one_cons rfl one_nil)))))))
/-- A policy as an argument. -/
theorem opens_policy {P : Program} {w : World} {t : TypeId} {bts : Nat} (h : Opens P w t (fun y : Sl RuleD × Unit => [y.1.v] ++ []) (fun y => (Row w y.1.a (y.1.xs.flatMap RuleD.v) ∧ y.1.xs.length ≤ y.1.c ∧ y.1.c * bts ≤ 140737488351232 ∧ ∀ r ∈ y.1.xs, RuleOk r ∧ Row w r.ra (r.ro.map sv) ∧ Row w r.aa (r.acs.map iv) ∧ Row w r.la (r.las.map sv)) ∧ True)) :
    Opens P w t (fun y : Sl RuleD => [y.v]) (fun y => Row w y.a (y.xs.flatMap RuleD.v) ∧ y.xs.length ≤ y.c ∧ y.c * bts ≤ 140737488351232 ∧ ∀ r ∈ y.xs, RuleOk r ∧ Row w r.ra (r.ro.map sv) ∧ Row w r.aa (r.acs.map iv) ∧ Row w r.la (r.las.map sv)) :=
  h.to (fun y => y.1) (fun y => by simp) (fun y hy => hy.1)
def firstErr : List RuleD → Int
  | [] => 0
  | r :: rs => if ruleE r = 0 then firstErr rs else ruleE r
/-- What is wrong with a policy. -/
def polE (rs : List RuleD) : Int := if 100 < rs.length then 5 else firstErr rs
theorem firstErr_at : ∀ (rs : List RuleD) (k : Nat), k < rs.length → (∀ i, i < k → ruleE (gt rs i) = 0) → ¬ ruleE (gt rs k) = 0 → firstErr rs = ruleE (gt rs k)
  | [], _, h, _, _ => by simp at h
  | r :: rs, 0, _, _, hk => by
    have : gt (r :: rs) 0 = r := rfl
    rw [this] at hk ⊢
    rw [firstErr, if_neg hk]
  | r :: rs, k + 1, h, hi, hk => by
    have h0 : ruleE r = 0 := hi 0 (by omega)
    rw [firstErr, if_pos h0]
    exact firstErr_at rs k (by simpa using h) (fun i hik => hi (i + 1) (by omega)) hk
theorem firstErr_no : ∀ (rs : List RuleD), (∀ i, i < rs.length → ruleE (gt rs i) = 0) → firstErr rs = 0
  | [], _ => rfl
  | r :: rs, h => by
    have h0 : ruleE r = 0 := h 0 (by simp)
    rw [firstErr, if_pos h0]
    exact firstErr_no rs (fun i hi => h (i + 1) (by simpa using hi))
theorem firstErr_all : ∀ (rs : List RuleD), firstErr rs = 0 → ∀ r ∈ rs, ruleE r = 0
  | [], _, _, h => by cases h
  | r :: rs, he, x, hx => by
    rw [firstErr] at he
    by_cases h0 : ruleE r = 0
    · rw [if_pos h0] at he
      rcases List.mem_cons.1 hx with rfl | hx
      · exact h0
      · exact firstErr_all rs he x hx
    · rw [if_neg h0] at he; exact absurd he h0
theorem polE_big {rs : List RuleD} (h : 100 < rs.length) : polE rs = 5 := by rw [polE, if_pos h]
theorem polE_at {rs : List RuleD} {k : Nat} (h : ¬ 100 < rs.length) (hk : k < rs.length) (hi : ∀ i, i < k → ruleE (gt rs i) = 0) (he : ¬ ruleE (gt rs k) = 0) : polE rs = ruleE (gt rs k) := by rw [polE, if_neg h, firstErr_at rs k hk hi he]
theorem polE_ok {rs : List RuleD} (h : ¬ 100 < rs.length) (hi : ∀ i, i < rs.length → ruleE (gt rs i) = 0) : polE rs = 0 := by rw [polE, if_neg h, firstErr_no rs hi]
theorem polE_zero {rs : List RuleD} (h : polE rs = 0) : rs.length ≤ 100 ∧ ∀ r ∈ rs, ruleE r = 0 := by
  by_cases hb : 100 < rs.length
  · rw [polE_big hb] at h; exact absurd h (by decide)
  · rw [polE, if_neg hb] at h
    exact ⟨by omega, firstErr_all rs h⟩
theorem ok_step {rs : List RuleD} {k : Nat} (h : ∀ i, i < k → ruleE (gt rs i) = 0) (hk : ruleE (gt rs k) = 0) : ∀ i, i < k + 1 → ruleE (gt rs i) = 0 := fun i hi => by
  by_cases e : i = k
  · rw [e]; exact hk
  · exact h i (by omega)
/-- The cells of a decision. -/
def decV (al : Bool) (ru nd : Int) (fr : List UInt8) : List Value := [.bool al, iv ru, iv nd, sv fr]
/-- The best rule of the first k, none of which denies. -/
def BestR (rs : List RuleD) (q : AskD) (k : Nat) (b : Int) : Prop :=
  (∀ i, i < k → meetE (gt rs i) q = true → (gt rs i).dn = false) ∧
  ((b = -1 ∧ ∀ i, i < k → meetE (gt rs i) q = false) ∨
   ∃ j : Nat, b = (j : Int) ∧ j < k ∧ meetE (gt rs j) q = true ∧ (∀ i, i < k → meetE (gt rs i) q = true → (gt rs j).nd ≤ (gt rs i).nd) ∧ ∀ i, i < j → meetE (gt rs i) q = true → (gt rs j).nd < (gt rs i).nd)
theorem one_dec {al : Bool} {ru nd : Int} {fr : List UInt8} : One (decV al ru nd fr) := one_cons rfl (one_cons rfl (one_cons rfl (one_cons rfl one_nil)))
def DecR (rs : List RuleD) (q : AskD) (al : Bool) (ru nd : Int) (fr : List UInt8) : Prop :=
  (∃ i : Nat, i < rs.length ∧ meetE (gt rs i) q = true ∧ (gt rs i).dn = true ∧ (∀ j, j < i → meetE (gt rs j) q = true → (gt rs j).dn = false) ∧ al = false ∧ ru = (i : Int) ∧ nd = 0 ∧ fr = []) ∨
  (∃ b : Int, BestR rs q rs.length b ∧ ((b = -1 ∧ al = false ∧ ru = -1 ∧ nd = 0 ∧ fr = []) ∨ ∃ j : Nat, b = (j : Int) ∧ al = true ∧ ru = (j : Int) ∧ nd = (gt rs j).nd ∧ fr = (gt rs j).ofr))
theorem best_zero (rs : List RuleD) (q : AskD) : BestR rs q 0 (-1) := ⟨fun i hi => by omega, .inl ⟨rfl, fun i hi => by omega⟩⟩
theorem best_skip {rs : List RuleD} {q : AskD} {k : Nat} {b : Int} (h : BestR rs q k b) (hm : meetE (gt rs k) q = false) : BestR rs q (k + 1) b := by
  have key : ∀ i, i < k + 1 → meetE (gt rs i) q = true → i < k := fun i hi hm' => by
    by_cases e : i = k
    · subst e; rw [hm] at hm'; cases hm'
    · omega
  refine ⟨fun i hi hm' => h.1 i (key i hi hm') hm', ?_⟩
  rcases h.2 with ⟨h1, h2⟩ | ⟨j, h1, h2, h3, h4, h5⟩
  · refine .inl ⟨h1, fun i hi => ?_⟩
    by_cases e : i = k
    · rw [e]; exact hm
    · exact h2 i (by omega)
  · exact .inr ⟨j, h1, by omega, h3, fun i hi hm' => h4 i (key i hi hm') hm', h5⟩
theorem best_first {rs : List RuleD} {q : AskD} {k : Nat} (h : BestR rs q k (-1)) (hm : meetE (gt rs k) q = true) (hd : (gt rs k).dn = false) : BestR rs q (k + 1) (k : Int) := by
  have hno : ∀ i, i < k → meetE (gt rs i) q = false := by
    rcases h.2 with ⟨_, h2⟩ | ⟨j, h1, _⟩
    · exact h2
    · omega
  refine ⟨fun i hi hm' => ?_, .inr ⟨k, rfl, by omega, hm, fun i hi hm' => ?_, fun i hi hm' => by rw [hno i hi] at hm'; cases hm'⟩⟩
  · by_cases e : i = k
    · rw [e]; exact hd
    · rw [hno i (by omega)] at hm'; cases hm'
  · by_cases e : i = k
    · rw [e]; exact Int.le_refl _
    · rw [hno i (by omega)] at hm'; cases hm'
theorem best_keep {rs : List RuleD} {q : AskD} {k j : Nat} (h : BestR rs q k (j : Int)) (hd : (gt rs k).dn = false) (hn : ¬ (gt rs k).nd < (gt rs j).nd) : BestR rs q (k + 1) (j : Int) := by
  refine ⟨fun i hi hm' => ?_, ?_⟩
  · by_cases e : i = k
    · rw [e]; exact hd
    · exact h.1 i (by omega) hm'
  · rcases h.2 with ⟨h1, _⟩ | ⟨j', h1, h2, h3, h4, h5⟩
    · omega
    · obtain rfl : j = j' := by omega
      refine .inr ⟨j, rfl, by omega, h3, fun i hi hm' => ?_, h5⟩
      by_cases e : i = k
      · rw [e]; omega
      · exact h4 i (by omega) hm'
theorem best_new {rs : List RuleD} {q : AskD} {k j : Nat} (h : BestR rs q k (j : Int)) (hm : meetE (gt rs k) q = true) (hd : (gt rs k).dn = false) (hn : (gt rs k).nd < (gt rs j).nd) : BestR rs q (k + 1) (k : Int) := by
  rcases h.2 with ⟨h1, _⟩ | ⟨j', h1, h2, h3, h4, h5⟩
  · omega
  · obtain rfl : j = j' := by omega
    refine ⟨fun i hi hm' => ?_, .inr ⟨k, rfl, by omega, hm, fun i hi hm' => ?_, fun i hi hm' => ?_⟩⟩
    · by_cases e : i = k
      · rw [e]; exact hd
      · exact h.1 i (by omega) hm'
    · by_cases e : i = k
      · rw [e]; exact Int.le_refl _
      · have := h4 i (by omega) hm'; omega
    · have := h4 i hi hm'; omega
theorem best_or {rs : List RuleD} {q : AskD} {k : Nat} {b : Int} (h : BestR rs q k b) : b = -1 ∨ ∃ j : Nat, b = (j : Int) ∧ j < k := by
  rcases h.2 with ⟨h1, _⟩ | ⟨j, h1, h2, _⟩
  · exact .inl h1
  · exact .inr ⟨j, h1, h2⟩
/-- What a decision comes to hangs on the rules, not on their order. -/
theorem dec_perm {rs rs' : List RuleD} {q : AskD} {al al' : Bool} {ru ru' nd nd' : Int} {fr fr' : List UInt8} (hp : ∀ r, r ∈ rs ↔ r ∈ rs') (h : DecR rs q al ru nd fr) (h' : DecR rs' q al' ru' nd' fr') : al = al' ∧ nd = nd' ∧ (ru < 0 ↔ ru' < 0) := by
  have toM : ∀ {l : List RuleD} {i : Nat}, i < l.length → gt l i ∈ l := fun h => gt_mem _ _ h
  have ofM : ∀ {l : List RuleD} {r : RuleD}, r ∈ l → ∃ i, i < l.length ∧ gt l i = r := fun {l r} h => by
    obtain ⟨i, hi, e⟩ := List.mem_iff_getElem.1 h
    exact ⟨i, hi, by rw [gt_eq l i hi, e]⟩
  have mv : ∀ {l l' : List RuleD} (hp : ∀ r, r ∈ l ↔ r ∈ l') {i : Nat}, i < l.length → ∃ j, j < l'.length ∧ gt l' j = gt l i := fun {l l'} hp {i} hi => ofM ((hp _).1 (toM hi))
  rcases h with ⟨i, hi, hm, hd, _, rfl, rfl, rfl, rfl⟩ | ⟨b, hb, hc⟩
  · obtain ⟨i2, hi2, e2⟩ := mv hp hi
    rcases h' with ⟨j, _, _, _, _, rfl, rfl, rfl, rfl⟩ | ⟨b', hb', _⟩
    · exact ⟨rfl, rfl, by omega⟩
    · have := hb'.1 i2 hi2 (by rw [e2]; exact hm)
      rw [e2, hd] at this; cases this
  · rcases h' with ⟨j, hj, hm', hd', _⟩ | ⟨b', hb', hc'⟩
    · obtain ⟨j2, hj2, e2⟩ := mv (fun r => (hp r).symm) hj
      have := hb.1 j2 hj2 (by rw [e2]; exact hm')
      rw [e2, hd'] at this; cases this
    · rcases hb.2 with ⟨hb1, hb2⟩ | ⟨j, hj1, hj2, hj3, hj4, _⟩
      · rcases hb'.2 with ⟨hb1', hb2'⟩ | ⟨j', hj1', hj2', hj3', _⟩
        · rcases hc with ⟨_, rfl, rfl, rfl, rfl⟩ | ⟨j, h1, _⟩
          · rcases hc' with ⟨_, rfl, rfl, rfl, rfl⟩ | ⟨j', h1', _⟩
            · exact ⟨rfl, rfl, Iff.rfl⟩
            · omega
          · omega
        · obtain ⟨i2, hi2, e2⟩ := mv (fun r => (hp r).symm) hj2'
          have := hb2 i2 hi2
          rw [e2, hj3'] at this; cases this
      · rcases hb'.2 with ⟨hb1', hb2'⟩ | ⟨j', hj1', hj2', hj3', hj4', _⟩
        · obtain ⟨i2, hi2, e2⟩ := mv hp hj2
          have := hb2' i2 hi2
          rw [e2, hj3] at this; cases this
        · rcases hc with ⟨h1, _⟩ | ⟨jj, h1, rfl, rfl, rfl, rfl⟩
          · omega
          · rcases hc' with ⟨h1', _⟩ | ⟨jj', h1', rfl, rfl, rfl, rfl⟩
            · omega
            · obtain rfl : j = jj := by omega
              obtain rfl : j' = jj' := by omega
              obtain ⟨a2, ha2, e2⟩ := mv hp hj2
              obtain ⟨b2, hb2, e3⟩ := mv (fun r => (hp r).symm) hj2'
              have h3 := hj4 b2 hb2 (by rw [e3]; exact hj3')
              have h4 := hj4' a2 ha2 (by rw [e2]; exact hj3)
              rw [e3] at h3
              rw [e2] at h4
              exact ⟨rfl, by omega, by omega⟩
end Go.Kw
