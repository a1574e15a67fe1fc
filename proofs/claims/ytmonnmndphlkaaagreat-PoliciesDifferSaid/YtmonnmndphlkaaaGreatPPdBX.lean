/- What the law's proof leans on. No condition. -/
import Derived.Test.YtmonnmndphlkaaaGreatPPdBM
import Derived.Test.YtmonnmndphlkaaaGreatPPdBV
section
namespace Go.Kw
set_option linter.unusedVariables false
set_option linter.unusedSimpArgs false
abbrev BQ := List (List UInt8) × Int × List UInt8 × Int
instance : Inhabited BQ := ⟨([], 0, [], 0)⟩
def bq (b : BQ) : WA := ⟨none, b.1, 0, b.2.1, b.2.2.1, b.2.2.2⟩
abbrev DB := Bool × Int × List UInt8
/-- What is decided: allowed, how many, of which role. -/
noncomputable def decB (rs : List RuleD) (b : BQ) : DB := Classical.epsilon fun d => ∃ ru, DecR rs (bq b).q d.1 ru d.2.1 d.2.2
theorem decR_b {rs : List RuleD} {x : WA} {al : Bool} {ru nd : Int} {fr : List UInt8} (h : DecR rs x.q al ru nd fr) : DecR rs (bq x.b).q al ru nd fr := h
theorem decB_of {rs : List RuleD} {x : WA} {al : Bool} {ru nd : Int} {fr : List UInt8} (h : DecR rs x.q al ru nd fr) : decB rs x.b = (al, nd, fr) := by
  have h1 : ∃ d : DB, ∃ ru, DecR rs (bq x.b).q d.1 ru d.2.1 d.2.2 := ⟨(al, nd, fr), ru, decR_b h⟩
  obtain ⟨ru2, h2⟩ := Classical.epsilon_spec h1
  obtain ⟨e1, _, e3, e4⟩ := dec_uniq h2 (decR_b h)
  exact Prod.ext e1 (Prod.ext e3 e4)
/-- An ask of a world is right. -/
structure WOk (x : WA) : Prop where
  ok : AskOk x.q
  t0 : 0 ≤ x.tm
  t1 : x.tm ≤ 1099511627776
theorem usort_sub {α : Type} [Inhabited α] [DecidableEq α] {le : α → α → Bool} {l : List α} {p : α → Prop} (h : ∀ x ∈ l, p x) : ∀ x ∈ usort le l, p x := fun x hx => h x (usort_mem.1 hx)
theorem roles_sz {w : World} {rs : List RuleD} (h : ∀ r ∈ rs, RuleAt w r) : ∀ s ∈ wR rs, s.length ≤ 9223372036854775807 := by
  refine usort_sub fun s hs => ?_
  unfold rolesIn at hs
  obtain ⟨r, hr, hm⟩ := List.mem_flatMap.1 hs
  unfold rolesR at hm
  rcases List.mem_append.1 hm with hm | hm
  · exact (h r hr).ok.rl s hm
  · split at hm
    · cases hm
    · rw [List.mem_singleton.1 hm]; exact (h r hr).ok.ol
theorem labs_sz {rs : List RuleD} (hok : ∀ r ∈ rs, ruleE r = 0) : ∀ s ∈ wL rs, s.length ≤ 33 := by
  refine usort_sub fun s hs => ?_
  unfold labsR at hs
  rcases List.mem_append.1 hs with hs | hs
  · simp only [List.mem_cons, List.not_mem_nil, or_false] at hs
    rcases hs with rfl | rfl <;> simp
  · obtain ⟨r, hr, hm⟩ := List.mem_flatMap.1 hs
    obtain ⟨x, hx, hm⟩ := List.mem_flatMap.1 hm
    have hp := headS_p (rule_las (hok r hr) x hx)
    unfold labsX at hm
    split at hm
    · have hm := (List.mem_filter.1 hm).1
      simp only [List.mem_cons, List.not_mem_nil, or_false] at hm
      rcases hm with rfl | rfl
      · omega
      · simp only [List.length_append, List.length_cons, List.length_nil]; omega
    · rename_i hsf
      rw [List.mem_singleton.1 hm]
      rw [headS_f (by simpa using hsf)] at hp
      omega
theorem setsL_in {R : List (List UInt8)} {x : List (List UInt8)} (h : x ∈ setsL R) : ∀ s ∈ x, s ∈ R := by
  have hp : ∀ i j, i < R.length → ∀ y ∈ pairsAt R i j, ∀ s ∈ y, s ∈ R := fun i j hi y hy s hs => by
    unfold pairsAt at hy
    obtain ⟨t, ht, rfl⟩ := List.mem_map.1 hy
    simp only [List.mem_cons, List.not_mem_nil, or_false] at hs
    rcases hs with rfl | rfl
    · exact gt_mem R i hi
    · exact List.mem_of_mem_drop (List.mem_of_mem_take ht)
  intro s hs
  unfold setsL setsB setsA at h
  rcases List.mem_append.1 h with h | h
  · rcases List.mem_append.1 h with h | h
    · rcases List.mem_append.1 h with h | h
      · rcases List.mem_append.1 h with h | h
        · rw [List.mem_singleton.1 h] at hs; cases hs
        · obtain ⟨t, ht, rfl⟩ := List.mem_map.1 h
          rw [List.mem_singleton.1 hs]; exact List.mem_of_mem_take ht
      · unfold pairsTo at h
        obtain ⟨i, hi, h⟩ := List.mem_flatMap.1 h
        exact hp i _ (List.mem_range.1 hi) x h s hs
    · unfold pairsAt at h
      rw [List.take_zero] at h; cases h
  · split at h
    · rw [List.mem_singleton.1 h] at hs; exact hs
    · cases h
theorem wok_of {w : World} {rs : List RuleD} {qs : List WA} (h : ∀ r ∈ rs, RuleAt w r) (hok : ∀ r ∈ rs, ruleE r = 0) (h100 : rs.length ≤ 100) (hb : qs.map WA.b = worldB (wL rs) (wH rs) (setsL (wR rs))) (hrc : ∀ q ∈ qs, q.ro.length ≤ q.rc) : ∀ q ∈ qs, WOk q := fun q hq => by
  have hm : q.b ∈ worldB (wL rs) (wH rs) (setsL (wR rs)) := by rw [← hb]; exact List.mem_map.2 ⟨q, hq, rfl⟩
  unfold worldB at hm
  obtain ⟨x, hx, hm⟩ := List.mem_flatMap.1 hm
  obtain ⟨k, hk, hm⟩ := List.mem_flatMap.1 hm
  obtain ⟨l, hl, hm⟩ := List.mem_flatMap.1 hm
  obtain ⟨z, hz, hz2⟩ := List.mem_map.1 hm
  have e1 : q.ro = x := (congrArg Prod.fst hz2).symm
  have e2 : q.act = ((k + 1 : Nat) : Int) := (congrArg (fun b : BQ => b.2.1) hz2).symm
  have e3 : q.lab = l := (congrArg (fun b : BQ => b.2.2.1) hz2).symm
  have e4 : q.tm = 3600 * z := (congrArg (fun b : BQ => b.2.2.2) hz2).symm
  have hk := List.mem_range.1 hk
  have hzr := wH_rng hok z hz
  have hls := labs_sz hok l hl
  have hro := asks_ro hb q hq
  have hR := wR_len hok h100
  refine ⟨⟨rfl, rfl, rfl, hrc q hq, ?_, ?_, ?_, ?_, ?_, ?_, ?_⟩, ?_, ?_⟩
  · show q.ro.length ≤ _; omega
  · show ∀ s ∈ q.ro, _
    rw [e1]
    exact fun s hs => roles_sz h s (setsL_in hx s hs)
  · show q.lab.length ≤ _; rw [e3]; omega
  · show _ ≤ q.act; rw [e2]; omega
  · show q.act ≤ _; rw [e2]; omega
  · show _ ≤ q.tm; rw [e4]; omega
  · show q.tm ≤ _; rw [e4]; omega
  · rw [e4]; omega
  · rw [e4]; omega
/-- What stops a comparison of two policies. -/
def comE (p q : List RuleD) : Int := if polE p = 0 then (if polE q = 0 then (if 100000 < wTot (p ++ q) then 5 else 0) else polE q) else polE p
theorem comE_p {p q : List RuleD} (h : ¬ polE p = 0) : comE p q = polE p := by unfold comE; rw [if_neg h]
theorem comE_q {p q : List RuleD} (h : polE p = 0) (h2 : ¬ polE q = 0) : comE p q = polE q := by unfold comE; rw [if_pos h, if_neg h2]
theorem comE_5 {p q : List RuleD} (h : polE p = 0) (h2 : polE q = 0) (h3 : 100000 < wTot (p ++ q)) : comE p q = 5 := by unfold comE; rw [if_pos h, if_pos h2, if_pos h3]
theorem comE_0 {p q : List RuleD} (h : polE p = 0) (h2 : polE q = 0) (h3 : wTot (p ++ q) ≤ 100000) : comE p q = 0 := by unfold comE; rw [if_pos h, if_pos h2, if_neg (by omega)]
theorem comE_z {p q : List RuleD} (h : comE p q = 0) : polE p = 0 ∧ polE q = 0 ∧ wTot (p ++ q) ≤ 100000 := by
  by_cases h1 : polE p = 0
  · by_cases h2 : polE q = 0
    · by_cases h3 : 100000 < wTot (p ++ q)
      · rw [comE_5 h1 h2 h3] at h; cases h
      · exact ⟨h1, h2, by omega⟩
    · rw [comE_q h1 h2] at h; exact absurd h h2
  · rw [comE_p h1] at h; exact absurd h h1
theorem pol_app {p q : List RuleD} (h : polE p = 0) (h2 : polE q = 0) (h3 : p.length ≤ 20) (h4 : q.length ≤ 20) : polE (p ++ q) = 0 := by
  refine polE_ok (by rw [List.length_append]; omega) fun i hi => ?_
  have hm := gt_mem (p ++ q) i hi
  rcases List.mem_append.1 hm with hm | hm
  · exact (polE_zero h).2 _ hm
  · exact (polE_zero h2).2 _ hm
def worldBs (rs : List RuleD) : List BQ := worldB (wL rs) (wH rs) (setsL (wR rs))
/-- p allows no more than q, nor for fewer. -/
def lessB (d e : DB) : Bool := !d.1 || (e.1 && decide (d.2.1 ≥ e.2.1))
theorem all_app {w : World} {p q : List RuleD} (h : ∀ r ∈ p, RuleAt w r) (h2 : ∀ r ∈ q, RuleAt w r) : ∀ r ∈ p ++ q, RuleAt w r := fun r hr => (List.mem_append.1 hr).elim (h r) (h2 r)
/-- p is as strict as q. -/
noncomputable def strictB (p q : List RuleD) (b : BQ) : Bool := lessB (decB p b) (decB q b)
theorem all_step {α : Type} [Inhabited α] {f : α → Bool} {l : List α} {i : Nat} (h : i < l.length) (h1 : (l.take i).all f = true) (h2 : f (gt l i) = true) : (l.take (i + 1)).all f = true := by
  rw [take_gt l i h, List.all_append, h1]; simp [h2]
theorem all_not {α : Type} [Inhabited α] {f : α → Bool} {l : List α} {i : Nat} (h : i < l.length) (h2 : f (gt l i) = false) : l.all f = false := by
  cases ha : l.all f with
  | false => rfl
  | true => rw [List.all_eq_true.1 ha _ (gt_mem l i h)] at h2; cases h2
theorem b_at {qs : List WA} {B : List BQ} (h : qs.map WA.b = B) {i : Nat} (hi : i < qs.length) : (gt qs i).b = gt B i := by
  subst h
  rw [gt_eq qs i hi, gt_eq _ i (by simpa using hi)]; simp
theorem b_len {qs : List WA} {B : List BQ} (h : qs.map WA.b = B) : B.length = qs.length := by rw [← h, List.length_map]
section
variable {P : Program} {ρ : Operand → Value} {w : World} {dst : Option Tmp} {ty : TypeId} {pos : String} {aft : Array Edge} {g : Option (Nat × Bool)} {x y : Operand} {T E : TypeId} {d dE : TypeDesc} {sz bts b2 : Nat} {zv z u v : Value} {k : IntKind} {cs : List Value}
theorem r_build2 {parts : Array (Nat × Operand)} (hZ : TI P T (.array 2 E) 2 bts (.agg #[u, v])) (hE : TI P E dE 1 b2 z) {u' v' : Value} (hp : parts.toList.map (fun x => (x.1, ρ x.2)) = [(0, .agg #[u']), (1, .agg #[v'])]) :
    (execOp ρ ⟨dst, .build T parts, ty, pos, aft, g⟩).run P w = .ok (.value (.agg #[u', v'])) w := by
  obtain ⟨i, hi, _, _, h3⟩ := hZ.info
  have hz : (zeroValue T).run P w = .ok (.agg #[u, v]) w := by simp [zeroValue, typeInfo, program, Sem.run, hi, h3]
  simp [execOp, Instr.build, hz, run_underlying hZ.und, run_sizeOf hE, hp, Instr.fill, Value.cells]
theorem r_indexA1 {m len : Nat} (h : P.underlying T = some (.array len E)) (hE : TI P E dE 1 bts zv) (hd : aggD dE = true) (hx : ρ x = .agg cs.toArray) (hy : ρ y = .int k (m : Int)) (hm : m < len) (hv : cs[m]? = some v) :
    (execOp ρ ⟨dst, .index T x y, ty, pos, aft, g⟩).run P w = .ok (.value (.agg #[v])) w := by
  obtain ⟨hl, he⟩ := List.getElem?_eq_some_iff.1 hv
  have e2 : List.take 1 (List.drop m cs) = [v] := by simp [List.drop_eq_getElem_cons hl, he]
  simp [execOp, hx, hy, Instr.index, asIntOf, run_underlying h, run_sizeOf hE, hm, part, run_isAgg hE.und, hd, e2]
end
theorem bool4 (a b : Bool) : (a = true ∧ b = true) ∨ (a = true ∧ b = false) ∨ a = false := by cases a <;> cases b <;> simp
theorem less_n {d e : DB} (h : d.1 = false) : lessB d e = true := by unfold lessB; rw [h]; rfl
theorem less_f {d e : DB} (h : d.1 = true) (h2 : e.1 = false) : lessB d e = false := by unfold lessB; rw [h, h2]; rfl
theorem less_lt {d e : DB} (h : d.1 = true) (h2 : e.1 = true) (h3 : d.2.1 < e.2.1) : lessB d e = false := by
  unfold lessB; rw [h, h2, decide_eq_false (by omega)]; rfl
theorem less_ge {d e : DB} (h : d.1 = true) (h2 : e.1 = true) (h3 : ¬ d.2.1 < e.2.1) : lessB d e = true := by
  unfold lessB; rw [h, h2, decide_eq_true (by omega)]; rfl
def zWA : WA := ⟨none, [], 0, 0, [], 0⟩
end Go.Kw
end
section
namespace Go.Kw
set_option linter.unusedVariables false
set_option linter.unusedSimpArgs false
/-- Of the first i, fi is the first that is not the same (or -1). -/
def FirstR (sm : Nat → Prop) (i : Nat) (fi : Int) : Prop := (fi = -1 ∧ ∀ j, j < i → sm j) ∨ ∃ j0 : Nat, fi = (j0 : Int) ∧ j0 < i ∧ (∀ j, j < j0 → sm j) ∧ ¬ sm j0
theorem first_0 (sm : Nat → Prop) : FirstR sm 0 (-1) := .inl ⟨rfl, fun j hj => absurd hj (Nat.not_lt_zero _)⟩
theorem first_same {sm : Nat → Prop} {i : Nat} {fi : Int} (h : FirstR sm i fi) (hs : sm i) : FirstR sm (i + 1) fi := by
  rcases h with ⟨h1, h2⟩ | ⟨j0, h1, h2, h3, h4⟩
  · exact .inl ⟨h1, fun j hj => (Nat.lt_succ_iff_lt_or_eq.1 hj).elim (h2 j) (fun e => e ▸ hs)⟩
  · exact .inr ⟨j0, h1, by omega, h3, h4⟩
theorem first_new {sm : Nat → Prop} {i : Nat} {fi : Int} (h : FirstR sm i fi) (hf : fi < 0) (hs : ¬ sm i) : FirstR sm (i + 1) (i : Int) := by
  rcases h with ⟨h1, h2⟩ | ⟨j0, h1, h2, h3, h4⟩
  · exact .inr ⟨i, rfl, by omega, h2, hs⟩
  · omega
theorem first_old {sm : Nat → Prop} {i : Nat} {fi : Int} (h : FirstR sm i fi) (hf : ¬ fi < 0) : FirstR sm (i + 1) fi := by
  rcases h with ⟨h1, h2⟩ | ⟨j0, h1, h2, h3, h4⟩
  · omega
  · exact .inr ⟨j0, h1, by omega, h3, h4⟩
theorem first_none {sm : Nat → Prop} {i : Nat} {fi : Int} (h : FirstR sm i fi) (ha : ∀ j, j < i → sm j) : fi = -1 := by
  rcases h with ⟨h1, _⟩ | ⟨j0, _, h2, _, h4⟩
  · exact h1
  · exact absurd (ha j0 h2) h4
theorem first_uniq {sm : Nat → Prop} {i i0 : Nat} {fi : Int} (h : FirstR sm i fi) (hi : i0 < i) (ha : ∀ j, j < i0 → sm j) (hn : ¬ sm i0) : fi = (i0 : Int) := by
  rcases h with ⟨_, h2⟩ | ⟨j0, h1, h2, h3, h4⟩
  · exact absurd (h2 i0 hi) hn
  · rcases Nat.lt_trichotomy j0 i0 with e | e | e
    · exact absurd (ha j0 e) h4
    · rw [h1, e]
    · exact absurd (h3 i0 e) hn
theorem all_succ {α : Type} [Inhabited α] {f : α → Bool} {l : List α} {i : Nat} (h : i < l.length) : (l.take (i + 1)).all f = ((l.take i).all f && f (gt l i)) := by
  rw [take_gt l i h, List.all_append]; simp
theorem bool8 (s a b : Bool) : s = false ∨ (s = true ∧ a = true ∧ b = true) ∨ (s = true ∧ a = true ∧ b = false) ∨ (s = true ∧ a = false) := by cases s <;> cases a <;> cases b <;> simp
theorem db_eq {d e : DB} (h1 : d.1 = e.1) (h2 : d.2.1 = e.2.1) (h3 : d.2.2 = e.2.2) : d = e := Prod.ext h1 (Prod.ext h2 h3)
theorem db_1 {d e : DB} (h : ¬ d.1 = e.1) : ¬ d = e := fun h' => h (by rw [h'])
theorem db_2 {d e : DB} (h : ¬ d.2.1 = e.2.1) : ¬ d = e := fun h' => h (by rw [h'])
theorem db_3 {d e : DB} (h : ¬ d.2.2 = e.2.2) : ¬ d = e := fun h' => h (by rw [h'])
end Go.Kw
end
