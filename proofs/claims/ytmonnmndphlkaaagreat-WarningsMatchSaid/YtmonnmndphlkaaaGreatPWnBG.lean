/- What the law's proof leans on. No condition. -/
import Derived.Test.YtmonnmndphlkaaaGreatPWnAR
import Derived.Test.YtmonnmndphlkaaaGreatPWnBE
import Derived.Test.YtmonnmndphlkaaaGreatPWnBF
namespace Go.Kw
set_option linter.unusedVariables false
set_option linter.unusedSimpArgs false
instance : Inhabited RuleD := ⟨⟨false, none, [], 0, none, [], 0, none, [], 0, 0, 0, 0, []⟩⟩
theorem rule_v8 (r : RuleD) : r.v.length = 8 := rfl
/-- A rule's own lists lie in memory. -/
structure RuleAt (w : World) (r : RuleD) : Prop where
  ok : RuleOk r
  h1 : Row w r.ra (r.ro.map sv)
  h2 : Row w r.aa (r.acs.map iv)
  h3 : Row w r.la (r.las.map sv)
theorem RuleAt.st {w0 w : World} {L : List Item} {r : RuleD} (h : RuleAt w0 r) (hS : St w0 [] w L) : RuleAt w r := ⟨h.ok, h.h1.st hS, h.h2.st hS, h.h3.st hS⟩
theorem one_rule (r : RuleD) : One r.v := one_cons rfl (one_cons rfl (one_cons rfl (one_cons rfl (one_cons rfl (one_cons rfl (one_cons rfl (one_cons rfl one_nil)))))))
/-- A policy as an argument. -/
theorem opens_policy {P : Program} {w : World} {t : TypeId} {bts : Nat} (h : Opens P w t (fun y : Sl RuleD × Unit => [y.1.v] ++ []) (fun y => (Row w y.1.a (y.1.xs.flatMap RuleD.v) ∧ y.1.xs.length ≤ y.1.c ∧ y.1.c * bts ≤ 140737488351232 ∧ ∀ r ∈ y.1.xs, RuleOk r ∧ Row w r.ra (r.ro.map sv) ∧ Row w r.aa (r.acs.map iv) ∧ Row w r.la (r.las.map sv)) ∧ True)) :
    Opens P w t (fun y : Sl RuleD => [y.v]) (fun y => Row w y.a (y.xs.flatMap RuleD.v) ∧ y.xs.length ≤ y.c ∧ y.c * bts ≤ 140737488351232 ∧ ∀ r ∈ y.xs, RuleOk r ∧ Row w r.ra (r.ro.map sv) ∧ Row w r.aa (r.acs.map iv) ∧ Row w r.la (r.las.map sv)) :=
  h.to (fun y => y.1) (fun y => by simp) (fun y hy => hy.1)
def firstErr : List RuleD → Int
  | [] => 0
  | r :: rs => if ruleE r = 0 then firstErr rs else ruleE r
/-- What is wrong with a policy. -/
def polE (rs : List RuleD) : Int := if 100 < rs.length then 5 else firstErr rs
theorem firstErr_at : ∀ (rs : List RuleD) (k : Nat), k < rs.length → (∀ i, i < k → ruleE (gt rs i) = 0) → ¬ ruleE (gt rs k) = 0 → firstErr rs = ruleE (gt rs k)
  | [], _, h, _, _ => by simp at h
  | r :: rs, 0, _, _, hk => by
    have : gt (r :: rs) 0 = r := rfl
    rw [this] at hk ⊢
    rw [firstErr, if_neg hk]
  | r :: rs, k + 1, h, hi, hk => by
    have h0 : ruleE r = 0 := hi 0 (by omega)
    rw [firstErr, if_pos h0]
    exact firstErr_at rs k (by simpa using h) (fun i hik => hi (i + 1) (by omega)) hk
theorem firstErr_no : ∀ (rs : List RuleD), (∀ i, i < rs.length → ruleE (gt rs i) = 0) → firstErr rs = 0
  | [], _ => rfl
  | r :: rs, h => by
    have h0 : ruleE r = 0 := h 0 (by simp)
    rw [firstErr, if_pos h0]
    exact firstErr_no rs (fun i hi => h (i + 1) (by simpa using hi))
theorem firstErr_all : ∀ (rs : List RuleD), firstErr rs = 0 → ∀ r ∈ rs, ruleE r = 0
  | [], _, _, h => by cases h
  | r :: rs, he, x, hx => by
    rw [firstErr] at he
    by_cases h0 : ruleE r = 0
    · rw [if_pos h0] at he
      rcases List.mem_cons.1 hx with rfl | hx
      · exact h0
      · exact firstErr_all rs he x hx
    · rw [if_neg h0] at he; exact absurd he h0
theorem polE_big {rs : List RuleD} (h : 100 < rs.length) : polE rs = 5 := by rw [polE, if_pos h]
theorem polE_at {rs : List RuleD} {k : Nat} (h : ¬ 100 < rs.length) (hk : k < rs.length) (hi : ∀ i, i < k → ruleE (gt rs i) = 0) (he : ¬ ruleE (gt rs k) = 0) : polE rs = ruleE (gt rs k) := by rw [polE, if_neg h, firstErr_at rs k hk hi he]
theorem polE_ok {rs : List RuleD} (h : ¬ 100 < rs.length) (hi : ∀ i, i < rs.length → ruleE (gt rs i) = 0) : polE rs = 0 := by rw [polE, if_neg h, firstErr_no rs hi]
theorem polE_zero {rs : List RuleD} (h : polE rs = 0) : rs.length ≤ 100 ∧ ∀ r ∈ rs, ruleE r = 0 := by
  by_cases hb : 100 < rs.length
  · rw [polE_big hb] at h; exact absurd h (by decide)
  · rw [polE, if_neg hb] at h
    exact ⟨by omega, firstErr_all rs h⟩
theorem ok_step {rs : List RuleD} {k : Nat} (h : ∀ i, i < k → ruleE (gt rs i) = 0) (hk : ruleE (gt rs k) = 0) : ∀ i, i < k + 1 → ruleE (gt rs i) = 0 := fun i hi => by
  by_cases e : i = k
  · rw [e]; exact hk
  · exact h i (by omega)
/-- The cells of a decision. -/
def decV (al : Bool) (ru nd : Int) (fr : List UInt8) : List Value := [.bool al, iv ru, iv nd, sv fr]
/-- The best rule of the first k, none of which denies. -/
def BestR (rs : List RuleD) (q : AskD) (k : Nat) (b : Int) : Prop :=
  (∀ i, i < k → meetE (gt rs i) q = true → (gt rs i).dn = false) ∧
  ((b = -1 ∧ ∀ i, i < k → meetE (gt rs i) q = false) ∨
   ∃ j : Nat, b = (j : Int) ∧ j < k ∧ meetE (gt rs j) q = true ∧ (∀ i, i < k → meetE (gt rs i) q = true → (gt rs j).nd ≤ (gt rs i).nd) ∧ ∀ i, i < j → meetE (gt rs i) q = true → (gt rs j).nd < (gt rs i).nd)
theorem one_dec {al : Bool} {ru nd : Int} {fr : List UInt8} : One (decV al ru nd fr) := one_cons rfl (one_cons rfl (one_cons rfl (one_cons rfl one_nil)))
def DecR (rs : List RuleD) (q : AskD) (al : Bool) (ru nd : Int) (fr : List UInt8) : Prop :=
  (∃ i : Nat, i < rs.length ∧ meetE (gt rs i) q = true ∧ (gt rs i).dn = true ∧ (∀ j, j < i → meetE (gt rs j) q = true → (gt rs j).dn = false) ∧ al = false ∧ ru = (i : Int) ∧ nd = 0 ∧ fr = []) ∨
  (∃ b : Int, BestR rs q rs.length b ∧ ((b = -1 ∧ al = false ∧ ru = -1 ∧ nd = 0 ∧ fr = []) ∨ ∃ j : Nat, b = (j : Int) ∧ al = true ∧ ru = (j : Int) ∧ nd = (gt rs j).nd ∧ fr = (gt rs j).ofr))
theorem best_zero (rs : List RuleD) (q : AskD) : BestR rs q 0 (-1) := ⟨fun i hi => by omega, .inl ⟨rfl, fun i hi => by omega⟩⟩
theorem best_skip {rs : List RuleD} {q : AskD} {k : Nat} {b : Int} (h : BestR rs q k b) (hm : meetE (gt rs k) q = false) : BestR rs q (k + 1) b := by
  have key : ∀ i, i < k + 1 → meetE (gt rs i) q = true → i < k := fun i hi hm' => by
    by_cases e : i = k
    · subst e; rw [hm] at hm'; cases hm'
    · omega
  refine ⟨fun i hi hm' => h.1 i (key i hi hm') hm', ?_⟩
  rcases h.2 with ⟨h1, h2⟩ | ⟨j, h1, h2, h3, h4, h5⟩
  · refine .inl ⟨h1, fun i hi => ?_⟩
    by_cases e : i = k
    · rw [e]; exact hm
    · exact h2 i (by omega)
  · exact .inr ⟨j, h1, by omega, h3, fun i hi hm' => h4 i (key i hi hm') hm', h5⟩
theorem best_first {rs : List RuleD} {q : AskD} {k : Nat} (h : BestR rs q k (-1)) (hm : meetE (gt rs k) q = true) (hd : (gt rs k).dn = false) : BestR rs q (k + 1) (k : Int) := by
  have hno : ∀ i, i < k → meetE (gt rs i) q = false := by
    rcases h.2 with ⟨_, h2⟩ | ⟨j, h1, _⟩
    · exact h2
    · omega
  refine ⟨fun i hi hm' => ?_, .inr ⟨k, rfl, by omega, hm, fun i hi hm' => ?_, fun i hi hm' => by rw [hno i hi] at hm'; cases hm'⟩⟩
  · by_cases e : i = k
    · rw [e]; exact hd
    · rw [hno i (by omega)] at hm'; cases hm'
  · by_cases e : i = k
    · rw [e]; exact Int.le_refl _
    · rw [hno i (by omega)] at hm'; cases hm'
theorem best_keep {rs : List RuleD} {q : AskD} {k j : Nat} (h : BestR rs q k (j : Int)) (hd : (gt rs k).dn = false) (hn : ¬ (gt rs k).nd < (gt rs j).nd) : BestR rs q (k + 1) (j : Int) := by
  refine ⟨fun i hi hm' => ?_, ?_⟩
  · by_cases e : i = k
    · rw [e]; exact hd
    · exact h.1 i (by omega) hm'
  · rcases h.2 with ⟨h1, _⟩ | ⟨j', h1, h2, h3, h4, h5⟩
    · omega
    · obtain rfl : j = j' := by omega
      refine .inr ⟨j, rfl, by omega, h3, fun i hi hm' => ?_, h5⟩
      by_cases e : i = k
      · rw [e]; omega
      · exact h4 i (by omega) hm'
theorem best_new {rs : List RuleD} {q : AskD} {k j : Nat} (h : BestR rs q k (j : Int)) (hm : meetE (gt rs k) q = true) (hd : (gt rs k).dn = false) (hn : (gt rs k).nd < (gt rs j).nd) : BestR rs q (k + 1) (k : Int) := by
  rcases h.2 with ⟨h1, _⟩ | ⟨j', h1, h2, h3, h4, h5⟩
  · omega
  · obtain rfl : j = j' := by omega
    refine ⟨fun i hi hm' => ?_, .inr ⟨k, rfl, by omega, hm, fun i hi hm' => ?_, fun i hi hm' => ?_⟩⟩
    · by_cases e : i = k
      · rw [e]; exact hd
      · exact h.1 i (by omega) hm'
    · by_cases e : i = k
      · rw [e]; exact Int.le_refl _
      · have := h4 i (by omega) hm'; omega
    · have := h4 i hi hm'; omega
theorem best_or {rs : List RuleD} {q : AskD} {k : Nat} {b : Int} (h : BestR rs q k b) : b = -1 ∨ ∃ j : Nat, b = (j : Int) ∧ j < k := by
  rcases h.2 with ⟨h1, _⟩ | ⟨j, h1, h2, _⟩
  · exact .inl h1
  · exact .inr ⟨j, h1, h2⟩
end Go.Kw
