/- What the law's proof leans on. No condition. -/
import Derived.Test.YtjnnhlbfgnopiaaGreatDoorPAAR
import Derived.Test.YtjnnhlbfgnopiaaGreatDoorPAAQ
import Derived.Test.YtjnnhlbfgnopiaaGreatDoorPAAS
namespace Go.Kw
set_option linter.unusedVariables false
set_option linter.unusedSimpArgs false
instance : Inhabited RuleD := ⟨⟨false, none, [], 0, none, [], 0, none, [], 0, 0, 0, 0, []⟩⟩
theorem rule_v8 (r : RuleD) : r.v.length = 8 := rfl
/-- A rule's own lists lie in memory. -/
structure RuleAt (w : World) (r : RuleD) : Prop where
  ok : RuleOk r
  h1 : Row w r.ra (r.ro.map sv)
  h2 : Row w r.aa (r.acs.map iv)
  h3 : Row w r.la (r.las.map sv)
theorem RuleAt.st {w0 w : World} {L : List Item} {r : RuleD} (h : RuleAt w0 r) (hS : St w0 [] w L) : RuleAt w r := ⟨h.ok, h.h1.st hS, h.h2.st hS, h.h3.st hS⟩
theorem one_rule (r : RuleD) : One r.v := one_cons rfl (one_cons rfl (one_cons rfl (one_cons rfl (one_cons rfl (one_cons rfl (one_cons rfl (one_cons rfl one_nil)))))))
def firstErr : List RuleD → Int
  | [] => 0
  | r :: rs => if ruleE r = 0 then firstErr rs else ruleE r
/-- What is wrong with a policy. -/
def polE (rs : List RuleD) : Int := if 100 < rs.length then 5 else firstErr rs
theorem firstErr_at : ∀ (rs : List RuleD) (k : Nat), k < rs.length → (∀ i, i < k → ruleE (gt rs i) = 0) → ¬ ruleE (gt rs k) = 0 → firstErr rs = ruleE (gt rs k)
  | [], _, h, _, _ => by simp at h
  | r :: rs, 0, _, _, hk => by
    have : gt (r :: rs) 0 = r := rfl
    rw [this] at hk ⊢
    rw [firstErr, if_neg hk]
  | r :: rs, k + 1, h, hi, hk => by
    have h0 : ruleE r = 0 := hi 0 (by omega)
    rw [firstErr, if_pos h0]
    exact firstErr_at rs k (by simpa using h) (fun i hik => hi (i + 1) (by omega)) hk
theorem firstErr_no : ∀ (rs : List RuleD), (∀ i, i < rs.length → ruleE (gt rs i) = 0) → firstErr rs = 0
  | [], _ => rfl
  | r :: rs, h => by
    have h0 : ruleE r = 0 := h 0 (by simp)
    rw [firstErr, if_pos h0]
    exact firstErr_no rs (fun i hi => h (i + 1) (by simpa using hi))
theorem firstErr_all : ∀ (rs : List RuleD), firstErr rs = 0 → ∀ r ∈ rs, ruleE r = 0
  | [], _, _, h => by cases h
  | r :: rs, he, x, hx => by
    rw [firstErr] at he
    by_cases h0 : ruleE r = 0
    · rw [if_pos h0] at he
      rcases List.mem_cons.1 hx with rfl | hx
      · exact h0
      · exact firstErr_all rs he x hx
    · rw [if_neg h0] at he; exact absurd he h0
theorem polE_big {rs : List RuleD} (h : 100 < rs.length) : polE rs = 5 := by rw [polE, if_pos h]
theorem polE_at {rs : List RuleD} {k : Nat} (h : ¬ 100 < rs.length) (hk : k < rs.length) (hi : ∀ i, i < k → ruleE (gt rs i) = 0) (he : ¬ ruleE (gt rs k) = 0) : polE rs = ruleE (gt rs k) := by rw [polE, if_neg h, firstErr_at rs k hk hi he]
theorem polE_ok {rs : List RuleD} (h : ¬ 100 < rs.length) (hi : ∀ i, i < rs.length → ruleE (gt rs i) = 0) : polE rs = 0 := by rw [polE, if_neg h, firstErr_no rs hi]
theorem polE_zero {rs : List RuleD} (h : polE rs = 0) : rs.length ≤ 100 ∧ ∀ r ∈ rs, ruleE r = 0 := by
  by_cases hb : 100 < rs.length
  · rw [polE_big hb] at h; exact absurd h (by decide)
  · rw [polE, if_neg hb] at h
    exact ⟨by omega, firstErr_all rs h⟩
theorem ok_step {rs : List RuleD} {k : Nat} (h : ∀ i, i < k → ruleE (gt rs i) = 0) (hk : ruleE (gt rs k) = 0) : ∀ i, i < k + 1 → ruleE (gt rs i) = 0 := fun i hi => by
  by_cases e : i = k
  · rw [e]; exact hk
  · exact h i (by omega)
end Go.Kw
