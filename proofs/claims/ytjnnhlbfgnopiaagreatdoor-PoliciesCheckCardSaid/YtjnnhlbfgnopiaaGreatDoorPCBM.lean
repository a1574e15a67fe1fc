/- What the law's proof leans on. No condition. -/
import Derived.Test.YtjnnhlbfgnopiaaGreatDoorPCBD
import Derived.Lib.Join
namespace Go.Kw
set_option linter.unusedVariables false
set_option linter.unusedSimpArgs false
open Go.Lib
def partL (k : List UInt8) (l : Ws) : Ws := if l = [] then [] else k :: l
def actWd (n : Int) : List UInt8 := gt actW (n - 1).toNat
def begL (r : RuleD) : Ws := [if r.dn = true then kDENY else kALLOW]
def atL (r : RuleD) : Ws := if r.fr = r.to then [] else [kAT, itoa r.fr ++ [45] ++ itoa r.to]
def ndL (r : RuleD) : Ws := if 0 < r.nd then [kNEED, itoa r.nd, r.ofr] else []
def ruleW (r : RuleD) : Ws := begL r ++ partL kROLE r.ro ++ partL kACT (r.acs.map actWd) ++ partL kON r.las ++ atL r ++ ndL r
def ruleTx (r : RuleD) : List UInt8 := join (ruleW r) [32]
def polTx (rs : List RuleD) : List UInt8 := rs.flatMap fun r => ruleTx r ++ [10]
theorem partL_nil (k : List UInt8) : partL k [] = [] := rfl
theorem partL_cons {k : List UInt8} {l : Ws} (h : 0 < l.length) : partL k l = k :: l := by
  unfold partL; rw [if_neg (fun e => by rw [e] at h; exact absurd h (by decide))]
theorem partL_0 {k : List UInt8} {l : Ws} (h : ¬ 0 < l.length) : partL k l = [] := by
  rw [List.eq_nil_of_length_eq_zero (show l.length = 0 by omega)]; rfl
theorem partL_len (k : List UInt8) (l : Ws) : (partL k l).length ≤ l.length + 1 := by
  unfold partL; split <;> simp
/-- One more act. -/
theorem acts_snoc {acs : List Int} {i : Nat} (hi : i < acs.length) : partL kACT ((acs.take (i + 1)).map actWd) = partL kACT ((acs.take i).map actWd) ++ (if i = 0 then [kACT, actWd (gt acs i)] else [actWd (gt acs i)]) := by
  rw [take_gt acs i hi, List.map_append]
  by_cases h : i = 0
  · subst h; rw [if_pos rfl]; rfl
  · rw [if_neg h, partL_cons (by simp), partL_cons (l := (acs.take i).map actWd) (by rw [List.length_map, List.length_take]; omega)]; rfl
theorem itoa_small {n : Int} (h0 : 0 ≤ n) (h : n < 1000) : (itoa n).length ≤ 3 := by
  obtain ⟨u, rfl⟩ : ∃ u : Nat, n = (u : Int) := ⟨n.toNat, by omega⟩
  have := (num_of_itoa (n := u) (by omega)).1
  unfold numOk at this
  simp only [Bool.and_eq_true, decide_eq_true_eq] at this
  exact this.2.1
structure Tidy (r : RuleD) : Prop where
  l1 : r.ro.length ≤ 16
  l2 : r.acs.length ≤ 16
  l3 : r.las.length ≤ 16
  n1 : ∀ s ∈ r.ro, s.length ≤ 33
  a1 : ∀ n ∈ r.acs, 1 ≤ n ∧ n ≤ 12
  n3 : ∀ s ∈ r.las, s.length ≤ 33
  n4 : r.ofr.length ≤ 33
  f : 0 ≤ r.fr ∧ r.fr ≤ 24
  t : 0 ≤ r.to ∧ r.to ≤ 24
  e : r.fr = r.to → r.fr = 0
  d : 0 ≤ r.nd ∧ r.nd ≤ 16
theorem nameE_33 {s : List UInt8} (h : nameE s = true) : s.length ≤ 33 := Nat.le_succ_of_le (nameE_len h)
theorem patE_len {s : List UInt8} (h : patE s = true) : s.length ≤ 33 := by
  unfold patE at h
  have key : (headS s).length ≤ 32 → s.length ≤ 33 := fun h => by
    unfold headS at h
    split at h
    · rw [List.length_take] at h; omega
    · omega
  rcases Bool.or_eq_true_iff.1 h with h | h
  · have : (headS s).length ≤ 32 := by
      unfold nameE at h
      simp only [Bool.and_eq_true, decide_eq_true_eq] at h
      omega
    exact key this
  · simp only [Bool.and_eq_true, decide_eq_true_eq] at h
    exact key (by rw [h.2]; exact Nat.zero_le _)
theorem tidy_of {r : RuleD} (h : ruleE r = 0) : Tidy r := by
  unfold ruleE at h
  split at h
  · cases h
  split at h
  · cases h
  split at h
  · cases h
  split at h
  · cases h
  split at h
  · cases h
  split at h
  · cases h
  rename_i g1 g2 g3 g4 g5 g6
  refine ⟨by omega, by omega, by omega, fun s hs => ?_, fun n hn => ?_, fun s hs => ?_, ?_, by omega, by omega, fun e => by omega, by omega⟩
  · apply nameE_33
    cases hb : nameE s with
    | true => rfl
    | false => exact absurd (.inl (List.any_eq_true.2 ⟨s, hs, by rw [hb]; rfl⟩)) g2
  · apply Classical.byContradiction
    intro hb
    exact g3 (List.any_eq_true.2 ⟨n, hn, decide_eq_true (by omega)⟩)
  · apply patE_len
    cases hb : patE s with
    | true => rfl
    | false => exact absurd (List.any_eq_true.2 ⟨s, hs, by rw [hb]; rfl⟩) g4
  · by_cases he : r.ofr = []
    · rw [he]; exact Nat.zero_le _
    · apply nameE_33
      cases hb : nameE r.ofr with
      | true => rfl
      | false => exact absurd (.inr ⟨he, hb⟩) g2
theorem actWd_le (n : Int) : (actWd n).length ≤ 33 := by
  unfold actWd
  by_cases h : (n - 1).toNat < actW.length
  · have := gt_mem actW (n - 1).toNat h
    have hall : ∀ s ∈ actW, s.length ≤ 33 := by decide
    exact hall _ this
  · have : gt actW (n - 1).toNat = [] := by unfold gt; rw [List.getD_eq_getElem?_getD, List.getElem?_eq_none (Nat.le_of_not_lt h)]; rfl
    rw [this]; exact Nat.zero_le _
/-- No word of a rule is long, and they are few. -/
theorem ruleW_le {r : RuleD} (h : Tidy r) : (ruleW r).length ≤ 57 ∧ ∀ s ∈ ruleW r, s.length ≤ 33 := by
  constructor
  · unfold ruleW begL
    have h1 := partL_len kROLE r.ro
    have h2 := partL_len kACT (r.acs.map actWd)
    have h3 := partL_len kON r.las
    have h4 : (atL r).length ≤ 2 := by unfold atL; split <;> simp
    have h5 : (ndL r).length ≤ 3 := by unfold ndL; split <;> simp
    have := h.l1; have := h.l2; have := h.l3
    rw [List.length_map] at h2
    simp only [List.length_append, List.length_singleton]
    omega
  · intro s hs
    have hp : ∀ (k : List UInt8) (l : Ws), k.length ≤ 33 → (∀ x ∈ l, x.length ≤ 33) → s ∈ partL k l → s.length ≤ 33 := fun k l hk hl hm => by
      unfold partL at hm
      split at hm
      · cases hm
      · rcases List.mem_cons.1 hm with rfl | hm
        · exact hk
        · exact hl s hm
    unfold ruleW at hs
    simp only [List.mem_append] at hs
    rcases hs with ((((hs | hs) | hs) | hs) | hs) | hs
    · unfold begL at hs
      rw [List.mem_singleton.1 hs]
      split <;> decide
    · exact hp _ _ (by decide) h.n1 hs
    · exact hp _ _ (by decide) (fun x hx => by obtain ⟨n, _, rfl⟩ := List.mem_map.1 hx; exact actWd_le n) hs
    · exact hp _ _ (by decide) h.n3 hs
    · unfold atL at hs
      split at hs
      · cases hs
      · have h1 := itoa_small h.f.1 (by have := h.f.2; omega)
        have h2 := itoa_small h.t.1 (by have := h.t.2; omega)
        rcases List.mem_cons.1 hs with rfl | hs
        · decide
        · rw [List.mem_singleton.1 hs]; simp only [List.length_append, List.length_singleton]; omega
    · unfold ndL at hs
      split at hs
      · have h1 := itoa_small h.d.1 (by have := h.d.2; omega)
        simp only [List.mem_cons, List.not_mem_nil, or_false] at hs
        rcases hs with rfl | rfl | rfl
        · decide
        · omega
        · exact h.n4
      · cases hs
theorem join_le (b : Nat) (sep : List UInt8) : ∀ l : Ws, (∀ s ∈ l, s.length ≤ b) → (join l sep).length ≤ l.length * (b + sep.length)
  | [], _ => by simp [join_nil]
  | [x], h => by
    have := h x (by simp)
    rw [join_one]; simp; omega
  | x :: y :: l, h => by
    have ih := join_le b sep (y :: l) (fun s hs => h s (List.mem_cons_of_mem _ hs))
    have hx := h x (by simp)
    have e : join (x :: y :: l) sep = x ++ sep ++ join (y :: l) sep := by rw [join_cons, join_cons]; simp [joinTail]
    rw [e]
    simp only [List.length_append, List.length_cons] at ih ⊢
    rw [Nat.succ_mul]
    omega
theorem ruleTx_le {r : RuleD} (h : Tidy r) : (ruleTx r).length ≤ 1938 := by
  have h1 := ruleW_le h
  have h2 := join_le 33 [32] (ruleW r) h1.2
  have h3 : (ruleW r).length * (33 + 1) ≤ 57 * 34 := Nat.mul_le_mul_right _ h1.1
  unfold ruleTx
  simp only [List.length_singleton] at h2
  omega
theorem polTx_le : ∀ {rs : List RuleD}, (∀ r ∈ rs, Tidy r) → (polTx rs).length ≤ rs.length * 1939
  | [], _ => by simp [polTx]
  | r :: rs, h => by
    have ih := polTx_le (rs := rs) (fun q hq => h q (List.mem_cons_of_mem _ hq))
    have h1 := ruleTx_le (h r (by simp))
    unfold polTx at ih ⊢
    rw [List.flatMap_cons]
    have e : (polTx rs).length = (rs.flatMap fun r => ruleTx r ++ [10]).length := rfl
    simp only [List.length_append, List.length_cons, List.length_nil]
    have e2 : (rs.length + 1) * 1939 = rs.length * 1939 + 1939 := Nat.succ_mul _ _
    generalize (rs.flatMap fun r => ruleTx r ++ [10]).length = z at ih ⊢
    omega
theorem polTx_step {rs : List RuleD} {k : Nat} (hk : k < rs.length) : polTx (rs.take (k + 1)) = polTx (rs.take k) ++ (ruleTx (gt rs k) ++ [10]) := by
  rw [take_gt rs k hk, polTx, List.flatMap_append]; simp [polTx]
theorem begL_t {r : RuleD} (h : r.dn = true) : begL r = [kDENY] := by unfold begL; rw [if_pos h]
theorem begL_f {r : RuleD} (h : r.dn = false) : begL r = [kALLOW] := by unfold begL; rw [if_neg (by rw [h]; decide)]
theorem atL_t {r : RuleD} (h : ¬ r.fr = r.to) : atL r = [kAT, itoa r.fr ++ [45] ++ itoa r.to] := if_neg h
theorem atL_f {r : RuleD} (h : r.fr = r.to) : atL r = [] := if_pos h
theorem ndL_t {r : RuleD} (h : 0 < r.nd) : ndL r = [kNEED, itoa r.nd, r.ofr] := if_pos h
theorem ndL_f {r : RuleD} (h : ¬ 0 < r.nd) : ndL r = [] := if_neg h
end Go.Kw
