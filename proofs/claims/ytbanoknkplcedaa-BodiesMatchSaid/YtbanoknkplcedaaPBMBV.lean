/- What the law's proof leans on. No condition. -/
import Derived.Test.YtbanoknkplcedaaPBMBT
namespace Go.Kw
open Go.Lib
set_option linter.unusedVariables false
set_option linter.unusedSimpArgs false
/-- What the reference has read when k letters are done. -/
def rq (a : Nat) (l : List UInt8) (k : Nat) : BV × Rd := runP false ((gt needT (a - 1)).take k) (P0 l)
theorem rq_0 (a : Nat) (l : List UInt8) : rq a l 0 = P0 l := by simp [rq, runP]
theorem rq_s {a k i : Nat} (l : List UInt8) (hk : k < (gt needT (a - 1)).length) (hi : gt (gt needT (a - 1)) k = i) : rq a l (k + 1) = stepP false i (rq a l k) := by
  rw [rq, rq, List.take_succ_eq_append_getElem hk, ← gt_eq _ _ hk, hi, runP, runP, List.foldl_append]; rfl
theorem rq_all {a k : Nat} (l : List UInt8) (hk : (gt needT (a - 1)).length ≤ k) : rq a l k = runA false a l := by rw [rq, runA, List.take_of_length_le hk]
theorem stepP_rest (keep : Bool) (i : Nat) (q : BV × Rd) : (stepP keep i q).2.1.length ≤ q.2.1.length := by
  have hone := one1_rest keep q.2
  have tks := fun m => tk_le keep q.2 m
  unfold stepP
  split
  · exact tks _
  · exact tks _
  · exact Nat.le_trans (texts_rest _ _ _) hone
  · exact text1_rest _ _
  · exact tks _
  · exact tks _
  · exact hone
  · exact hone
  · exact hone
  · exact Nat.le_trans (ids_rest _ _ _) hone
  · exact hone
  · exact tks _
theorem runP_rest (keep : Bool) : ∀ (l : List Nat) (q : BV × Rd), (runP keep l q).2.1.length ≤ q.2.1.length
  | [], _ => Nat.le_refl _
  | i :: l, q => Nat.le_trans (runP_rest keep l (stepP keep i q)) (stepP_rest keep i q)
theorem rq_rest (a : Nat) (l : List UInt8) (k : Nat) : (rq a l k).2.1.length ≤ l.length := runP_rest false _ (P0 l)
theorem rq_ok (a : Nat) {l : List UInt8} (h : l.length ≤ 140737488355328) (k : Nat) : BVok (rq a l k).1 := runP_ok _ BVok.zero h
/-- The lists are read once. -/
theorem rq_ro {a k : Nat} (l : List UInt8) (h1 : 1 ≤ a) (h2 : a < 13) (hk : k < (gt needT (a - 1)).length) (hi : gt (gt needT (a - 1)) k = 2) : (rq a l k).1.ro = [] := by
  have := (show ∀ a, a < 13 → 1 ≤ a → ∀ k, k < (gt needT (a - 1)).length → gt (gt needT (a - 1)) k = 2 → a = 2 ∧ k = 1 by decide) a h2 h1 k hk hi
  obtain ⟨rfl, rfl⟩ := this
  rfl
theorem rq_ho {a k : Nat} (l : List UInt8) (h1 : 1 ≤ a) (h2 : a < 13) (hk : k < (gt needT (a - 1)).length) (hi : gt (gt needT (a - 1)) k = 9) : (rq a l k).1.ho = [] := by
  have := (show ∀ a, a < 13 → 1 ≤ a → ∀ k, k < (gt needT (a - 1)).length → gt (gt needT (a - 1)) k = 9 → a + k = 10 ∧ 9 ≤ a by decide) a h2 h1 k hk hi
  rcases (show (a = 9 ∧ k = 1) ∨ (a = 10 ∧ k = 0) by have h3 : a ≤ 10 := (by omega); omega) with ⟨rfl, rfl⟩ | ⟨rfl, rfl⟩ <;> rfl
theorem bv_ro {b : BV} (h : b.ro = []) : b = { b with ro := [] } := by cases b; simp only at h; subst h; rfl
theorem bv_ho {b : BV} (h : b.ho = []) : b = { b with ho := [] } := by cases b; simp only at h; subst h; rfl
end Go.Kw
