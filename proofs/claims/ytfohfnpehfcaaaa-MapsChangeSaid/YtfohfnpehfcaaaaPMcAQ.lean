/- What the law's proof leans on. No condition. -/
import Derived.Test.YtfohfnpehfcaaaaPMcAO
import Derived.Test.YtfohfnpehfcaaaaPMcAP
import Derived.WideKeyArr
namespace Go.Kw
open Go.WideMaps Go.Lib
set_option linter.unusedVariables false
set_option linter.unusedSimpArgs false
abbrev suv (x : Sum32) : Value := .agg (x.1.map b8).toArray
theorem b8_inj : ∀ {a b : List UInt8}, a.map b8 = b.map b8 → a = b
  | [], [], _ => rfl
  | [], _ :: _, h => by simp at h
  | _ :: _, [], h => by simp at h
  | x :: a, y :: b, h => by
    simp only [List.map_cons, List.cons.injEq, b8, Value.int.injEq, true_and] at h
    have h1 : x = y := UInt8.toNat_inj.1 (by exact_mod_cast h.1)
    rw [h1, b8_inj h.2]
theorem suv_inj {a b : Sum32} (h : suv a = suv b) : a = b := by
  simp only [suv, Value.agg.injEq] at h
  exact Subtype.ext (b8_inj (by simpa using congrArg Array.toList h))
theorem mapM_some {α β : Type} {f : α → Option β} : ∀ (l : List α), (∀ x ∈ l, ∃ y, f x = some y) → ∃ ys, l.mapM f = some ys
  | [], _ => ⟨[], rfl⟩
  | x :: l, h => by
    obtain ⟨y, hy⟩ := h x (by simp)
    obtain ⟨ys, hys⟩ := mapM_some l (fun z hz => h z (by simp [hz]))
    exact ⟨y :: ys, by simp [List.mapM_cons, hy, hys]⟩
theorem sum_key {P : Program} {K e : TypeId} (hu : P.underlying K = some (.array 32 e)) (he : P.underlying e = some (.int .u8)) (hc : P.cellsOf e = 1) (hk : P.cellsOf K = 32) (hkt : P.keyType K = true) (hsz : ∃ m, P.types.size = m + 1) (x : Sum32) : ∃ l, keyOf P K (suv x) = some l := by
  obtain ⟨m, hm⟩ := hsz
  have hx := x.2
  have hf : (suv x).formed P K = true := by simp [Value.formed, hu, hk, hx]
  have hl : ∃ ls, P.keyLits (P.types.size + 1) K (suv x).cells.toList = some ls := by
    rw [hm]
    unfold Program.keyLits
    rw [hu]
    have hcs : (suv x).cells.toList = x.1.map b8 := by simp [suv, Value.cells]
    rw [hcs]
    simp only
    rw [if_pos (by rw [List.length_map, hx, hk])]
    obtain ⟨ys, hys⟩ := mapM_some (f := fun i => P.keyLits (m + 1) e (((x.1.map b8).drop (i * P.cellsOf e)).take (P.cellsOf e))) (List.range 32) (fun i hi => by
      have hi' : i < x.1.length := by rw [hx]; simpa using hi
      have e1 : ((x.1.map b8).drop (i * P.cellsOf e)).take (P.cellsOf e) = [b8 (gt x.1 i)] := by
        rw [hc, Nat.mul_one, List.drop_eq_getElem_cons (by simpa using hi')]
        simp [gt_eq x.1 i hi']
      refine ⟨[.int .u8 ((gt x.1 i).toNat : Int)], ?_⟩
      show P.keyLits (m + 1) e (((x.1.map b8).drop (i * P.cellsOf e)).take (P.cellsOf e)) = _
      rw [e1]
      unfold Program.keyLits
      rw [he]
      have hlt := (gt x.1 i).toNat_lt
      simp only [b8]
      rw [if_pos (by refine ⟨by trivial, ?_⟩; simp [Lit.wf, IntKind.min, IntKind.max, IntKind.signed, IntKind.bits]; omega)])
    exact ⟨_, by rw [hys]; rfl⟩
  obtain ⟨ls, hls⟩ := hl
  refine ⟨.string (keyBytes ls), ?_⟩
  unfold keyOf
  rw [hu]
  simp only [hkt, hf, Bool.and_self, if_true, hls, Option.map_some]
/-- What is known of keys that are arrays. -/
structure SumKeys (P : Program) (K : TypeId) : Prop where
  law : KeyLaw P K
  some : ∀ x : Sum32, ∃ l, keyOf P K (suv x) = some l
section
variable {P : Program} {ρ : Operand → Value} {w w0 : World} {M : List Nat} {L l1 l2 : List Item} {dst : Option Tmp} {ty : TypeId} {pos : String} {aft : Array Edge} {g : Option (Nat × Bool)} {x y z : Operand} {T T2 E I K : TypeId} {v : Value} {k : IntKind}
  {d dE : TypeDesc} {sz bts b o : Nat} {zv : Value} {a : Option Addr} {cs C : List Value}
end
/-- Two lists without repeats and with the same members are as long. -/
theorem nodup_len {α : Type} [BEq α] [LawfulBEq α] : ∀ {a b : List α}, a.Nodup → (∀ x, x ∈ a → x ∈ b) → a.length ≤ b.length
  | [], b, _, _ => Nat.zero_le _
  | x :: a, b, hn, h => by
    have hx := h x (by simp)
    have ih := nodup_len (a := a) (b := b.erase x) (List.nodup_cons.1 hn).2 (fun y hy => by
      have hne : y ≠ x := fun e => (List.nodup_cons.1 hn).1 (e ▸ hy)
      exact (List.mem_erase_of_ne hne).2 (h y (by simp [hy])))
    rw [List.length_erase_of_mem hx] at ih
    have := List.length_pos_of_mem hx
    rw [List.length_cons]; omega
abbrev LtB (x y : List UInt8) : Prop := compareBytes x y < 0
theorem sortL_sorted (l : List (List UInt8)) : (sortL l).Pairwise fun x y => ¬ LtB y x := by
  have h := List.pairwise_mergeSort (le := fun x y => !decide (compareBytes y x < 0))
    (fun a b c h1 h2 => by
      simp only [Bool.not_eq_true', decide_eq_false_iff_not] at *
      intro h3
      have s1 := cmp_swap a b
      rcases cmp_range a b with e | e | e
      · exact h2 (by
          rcases cmp_range b c with e2 | e2 | e2
          · exact absurd (cmp_lt_trans (show compareBytes a b < 0 by omega) (show compareBytes b c < 0 by omega)) (by have := cmp_swap a c; omega)
          · have := cmp_eq0 e2; subst this; exact absurd h3 h1
          · have := cmp_swap b c; omega)
      · have := cmp_eq0 e; subst this; exact h2 h3
      · omega)
    (fun a b => by
      have := cmp_swap a b
      simp only [Bool.or_eq_true, Bool.not_eq_true', decide_eq_false_iff_not]
      omega) l
  refine h.imp ?_
  intro a b hab
  simpa using hab
end Go.Kw
