/- What the law's proof leans on. No condition. -/
import Derived.Test.YtjnnhlbfgnopiaaGreatDoorPCAC
import Derived.StillTail
namespace Go.Kw
set_option linter.unusedVariables false
set_option linter.unusedSimpArgs false

/-- Which operations have come up, as the bits of a number. -/
def Lm (N m : Nat) : Array Bool := Array.ofFn (fun i : Fin N => m.testBit i.1)

theorem Lm_set (N m i : Nat) : (Lm N m).setIfInBounds i true = Lm N (m ||| 2 ^ i) := by
  apply Array.ext_getElem?
  intro j
  rw [Array.getElem?_setIfInBounds, Lm, Lm, Array.getElem?_ofFn, Array.getElem?_ofFn, Array.size_ofFn]
  by_cases hj : j < N
  · by_cases hij : i = j
    · subst hij; simp [hj, Nat.testBit_or, Nat.testBit_two_pow_self]
    · simp [hj, hij, Nat.testBit_or, Nat.testBit_two_pow_of_ne hij]
  · by_cases hij : i = j
    · subst hij; simp [hj]
    · simp [hj, hij]
theorem Lm_zero (N : Nat) : Array.replicate N false = Lm N 0 := by
  apply Array.ext_getElem?
  intro j
  rw [Array.getElem?_replicate, Lm, Array.getElem?_ofFn]
  by_cases hj : j < N <;> simp [hj]
theorem Lm_getD (N m i : Nat) (d : Bool) (h : i < N) : (Lm N m).getD i d = m.testBit i := by
  simp [Lm, h]

def headDone (t m : Nat) : Bool := (List.range t).all fun i => m.testBit i

section
variable {P : Program} {ops : Array Oper} {Q : Exit → Act → World → Prop} {F : World → Prop} {t : Nat}

def wpG (P : Program) (ops : Array Oper) (Q : Exit → Act → World → Prop) (F : World → Prop) (t : Nat) : Nat → Nat → Act → World → Prop
  | 0, m, a, w => wpAny P .any ops Q 0 (Lm ops.size m) a w
  | f + 1, m, a, w => if headDone t m = true then wpAny P .any ops Q (f + 1) (Lm ops.size m) a w else
      Region.ready .any ops (Lm ops.size m) ≠ [] ∧ ∀ i ∈ Region.ready .any ops (Lm ops.size m), wpOp P ops Q i (fun a' w' => F w' ∧ wpG P ops Q F t f (m ||| 2 ^ i) a' w') a w

theorem wpAny_of_G : ∀ (f m : Nat) (a : Act) (w : World), wpG P ops Q F t f m a w → wpAny P .any ops Q f (Lm ops.size m) a w
  | 0, _, _, _, h => h
  | f + 1, m, a, w, h => by
    unfold wpG at h
    split at h
    · exact h
    · refine ⟨fun h0 => absurd h0 h.1, fun i hi => ?_⟩
      rw [Lm_set]
      exact wpOp_mono (fun a' w' h' => wpAny_of_G f _ a' w' h'.2) (h.2 i hi)

theorem c_draw {id n : Nat} {l : List Oper} {e : Env} {w : World} (F : World → Prop) (t : Nat) (hm : P.follows .mixedOrders = true) (h : wpG P l.toArray Q F t l.length 0 (act n e) w.drew) : (Code.region id l.toArray true).wp P Q (act n e) w := by
  refine wp_region_any hm ?_
  have := wpAny_of_G _ _ _ _ h
  simp only [List.size_toArray] at this ⊢
  rw [Lm_zero]
  exact this

/-- Whatever has come up, so has what it waits for. -/
def Closed (ops : Array Oper) (m : Nat) : Prop := ∀ j oj, ops[j]? = some oj → m.testBit j = true → ∀ x ∈ oj.after, Region.binds .any x = true → m.testBit x.on = true
/-- Operation j waits for operation i, it may be through others. -/
def wfB (ops : Array Oper) : Nat → Nat → Nat → Bool
  | 0, _, _ => false
  | f + 1, j, i => match ops[j]? with
    | none => false
    | some o => o.after.any fun x => Region.binds .any x && (x.on == i || wfB ops f x.on i)
theorem wfB_spec {m i : Nat} (hc : Closed ops m) : ∀ (f j : Nat), wfB ops f j i = true → (∀ oj, ops[j]? = some oj → ∀ x ∈ oj.after, Region.binds .any x = true → m.testBit x.on = true) → m.testBit i = true := by
  intro f
  induction f with
  | zero => intro j h; simp [wfB] at h
  | succ f ih =>
    intro j h hl
    unfold wfB at h
    cases ho : ops[j]? with
    | none => simp [ho] at h
    | some o =>
      rw [ho] at h
      obtain ⟨x, hx, hb⟩ := Array.any_eq_true'.1 h
      simp only [Bool.and_eq_true, Bool.or_eq_true, beq_iff_eq] at hb
      have hlx := hl o ho x hx hb.1
      rcases hb.2 with h1 | h1
      · rw [← h1]; exact hlx
      · exact ih x.on h1 fun oj hoj y hy hby => hc x.on oj hoj hlx y hy hby
theorem Closed.step {m j : Nat} (hc : Closed ops m) (hj : j ∈ Region.ready .any ops (Lm ops.size m)) : Closed ops (m ||| 2 ^ j) := by
  obtain ⟨_, oj, hoj, hall⟩ := mem_ready.1 hj
  have hon : ∀ x ∈ oj.after, Region.binds .any x = true → m.testBit x.on = true := by
    intro x hx hb
    have := hall x hx hb
    by_cases hlt : x.on < ops.size
    · rwa [Lm_getD _ _ _ _ hlt] at this
    · simp [Lm, hlt] at this
  intro k ok hok hk x hx hb
  rw [Nat.testBit_or] at hk ⊢
  by_cases hjk : j = k
  · subst hjk
    rw [hoj] at hok
    obtain rfl := Option.some.inj hok
    simp [hon x hx hb]
  · rw [Nat.testBit_two_pow_of_ne hjk, Bool.or_false] at hk
    simp [hc k ok hok hk x hx hb]

theorem wpG_first {i : Nat} {oi : Oper} {v : Value} (hi : ops[i]? = some oi) (hsel : ∀ (j : Nat) (o : Oper) cs b, ops[j]? = some o → o.op ≠ .select cs b)
    (hQ : ∀ c a w, Q (.panic c) (a.put oi.dst v) w → Q (.panic c) a w) (hit : i < t)
    (htail : ∀ j oj, t ≤ j → ops[j]? = some oj → ∃ f, wfB ops f j i = true) :
    ∀ (f m : Nat) (a : Act) (w : World), Closed ops m →
      (∀ j oj, ops[j]? = some oj → j ≠ i → (Lm ops.size m).getD j true = false → (∀ x ∈ oj.after, Region.binds .any x = true → x.on ≠ i) → oi.apart ops oj = true) →
      i ∈ Region.ready .any ops (Lm ops.size m) → YieldsIf P ops F oi v a → F w →
      wpG P ops Q F t f (m ||| 2 ^ i) (a.put oi.dst v) w → wpG P ops Q F t (f + 1) m a w := by
  have hilt : i < ops.size := (Array.getElem?_eq_some_iff.1 hi).1
  intro f
  induction f with
  | zero =>
    intro m a w hcl hfree hr hy hS H
    have hun : m.testBit i = false := by
      have := (mem_ready.1 hr).1
      rwa [Lm_getD _ _ _ _ hilt] at this
    have hnd : ¬ headDone t m = true := by
      intro hd
      have := List.all_eq_true.1 hd i (by simpa using hit)
      rw [hun] at this; cases this
    unfold wpG
    rw [if_neg hnd]
    refine ⟨fun h => (by rw [h] at hr; cases hr), fun j hj => ?_⟩
    by_cases hji : j = i
    · subst hji; exact hy.wpOp hi hS ⟨hS, H⟩
    · exfalso
      have h1 := ready_mono hj hji
      rw [Lm_set] at h1
      have h2 : Region.ready .any ops (Lm ops.size (m ||| 2 ^ i)) = [] := H.1
      rw [h2] at h1
      cases h1
  | succ f ih =>
    intro m a w hcl hfree hr hy hS H
    have hun : m.testBit i = false := by
      have := (mem_ready.1 hr).1
      rwa [Lm_getD _ _ _ _ hilt] at this
    have hnd : ¬ headDone t m = true := by
      intro hd
      have := List.all_eq_true.1 hd i (by simpa using hit)
      rw [hun] at this; cases this
    unfold wpG
    rw [if_neg hnd]
    refine ⟨fun h => (by rw [h] at hr; cases hr), fun j hj => ?_⟩
    by_cases hji : j = i
    · subst hji; exact hy.wpOp hi hS ⟨hS, H⟩
    · obtain ⟨hjun, oj, hoj, hall⟩ := mem_ready.1 hj
      have hjlt : j < ops.size := (Array.getElem?_eq_some_iff.1 hoj).1
      have hnot : ∀ x ∈ oj.after, Region.binds .any x = true → x.on ≠ i := fun x he hb heq => by
        have h1 := hall x he hb
        rw [heq, Lm_getD _ _ _ _ hilt, hun] at h1
        cases h1
      have hjt : j < t := by
        rcases Nat.lt_or_ge j t with h | h
        · exact h
        · obtain ⟨fu, hfu⟩ := htail j oj h hoj
          have h1 := wfB_spec hcl fu j hfu (fun oj' hoj' x hx hb => by
            rw [hoj] at hoj'
            obtain rfl := Option.some.inj hoj'
            have h2 := hall x hx hb
            by_cases hlt : x.on < ops.size
            · rwa [Lm_getD _ _ _ _ hlt] at h2
            · simp [Lm, hlt] at h2)
          rw [hun] at h1
          cases h1
      have hnd2 : ¬ headDone t (m ||| 2 ^ i) = true := by
        intro hd
        have h1 := List.all_eq_true.1 hd j (by simpa using hjt)
        rw [Lm_getD _ _ _ _ hjlt] at hjun
        rw [Nat.testBit_or, hjun, Nat.testBit_two_pow_of_ne (Ne.symm hji)] at h1
        cases h1
      unfold wpG at H
      rw [if_neg hnd2] at H
      have h1 := H.2 j (by have := ready_mono hj hji; rwa [Lm_set] at this)
      have h2 := wpOp_putIf hoj (hfree j oj hoj hji hjun hnot) (fun cs b => hsel i oi cs b hi) (fun cs b => hsel j oj cs b hoj) hQ hy h1
      have hfree' : ∀ k ok, ops[k]? = some ok → k ≠ i → (Lm ops.size (m ||| 2 ^ j)).getD k true = false → (∀ x ∈ ok.after, Region.binds .any x = true → x.on ≠ i) → oi.apart ops ok = true := fun k ok hk hki hkun hno => by
        refine hfree k ok hk hki ?_ hno
        have hklt : k < ops.size := (Array.getElem?_eq_some_iff.1 hk).1
        rw [Lm_getD _ _ _ _ hklt] at hkun ⊢
        rw [Nat.testBit_or] at hkun
        cases hm : m.testBit k with
        | false => rfl
        | true => simp [hm] at hkun
      refine wpOp_mono (fun a' w' h3 => ⟨h3.2.1, ih (m ||| 2 ^ j) a' w' (hcl.step hj) hfree' ?_ h3.1 h3.2.1 ?_⟩) h2
      · have := ready_mono hr (Ne.symm hji); rwa [Lm_set] at this
      · have e : m ||| 2 ^ j ||| 2 ^ i = m ||| 2 ^ i ||| 2 ^ j := by rw [Nat.or_assoc, Nat.or_comm (2 ^ j), ← Nat.or_assoc]
        rw [e]
        exact h3.2.2

/-- What an operation waits for, as a mask, out of the masks of those ahead of it. -/
def reachO (r : List Nat) (o : Oper) : Nat := o.after.toList.foldl (fun m x => bif Region.binds .any x then (m ||| 2 ^ x.on) ||| r.getD x.on 0 else m) 0
def reachK (ops : Array Oper) : Nat → List Nat
  | 0 => []
  | k + 1 => (fun r => r ++ [match ops[k]? with | some o => reachO r o | none => 0]) (reachK ops k)
theorem reachO_spec {r : List Nat} {o : Oper} {i : Nat} (h : (reachO r o).testBit i = true) : ∃ x ∈ o.after, Region.binds .any x = true ∧ (x.on = i ∨ (r.getD x.on 0).testBit i = true) := by
  have key : ∀ (l : List Edge) (m : Nat), (l.foldl (fun m x => bif Region.binds .any x then (m ||| 2 ^ x.on) ||| r.getD x.on 0 else m) m).testBit i = true → m.testBit i = true ∨ ∃ x ∈ l, Region.binds .any x = true ∧ (x.on = i ∨ (r.getD x.on 0).testBit i = true) := by
    intro l
    induction l with
    | nil => intro m h; exact .inl h
    | cons x l ih =>
      intro m h
      rcases ih _ h with h1 | ⟨y, hy, h2⟩
      · cases hb : Region.binds .any x with
        | false => simp only [hb, cond_false] at h1; exact .inl h1
        | true =>
          simp only [hb, cond_true] at h1
          rw [Nat.testBit_or, Nat.testBit_or, Bool.or_eq_true, Bool.or_eq_true] at h1
          rcases h1 with (h1 | h1) | h1
          · exact .inl h1
          · rw [Nat.testBit_two_pow] at h1
            exact .inr ⟨x, by simp, hb, .inl (by simpa using h1)⟩
          · exact .inr ⟨x, by simp, hb, .inr h1⟩
      · exact .inr ⟨y, by simp [hy], h2⟩
  rcases key _ 0 h with h1 | ⟨x, hx, h2⟩
  · simp at h1
  · exact ⟨x, by simpa using hx, h2⟩
theorem reachK_len (ops : Array Oper) : ∀ k, (reachK ops k).length = k
  | 0 => rfl
  | k + 1 => by rw [reachK]; simp [reachK_len ops k]
theorem reachK_spec (ops : Array Oper) (i : Nat) : ∀ (k j : Nat), ((reachK ops k).getD j 0).testBit i = true → ∃ f, wfB ops f j i = true
  | 0, j, h => by simp [reachK] at h
  | k + 1, j, h => by
    rw [reachK] at h
    by_cases hj : j < k
    · rw [List.getD_eq_getElem?_getD, List.getElem?_append_left (by rw [reachK_len]; exact hj), ← List.getD_eq_getElem?_getD] at h
      exact reachK_spec ops i k j h
    · by_cases hjk : j = k
      · subst hjk
        rw [List.getD_eq_getElem?_getD, List.getElem?_append_right (by rw [reachK_len]; omega), reachK_len, Nat.sub_self] at h
        simp only [List.getElem?_cons_zero, Option.getD_some] at h
        cases ho : ops[j]? with
        | none => rw [ho] at h; simp at h
        | some o =>
          rw [ho] at h
          obtain ⟨x, hx, hb, h2⟩ := reachO_spec h
          rcases h2 with h2 | h2
          · refine ⟨1, ?_⟩
            unfold wfB
            rw [ho]
            simp only [Array.any_eq_true']
            exact ⟨x, hx, by rw [hb, h2]; simp⟩
          · obtain ⟨f, hf⟩ := reachK_spec ops i j x.on h2
            refine ⟨f + 1, ?_⟩
            unfold wfB
            rw [ho]
            simp only [Array.any_eq_true']
            exact ⟨x, hx, by rw [hb, hf]; simp⟩
      · rw [List.getD_eq_getElem?_getD, List.getElem?_eq_none (by simp [reachK_len]; omega)] at h
        simp at h
def tailB (ops : Array Oper) (t i : Nat) : Bool := (fun r => (List.range ops.size).all fun j => Nat.blt j t || (List.getD r j 0).testBit i) (reachK ops ops.size)
theorem tailB_spec {i : Nat} (h : tailB ops t i = true) : ∀ j oj, t ≤ j → ops[j]? = some oj → ∃ f, wfB ops f j i = true := by
  intro j oj hj hoj
  have hlt : j < ops.size := (Array.getElem?_eq_some_iff.1 hoj).1
  have h1 := List.all_eq_true.1 h j (by simpa using hlt)
  have hb : Nat.blt j t = false := by
    cases hb : Nat.blt j t with
    | false => rfl
    | true => exact absurd (by simpa using hb) (Nat.not_lt.2 hj)
  rw [hb, Bool.false_or] at h1
  exact reachK_spec ops i _ j h1
def closedB (ops : Array Oper) (m : Nat) : Bool := (List.range ops.size).all fun j => !m.testBit j || match ops[j]? with
  | some oj => oj.after.all fun x => !Region.binds .any x || m.testBit x.on
  | none => true
theorem closedB_spec {m : Nat} (h : closedB ops m = true) : Closed ops m := by
  intro j oj hoj hm x hx hb
  have hlt : j < ops.size := (Array.getElem?_eq_some_iff.1 hoj).1
  have h1 := List.all_eq_true.1 h j (by simpa using hlt)
  rw [hm, hoj] at h1
  simp only [Bool.not_true, Bool.false_or] at h1
  have h2 := Array.all_eq_true_iff_forall_mem.1 h1 x hx
  simpa [hb] using h2

/-- What is to be looked up before operation i is taken first. -/
def takeB (ops : Array Oper) (t m i : Nat) : Bool :=
  closedB ops m && Region.noSelect ops && Region.free .any ops (Lm ops.size m) i && (Region.ready .any ops (Lm ops.size m)).contains i && Nat.blt i t && tailB ops t i

end
/-- The goals of a region that draws, held shut: nothing looks inside while a step is matched. -/
structure WG (P : Program) (ops : Array Oper) (Q : Exit → Act → World → Prop) (F : World → Prop) (t f m : Nat) (a : Act) (w : World) : Prop where
  out : wpG P ops Q F t f m a w
structure WO (P : Program) (ops : Array Oper) (Q : Exit → Act → World → Prop) (i : Nat) (K : Act → World → Prop) (a : Act) (w : World) : Prop where
  out : wpOp P ops Q i K a w
section
variable {P : Program} {ops : Array Oper} {Q : Exit → Act → World → Prop} {F : World → Prop} {t : Nat}
variable {n f m i : Nat} {e : Env} {w : World} {dst : Option Tmp} {op : Op} {ty : TypeId} {pos : String} {aft : Array Edge} {g : Option (Nat × Bool)} {v : Value}

/-- Take operation i first: it yields v in every world of the class. -/
theorem g_take (i : Nat) (hi : ops[i]? = some ⟨dst, op, ty, pos, aft, g⟩) (hB : takeB ops t m i = true) (hg : wantE ops n e g = true) (hQ : ∀ c a w, Q (.panic c) (a.put dst v) w → Q (.panic c) a w)
    (hF : F w) (hy : ∀ w, F w → (execOp (ev n e) ⟨dst, op, ty, pos, aft, g⟩).run P w = .ok (.value v) w) (h : WG P ops Q F t f (m ||| 2 ^ i) (act n (putE dst v e)) w) : WG P ops Q F t (f + 1) m (act n e) w := by
  simp only [takeB, Bool.and_eq_true] at hB
  obtain ⟨⟨⟨⟨⟨h0, h1⟩, h2⟩, h3⟩, h4⟩, h5⟩ := hB
  refine ⟨wpG_first hi (Region.noSelect_spec h1) hQ (by simpa using h4) (tailB_spec h5) f m _ w (closedB_spec h0) (Region.free_spec hi h2) (by simpa using h3) (.inl ⟨?_, ?_⟩) hF ?_⟩
  · rw [wanted_act]; exact hg
  · intro w' hw'; rw [eval_act]; exact hy w' hw'
  · rw [act_put]; exact h.out

theorem g_takeN (i : Nat) (hi : ops[i]? = some ⟨dst, op, ty, pos, aft, g⟩) (hB : takeB ops t m i = true) (hg : wantE ops n e g = false) (hQ : ∀ c a w, Q (.panic c) (a.put dst undef) w → Q (.panic c) a w)
    (hF : F w) (h : WG P ops Q F t f (m ||| 2 ^ i) (act n (putE dst undef e)) w) : WG P ops Q F t (f + 1) m (act n e) w := by
  simp only [takeB, Bool.and_eq_true] at hB
  obtain ⟨⟨⟨⟨⟨h0, h1⟩, h2⟩, h3⟩, h4⟩, h5⟩ := hB
  refine ⟨wpG_first hi (Region.noSelect_spec h1) hQ (by simpa using h4) (tailB_spec h5) f m _ w (closedB_spec h0) (Region.free_spec hi h2) (by simpa using h3) (.inr ⟨?_, rfl⟩) hF ?_⟩
  · rw [wanted_act]; exact hg
  · rw [act_put]; exact h.out

/-- The operations rs may come up: each of them. -/
theorem g_all {rs : List Nat} {a : Act} (hd : headDone t m = false) (hr : Region.ready .any ops (Lm ops.size m) = rs) (hne : rs.isEmpty = false)
    (h : ∀ i ∈ rs, WO P ops Q i (fun a' w' => F w' ∧ WG P ops Q F t f (m ||| 2 ^ i) a' w') a w) : WG P ops Q F t (f + 1) m a w := by
  refine ⟨?_⟩
  unfold wpG
  rw [if_neg (by simp [hd]), hr]
  exact ⟨by cases rs <;> simp_all, fun i hi => wpOp_mono (fun a' w' h' => ⟨h'.1, h'.2.out⟩) (h i hi).out⟩

/-- One of them alone. -/
theorem g_one (i : Nat) {a : Act} (hd : headDone t m = false) (hr : Region.ready .any ops (Lm ops.size m) = [i])
    (h : WO P ops Q i (fun a' w' => F w' ∧ WG P ops Q F t f (m ||| 2 ^ i) a' w') a w) : WG P ops Q F t (f + 1) m a w :=
  g_all hd hr rfl (by simpa using h)

theorem o_val {K : Act → World → Prop} {w' : World} (hi : ops[i]? = some ⟨dst, op, ty, pos, aft, g⟩) (hr : (execOp (ev n e) ⟨dst, op, ty, pos, aft, g⟩).run P w = .ok (.value v) w') (hg : wantE ops n e g = true)
    (h : K (act n (putE dst v e)) w') : WO P ops Q i K (act n e) w := by
  refine ⟨?_⟩
  unfold wpOp
  simp only [hi]
  rw [wanted_act, if_pos hg]
  refine .inl ?_
  simp only [Oper.wp, eval_act, hr, Oper.upon, act_put]
  exact h
theorem o_exv {K : Act → World → Prop} {R : Value → World → Prop} (hi : ops[i]? = some ⟨dst, op, ty, pos, aft, g⟩) (hr : ∃ v w', (execOp (ev n e) ⟨dst, op, ty, pos, aft, g⟩).run P w = .ok (.value v) w' ∧ R v w') (hg : wantE ops n e g = true)
    (h : ∀ v w', R v w' → K (act n (putE dst v e)) w') : WO P ops Q i K (act n e) w := by
  obtain ⟨v, w', hr, hR⟩ := hr
  exact o_val hi hr hg (h v w' hR)
theorem o_exs {K : Act → World → Prop} {R : World → Prop} (hi : ops[i]? = some ⟨none, op, ty, pos, aft, g⟩) (hr : ∃ w', (execOp (ev n e) ⟨none, op, ty, pos, aft, g⟩).run P w = .ok .skip w' ∧ R w') (hg : wantE ops n e g = true)
    (h : ∀ w', R w' → K (act n e) w') : WO P ops Q i K (act n e) w := by
  obtain ⟨w', hr, hR⟩ := hr
  refine ⟨?_⟩
  unfold wpOp
  simp only [hi]
  rw [wanted_act, if_pos hg]
  refine .inl ?_
  simp only [Oper.wp, eval_act, hr, Oper.upon]
  exact h w' hR
theorem o_call {K : Act → World → Prop} {fid : FuncId} {args : List Value} {R : Value → World → Prop} (hi : ops[i]? = some ⟨dst, op, ty, pos, aft, g⟩) (hr : (execOp (ev n e) ⟨dst, op, ty, pos, aft, g⟩).run P w = .ok (.enter fid args.toArray) w) (hg : wantE ops n e g = true)
    (hc : Ret P fid args w R) (h : ∀ v w', R v w' → K (act n (putE dst v e)) w') : WO P ops Q i K (act n e) w := by
  refine ⟨?_⟩
  unfold wpOp
  simp only [hi]
  rw [wanted_act, if_pos hg]
  refine .inl ?_
  simp only [Oper.wp, eval_act, hr, Oper.upon]
  exact Calls.mono hc fun en w' ⟨v, he, hv⟩ => by subst he; simp only [act_put]; exact h v w' hv

/-- The head has come up: the tail, in the text's order. -/
theorem g_tail {l : List Oper} (hd : headDone t m = true) (hl : ops.toList.drop t = l) (hseq : Region.seqB .any ops l.length t (Lm ops.size m) = true) (h' : WL P ops Q l (act n e) w) : WG P ops Q F t l.length m (act n e) w := by
  refine ⟨?_⟩
  have h := h'.out
  have hw : wpAny P .any ops Q l.length (Lm ops.size m) (act n e) w := wpAny_of_seq l t _ _ w (fun j => by rw [← hl]; simp) hseq h
  cases hf : l.length with
  | zero => rw [hf] at hw; exact hw
  | succ f =>
    rw [hf] at hw
    unfold wpG
    rw [if_pos hd]
    exact hw
end
end Go.Kw
namespace Go.Kw
section
variable {P : Program} {ops : Array Oper} {Q : Exit → Act → World → Prop} {F : World → Prop} {t n f m i : Nat} {e : Env} {w : World} {dst : Option Tmp} {op : Op} {ty : TypeId} {pos : String} {aft : Array Edge} {g : Option (Nat × Bool)} {v : Value}
/-- Into a region that draws: the class of worlds is what is known of memory. -/
theorem c_drawS {id : Nat} {l : List Oper} {w0 : World} {M : List Nat} {L : List Item} (t : Nat) (hm : P.follows .mixedOrders = true) (hS : St w0 M w L)
    (h : ∀ w, St w0 M w L → WG P l.toArray Q (fun w' => St w0 M w' L) t l.length 0 (act n e) w) : (Code.region id l.toArray true).wp P Q (act n e) w :=
  c_draw _ t hm (h _ hS.drew).out
theorem c_drawSF {id : Nat} {l : List Oper} {w0 : World} {M : List Nat} {L L' : List Item} (t : Nat) (hm : P.follows .mixedOrders = true) (hS : St w0 M w L) (_hS' : St w0 M w L')
    (h : ∀ w, St w0 M w L → WG P l.toArray Q (fun w' => St w0 M w' L') t l.length 0 (act n e) w) : (Code.region id l.toArray true).wp P Q (act n e) w :=
  c_draw _ t hm (h _ hS.drew).out
theorem g_dec {p : Prop} [Decidable p] (i : Nat) (hi : ops[i]? = some ⟨dst, op, ty, pos, aft, g⟩) (hB : takeB ops t m i = true) (hg : wantE ops n e g = true) (hQ : ∀ c a v w, Q (.panic c) (a.put dst v) w → Q (.panic c) a w)
    (hF : F w) (hy : ∀ w, F w → (execOp (ev n e) ⟨dst, op, ty, pos, aft, g⟩).run P w = .ok (.value (.bool (decide p))) w)
    (h1 : p → WG P ops Q F t f (m ||| 2 ^ i) (act n (putE dst (.bool true) e)) w) (h2 : ¬ p → WG P ops Q F t f (m ||| 2 ^ i) (act n (putE dst (.bool false) e)) w) : WG P ops Q F t (f + 1) m (act n e) w := by
  by_cases hp : p
  · exact g_take i hi hB hg (fun c a w => hQ c a _ w) hF (fun w hw => by rw [hy w hw, decide_eq_true hp]) (h1 hp)
  · exact g_take i hi hB hg (fun c a w => hQ c a _ w) hF (fun w hw => by rw [hy w hw, decide_eq_false hp]) (h2 hp)
theorem g_dec_t {p : Prop} [Decidable p] (i : Nat) (hi : ops[i]? = some ⟨dst, op, ty, pos, aft, g⟩) (hB : takeB ops t m i = true) (hg : wantE ops n e g = true) (hQ : ∀ c a v w, Q (.panic c) (a.put dst v) w → Q (.panic c) a w)
    (hF : F w) (hy : ∀ w, F w → (execOp (ev n e) ⟨dst, op, ty, pos, aft, g⟩).run P w = .ok (.value (.bool (decide p))) w) (hp : p)
    (h1 : WG P ops Q F t f (m ||| 2 ^ i) (act n (putE dst (.bool true) e)) w) : WG P ops Q F t (f + 1) m (act n e) w :=
  g_take i hi hB hg (fun c a w => hQ c a _ w) hF (fun w hw => by rw [hy w hw, decide_eq_true hp]) h1
end
end Go.Kw
