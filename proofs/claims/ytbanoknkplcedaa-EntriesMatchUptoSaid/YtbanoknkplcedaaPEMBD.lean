/- What the law's proof leans on. No condition. -/
import Derived.Test.YtbanoknkplcedaaPEMAC
import Derived.Orders
namespace Go.Kw
set_option linter.unusedVariables false
set_option linter.unusedSimpArgs false
/-- What an operation that only moves values yields. -/
def quietV (ρ : Operand → Value) : Op → Option Value
  | .move x => some (ρ x)
  | .assign x => some (ρ x)
  | .pick c x y => match ρ c with
    | .bool true => some (ρ x)
    | .bool false => some (ρ y)
    | _ => none
  | .unOp .not _ x => match ρ x with
    | .bool true => some (.bool false)
    | .bool false => some (.bool true)
    | _ => none
  | _ => none
def runQ (ops : Array Oper) (n : Nat) : Nat → List Oper → Env → Option (List Oper × Env)
  | 0, l, e => some (l, e)
  | _ + 1, [], _ => none
  | k + 1, o :: l, e => match wantE ops n e o.guard with
    | false => runQ ops n k l (putE o.dst undef e)
    | true => match quietV (ev n e) o.op with
      | some v => runQ ops n k l (putE o.dst v e)
      | none => none
section
variable {P : Program} {ops : Array Oper} {Q : Exit → Act → World → Prop} {n : Nat}
theorem run_quiet {e : Env} {w : World} {o : Oper} {v : Value} (h : quietV (ev n e) o.op = some v) : (execOp (ev n e) o).run P w = .ok (.value v) w := by
  obtain ⟨dst, op, ty, pos, aft, g⟩ := o
  simp only at h
  unfold quietV at h
  split at h
  · cases h; simp [execOp]
  · cases h; simp [execOp]
  · split at h
    · cases h; rename_i hc; simp [execOp, hc, asBool]
    · cases h; rename_i hc; simp [execOp, hc, asBool]
    · cases h
  · split at h
    · cases h; rename_i hc; simp [execOp, hc, Op.unary]
    · cases h; rename_i hc; simp [execOp, hc, Op.unary]
    · cases h
  · cases h
theorem wl_run : ∀ (k : Nat) {l l' : List Oper} {e e' : Env} {w : World}, runQ ops n k l e = some (l', e') → WL P ops Q l' (act n e') w → WL P ops Q l (act n e) w
  | 0, l, l', e, e', w, hr, h => by
    simp only [runQ, Option.some.injEq, Prod.mk.injEq] at hr
    rw [hr.1, hr.2]; exact h
  | _ + 1, [], _, _, _, _, hr, _ => by simp [runQ] at hr
  | k + 1, o :: l, l', e, e', w, hr, h => by
    rw [runQ] at hr
    cases hg : wantE ops n e o.guard with
    | false =>
      rw [hg] at hr
      exact wl_not (dst := o.dst) (op := o.op) (ty := o.type) (pos := o.pos) (aft := o.after) (g := o.guard) hg (wl_run k hr h)
    | true =>
      rw [hg] at hr
      simp only at hr
      cases hq : quietV (ev n e) o.op with
      | none => rw [hq] at hr; cases hr
      | some v =>
        rw [hq] at hr
        exact wl_val (dst := o.dst) (op := o.op) (ty := o.type) (pos := o.pos) (aft := o.after) (g := o.guard) (run_quiet (o := o) hq) hg (wl_run k hr h)
/-- Where an operation goes on otherwise, another ending for what is normal changes nothing. -/
theorem upon_change {o : Oper} {a : Act} {w : World} {K N N' : Act → World → Prop} (h : o.wp P a w K (Exit.then N Q)) : o.wp P a w K (Exit.then N' Q) := by
  unfold Oper.wp at *
  generalize (execOp a.eval o).run P w = r at *
  match r, h with
  | .ok (.value v) w', h => exact h
  | .ok .skip w', h => exact h
  | .ok (.defer d) w', h => exact h
  | .ok (.enter f args) w', h => exact Calls.mono h fun en w'' hh => by cases en <;> exact hh
  | .ok (.row row args) w', h => exact h
  | .halt (.panic v) w', h => exact h
theorem upon_then {o : Oper} {a : Act} {w : World} {K N : Act → World → Prop} (h : o.wp P a w K (Exit.then N Q)) : o.wp P a w K Q := by
  unfold Oper.wp at *
  generalize (execOp a.eval o).run P w = r at *
  match r, h with
  | .ok (.value v) w', h => exact h
  | .ok .skip w', h => exact h
  | .ok (.defer d) w', h => exact h
  | .ok (.enter f args) w', h => exact Calls.mono h fun en w'' hh => by cases en <;> exact hh
  | .ok (.row row args) w', h => exact h
  | .halt (.panic v) w', h => exact h
theorem wl_app : ∀ (l1 : List Oper) {l2 : List Oper} {a : Act} {w : World}, WL P ops (Exit.then (fun a w => WL P ops Q l2 a w) Q) l1 a w → WL P ops Q (l1 ++ l2) a w
  | [], l2, a, w, h => h.out
  | o :: l1, l2, a, w, h => by
    refine ⟨?_⟩
    have h' := h.out
    rw [List.cons_append]
    unfold wpList at h' ⊢
    split
    · rename_i hw
      rw [if_pos hw] at h'
      rcases h' with h' | ⟨h1, h2⟩
      · refine .inl ?_
        exact upon_then (N := fun a w => WL P ops Q l2 a w) (Oper.wp_mono (fun a w hk => (wl_app l1 ⟨hk⟩).out) h')
      · exact .inr ⟨h1, h2⟩
    · rename_i hw
      rw [if_neg hw] at h'
      exact (wl_app l1 ⟨h'⟩).out
/-- A cut behind the first m operations. -/
theorem wl_cutE {e0 : Env} {w : World} {l : List Oper} (m : Nat) (S : List Nat) (J : Env → World → Prop)
    (h : WL P ops (Exit.then (fun a' w' => ∃ e', a' = act n e' ∧ J e' w' ∧ Keep e0 e' S) Q) (l.take m) (act n e0) w) (hy : ∀ e w, J e w → Keep e0 e S → WL P ops Q (l.drop m) (act n (again' e0 e S)) w) : WL P ops Q l (act n e0) w := by
  rw [← List.take_append_drop m l]
  refine wl_app _ ⟨?_⟩
  have key : ∀ (l1 : List Oper) (a : Act) (w : World), wpList P ops (Exit.then (fun a' w' => ∃ e', a' = act n e' ∧ J e' w' ∧ Keep e0 e' S) Q) l1 a w → wpList P ops (Exit.then (fun a w => WL P ops Q (l.drop m) a w) Q) l1 a w := by
    intro l1
    induction l1 with
    | nil =>
      rintro a w ⟨e, rfl, hJ, hk⟩
      show WL P ops Q (l.drop m) (act n e) w
      rw [← act_congr n _ _ (look_again' e0 e S hk)]
      exact hy e w hJ hk
    | cons o l1 ih =>
      intro a w h'
      unfold wpList at h' ⊢
      split
      · rename_i hw
        rw [if_pos hw] at h'
        rcases h' with h' | ⟨h1, h2⟩
        · exact .inl (upon_change (Oper.wp_mono (fun a w hk => ih a w hk) h'))
        · exact .inr ⟨h1, h2⟩
      · rename_i hw
        rw [if_neg hw] at h'
        exact ih _ _ h'
  exact key _ _ _ h.out
theorem wl_set {e : Env} {w : World} {l : List Oper} {d : Nat} {v : Value} (h : look e d = v) (hc : WL P ops Q l (act n ((d, v) :: e)) w) : WL P ops Q l (act n e) w := by
  subst h
  rwa [act_dup n e d]
end
end Go.Kw
