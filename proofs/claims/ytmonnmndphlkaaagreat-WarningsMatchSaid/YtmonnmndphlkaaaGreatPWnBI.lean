/- What the law's proof leans on. No condition. -/
import Derived.Test.YtmonnmndphlkaaaGreatPWnAK
import Derived.RangeFuncFrom
import Derived.RangeFuncLeaves
import Derived.TacticsIn
section
namespace Go.Kw
open Go.RowKit
set_option linter.unusedVariables false
set_option linter.unusedSimpArgs false
/-- The frame that also holds deferred calls. -/
def actD (n : Nat) (e : Env) (ds : List Deferred) : Act := ⟨(act n e).tmps, ds⟩
section
variable {n : Nat} {e : Env} {ds : List Deferred}
theorem eval_actD : (actD n e ds).eval = ev n e := by rw [← eval_act]; rfl
theorem actD_put (d : Option Tmp) (v : Value) : (actD n e ds).put d v = actD n (putE d v e) ds := by
  have h := congrArg Act.tmps (act_put n e d v)
  cases d with
  | none => rfl
  | some d => exact congrArg (fun t => (⟨t, ds⟩ : Act)) h
theorem wanted_actD (ops : Array Oper) (o : Oper) : Region.wanted o (yielded ops (actD n e ds).tmps) = wantE ops n e o.guard := wanted_act ops n e o
end
def notDefer : Op → Bool
  | .defer _ => false
  | _ => true
/-- A fence that lets everything in. -/
structure Lets (F : Fence) : Prop where
  fn : ∀ f, F.fn f
  depth : F.depth = none
  calls : ∀ {m : Nat} {P : Program} {f : FuncId} {args : Array Value} {w : World} {R : Ending → World → Prop}, Calls P f args w R → CallsIn F m P f args w R
theorem lets_wide : Lets Fence.wide := ⟨fun _ => trivial, rfl, fun h => callsIn_wide.2 h⟩
theorem lets_round (l : Nat) : Lets (Fence.wide.inRound l) := ⟨fun _ => trivial, rfl, fun {m P f args w R} h => (show CallsIn Fence.wide m P f args w R from callsIn_wide.2 h)⟩
/-- The goal of a list of operations inside a fence, held shut. -/
structure WI (F : Fence) (m : Nat) (P : Program) (ops : Array Oper) (Q : Exit → Act → World → Prop) (l : List Oper) (a : Act) (w : World) : Prop where
  out : wpListIn F m P ops Q l a w
section
variable {F : Fence} {m : Nat} {P : Program} {ops : Array Oper} {Q : Exit → Act → World → Prop} {n : Nat} {e : Env} {ds : List Deferred} {w w' : World} {rest : List Oper} {dst : Option Tmp} {op : Op} {ty : TypeId} {pos : String} {aft : Array Edge} {g : Option (Nat × Bool)} {v : Value}
theorem semAt_of (hd : notDefer op = true) (ro : Option Nat) (ρ : Operand → Value) : Oper.semAt ro ρ ⟨dst, op, ty, pos, aft, g⟩ = execOp ρ ⟨dst, op, ty, pos, aft, g⟩ :=
  Oper.semAt_eq ro ρ _ fun c h => by simp only at h; rw [h] at hd; cases hd
theorem wi_nil (h : Q .normal (actD n e ds) w) : WI F m P ops Q [] (actD n e ds) w := ⟨h⟩
theorem wi_val (hF : Lets F) (hd : notDefer op = true) (hr : (execOp (ev n e) ⟨dst, op, ty, pos, aft, g⟩).run P w = .ok (.value v) w') (hg : wantE ops n e g = true)
    (h : WI F m P ops Q rest (actD n (putE dst v e) ds) w') : WI F m P ops Q (⟨dst, op, ty, pos, aft, g⟩ :: rest) (actD n e ds) w := by
  refine ⟨?_⟩
  unfold wpListIn
  rw [wanted_actD, if_pos hg]
  refine ⟨fun f _ => hF.fn f, ?_⟩
  simp only [semAt_of hd, eval_actD, hr, Oper.uponIn, actD_put]
  exact h.out
theorem wi_skip (hF : Lets F) (hd : notDefer op = true) (hr : (execOp (ev n e) ⟨none, op, ty, pos, aft, g⟩).run P w = .ok .skip w') (hg : wantE ops n e g = true)
    (h : WI F m P ops Q rest (actD n e ds) w') : WI F m P ops Q (⟨none, op, ty, pos, aft, g⟩ :: rest) (actD n e ds) w := by
  refine ⟨?_⟩
  unfold wpListIn
  rw [wanted_actD, if_pos hg]
  refine ⟨fun f _ => hF.fn f, ?_⟩
  simp only [semAt_of hd, eval_actD, hr, Oper.uponIn]
  exact h.out
/-- The call of a round. -/
theorem wi_round (hF : Lets F) (hd : notDefer op = true) {l : Nat} {fn : FuncId} {tmps : Array Value} {assign body : Code} {R : Ending → World → Prop} (hr : (execOp (ev n e) ⟨dst, op, ty, pos, aft, g⟩).run P w = .ok (.round l fn tmps assign body) w) (hg : wantE ops n e g = true)
    (hc : RoundIn F (m - 1) P l fn tmps assign body w R) (h : ∀ en w', R en w' → ∃ v, en = .returned v ∧ WI F m P ops Q rest (actD n (putE dst v e) ds) w') : WI F m P ops Q (⟨dst, op, ty, pos, aft, g⟩ :: rest) (actD n e ds) w := by
  refine ⟨?_⟩
  unfold wpListIn
  rw [wanted_actD, if_pos hg]
  refine ⟨fun f _ => hF.fn f, ?_⟩
  simp only [semAt_of hd, eval_actD, hr, Oper.uponIn]
  refine ⟨fun hh => (by rw [hF.depth] at hh; cases hh), hc.mono fun en w' hR => ?_⟩
  obtain ⟨v, rfl, hw⟩ := h en w' hR
  simp only [actD_put]; exact hw.out
theorem i_region {id : Nat} {l : List Oper} (h : WI F m P l.toArray Q l (actD n e ds) w) : (Code.region id l.toArray false).wpIn F m P Q (actD n e ds) w := wpIn_region_lit h.out
/-- From a walk inside the widest fence to a plain one. -/
theorem c_wide {c : Code} (h : c.wpIn Fence.wide m P Q (actD n e []) w) : c.wp P Q (act n e) w := wpIn_wide.1 h
/-- Into the body of a function that holds a range over a function. -/
theorem enterM {f : FuncId} {fn : Func} {c : Code} {k : Nat} {args : List Value} {R : Value → World → Prop} (m : Nat) (hf : P.funcs[f]? = some fn) (hb : fn.body = some c) (hn : fn.ntmps = k) (hl : Nat.ble args.length k = true)
    (h : c.wp P (bodyPostM Fence.wide m P fn fun en w' => ∃ v, en = .returned v ∧ R v w') (act k (envFrom 0 args)) w) : Ret P f args w R := by
  refine callsIn_wide.1 (callsIn_of_wp_marks (n := m) hf hb trivial ?_ rfl)
  refine wpIn_wide.2 ?_
  have : ({ tmps := args.toArray ++ Array.replicate (fn.ntmps - args.toArray.size) undef, defers := [] } : Act) = act k (envFrom 0 args) := by
    simp only [act]
    congr 1
    have hl' : args.length ≤ k := by simpa using hl
    apply Array.ext_getElem?
    intro i
    rw [Array.getElem?_ofFn, Array.getElem?_append, hn]
    simp only [look_envFrom, List.size_toArray, Nat.zero_le, if_true, Nat.sub_zero, List.getElem?_toArray]
    by_cases h1 : i < args.length
    · have h2 : i < k := by omega
      simp [h1, h2]
    · by_cases h2 : i < k
      · simp only [h1, if_false, h2, ↓reduceDIte]
        rw [Array.getElem?_replicate, if_pos (by omega)]
        simp [List.getElem?_eq_none (Nat.le_of_not_lt h1)]
      · simp only [h1, if_false, h2, ↓reduceDIte]
        rw [Array.getElem?_replicate, if_neg (by omega)]
  rw [this]
  exact h
/-- Out of it, past the mark: one result, in a cell. -/
theorem retM {fn : Func} {R : Value → World → Prop} {r : ResultVar} {v : Value} {D : Nat} (hr : fn.results = #[r]) (hD : w.heap[D]? = some (.deferred (some []))) (hv : ResIs P n e (w.putObj D (.deferred none)) r v) (h : R v (w.putObj D (.deferred none))) :
    bodyPostM Fence.wide m P fn (fun en w' => ∃ v, en = .returned v ∧ R v w') .ret (actD n e [{ target := .collected D, args := #[] }]) w := by
  refine ⟨(fun hh => by cases hh), .inl ⟨D, w.putObj D (.deferred none), rfl, run_takeDeferred hD, ?_⟩⟩
  refine ⟨v, ?_, _, rfl, h⟩
  show (results fn (act n e).tmps).run P _ = _
  clear h hD
  cases r <;> simp only [ResIs] at hv <;> (try obtain ⟨p1, a1, b1⟩ := hv) <;> simp [results, hr, act_getD, asAddr, *]
theorem wi_nil0 (h : Q .normal (act n e) w) : WI F m P ops Q [] (actD n e []) w := ⟨h⟩
theorem wi_exv (hF : Lets F) (hd : notDefer op = true) {R : Value → World → Prop} (hr : ∃ v w', (execOp (ev n e) ⟨dst, op, ty, pos, aft, g⟩).run P w = .ok (.value v) w' ∧ R v w') (hg : wantE ops n e g = true)
    (h : ∀ v w', R v w' → WI F m P ops Q rest (actD n (putE dst v e) ds) w') : WI F m P ops Q (⟨dst, op, ty, pos, aft, g⟩ :: rest) (actD n e ds) w := by
  obtain ⟨v, w', hr, hR⟩ := hr
  exact wi_val hF hd hr hg (h v w' hR)
theorem wi_exs (hF : Lets F) (hd : notDefer op = true) {R : World → Prop} (hr : ∃ w', (execOp (ev n e) ⟨none, op, ty, pos, aft, g⟩).run P w = .ok .skip w' ∧ R w') (hg : wantE ops n e g = true)
    (h : ∀ w', R w' → WI F m P ops Q rest (actD n e ds) w') : WI F m P ops Q (⟨none, op, ty, pos, aft, g⟩ :: rest) (actD n e ds) w := by
  obtain ⟨w', hr, hR⟩ := hr
  exact wi_skip hF hd hr hg (h w' hR)
theorem c_wideD {c : Code} (h : c.wpIn Fence.wide m P Q (actD n e ds) w) : c.wp P Q (actD n e ds) w := wpIn_wide.1 h
end
theorem St.reRow1 {w0 w : World} {M : List Nat} {L : List Item} {a : Option Addr} {n k c sz : Nat} {E : TypeId} {ys zs : List Value} (h : St w0 M w (.row (.slice a n c) E sz n ys :: L)) (hn : k = n) (hy : ys = zs) : St w0 M w (.row (.slice a k c) E sz k zs :: L) := by
  subst hn; subst hy; exact h
/-- A block that holds what it is told to hold. -/
theorem St.putObj {we w : World} {M : List Nat} {l1 l2 : List Item} {b : Nat} {o : Obj} (o' : Obj) (h : St we M w (l1 ++ .blk b o :: l2)) : St we M (w.putObj b o') (l1 ++ .blk b o' :: l2) := by
  have hb := h.has (.blk b o) (by simp)
  have hlt : b < w.heap.size := (Array.getElem?_eq_some_iff.1 hb.1).1
  exact h.turnAt rfl rfl rfl (by simp [World.putObj]) (fun k hk hne => World.putObj_heap_other (fun e => hne (by simp [Item.id, e]))) ⟨World.putObj_heap_same hlt, hb.2⟩ (fun k hk => .inl hk)
section
variable {P : Program} {Q : Exit → Act → World → Prop} {n : Nat} {e : Env} {w we : World}
end
end Go.Kw
end
section
namespace Go.Kw
open Go.RowKit
set_option linter.unusedVariables false
set_option linter.unusedSimpArgs false
section
variable {P : Program} {ρ : Operand → Value} {w : World} {dst : Option Tmp} {ty : TypeId} {pos : String} {aft : Array Edge} {g : Option (Nat × Bool)} {x y : Operand} {T T2 : TypeId}
theorem r_makeF {fn : Fn} {capt : Array Operand} {vs : List Value} (hc : capt.toList.map ρ = vs) : (execOp ρ ⟨dst, .makeFunc fn #[] capt, ty, pos, aft, g⟩).run P w = .ok (.value (.func fn #[] vs.toArray)) w := by
  have hc' : capt.map ρ = vs.toArray := by
    apply Array.ext'
    simpa using hc
  simp [execOp, Instr.makeFunc, hc']
theorem r_yield {l : Nat} {t : Tmp} {args : Array Operand} {tys : Array TypeId} {vs : List Value} {fn : FuncId} {tmps : Array Value} {assign body : Code} (ha : args.toList.map ρ = vs) (hρ : ρ (.tmp t) = .func (.yield l) #[] #[])
    (hy : (Instr.yield l vs.toArray).run P w = .ok (.round l fn tmps assign body) w) :
    (execOp ρ ⟨dst, .call { callee := .value (.tmp t), args := args, argTypes := tys }, ty, pos, aft, g⟩).run P w = .ok (.round l fn tmps assign body) w := by
  have ha' : args.map ρ = vs.toArray := by
    apply Array.ext'
    simpa using ha
  simp [execOp, resolve, hρ, ha', Deferred.ofValue, invoke, hy]
end
theorem call_fn {P : Program} {f : FuncId} (hf : FnOk P f) : ∀ args w, (callFunc f args).run P w = .ok (.enter f args) w := by
  obtain ⟨fn, h1, h2, h3⟩ := hf
  have h2' : ¬ fn.name = "runtime.NumGoroutine" := by intro h; simp [h] at h2
  have h3' : ¬ fn.body = none := by intro h; simp [h] at h3
  intro args w
  simp [callFunc, program, Sem.run, h1, h2', h3']
section
variable {P : Program} {Q : Exit → Act → World → Prop} {n : Nat} {e : Env} {w we : World}
end
end Go.Kw
end
section
namespace Go.Kw
open Go.RowKit
set_option linter.unusedVariables false
set_option linter.unusedSimpArgs false
/-- What an iterator promises that yields members of a list in an order of its own: whatever it lays of its own (B) is left alone by the rounds. -/
def IterM {α : Type} (P : Program) (gf : Nat) (lb : List Value) (we : World) (f : α → Value) (R : List α → α → Prop) (F : List α → Prop) : Prop :=
  ∀ (l : Nat) (W : World) (X : List α → List Item → Prop) (Y0 LL : List Item),
    (∀ D q W Y B, R D q → X D Y → St we [] W (Y ++ (B ++ LL)) → YieldAt Fence.wide 0 P l #[f q] W fun en W' => en = .returned (.bool true) ∧ ∃ Y', X (D ++ [q]) Y' ∧ St we [] W' (Y' ++ (B ++ LL))) →
    X [] Y0 → St we [] W (Y0 ++ LL) → Ret P gf (.func (.yield l) #[] #[] :: lb) W fun _ W' => ∃ D Y', F D ∧ X D Y' ∧ St we [] W' (Y' ++ LL)
section
variable {P : Program} {Q : Exit → Act → World → Prop} {n : Nat} {e : Env} {w we : World}
/-- A range over such a function; X D tells of which shape the items of the walk are when D were yielded. -/
theorem c_rangeM {α : Type} {g : Operand} {p1 : Tmp} {assign body : Code} {gf : Nat} {lb : List Value} (f : α → Value) (R : List α → α → Prop) (F : List α → Prop) (hg : ev n e g = .func (.func gf) #[] lb.toArray) (hf : FnOk P gf)
    (X : List α → List Item → Prop) {L0 : List Item} (hX0 : X [] L0) (hS : St we [] w L0) (hiter : IterM P gf lb we f R F)
    (hround : ∀ (l : Nat) (k : List α) (q : α) (W : World) (Y B : List Item), R k q → X k Y → St we [] W (Y ++ B) → assign.wpIn (Fence.wide.inRound l) 0 P (Exit.then (fun a1 W1 => ∃ e1 Y1, a1 = act n e1 ∧ St we [] W1 (Y1 ++ B) ∧
      ∀ W2 B2, St we [] W2 (Y1 ++ B2) → body.wpIn (Fence.wide.inRound l) 0 P (fun en _ W3 => en = .normal ∧ ∃ Y2, X (k ++ [q]) Y2 ∧ St we [] W3 (Y2 ++ B2)) (actD n e1 []) W2) (fun _ _ _ => False)) (actD n (putE (some p1) (f q) e) []) W)
    (hdone : ∀ (D : Nat) (k : List α) (W : World) (Y : List Item), F k → X k Y → St we [] W (Y ++ [.blk D (.deferred (some []))]) → Q .normal (actD n e [{ target := .collected D, args := #[] }]) W) :
    (Code.rangeFunc g #[p1] assign body).wp P Q (act n e) w := by
  have eg := call_fn hf
  have hek : ∀ q, (⟨(#[p1].zip #[f q]).foldl (fun t (p, v) => t.setIfInBounds p v) (act n e).tmps, []⟩ : Act) = act n (putE (some p1) (f q) e) := fun q => by
    have h1 := act_put n e (some p1) (f q)
    rw [← h1]
    simp [Act.put, act]
  refine wpIn_wide.1 (wpIn_rangeFunc (F := Fence.wide) (n := 0) fun fn _ => ?_)
  obtain ⟨rec, hrec⟩ : ∃ rec : LoopState → Loop, rec = fun st => { state := st, pending := none, fn, tmps := (act n e).tmps, params := #[p1], assign, body, defers := w.heap.size } := ⟨_, rfl⟩
  obtain ⟨W1, hW1⟩ : ∃ W1, (w.alloc (.deferred (some []))).alloc (.loop (rec .ready)) = W1 := ⟨_, rfl⟩
  have hS1 : St we [] W1 (L0 ++ [.blk (w.heap.size + 1) (.loop (rec .ready)), .blk w.heap.size (.deferred (some []))]) := by
    have h1 := (hS.alloc (.deferred (some []))).alloc (.loop (rec .ready))
    rw [World.size_alloc, hW1] at h1
    exact h1.perm (List.perm_append_comm (l₁ := L0) (l₂ := [_, _]))
  have hl : ∀ {Y : List Item} {W : World} {st : LoopState}, St we [] W (Y ++ [.blk (w.heap.size + 1) (.loop (rec st)), .blk w.heap.size (.deferred (some []))]) → W.heap[w.heap.size + 1]? = some (.loop (rec st)) := fun h => (h.has (.blk (w.heap.size + 1) _) (by simp)).1
  refine ⟨w.heap.size + 1, [{ target := .collected w.heap.size, args := #[] }], W1, { target := .fn (.func gf) lb.toArray, args := #[.func (.yield (w.heap.size + 1)) #[] #[]] }, W1, gf,
    #[.func (.yield (w.heap.size + 1)) #[] #[]] ++ lb.toArray, W1, ?_, ?_, fun _ _ => trivial, ?_, (fun hh => by cases hh), ?_⟩
  · rw [← hW1, hrec]; exact run_enterLoop_outer _ _ _ _ _
  · have hg' : (act n e).eval g = .func (.func gf) #[] lb.toArray := by rw [eval_act]; exact hg
    simp only [resolve, hg']
    simp [go_sem]
  · simp [invoke, go_sem, eg]
  · have hit := hiter (w.heap.size + 1) W1 X L0 [.blk (w.heap.size + 1) (.loop (rec .ready)), .blk w.heap.size (.deferred (some []))] (fun k q W Y B hk hx h => ?_) hX0 hS1
    · have hit2 : CallsIn Fence.wide (0 - 1) P gf (#[.func (.yield (w.heap.size + 1)) #[] #[]] ++ lb.toArray) W1 _ := callsIn_wide.2 (by
        have := hit
        unfold Ret at this
        rwa [show (Value.func (.yield (w.heap.size + 1)) #[] #[] :: lb).toArray = #[.func (.yield (w.heap.size + 1)) #[] #[]] ++ lb.toArray by simp] at this)
      refine hit2.mono ?_
      rintro en W2 ⟨v, rfl, k, Y, hF, hx, h2⟩
      have hl2 := hl h2
      refine ⟨none, _, by have := run_endLoop (P := P) hl2 (by rw [hrec]; simp); rw [hrec] at this; exact this, ?_⟩
      refine hdone w.heap.size k _ Y hF hx ((St.putObj (l1 := Y) _ h2).sub ?_)
      exact List.Sublist.append_left (List.sublist_cons_self _ _) _
    · have hl3 : ∀ {Y : List Item} {W : World} {st : LoopState}, St we [] W (Y ++ (B ++ [.blk (w.heap.size + 1) (.loop (rec st)), .blk w.heap.size (.deferred (some []))])) → W.heap[w.heap.size + 1]? = some (.loop (rec st)) := fun h => (h.has (.blk (w.heap.size + 1) _) (by simp)).1
      have hl1 := hl3 h
      have hy := run_yield (P := P) (args := #[f q]) hl1 (by rw [hrec]; rfl)
      rw [hrec] at hy
      refine ⟨fn, _, assign, body, hy, roundIn_of_wpIn trivial ?_⟩
      have hr := hround (w.heap.size + 1) k q W Y _ hk hx h
      simp only [hek q]
      refine wpIn_mono hr ?_
      intro ex a1 W2 hq
      cases ex with
      | normal =>
        obtain ⟨e1, Y1, rfl, hS2, hbody⟩ := hq
        have hl2 : W2.heap[w.heap.size + 1]? = some (.loop (rec .ready)) := (hS2.has (.blk (w.heap.size + 1) _) (by simp)).1
        refine ⟨_, run_beginRound hl2 (by rw [hrec]), ?_⟩
        have hS3 := St.putObj (.loop { rec .ready with state := .busy }) (l1 := Y1 ++ B) (l2 := [.blk w.heap.size (.deferred (some []))]) (by rw [List.append_assoc]; exact hS2)
        rw [List.append_assoc] at hS3
        refine wpIn_mono (hbody _ _ hS3) ?_
        rintro ex a3 W4 ⟨rfl, Y2, hx2, hS4⟩
        have hl4 : W4.heap[w.heap.size + 1]? = some (.loop { rec .ready with state := .busy }) := (hS4.has (.blk (w.heap.size + 1) _) (by simp)).1
        refine ⟨_, _, run_endRound none hl4, rfl, ?_⟩
        have hS5 := St.putObj (.loop (rec .ready)) (l1 := Y2 ++ B) (l2 := [.blk w.heap.size (.deferred (some []))]) (by rw [List.append_assoc]; exact hS4)
        rw [List.append_assoc] at hS5
        have e5 : ({ ({ rec .ready with state := .busy } : Loop) with state := (if (none : Option Code).isNone then .ready else .done), pending := none } : Loop) = rec .ready := by rw [hrec]; rfl
        rw [e5]
        exact ⟨Y2, hx2, hS5⟩
      | _ => exact hq
end
end Go.Kw
end
