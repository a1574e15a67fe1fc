/- What the law's proof leans on. No condition. -/
import Derived.OrdersHeld
import Derived.Tactics
import Derived.Below
import Derived.Laws.World
section
namespace Go.Kw
set_option linter.unusedVariables false
set_option linter.unusedSimpArgs false

abbrev Env := List (Nat × Value)

def look : Env → Nat → Value
  | [], _ => undef
  | (k, v) :: r, i => match Nat.beq k i with
    | true => v
    | false => look r i

theorem look_cons (k : Nat) (v : Value) (r : Env) (i : Nat) : look ((k, v) :: r) i = if k = i then v else look r i := by
  by_cases h : k = i
  · subst h; simp [look]
  · have : Nat.beq k i = false := by
      cases hb : Nat.beq k i with
      | false => rfl
      | true => exact absurd (Nat.eq_of_beq_eq_true hb) h
    simp [look, this, h]

/-- The frame of n temporaries that holds what the list says. -/
def act (n : Nat) (e : Env) : Act := ⟨Array.ofFn (fun i : Fin n => look e i.1), []⟩

def ev (n : Nat) (e : Env) : Operand → Value
  | .tmp t => match Nat.blt t n with
    | true => look e t
    | false => undef
  | .const v => v
  | .global g => .pointer (some ⟨g, 0, none⟩)
  | .func f => .func (.func f) #[] #[]

def putE : Option Tmp → Value → Env → Env
  | some d, v, e => (d, v) :: e
  | none, _, e => e

theorem act_get (n : Nat) (e : Env) (t : Nat) : (act n e).tmps[t]? = if t < n then some (look e t) else none := by
  simp only [act, Array.getElem?_ofFn]
  by_cases h : t < n <;> simp [h]

theorem eval_act (n : Nat) (e : Env) : (act n e).eval = ev n e := by
  funext x
  cases x with
  | tmp t =>
    simp only [Act.eval, ev]
    rw [Array.getD_eq_getD_getElem?, act_get]
    by_cases h : t < n
    · have : Nat.blt t n = true := by simpa using h
      simp [h, this]
    · have : Nat.blt t n = false := by
        cases hb : Nat.blt t n with
        | false => rfl
        | true => exact absurd (by simpa using hb) h
      simp [h, this]
  | const v => rfl
  | global g => rfl
  | func f => rfl

theorem act_put (n : Nat) (e : Env) (d : Option Tmp) (v : Value) : (act n e).put d v = act n (putE d v e) := by
  cases d with
  | none => rfl
  | some d =>
    simp only [Act.put, putE, act]
    congr 1
    apply Array.ext_getElem?
    intro i
    rw [Array.getElem?_setIfInBounds, Array.getElem?_ofFn, Array.getElem?_ofFn]
    simp only [Array.size_ofFn, look_cons]
    by_cases h : d = i
    · subst h
      by_cases hn : d < n <;> simp [hn]
    · simp [h]

/-- A slot said once more: the frame is the same. -/
theorem act_dup (n : Nat) (e : Env) (d : Nat) : act n e = act n ((d, look e d) :: e) := by
  simp only [act]
  congr 1
  apply Array.ext_getElem?
  intro i
  rw [Array.getElem?_ofFn, Array.getElem?_ofFn]
  by_cases hn : i < n <;> simp only [hn, ↓reduceDIte, look_cons]
  by_cases h : d = i
  · subst h; simp
  · simp [h]

theorem act_congr (n : Nat) (e f : Env) (h : ∀ i, look e i = look f i) : act n e = act n f := by
  simp only [act]
  congr 1
  apply Array.ext_getElem?
  intro i
  rw [Array.getElem?_ofFn, Array.getElem?_ofFn]
  by_cases hn : i < n <;> simp [hn, h]

def yieldE (ops : Array Oper) (n : Nat) (e : Env) (j : Nat) : Option Bool :=
  match (ops[j]?).bind (·.dst) with
  | some d => match ev n e (.tmp d) with
    | .bool b => some b
    | _ => none
  | none => none

def wantE (ops : Array Oper) (n : Nat) (e : Env) (g : Option (Nat × Bool)) : Bool :=
  match g with
  | none => true
  | some (j, want) => yieldE ops n e j == some want

theorem yielded_act (ops : Array Oper) (n : Nat) (e : Env) (j : Nat) : yielded ops (act n e).tmps j = yieldE ops n e j := by
  simp only [yielded, yieldE]
  cases (ops[j]?).bind (·.dst) with
  | none => rfl
  | some d =>
    simp only [Option.bind_some, act_get, ev]
    by_cases h : d < n
    · have : Nat.blt d n = true := by simpa using h
      simp only [h, if_true, this]
      cases look e d <;> rfl
    · have : Nat.blt d n = false := by
        cases hb : Nat.blt d n with
        | false => rfl
        | true => exact absurd (by simpa using hb) h
      simp [h, this, undef]

theorem wanted_act (ops : Array Oper) (n : Nat) (e : Env) (o : Oper) : Region.wanted o (yielded ops (act n e).tmps) = wantE ops n e o.guard := by
  simp only [Region.wanted, wantE]
  cases h : o.guard with
  | none => rfl
  | some g => obtain ⟨j, want⟩ := g; simp only [yielded_act]

/-- A call hands back a value, and R holds of it and of the world behind. -/
def Ret (P : Program) (f : FuncId) (args : List Value) (w : World) (R : Value → World → Prop) : Prop :=
  Calls P f args.toArray w fun e w' => ∃ v, e = .returned v ∧ R v w'

theorem Ret.mono {P : Program} {f : FuncId} {args : List Value} {w : World} {R R' : Value → World → Prop} (h : Ret P f args w R) (hr : ∀ v w', R v w' → R' v w') : Ret P f args w R' :=
  Calls.mono h fun e w' ⟨v, he, hv⟩ => ⟨v, he, hr v w' hv⟩

/-- The goal of a list of operations, held shut. -/
structure WL (P : Program) (ops : Array Oper) (Q : Exit → Act → World → Prop) (l : List Oper) (a : Act) (w : World) : Prop where
  out : wpList P ops Q l a w

section lists
variable {P : Program} {ops : Array Oper} {Q : Exit → Act → World → Prop} {n : Nat} {e : Env} {w w' : World} {rest : List Oper} {dst : Option Tmp} {op : Op} {ty : TypeId} {pos : String} {aft : Array Edge} {g : Option (Nat × Bool)} {v : Value}

theorem wl_val (hr : (execOp (ev n e) ⟨dst, op, ty, pos, aft, g⟩).run P w = .ok (.value v) w') (hg : wantE ops n e g = true)
    (h : WL P ops Q rest (act n (putE dst v e)) w') : WL P ops Q (⟨dst, op, ty, pos, aft, g⟩ :: rest) (act n e) w := by
  refine ⟨?_⟩
  unfold wpList
  rw [wanted_act, if_pos hg]
  refine .inl ?_
  simp only [Oper.wp, eval_act, hr, Oper.upon, act_put]
  exact h.out

theorem wl_skip (hr : (execOp (ev n e) ⟨none, op, ty, pos, aft, g⟩).run P w = .ok .skip w') (hg : wantE ops n e g = true)
    (h : WL P ops Q rest (act n e) w') : WL P ops Q (⟨none, op, ty, pos, aft, g⟩ :: rest) (act n e) w := by
  refine ⟨?_⟩
  unfold wpList
  rw [wanted_act, if_pos hg]
  refine .inl ?_
  simp only [Oper.wp, eval_act, hr, Oper.upon]
  exact h.out

theorem wl_not (hg : wantE ops n e g = false) (h : WL P ops Q rest (act n (putE dst undef e)) w) : WL P ops Q (⟨dst, op, ty, pos, aft, g⟩ :: rest) (act n e) w := by
  refine ⟨?_⟩
  unfold wpList
  rw [wanted_act, hg]
  simp only [act_put]
  exact h.out

theorem wl_call {f : FuncId} {args : List Value} {R : Value → World → Prop} (hr : (execOp (ev n e) ⟨dst, op, ty, pos, aft, g⟩).run P w = .ok (.enter f args.toArray) w) (hg : wantE ops n e g = true)
    (hc : Ret P f args w R) (h : ∀ v w', R v w' → WL P ops Q rest (act n (putE dst v e)) w') : WL P ops Q (⟨dst, op, ty, pos, aft, g⟩ :: rest) (act n e) w := by
  refine ⟨?_⟩
  unfold wpList
  rw [wanted_act, if_pos hg]
  refine .inl ?_
  simp only [Oper.wp, eval_act, hr, Oper.upon]
  exact Calls.mono hc fun en w' ⟨v, he, hv⟩ => by subst he; simp only [act_put]; exact (h v w' hv).out

end lists

/-! ### Code -/
section code
variable {P : Program} {Q : Exit → Act → World → Prop} {n : Nat} {e : Env} {w : World}

theorem c_region {id : Nat} {l : List Oper} (h : WL P l.toArray Q l (act n e) w) : (Code.region id l.toArray false).wp P Q (act n e) w := wp_region_lit h.out
theorem c_seq {x y : Code} {a : Act} (h : x.wp P (Exit.then (y.wp P Q) Q) a w) : (Code.seq x y).wp P Q a w := wp_seq h
theorem c_block {id : Nat} {c : Code} {a : Act} (h : c.wp P (Exit.inBlock id Q) a w) : (Code.block id c).wp P Q a w := wp_block h
theorem c_inE {id : Nat} {a : Act} (h : Q .normal a w) : Exit.inBlock id Q (.exit id) a w := by
  show (if id = id then Q .normal a w else Q (.exit id) a w)
  rw [if_pos rfl]; exact h
theorem c_true {c : Operand} {x y : Code} (hc : ev n e c = .bool true) (h : x.wp P Q (act n e) w) : (Code.cond c x y).wp P Q (act n e) w :=
  wp_cond_true (by rw [eval_act]; exact hc) h
theorem c_false {c : Operand} {x y : Code} (hc : ev n e c = .bool false) (h : y.wp P Q (act n e) w) : (Code.cond c x y).wp P Q (act n e) w :=
  wp_cond_false (by rw [eval_act]; exact hc) h
/-- A cut behind the first of two: J holds where they meet. -/
theorem c_cut {x y : Code} {a : Act} (J : Act → World → Prop) (h : x.wp P (Exit.then J Q) a w) (hy : ∀ a w, J a w → y.wp P Q a w) : (Code.seq x y).wp P Q a w := by
  refine wp_seq (wp_mono h fun ex a' w' hq => ?_)
  cases ex <;> first | exact hy _ _ hq | exact hq

/-- A loop, by a number that goes down. -/
theorem c_loop {c : Code} {a : Act} (I : Nat → Act → World → Prop) (N : Nat) (h0 : I N a w)
    (hr : ∀ d a w, I d a w → c.wp P (Exit.then (fun a' w' => ∃ d', d' < d ∧ I d' a' w') Q) a w) : (Code.loop c).wp P Q a w := by
  have key : ∀ a w, (∃ d, I d a w) → ∃ d, I d a w ∧ ∀ d', I d' a w → d ≤ d' := by
    intro a w ⟨d, hd⟩
    induction d using Nat.strongRecOn with
    | _ d ih =>
      by_cases h : ∃ d', d' < d ∧ I d' a w
      · obtain ⟨d', hlt, hd'⟩ := h
        exact ih d' hlt hd'
      · exact ⟨d, hd, fun d' hd' => Nat.le_of_not_lt fun hlt => h ⟨d', hlt, hd'⟩⟩
  classical
  let μ : Act → World → Nat := fun a w => if h : ∃ d, I d a w then (key a w h).choose else 0
  have hμ : ∀ a w (h : ∃ d, I d a w), I (μ a w) a w ∧ ∀ d', I d' a w → μ a w ≤ d' := by
    intro a w h
    have := (key a w h).choose_spec
    simp only [μ, dif_pos h]
    exact this
  refine wp_loop (fun a w => ∃ d, I d a w) μ ⟨N, h0⟩ fun a w hI => ?_
  have h1 := hμ a w hI
  refine wp_mono (hr _ a w h1.1) fun ex a' w' hq => ?_
  cases ex <;> first
    | exact hq
    | (obtain ⟨d', hlt, hd'⟩ := hq
       exact ⟨⟨d', hd'⟩, Nat.lt_of_le_of_lt ((hμ a' w' ⟨d', hd'⟩).2 d' hd') hlt⟩)

def envFrom : Nat → List Value → Env
  | _, [] => []
  | k, v :: l => (k, v) :: envFrom (k + 1) l

theorem look_envFrom (l : List Value) : ∀ (k i : Nat), look (envFrom k l) i = if k ≤ i then l.getD (i - k) undef else undef := by
  induction l with
  | nil => intro k i; simp [envFrom, look]
  | cons v l ih =>
    intro k i
    simp only [envFrom, look_cons, ih]
    by_cases h : k = i
    · subst h; simp
    · by_cases h2 : k ≤ i
      · have e1 : i - k = (i - (k + 1)) + 1 := by omega
        simp only [h, if_false, h2, if_true, show k + 1 ≤ i from by omega]
        rw [e1, List.getD_cons_succ]
      · simp [h, h2, show ¬ k + 1 ≤ i from by omega]

/-- Into the body of a function. -/
theorem enter {f : FuncId} {fn : Func} {c : Code} {m : Nat} {args : List Value} {R : Value → World → Prop} (hf : P.funcs[f]? = some fn) (hb : fn.body = some c) (hn : fn.ntmps = m) (hl : Nat.ble args.length m = true)
    (h : c.wp P (bodyPost P fn fun en w' => ∃ v, en = .returned v ∧ R v w') (act m (envFrom 0 args)) w) : Ret P f args w R := by
  refine calls_of_wp hf hb ?_
  have : ({ tmps := args.toArray ++ Array.replicate (fn.ntmps - args.toArray.size) undef, defers := [] } : Act) = act m (envFrom 0 args) := by
    simp only [act]
    congr 1
    have hl' : args.length ≤ m := by simpa using hl
    apply Array.ext_getElem?
    intro i
    rw [Array.getElem?_ofFn, Array.getElem?_append, hn]
    simp only [look_envFrom, List.size_toArray, Nat.zero_le, if_true, Nat.sub_zero, List.getElem?_toArray]
    by_cases h1 : i < args.length
    · have h2 : i < m := by omega
      simp [h1, h2]
    · by_cases h2 : i < m
      · simp only [h1, if_false, h2, ↓reduceDIte]
        rw [Array.getElem?_replicate, if_pos (by omega)]
        simp [List.getElem?_eq_none (Nat.le_of_not_lt h1)]
      · simp only [h1, if_false, h2, ↓reduceDIte]
        rw [Array.getElem?_replicate, if_neg (by omega)]
  rw [this]
  exact h

/-- One result, in its temporary. -/
theorem ret1 {fn : Func} {R : Value → World → Prop} {t : Tmp} (hr : fn.results = #[.tmp t]) (h : R (ev n e (.tmp t)) w) : bodyPost P fn (fun en w' => ∃ v, en = .returned v ∧ R v w') .ret (act n e) w := by
  refine ⟨rfl, ev n e (.tmp t), ?_, _, rfl, h⟩
  rw [results_tmp hr, ← eval_act]; rfl

theorem ret0 {fn : Func} {R : Value → World → Prop} (hr : fn.results = #[]) (h : R (.tuple #[]) w) : bodyPost P fn (fun en w' => ∃ v, en = .returned v ∧ R v w') .ret (act n e) w :=
  ⟨rfl, .tuple #[], results_none hr _ _ _, _, rfl, h⟩
theorem ret0n {fn : Func} {R : Value → World → Prop} (hr : fn.results = #[]) (h : R (.tuple #[]) w) : bodyPost P fn (fun en w' => ∃ v, en = .returned v ∧ R v w') .normal (act n e) w :=
  ⟨rfl, .tuple #[], results_none hr _ _ _, _, rfl, h⟩

/-- What a result variable holds. -/
def ResIs (P : Program) (n : Nat) (e : Env) (w : World) : ResultVar → Value → Prop
  | .tmp t, v => ev n e (.tmp t) = v
  | .cell a t, v => ∃ p, ev n e (.tmp a) = .pointer (some p) ∧ (loadVar t p).run P w = .ok v w

theorem act_getD (t : Nat) : (act n e).tmps[t]?.getD undef = ev n e (.tmp t) := by
  rw [← eval_act]; simp [Act.eval]

theorem retc {fn : Func} {R : Value → World → Prop} {r : ResultVar} {v : Value} (hr : fn.results = #[r]) (hv : ResIs P n e w r v) (h : R v w) : bodyPost P fn (fun en w' => ∃ v, en = .returned v ∧ R v w') .ret (act n e) w := by
  refine ⟨rfl, v, ?_, _, rfl, h⟩
  cases r <;> simp only [ResIs] at hv <;> (try obtain ⟨p1, a1, b1⟩ := hv) <;> simp [results, hr, act_getD, asAddr, *]

theorem ret2 {fn : Func} {R : Value → World → Prop} {r s : ResultVar} {v u : Value} (hr : fn.results = #[r, s]) (hv : ResIs P n e w r v) (hu : ResIs P n e w s u) (h : R (.tuple #[v, u]) w) : bodyPost P fn (fun en w' => ∃ v, en = .returned v ∧ R v w') .ret (act n e) w := by
  refine ⟨rfl, .tuple #[v, u], ?_, _, rfl, h⟩
  cases r <;> cases s <;> simp only [ResIs] at hv hu <;> (try obtain ⟨p1, a1, b1⟩ := hv) <;> (try obtain ⟨p2, a2, b2⟩ := hu) <;> simp [results, hr, act_getD, asAddr, *]

theorem ret3 {fn : Func} {R : Value → World → Prop} {r s t : ResultVar} {v u x : Value} (hr : fn.results = #[r, s, t]) (hv : ResIs P n e w r v) (hu : ResIs P n e w s u) (hx : ResIs P n e w t x) (h : R (.tuple #[v, u, x]) w) : bodyPost P fn (fun en w' => ∃ v, en = .returned v ∧ R v w') .ret (act n e) w := by
  refine ⟨rfl, .tuple #[v, u, x], ?_, _, rfl, h⟩
  cases r <;> cases s <;> cases t <;> simp only [ResIs] at hv hu hx <;> (try obtain ⟨p1, a1, b1⟩ := hv) <;> (try obtain ⟨p2, a2, b2⟩ := hu) <;> (try obtain ⟨p3, a3, b3⟩ := hx) <;> simp [results, hr, act_getD, asAddr, *]
end code
end Go.Kw
end
section
namespace Go.Kw
set_option linter.unusedVariables false
set_option linter.unusedSimpArgs false

abbrev b8 (c : UInt8) : Value := .int .u8 (c.toNat : Int)
abbrev v32 (c : UInt32) : Value := .int .u32 (c.toNat : Int)
abbrev v64 (c : UInt64) : Value := .int .u64 (c.toNat : Int)
abbrev vi (a : Nat) : Value := .int .i64 (a : Int)

section nums
variable {P : Program} {ρ : Operand → Value} {w : World} {dst : Option Tmp} {ty : TypeId} {pos : String} {aft : Array Edge} {g : Option (Nat × Bool)} {x y z : Operand} {T T2 : TypeId} {v : Value} {k : IntKind} {a b : Int}

theorem r_move (h : ρ x = v) : (execOp ρ ⟨dst, .move x, ty, pos, aft, g⟩).run P w = .ok (.value v) w := by subst h; rfl
theorem r_assign (h : ρ x = v) : (execOp ρ ⟨dst, .assign x, ty, pos, aft, g⟩).run P w = .ok (.value v) w := by subst h; rfl
theorem r_pick_t (hc : ρ z = .bool true) (h : ρ x = v) : (execOp ρ ⟨dst, .pick z x y, ty, pos, aft, g⟩).run P w = .ok (.value v) w := by
  subst h; simp [execOp, hc, asBool]
theorem r_pick_f (hc : ρ z = .bool false) (h : ρ y = v) : (execOp ρ ⟨dst, .pick z x y, ty, pos, aft, g⟩).run P w = .ok (.value v) w := by
  subst h; simp [execOp, hc, asBool]
theorem r_not {t : Bool} (hc : ρ x = .bool t) : (execOp ρ ⟨dst, .unOp .not T x, ty, pos, aft, g⟩).run P w = .ok (.value (.bool !t)) w := by
  simp [execOp, hc, Op.unary]
theorem r_extract {vs : List Value} {i : Nat} (hx : ρ x = .tuple vs.toArray) (hv : vs[i]? = some v) : (execOp ρ ⟨dst, .extract x i, ty, pos, aft, g⟩).run P w = .ok (.value v) w := by
  simp [execOp, hx, Instr.extract, hv]

theorem r_bin {op : BinOp} {r : Value} (hx : ρ x = .int k a) (hy : ρ y = .int k b) (hr : (binOp op T (.int k a) (.int k b)).run P w = .ok r w) :
    (execOp ρ ⟨dst, .binOp op T x y T2, ty, pos, aft, g⟩).run P w = .ok (.value r) w := by
  have he : (eqGuard op T x y (.int k a) (.int k b)).run P w = .ok () w := by
    unfold eqGuard; cases op <;> simp
  simp [execOp, hx, hy, he, hr]

theorem wi {a : Int} (h1 : -9223372036854775808 ≤ a) (h2 : a ≤ 9223372036854775807) : IntKind.wrap .i64 a = a := by
  have e : IntKind.wrap .i64 a = if 9223372036854775808 ≤ a % 18446744073709551616 then a % 18446744073709551616 - 18446744073709551616 else a % 18446744073709551616 := by
    simp [IntKind.wrap, IntKind.bits, IntKind.signed]
  rw [e]
  split <;> omega

-- whole numbers, of kind int, as natural numbers
theorem r_addn {a b : Nat} (hx : ρ x = vi a) (hy : ρ y = vi b) (h : a + b ≤ 9223372036854775807) : (execOp ρ ⟨dst, .binOp .add T x y T2, ty, pos, aft, g⟩).run P w = .ok (.value (vi (a + b))) w :=
  r_bin hx hy (by simp [binOp, Op.intArith, wi (a := (a : Int) + b) (by omega) (by omega)])
theorem r_subn {a b : Nat} (hx : ρ x = vi a) (hy : ρ y = vi b) (h : b ≤ a) (ha : a ≤ 9223372036854775807) : (execOp ρ ⟨dst, .binOp .sub T x y T2, ty, pos, aft, g⟩).run P w = .ok (.value (vi (a - b))) w :=
  r_bin hx hy (by simp [binOp, Op.intArith, wi (a := (a : Int) - b) (by omega) (by omega), Int.ofNat_sub h])
theorem r_muln {a b : Nat} (hx : ρ x = vi a) (hy : ρ y = vi b) (h : a * b ≤ 9223372036854775807) : (execOp ρ ⟨dst, .binOp .mul T x y T2, ty, pos, aft, g⟩).run P w = .ok (.value (vi (a * b))) w :=
  r_bin hx hy (by simp [binOp, Op.intArith, wi (a := (a : Int) * b) (by rw [← Int.natCast_mul]; omega) (by rw [← Int.natCast_mul]; omega)])
theorem r_remn {a b : Nat} (hx : ρ x = vi a) (hy : ρ y = vi b) (h : 0 < b) : (execOp ρ ⟨dst, .binOp .rem T x y T2, ty, pos, aft, g⟩).run P w = .ok (.value (vi (a % b))) w :=
  r_bin hx hy (by
    have h0 : ¬ (b : Int) = 0 := by omega
    have h3 : (a : Int).tmod b = ((a % b : Nat) : Int) := by rw [Int.tmod_eq_emod_of_nonneg (by omega)]; exact (Int.natCast_emod a b).symm
    simp only [binOp, Op.intDiv, h0, if_false, h3, Sem.run_pure, ne_eq, not_true_eq_false])
theorem r_quon {a b : Nat} (hx : ρ x = vi a) (hy : ρ y = vi b) (h : 0 < b) (ha : a ≤ 9223372036854775807) : (execOp ρ ⟨dst, .binOp .quo T x y T2, ty, pos, aft, g⟩).run P w = .ok (.value (vi (a / b))) w :=
  r_bin hx hy (by
    have h0 : ¬ (b : Int) = 0 := by omega
    have h2 : (a / b : Nat) ≤ a := Nat.div_le_self _ _
    have h3 : (a : Int).tdiv b = ((a / b : Nat) : Int) := by rw [Int.tdiv_eq_ediv_of_nonneg (by omega)]; exact (Int.natCast_ediv a b).symm
    simp only [binOp, Op.intDiv, h0, if_false, Sem.run_pure, ne_eq, not_true_eq_false]
    rw [h3]
    generalize a / b = q at *
    rw [wi (by omega) (by omega)])
-- of kind int, as integers
theorem r_subi (hx : ρ x = .int .i64 a) (hy : ρ y = .int .i64 b) (h1 : -9223372036854775808 ≤ a - b) (h2 : a - b ≤ 9223372036854775807) : (execOp ρ ⟨dst, .binOp .sub T x y T2, ty, pos, aft, g⟩).run P w = .ok (.value (.int .i64 (a - b))) w :=
  r_bin hx hy (by simp [binOp, Op.intArith, wi h1 h2])
theorem r_eql (hx : ρ x = .int k a) (hy : ρ y = .int k b) : (execOp ρ ⟨dst, .binOp .eql T x y T2, ty, pos, aft, g⟩).run P w = .ok (.value (.bool (decide (a = b)))) w :=
  r_bin hx hy (by simp [binOp, Op.intCmp]; rfl)
theorem r_neq (hx : ρ x = .int k a) (hy : ρ y = .int k b) : (execOp ρ ⟨dst, .binOp .neq T x y T2, ty, pos, aft, g⟩).run P w = .ok (.value (.bool (decide (a ≠ b)))) w :=
  r_bin hx hy (by simp [binOp, Op.intCmp, bne]; rfl)
theorem r_lss (hx : ρ x = .int k a) (hy : ρ y = .int k b) : (execOp ρ ⟨dst, .binOp .lss T x y T2, ty, pos, aft, g⟩).run P w = .ok (.value (.bool (decide (a < b)))) w :=
  r_bin hx hy (by simp [binOp, Op.intCmp])
theorem r_leq (hx : ρ x = .int k a) (hy : ρ y = .int k b) : (execOp ρ ⟨dst, .binOp .leq T x y T2, ty, pos, aft, g⟩).run P w = .ok (.value (.bool (decide (a ≤ b)))) w :=
  r_bin hx hy (by simp [binOp, Op.intCmp])
theorem r_gtr (hx : ρ x = .int k a) (hy : ρ y = .int k b) : (execOp ρ ⟨dst, .binOp .gtr T x y T2, ty, pos, aft, g⟩).run P w = .ok (.value (.bool (decide (b < a)))) w :=
  r_bin hx hy (by simp [binOp, Op.intCmp])
theorem r_geq (hx : ρ x = .int k a) (hy : ρ y = .int k b) : (execOp ρ ⟨dst, .binOp .geq T x y T2, ty, pos, aft, g⟩).run P w = .ok (.value (.bool (decide (b ≤ a)))) w :=
  r_bin hx hy (by simp [binOp, Op.intCmp])

-- words
theorem wrap_u8 (n : Int) : IntKind.wrap .u8 n = n % 256 := by simp [IntKind.wrap, IntKind.bits, IntKind.signed]
theorem wrap_u32 (n : Int) : IntKind.wrap .u32 n = n % 4294967296 := by simp [IntKind.wrap, IntKind.bits, IntKind.signed]
theorem wrap_u64 (n : Int) : IntKind.wrap .u64 n = n % 18446744073709551616 := by simp [IntKind.wrap, IntKind.bits, IntKind.signed]

theorem r_add32 {a b : UInt32} (hx : ρ x = v32 a) (hy : ρ y = v32 b) : (execOp ρ ⟨dst, .binOp .add T x y T2, ty, pos, aft, g⟩).run P w = .ok (.value (v32 (a + b))) w :=
  r_bin hx hy (by simp [binOp, Op.intArith, wrap_u32, UInt32.toNat_add])
theorem r_mul32 {a b : UInt32} (hx : ρ x = v32 a) (hy : ρ y = v32 b) : (execOp ρ ⟨dst, .binOp .mul T x y T2, ty, pos, aft, g⟩).run P w = .ok (.value (v32 (a * b))) w :=
  r_bin hx hy (by simp [binOp, Op.intArith, wrap_u32, UInt32.toNat_mul])
theorem r_mul64 {a b : UInt64} (hx : ρ x = v64 a) (hy : ρ y = v64 b) : (execOp ρ ⟨dst, .binOp .mul T x y T2, ty, pos, aft, g⟩).run P w = .ok (.value (v64 (a * b))) w :=
  r_bin hx hy (by simp [binOp, Op.intArith, wrap_u64, UInt64.toNat_mul])
theorem r_sub64 {a b : UInt64} (hx : ρ x = v64 a) (hy : ρ y = v64 b) : (execOp ρ ⟨dst, .binOp .sub T x y T2, ty, pos, aft, g⟩).run P w = .ok (.value (v64 (a - b))) w :=
  r_bin hx hy (by
    have h1 := a.toNat_lt; have h2 := b.toNat_lt
    simp [binOp, Op.intArith, wrap_u64, UInt64.toNat_sub] <;> omega)
theorem r_sub8 {a b : UInt8} (hx : ρ x = b8 a) (hy : ρ y = b8 b) : (execOp ρ ⟨dst, .binOp .sub T x y T2, ty, pos, aft, g⟩).run P w = .ok (.value (b8 (a - b))) w :=
  r_bin hx hy (by
    have h1 := a.toNat_lt; have h2 := b.toNat_lt
    simp [binOp, Op.intArith, wrap_u8, UInt8.toNat_sub] <;> omega)

theorem bv32 (a : UInt32) : BitVec.ofInt (IntKind.bits .u32) (a.toNat : Int) = a.toBitVec := by
  apply BitVec.eq_of_toNat_eq
  have := a.toNat_lt
  simp [IntKind.bits, BitVec.toNat_ofInt]
theorem bv64 (a : UInt64) : BitVec.ofInt (IntKind.bits .u64) (a.toNat : Int) = a.toBitVec := by
  apply BitVec.eq_of_toNat_eq
  have := a.toNat_lt
  simp [IntKind.bits, BitVec.toNat_ofInt]
theorem bv8 (a : UInt8) : BitVec.ofInt (IntKind.bits .u8) (a.toNat : Int) = a.toBitVec := by
  apply BitVec.eq_of_toNat_eq
  have := a.toNat_lt
  simp [IntKind.bits, BitVec.toNat_ofInt]

theorem r_xor32 {a b : UInt32} (hx : ρ x = v32 a) (hy : ρ y = v32 b) : (execOp ρ ⟨dst, .binOp .xor T x y T2, ty, pos, aft, g⟩).run P w = .ok (.value (v32 (a ^^^ b))) w :=
  r_bin hx hy (by
    simp only [binOp, Op.intBits, bv32, Sem.run_pure, wrap_u32, ne_eq, not_true_eq_false, if_false]
    have h := (a ^^^ b).toNat_lt
    show Result.ok (Value.int _ (((a ^^^ b).toNat : Int) % 4294967296)) w = _
    rw [Int.emod_eq_of_lt (by omega) (by omega)])
theorem r_or32 {a b : UInt32} (hx : ρ x = v32 a) (hy : ρ y = v32 b) : (execOp ρ ⟨dst, .binOp .or T x y T2, ty, pos, aft, g⟩).run P w = .ok (.value (v32 (a ||| b))) w :=
  r_bin hx hy (by
    simp only [binOp, Op.intBits, bv32, Sem.run_pure, wrap_u32, ne_eq, not_true_eq_false, if_false]
    have h := (a ||| b).toNat_lt
    show Result.ok (Value.int _ (((a ||| b).toNat : Int) % 4294967296)) w = _
    rw [Int.emod_eq_of_lt (by omega) (by omega)])
theorem r_xor8 {a b : UInt8} (hx : ρ x = b8 a) (hy : ρ y = b8 b) : (execOp ρ ⟨dst, .binOp .xor T x y T2, ty, pos, aft, g⟩).run P w = .ok (.value (b8 (a ^^^ b))) w :=
  r_bin hx hy (by
    simp only [binOp, Op.intBits, bv8, Sem.run_pure, wrap_u8, ne_eq, not_true_eq_false, if_false]
    have h := (a ^^^ b).toNat_lt
    show Result.ok (Value.int _ (((a ^^^ b).toNat : Int) % 256)) w = _
    rw [Int.emod_eq_of_lt (by omega) (by omega)])
theorem r_and8 {a b : UInt8} (hx : ρ x = b8 a) (hy : ρ y = b8 b) : (execOp ρ ⟨dst, .binOp .and T x y T2, ty, pos, aft, g⟩).run P w = .ok (.value (b8 (a &&& b))) w :=
  r_bin hx hy (by
    simp only [binOp, Op.intBits, bv8, Sem.run_pure, wrap_u8, ne_eq, not_true_eq_false, if_false]
    have h := (a &&& b).toNat_lt
    show Result.ok (Value.int _ (((a &&& b).toNat : Int) % 256)) w = _
    rw [Int.emod_eq_of_lt (by omega) (by omega)])
theorem r_and64 {a b : UInt64} (hx : ρ x = v64 a) (hy : ρ y = v64 b) : (execOp ρ ⟨dst, .binOp .and T x y T2, ty, pos, aft, g⟩).run P w = .ok (.value (v64 (a &&& b))) w :=
  r_bin hx hy (by
    simp only [binOp, Op.intBits, bv64, Sem.run_pure, wrap_u64, ne_eq, not_true_eq_false, if_false]
    have h := (a &&& b).toNat_lt
    show Result.ok (Value.int _ (((a &&& b).toNat : Int) % 18446744073709551616)) w = _
    rw [Int.emod_eq_of_lt (by omega) (by omega)])

/-- A shift, of whatever kind: the count is a number that is not negative. -/
theorem r_shl {k k2 : IntKind} {s : Nat} {r : Int} (hx : ρ x = .int k a) (hy : ρ y = .int k2 (s : Int)) (hr : k.wrap (a * 2 ^ (min s k.bits)) = r) :
    (execOp ρ ⟨dst, .binOp .shl T x y T2, ty, pos, aft, g⟩).run P w = .ok (.value (.int k r)) w := by
  subst hr
  have he : (eqGuard .shl T x y (.int k a) (.int k2 (s : Int))).run P w = .ok () w := by unfold eqGuard; simp
  have hn : ¬ (s : Int) < 0 := by omega
  simp [execOp, hx, hy, he, binOp, Op.shift, hn]
theorem r_shr {k k2 : IntKind} {s : Nat} {r : Int} (hx : ρ x = .int k a) (hy : ρ y = .int k2 (s : Int)) (hr : a.fdiv (2 ^ (min s k.bits)) = r) :
    (execOp ρ ⟨dst, .binOp .shr T x y T2, ty, pos, aft, g⟩).run P w = .ok (.value (.int k r)) w := by
  subst hr
  have he : (eqGuard .shr T x y (.int k a) (.int k2 (s : Int))).run P w = .ok () w := by unfold eqGuard; simp
  have hn : ¬ (s : Int) < 0 := by omega
  simp [execOp, hx, hy, he, binOp, Op.shift, hn]

theorem shl32_eq (a : UInt32) (s : Nat) (h : s < 32) : IntKind.wrap .u32 ((a.toNat : Int) * 2 ^ (min s (IntKind.bits .u32))) = ((a <<< (UInt32.ofNat s)).toNat : Int) := by
  have e : min s (IntKind.bits .u32) = s := by simp only [IntKind.bits]; omega
  rw [e, wrap_u32, UInt32.toNat_shiftLeft]
  have e2 : (UInt32.ofNat s).toNat % 32 = s := by simp [UInt32.toNat_ofNat']; omega
  rw [e2, Nat.shiftLeft_eq]
  simp only [Int.natCast_emod, Int.natCast_mul, Int.natCast_pow]; rfl
theorem shr32_eq (a : UInt32) (s : Nat) (h : s < 32) : (a.toNat : Int).fdiv (2 ^ (min s (IntKind.bits .u32))) = ((a >>> (UInt32.ofNat s)).toNat : Int) := by
  have e : min s (IntKind.bits .u32) = s := by simp only [IntKind.bits]; omega
  rw [e, UInt32.toNat_shiftRight]
  have e2 : (UInt32.ofNat s).toNat % 32 = s := by simp [UInt32.toNat_ofNat']; omega
  rw [e2, Nat.shiftRight_eq_div_pow, Int.fdiv_eq_ediv_of_nonneg _ (Int.pow_nonneg (by decide)), Int.natCast_ediv, Int.natCast_pow]; rfl
theorem shr64_eq (a : UInt64) (s : Nat) (h : s < 64) : (a.toNat : Int).fdiv (2 ^ (min s (IntKind.bits .u64))) = ((a >>> (UInt64.ofNat s)).toNat : Int) := by
  have e : min s (IntKind.bits .u64) = s := by simp only [IntKind.bits]; omega
  rw [e, UInt64.toNat_shiftRight]
  have e2 : (UInt64.ofNat s).toNat % 64 = s := by simp [UInt64.toNat_ofNat']; omega
  rw [e2, Nat.shiftRight_eq_div_pow, Int.fdiv_eq_ediv_of_nonneg _ (Int.pow_nonneg (by decide)), Int.natCast_ediv, Int.natCast_pow]; rfl
theorem shr8_eq (a : UInt8) (s : Nat) (h : s < 8) : (a.toNat : Int).fdiv (2 ^ (min s (IntKind.bits .u8))) = ((a >>> (UInt8.ofNat s)).toNat : Int) := by
  have e : min s (IntKind.bits .u8) = s := by simp only [IntKind.bits]; omega
  rw [e, UInt8.toNat_shiftRight]
  have e2 : (UInt8.ofNat s).toNat % 8 = s := by simp [UInt8.toNat_ofNat']; omega
  rw [e2, Nat.shiftRight_eq_div_pow, Int.fdiv_eq_ediv_of_nonneg _ (Int.pow_nonneg (by decide)), Int.natCast_ediv, Int.natCast_pow]; rfl
theorem r_shl32 {k2 : IntKind} {a : UInt32} {s : Nat} (hx : ρ x = v32 a) (hy : ρ y = .int k2 (s : Int)) (h : s < 32) : (execOp ρ ⟨dst, .binOp .shl T x y T2, ty, pos, aft, g⟩).run P w = .ok (.value (v32 (a <<< (UInt32.ofNat s)))) w := r_shl hx hy (shl32_eq a s h)
theorem r_shr32 {k2 : IntKind} {a : UInt32} {s : Nat} (hx : ρ x = v32 a) (hy : ρ y = .int k2 (s : Int)) (h : s < 32) : (execOp ρ ⟨dst, .binOp .shr T x y T2, ty, pos, aft, g⟩).run P w = .ok (.value (v32 (a >>> (UInt32.ofNat s)))) w := r_shr hx hy (shr32_eq a s h)
theorem r_shr64 {k2 : IntKind} {a : UInt64} {s : Nat} (hx : ρ x = v64 a) (hy : ρ y = .int k2 (s : Int)) (h : s < 64) : (execOp ρ ⟨dst, .binOp .shr T x y T2, ty, pos, aft, g⟩).run P w = .ok (.value (v64 (a >>> (UInt64.ofNat s)))) w := r_shr hx hy (shr64_eq a s h)
theorem r_shr8 {k2 : IntKind} {a : UInt8} {s : Nat} (hx : ρ x = b8 a) (hy : ρ y = .int k2 (s : Int)) (h : s < 8) : (execOp ρ ⟨dst, .binOp .shr T x y T2, ty, pos, aft, g⟩).run P w = .ok (.value (b8 (a >>> (UInt8.ofNat s)))) w := r_shr hx hy (shr8_eq a s h)
/-- A conversion between kinds of whole numbers. -/
theorem r_conv {k k2 : IntKind} {T : TypeId} {r : Int} (hT : P.underlying T = some (.int k2)) (hS : ∃ d, P.underlying T2 = some d) (hx : ρ x = .int k a) (hr : k2.wrap a = r) :
    (execOp ρ ⟨dst, .convert T2 T x, ty, pos, aft, g⟩).run P w = .ok (.value (.int k2 r)) w := by
  subst hr
  obtain ⟨d, hd⟩ := hS
  simp [execOp, hx, convert, underlying, program, hT, hd, Conv.intToInt, Sem.run]

end nums
end Go.Kw
end
