/- What the law's proof leans on. No condition. -/
import Derived.Test.YtjnnhlbfgnopiaaGreatDoorPCAG
import Derived.Test.YtjnnhlbfgnopiaaGreatDoorPCAC
import Derived.Test.YtjnnhlbfgnopiaaGreatDoorPCAD
import Derived.Orders
namespace Go.Kw
set_option linter.unusedVariables false
set_option linter.unusedSimpArgs false
/-! ### Closers -/
theorem Om {p : Prop} (h : p := by omega) : p := h
theorem Ln {p : Prop} (h : p := by first | (simp [*]; done) | (simp [*] <;> omega) | omega) : p := h
theorem Sd {p : Prop} (h : p := by first | omega | (simp [*]; done) | (simp [*] <;> omega)) : p := h
theorem On {p : Prop} (h : p := by repeat' first | exact one_nil | exact one_b8 _ | exact one_v32 _ | exact one_all rfl | refine one_cons rfl ?_ | refine one_app ?_ ?_) : p := h
theorem Oc {p : Prop} (h : p := by first | exact one_b8 _ | exact one_v32 _ | (intro c hc; simp only [List.mem_cons, List.not_mem_nil, or_false] at hc; (first | subst hc | rcases hc with rfl | rfl) <;> rfl)) : p := h
/-! ### Places in lists -/
section
variable {α : Type} {a0 a1 a2 a3 a4 a5 a6 a7 a8 a9 x : α} {l : List α}
theorem Z0 : x ∈ x :: l := .head _
theorem Z1 : x ∈ a0 :: x :: l := .tail _ Z0
theorem Z2 : x ∈ a0 :: a1 :: x :: l := .tail _ Z1
theorem Z3 : x ∈ a0 :: a1 :: a2 :: x :: l := .tail _ Z2
theorem Z4 : x ∈ a0 :: a1 :: a2 :: a3 :: x :: l := .tail _ Z3
theorem Z5 : x ∈ a0 :: a1 :: a2 :: a3 :: a4 :: x :: l := .tail _ Z4
end
theorem ca {α : Type} (a : α) (l m : List α) : a :: l ++ m = a :: (l ++ m) := rfl
theorem na {α : Type} (m : List α) : [] ++ m = m := rfl
/-! ### Runs of quiet operations -/
def hardV : Value → Option Value
  | .bool b => some (.bool b)
  | .int k i => some (.int k i)
  | .string s => some (.string s)
  | .pointer p => some (.pointer p)
  | .slice a n c => some (.slice a n c)
  | .agg c => some (.agg c)
  | .tuple c => some (.tuple c)
  | .map m => some (.map m)
  | _ => none
theorem hardV_eq {v u : Value} (h : hardV v = some u) : v = u := by
  cases v <;> simp only [hardV, Option.some.injEq, reduceCtorEq] at h <;> exact h
def calmV (ρ : Operand → Value) : Op → Option Value
  | .move x => hardV (ρ x)
  | .assign x => hardV (ρ x)
  | .pick c x y => match ρ c with
    | .bool true => hardV (ρ x)
    | .bool false => hardV (ρ y)
    | _ => none
  | .unOp .not _ x => match ρ x with
    | .bool b => some (.bool !b)
    | _ => none
  | .extract x i => match ρ x with
    | .tuple vs => match vs.toList[i]? with
      | some v => hardV v
      | none => none
    | _ => none
  | _ => none
def runZ (ops : Array Oper) (n : Nat) : Nat → List Oper → Env → Option (List Oper × Env)
  | 0, l, e => some (l, e)
  | _ + 1, [], _ => none
  | k + 1, o :: l, e => match wantE ops n e o.guard with
    | false => runZ ops n k l (putE o.dst undef e)
    | true => match calmV (ev n e) o.op with
      | some v => runZ ops n k l (putE o.dst v e)
      | none => none
section
variable {P : Program} {ops : Array Oper} {Q : Exit → Act → World → Prop} {n : Nat} {e : Env} {w w' : World} {rest : List Oper} {dst : Option Tmp} {op : Op} {ty : TypeId} {pos : String} {aft : Array Edge} {g : Option (Nat × Bool)} {v : Value}
theorem run_calm {o : Oper} (h : calmV (ev n e) o.op = some v) : (execOp (ev n e) o).run P w = .ok (.value v) w := by
  obtain ⟨dst, op, ty, pos, aft, g⟩ := o
  simp only at h
  unfold calmV at h
  split at h
  · exact r_move (hardV_eq h)
  · exact r_assign (hardV_eq h)
  · split at h
    · exact r_pick_t (by assumption) (hardV_eq h)
    · exact r_pick_f (by assumption) (hardV_eq h)
    · cases h
  · split at h
    · cases h; exact r_not (by assumption)
    · cases h
  · split at h
    · split at h
      · refine (r_extract (by simpa using ‹ev n e _ = Value.tuple _›) (by assumption)).trans ?_
        rw [hardV_eq h]
      · cases h
    · cases h
  · cases h
theorem zq : ∀ (k : Nat) {l l' : List Oper} {e e' : Env} {w : World}, runZ ops n k l e = some (l', e') → WL P ops Q l' (act n e') w → WL P ops Q l (act n e) w
  | 0, l, l', e, e', w, hr, h => by
    simp only [runZ, Option.some.injEq, Prod.mk.injEq] at hr
    rw [hr.1, hr.2]; exact h
  | _ + 1, [], _, _, _, _, hr, _ => by simp [runZ] at hr
  | k + 1, o :: l, l', e, e', w, hr, h => by
    rw [runZ] at hr
    cases hg : wantE ops n e o.guard with
    | false =>
      rw [hg] at hr
      exact wl_not (dst := o.dst) (op := o.op) (ty := o.type) (pos := o.pos) (aft := o.after) (g := o.guard) hg (zq k hr h)
    | true =>
      rw [hg] at hr
      simp only at hr
      cases hq : calmV (ev n e) o.op with
      | none => rw [hq] at hr; cases hr
      | some v =>
        rw [hq] at hr
        exact wl_val (dst := o.dst) (op := o.op) (ty := o.type) (pos := o.pos) (aft := o.after) (g := o.guard) (run_calm (o := o) hq) hg (zq k hr h)
/-! ### The same rules, for operations that nothing guards -/
theorem zN (h : Q .normal (act n e) w) : WL P ops Q [] (act n e) w := ⟨h⟩
theorem zV (hr : (execOp (ev n e) ⟨dst, op, ty, pos, aft, none⟩).run P w = .ok (.value v) w')
    (h : WL P ops Q rest (act n (putE dst v e)) w') : WL P ops Q (⟨dst, op, ty, pos, aft, none⟩ :: rest) (act n e) w := wl_val hr rfl h
theorem zX {R : Value → World → Prop} (hr : ∃ v w', (execOp (ev n e) ⟨dst, op, ty, pos, aft, none⟩).run P w = .ok (.value v) w' ∧ R v w')
    (h : ∀ v w', R v w' → WL P ops Q rest (act n (putE dst v e)) w') : WL P ops Q (⟨dst, op, ty, pos, aft, none⟩ :: rest) (act n e) w := wl_exv hr rfl h
theorem zY {R : World → Prop} (hr : ∃ w', (execOp (ev n e) ⟨none, op, ty, pos, aft, none⟩).run P w = .ok .skip w' ∧ R w')
    (h : ∀ w', R w' → WL P ops Q rest (act n e) w') : WL P ops Q (⟨none, op, ty, pos, aft, none⟩ :: rest) (act n e) w := wl_exs hr rfl h
/-- A call that only tells a value. -/
theorem zC {f : FuncId} {args : Array Operand} {tys : Array TypeId} {vs : List Value} {R : Value → World → Prop} (hf : FnOk P f) (ha : args.toList.map (ev n e) = vs) (hc : Ret P f vs w R)
    (h : ∀ v w', R v w' → WL P ops Q rest (act n (putE dst v e)) w') (hg : wantE ops n e g = true := by rfl) : WL P ops Q (⟨dst, .call { callee := .value (.func f), args := args, argTypes := tys }, ty, pos, aft, g⟩ :: rest) (act n e) w :=
  wl_call (r_call hf ha rfl) hg hc h
theorem zE {f : FuncId} {args : Array Operand} {tys : Array TypeId} {vs : List Value} {w0 : World} {M : List Nat} {L : List Item} (hf : FnOk P f) (ha : args.toList.map (ev n e) = vs) (hS : St w0 M w L) (hc : Ret P f vs w fun u w' => u = v ∧ St w [] w' [])
    (h : ∀ w', St w0 M w' L → WL P ops Q rest (act n (putE dst v e)) w') (hg : wantE ops n e g = true := by rfl) : WL P ops Q (⟨dst, .call { callee := .value (.func f), args := args, argTypes := tys }, ty, pos, aft, g⟩ :: rest) (act n e) w :=
  wl_call (r_call hf ha rfl) hg hc fun u w' ⟨hu, hs⟩ => by subst hu; exact h w' (hS.ext hs)
/-- A field's place, and what lies there. -/
theorem zF {T S : TypeId} {i off o d : Nat} {td : TypeDesc} {C : List Value} {E : TypeId} {fr : Nat × Nat} {b : Nat} {x : Operand} {dst2 : Option Tmp} {ty2 : TypeId} {pos2 : String} {aft2 : Array Edge} (h : FA P T i off) (hx : ev n e x = pt b o) (ht : P.underlying S = some td) (ha : aggD td = false)
    (hb : w.heap[b]? = some (.cells C.toArray E fr)) (hv : C[o + off]? = some v) (hn : Nat.blt d n = true) (hd : Nat.beq d d = true) (k : WL P ops Q rest (act n (putE dst2 v ((d, pt b (o + off)) :: e))) w) :
    WL P ops Q (⟨some d, .fieldAddr T x i, ty, pos, aft, none⟩ :: ⟨dst2, .load S (.tmp d), ty2, pos2, aft2, none⟩ :: rest) (act n e) w := by
  refine zV (r_field h hx) (zV (r_loadB1 ht ha ?_ hb hv) k)
  show (match Nat.blt d n with | true => look ((d, pt b (o + off)) :: e) d | false => undef) = _
  rw [hn]
  simp only [look, hd]
/-- A box, and a new variable. -/
theorem zB {T : TypeId} {x : Operand} {C : List Value} {w0 : World} {M : List Nat} {L : List Item} (hS : St w0 M w L) (hx : ev n e x = v) (hz : v.cells = C.toArray)
    (h : ∀ b w', St w0 M w' (.blk b (cl C T) :: L) → WL P ops Q rest (act n (putE dst (pt b 0) e)) w') : WL P ops Q (⟨dst, .box T x, ty, pos, aft, none⟩ :: rest) (act n e) w :=
  zX (x_box hS hx hz) fun u w' ⟨b, hu, hS'⟩ => by subst hu; exact h b w' hS'
theorem zA {T : TypeId} {C : List Value} {w0 : World} {M : List Nat} {L : List Item} {d : TypeDesc} {sz bts : Nat} {zv : Value} (hS : St w0 M w L) (ht : TI P T d sz bts zv) (hz : zv.cells = C.toArray)
    (h : ∀ b w', St w0 M w' (.blk b (cl C T) :: L) → WL P ops Q rest (act n (putE dst (pt b 0) e)) w') : WL P ops Q (⟨dst, .alloc T, ty, pos, aft, none⟩ :: rest) (act n e) w :=
  zX (x_alloc hS ht hz) fun u w' ⟨b, hu, hS'⟩ => by subst hu; exact h b w' hS'
end
section
variable {P : Program} {Q : Exit → Act → World → Prop} {n : Nat} {e : Env} {w : World}
theorem zR {id : Nat} {l : List Oper} (h : WL P l.toArray Q l (act n e) w) : (Code.region id l.toArray false).wp P Q (act n e) w := c_region h
theorem zS {x y : Code} {a : Act} (h : x.wp P (Exit.then (y.wp P Q) Q) a w) : (Code.seq x y).wp P Q a w := c_seq h
theorem zT {next : Act → World → Prop} {a : Act} (h : next a w) : Exit.then next Q .normal a w := h
theorem zK {a : Act} (h : Q .normal a w) : Code.skip.wp P Q a w := wp_skip h
theorem zU {a : Act} (h : Q .ret a w) : Code.ret.wp P Q a w := wp_ret h
theorem zI {id : Nat} {c : Code} {a : Act} (h : c.wp P (Exit.inBlock id Q) a w) : (Code.block id c).wp P Q a w := c_block h
theorem zJ {id : Nat} {a : Act} (h : Q .normal a w) : Exit.inBlock id Q .normal a w := h
theorem zH {id : Nat} {a : Act} (h : Q .ret a w) : Exit.inBlock id Q .ret a w := h
theorem zL {next : Act → World → Prop} {a : Act} (h : Q .ret a w) : Exit.then next Q .ret a w := h
theorem zM {next : Act → World → Prop} {a : Act} {k : Nat} (h : Q (.exit k) a w) : Exit.then next Q (.exit k) a w := h
theorem zO {k : Nat} {a : Act} (h : Q (.exit k) a w) : (Code.exit k).wp P Q a w := wp_exit h
theorem zt {c : Operand} {x y : Code} (hc : ev n e c = .bool true) (h : x.wp P Q (act n e) w) : (Code.cond c x y).wp P Q (act n e) w := c_true hc h
theorem zf {c : Operand} {x y : Code} (hc : ev n e c = .bool false) (h : y.wp P Q (act n e) w) : (Code.cond c x y).wp P Q (act n e) w := c_false hc h
end
section
variable {P : Program} {ops : Array Oper} {Q : Exit → Act → World → Prop} {F : World → Prop} {t n f m i : Nat} {e : Env} {w : World} {dst : Option Tmp} {op : Op} {ty : TypeId} {pos : String} {aft : Array Edge} {g : Option (Nat × Bool)} {v : Value}
/-- In a region that draws: what every world of the class yields. -/
theorem zG (i : Nat) (hi : ops[i]? = some ⟨dst, op, ty, pos, aft, g⟩) (hF : F w) (hy : ∀ w, F w → (execOp (ev n e) ⟨dst, op, ty, pos, aft, g⟩).run P w = .ok (.value v) w) (h : WG P ops Q F t f (m ||| 2 ^ i) (act n (putE dst v e)) w)
    (hB : takeB ops t m i = true := by decide +kernel) (hg : wantE ops n e g = true := by rfl) (hQ : ∀ c a w, Q (.panic c) (a.put dst v) w → Q (.panic c) a w := by exact fun _ _ _ h => h) : WG P ops Q F t (f + 1) m (act n e) w :=
  g_take i hi hB hg hQ hF hy h
theorem zGN (i : Nat) (hi : ops[i]? = some ⟨dst, op, ty, pos, aft, g⟩) (hg : wantE ops n e g = false) (hF : F w) (h : WG P ops Q F t f (m ||| 2 ^ i) (act n (putE dst undef e)) w)
    (hB : takeB ops t m i = true := by decide +kernel) (hQ : ∀ c a w, Q (.panic c) (a.put dst undef) w → Q (.panic c) a w := by exact fun _ _ _ h => h) : WG P ops Q F t (f + 1) m (act n e) w :=
  g_takeN i hi hB hg hQ hF h
theorem zG1 (i : Nat) {a : Act} (h : WO P ops Q i (fun a' w' => F w' ∧ WG P ops Q F t f (m ||| 2 ^ i) a' w') a w) (hd : headDone t m = false := by decide +kernel) (hr : Region.ready .any ops (Lm ops.size m) = [i] := by decide +kernel) : WG P ops Q F t (f + 1) m a w := g_one i hd hr h
theorem zGT {l : List Oper} (hl : ops.toList.drop t = l) (h' : WL P ops Q l (act n e) w) (hd : headDone t m = true := by decide +kernel) (hseq : Region.seqB .any ops l.length t (Lm ops.size m) = true := by decide +kernel) : WG P ops Q F t l.length m (act n e) w := g_tail hd hl hseq h'
end
end Go.Kw
