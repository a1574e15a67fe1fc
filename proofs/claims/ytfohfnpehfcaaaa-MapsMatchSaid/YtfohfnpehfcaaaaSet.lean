/- Sets in maps, calls of function values, lists of strings and of numbers. No condition. -/
import Derived.Test.YtfohfnpehfcaaaaCut
import Derived.Test.YtfohfnpehfcaaaaTree
import Derived.MapKept
import Derived.WideMake
import Derived.Laws.Cover1
namespace Go.Kw
open Go.Lib
set_option linter.unusedVariables false
set_option linter.unusedSimpArgs false
abbrev sv (l : List UInt8) : Value := .string ⟨l.toArray⟩
abbrev iv (z : Int) : Value := .int .i64 z
theorem sv_inj {a b : List UInt8} (h : sv a = sv b) : a = b := by
  simp only [sv, Value.string.injEq] at h
  exact str_inj.1 h
theorem iv_inj {a b : Int} (h : iv a = iv b) : a = b := by simpa [iv] using h
def entsAt {α : Type} (f : α → Value) : Nat → List α → List MapEntry
  | _, [] => []
  | i, k :: ks => ⟨f k, .bool true, i⟩ :: entsAt f (i + 1) ks
/-- A map that holds true for each of these keys. -/
def ents {α : Type} (f : α → Value) (ks : List α) : Obj := .map (entsAt f 0 ks).toArray ks.length
theorem entsAt_app {α : Type} (f : α → Value) (x : α) : ∀ (i : Nat) (ks : List α), entsAt f i (ks ++ [x]) = entsAt f i ks ++ [⟨f x, .bool true, i + ks.length⟩]
  | i, [] => rfl
  | i, k :: ks => by
    show _ :: entsAt f (i + 1) (ks ++ [x]) = _
    rw [entsAt_app f x (i + 1) ks, List.length_cons, show i + (ks.length + 1) = i + 1 + ks.length by omega]
    rfl
theorem entsAt_mem {α : Type} (f : α → Value) : ∀ (i : Nat) (ks : List α) (e : MapEntry), e ∈ entsAt f i ks → (∃ k ∈ ks, e.key = f k) ∧ e.val = .bool true
  | _, [], e, h => by cases h
  | i, k :: ks, e, h => by
    rcases List.mem_cons.1 h with rfl | h
    · exact ⟨⟨k, by simp, rfl⟩, rfl⟩
    · obtain ⟨⟨k', h1, h2⟩, h3⟩ := entsAt_mem f (i + 1) ks e h
      exact ⟨⟨k', by simp [h1], h2⟩, h3⟩
theorem mem_entsAt {α : Type} (f : α → Value) : ∀ (i : Nat) (ks : List α) (k : α), k ∈ ks → ∃ e ∈ entsAt f i ks, e.key = f k
  | _, [], _, h => by cases h
  | i, k' :: ks, k, h => by
    rcases List.mem_cons.1 h with rfl | h
    · exact ⟨_, List.mem_cons_self .., rfl⟩
    · obtain ⟨e, h1, h2⟩ := mem_entsAt f (i + 1) ks k h
      exact ⟨e, List.mem_cons_of_mem _ h1, h2⟩
theorem find_ents {α : Type} {f : α → Value} {d : TypeDesc} (hk : ∀ x, MapKept.IsKey d (f x)) (hi : ∀ x y, f x = f y → x = y) (ks : List α) (k : α) :
    (¬ k ∈ ks ∧ Instr.findNow d (f k) (entsAt f 0 ks) 0 = some none) ∨ (k ∈ ks ∧ ∃ j, Instr.findNow d (f k) (entsAt f 0 ks) 0 = some (some (j, .bool true))) := by
  rcases MapKept.findNow_spec (hk k) (entsAt f 0 ks) 0 (fun x hx => by obtain ⟨⟨k', _, h⟩, _⟩ := entsAt_mem f 0 ks x hx; rw [h]; exact hk k') with ⟨h1, h2⟩ | ⟨j, e, h1, h2, h3⟩
  · refine .inl ⟨fun hm => ?_, h1⟩
    obtain ⟨e, he, hek⟩ := mem_entsAt f 0 ks k hm
    exact h2 e he hek
  · obtain ⟨⟨k', hk', hkey⟩, hval⟩ := entsAt_mem f 0 ks e (List.mem_of_getElem? h2)
    rw [hkey] at h3
    have := hi _ _ h3
    subst this
    exact .inr ⟨hk', _, by rw [h1, hval]⟩
section
variable {P : Program} {ρ : Operand → Value} {w w0 : World} {M : List Nat} {L l1 l2 : List Item} {dst : Option Tmp} {ty : TypeId} {pos : String} {aft : Array Edge} {g : Option (Nat × Bool)} {x y z : Operand} {T T2 E I K : TypeId} {v : Value} {k : IntKind}
  {d dE : TypeDesc} {sz bts b o : Nat} {zv : Value} {a : Option Addr} {cs C : List Value}
theorem run_zeroV (h : TI P T d sz bts zv) : (zeroValue T).run P w = .ok zv w := by
  obtain ⟨i, hi, _, _, hz⟩ := h.info
  simp [zeroValue, typeInfo, program, Sem.run, hi, hz]
theorem x_makeMap {α : Type} (f : α → Value) (hS : St w0 M w L) : ∃ v w', (execOp ρ ⟨dst, .makeMap T none, ty, pos, aft, g⟩).run P w = .ok (.value v) w' ∧ ∃ b, v = .map (some b) ∧ St w0 M w' (.blk b (ents f []) :: L) := by
  have h := run_makeMap_plain (P := P) w T
  exact ⟨.map (some w.heap.size), w.alloc (ents f []), by simp [execOp, h]; rfl, _, rfl, hS.alloc _⟩
theorem r_lookupB {α : Type} [BEq α] [LawfulBEq α] {f : α → Value} {ks : List α} {q : α} (hk : ∀ x, MapKept.IsKey d (f x)) (hi : ∀ x y, f x = f y → x = y) (hT : P.underlying T = some (.map K E)) (hK : P.underlying K = some d) (hE : TI P E dE sz bts (.bool false)) (hx : ρ x = .map (some b)) (hy : ρ y = f q) (hb : w.heap[b]? = some (ents f ks)) :
    (execOp ρ ⟨dst, .lookup T x y false, ty, pos, aft, g⟩).run P w = .ok (.value (.bool (decide (q ∈ ks)))) w := by
  have hg := MapKept.run_getObj_map (P := P) hb
  have hc := fun e => MapKept.run_checkKey (P := P) (w := w) hK (hk q) e 9999
  rcases find_ents hk hi ks q with ⟨hn, hf⟩ | ⟨hm, j, hf⟩
  · have hf' := MapKept.run_findKey (P := P) (w := w) hK hf
    rw [decide_eq_false hn]
    simp [execOp, hx, hy, Instr.lookup, run_underlying hT, hg, hc, hf', run_zeroV hE]
  · have hf' := MapKept.run_findKey (P := P) (w := w) hK hf
    rw [decide_eq_true hm]
    simp [execOp, hx, hy, Instr.lookup, run_underlying hT, hg, hc, hf']
theorem x_mapAdd {α : Type} {f : α → Value} {ks : List α} {q : α} (l1 : List Item) {l2 : List Item} (hS : St w0 M w (l1 ++ .blk b (ents f ks) :: l2)) (hk : ∀ x, MapKept.IsKey d (f x)) (hi : ∀ x y, f x = f y → x = y) (hT : P.underlying T = some (.map K E)) (hK : P.underlying K = some d) (hx : ρ x = .map (some b)) (hy : ρ y = f q) (hz : ρ z = .bool true) (hn : ¬ q ∈ ks) :
    ∃ w', (execOp ρ ⟨none, .mapUpdate T x y z, ty, pos, aft, g⟩).run P w = .ok .skip w' ∧ St w0 M w' (l1 ++ .blk b (ents f (ks ++ [q])) :: l2) := by
  have hb : w.heap[b]? = some (ents f ks) := hS.heap (by simp)
  have hg := MapKept.run_getObj_map (P := P) hb
  have hc := MapKept.run_checkKey (P := P) (w := w) hK (hk q) false 9999
  have hs := MapKept.run_setObj_map (P := P) (w := w) (ents f (ks ++ [q])) hb
  have hset := MapKept.heap_set (o' := ents f (ks ++ [q])) hb
  have he : ents f (ks ++ [q]) = .map (entsAt f 0 ks ++ [({ key := f q, val := .bool true, born := ks.length } : MapEntry)]).toArray (ks.length + 1) := by
    simp [ents, entsAt_app]
  rw [he] at hs
  rcases find_ents hk hi ks q with ⟨_, hf⟩ | ⟨hm, _⟩
  · have hf' := MapKept.run_findKey (P := P) (w := w) hK hf
    refine ⟨{ w with heap := w.heap.setIfInBounds b (ents f (ks ++ [q])) }, by rw [he]; simp [execOp, hx, hy, hz, Instr.mapUpdate, run_underlying hT, hg, hc, hf', hs], ?_⟩
    have hit := hS.has (.blk b (ents f ks)) (by simp)
    refine hS.turnAt rfl rfl rfl (by simp) (fun k' hk' hne => hset.2 k' (fun e => hne (by rw [e]; rfl))) ⟨?_, hit.2⟩ (fun k' hk' => .inl hk')
    exact hset.1
  · exact absurd hm hn
theorem r_makeFunc {fn : Fn} {capt : Array Operand} {vs : List Value} (hc : capt.toList.map ρ = vs) : (execOp ρ ⟨dst, .makeFunc fn #[] capt, ty, pos, aft, g⟩).run P w = .ok (.value (.func fn #[] vs.toArray)) w := by
  have hc' : capt.map ρ = vs.toArray := by
    apply Array.ext'
    simpa using hc
  simp [execOp, Instr.makeFunc, hc']
theorem r_callDyn {f : FuncId} {t : Tmp} {args : Array Operand} {tys : Array TypeId} {vs lb : List Value} (hf : FnOk P f) (ha : args.toList.map ρ = vs) (hρ : ρ (.tmp t) = .func (.func f) #[] lb.toArray) :
    (execOp ρ ⟨dst, .call { callee := .value (.tmp t), args := args, argTypes := tys }, ty, pos, aft, g⟩).run P w = .ok (.enter f (vs ++ lb).toArray) w := by
  obtain ⟨fn, h1, h2, h3⟩ := hf
  have ha' : args.map ρ = vs.toArray := by
    apply Array.ext'
    simpa using ha
  have h2' : ¬ fn.name = "runtime.NumGoroutine" := by intro h; simp [h] at h2
  have h3' : ¬ fn.body = none := by intro h; simp [h] at h3
  simp [execOp, resolve, hρ, Deferred.ofValue, invoke, callFunc, program, Sem.run, h1, h2', h3', ha']
theorem r_max3n {a1 a2 a3 : Nat} {tys : Array TypeId} {u : Operand} (hx : ρ x = .int k (a1 : Int)) (hy : ρ y = .int k (a2 : Int)) (hu : ρ u = .int k (a3 : Int)) (args : Array Operand) (ha : args = #[x, y, u]) :
    (execOp ρ ⟨dst, .call { callee := .builtin .max, args := args, argTypes := tys }, ty, pos, aft, g⟩).run P w = .ok (.value (.int k ((max (max a1 a2) a3 : Nat) : Int))) w := by
  subst ha
  have h := run_max_int3 (P := P) w tys ty k k k (a1 : Int) (a2 : Int) (a3 : Int)
  have e : (if (a3 : Int) > (if (a2 : Int) > a1 then (a2 : Int) else a1) then (a3 : Int) else (if (a2 : Int) > a1 then (a2 : Int) else a1)) = ((max (max a1 a2) a3 : Nat) : Int) := by
    split <;> split <;> omega
  rw [e] at h
  simp [execOp, resolve, invoke, builtin, hx, hy, hu, h]
theorem toList_b (l : List UInt8) : (⟨l.toArray⟩ : ByteArray).toList = l := by
  rw [ByteArray.toList_eq]
theorem less_tot : ∀ (a b : List UInt8), (Op.bytesLess a b || (a == b)) = !Op.bytesLess b a
  | [], [] => rfl
  | [], _ :: _ => rfl
  | _ :: _, [] => rfl
  | x :: a, y :: b => by
    have ih := less_tot a b
    simp only [Op.bytesLess, List.cons_beq_cons]
    rcases Nat.lt_trichotomy x.toNat y.toNat with h | h | h
    · have h1 : x < y := h
      have h2 : ¬ y < x := by intro h'; have : y.toNat < x.toNat := h'; omega
      have h3 : ¬ y = x := by intro e; subst e; omega
      simp [h1, h2, h3]
    · have e : x = y := UInt8.toNat_inj.1 h
      subst e
      have h2 : ¬ x < x := by intro h'; have : x.toNat < x.toNat := h'; omega
      simp [h2, ih]
    · have h1 : y < x := h
      have h2 : ¬ x < y := by intro h'; have : x.toNat < y.toNat := h'; omega
      have h3 : ¬ x = y := by intro e; subst e; omega
      simp [h1, h2, h3]
theorem r_leqStrL {a b : List UInt8} (hx : ρ x = .string ⟨a.toArray⟩) (hy : ρ y = .string ⟨b.toArray⟩) : (execOp ρ ⟨dst, .binOp .leq T x y T2, ty, pos, aft, g⟩).run P w = .ok (.value (.bool (decide (¬ Op.bytesLess b a = true)))) w := by
  have he : (eqGuard .leq T x y (.string ⟨a.toArray⟩) (.string ⟨b.toArray⟩)).run P w = .ok () w := by unfold eqGuard; simp
  have h := less_tot a b
  simp only [execOp, hx, hy, Sem.run_bind, he, Result.andThen_ok, binOp, Op.stringOp, toList_b, Sem.run_pure, h]
  cases Op.bytesLess b a <;> rfl
theorem r_geqStrL {a b : List UInt8} (hx : ρ x = .string ⟨a.toArray⟩) (hy : ρ y = .string ⟨b.toArray⟩) : (execOp ρ ⟨dst, .binOp .geq T x y T2, ty, pos, aft, g⟩).run P w = .ok (.value (.bool (decide (¬ Op.bytesLess a b = true)))) w := by
  have he : (eqGuard .geq T x y (.string ⟨a.toArray⟩) (.string ⟨b.toArray⟩)).run P w = .ok () w := by unfold eqGuard; simp
  simp only [execOp, hx, hy, Sem.run_bind, he, Result.andThen_ok, binOp, Op.stringOp, toList_b, Sem.run_pure]
  cases Op.bytesLess a b <;> rfl
end
theorem Ret.br {P : Program} {f : FuncId} {args : List Value} {w : World} {b : Bool} (h : Ret P f args w (fun v w' => v = .bool b ∧ St w [] w' [])) : Ret P f args w (fun v w' => (b = true ∧ v = .bool true ∧ St w [] w' []) ∨ (b = false ∧ v = .bool false ∧ St w [] w' [])) :=
  h.mono fun v w' h => by
    cases b with
    | true => exact .inl ⟨rfl, h⟩
    | false => exact .inr ⟨rfl, h⟩
theorem any_step {α : Type} [Inhabited α] {p : α → Bool} {l : List α} {k : Nat} (h : k < l.length) (h1 : (l.take k).any p = false) (h2 : p (gt l k) = false) : (l.take (k + 1)).any p = false := by
  rw [take_gt l k h, List.any_append, h1, List.any_cons, h2]; rfl
theorem any_here {α : Type} [Inhabited α] {p : α → Bool} {l : List α} {k : Nat} (h : k < l.length) (h2 : p (gt l k) = true) : l.any p = true := List.any_eq_true.2 ⟨_, gt_mem l k h, h2⟩
theorem notmem_step {α : Type} [Inhabited α] {x : α} {l : List α} {k : Nat} (h : k < l.length) (h1 : ¬ x ∈ l.take k) (h2 : ¬ x = gt l k) : ¬ x ∈ l.take (k + 1) := by
  rw [take_gt l k h]; simp [h1, h2]
theorem nodup_step {α : Type} [Inhabited α] {l : List α} {k : Nat} (h : k < l.length) (h1 : (l.take k).Nodup) (h2 : ¬ gt l k ∈ l.take k) : (l.take (k + 1)).Nodup := by
  rw [take_gt l k h]
  refine List.nodup_append.2 ⟨h1, by simp, fun a ha b hb e => ?_⟩
  rw [List.mem_singleton.1 hb] at e
  subst e
  exact h2 ha
theorem nodup_no {α : Type} [Inhabited α] {l : List α} {k : Nat} (h : k < l.length) (h2 : gt l k ∈ l.take k) : ¬ l.Nodup := by
  intro hn
  have := hn.sublist (List.take_sublist (k + 1) l)
  rw [take_gt l k h] at this
  exact (List.nodup_append.1 this).2.2 _ h2 _ (by simp) rfl
/-- Each one is less than the next. -/
def risingTo (l : List (List UInt8)) (k : Nat) : Prop := ∀ i, i + 1 < k → Op.bytesLess (gt l i) (gt l (i + 1)) = true
theorem rising_step {l : List (List UInt8)} {k : Nat} (h : risingTo l k) (h2 : ∀ i, i + 1 = k → Op.bytesLess (gt l i) (gt l k) = true) : risingTo l (k + 1) := fun i hi => by
  by_cases e : i + 1 = k
  · have := h2 i e; rwa [← e] at this
  · exact h i (by omega)
end Go.Kw
