/- What the law's proof leans on. No condition. -/
import Derived.Test.YtjnnhlbfgnopiaaGreatDoorPCAK
import Derived.Test.YtjnnhlbfgnopiaaGreatDoorPCAO
import Derived.Test.YtjnnhlbfgnopiaaGreatDoorPCAM
import Derived.Test.YtjnnhlbfgnopiaaGreatDoorPCAG
import Derived.MapKept
import Derived.WideMake
import Derived.Laws.Cover1
section
namespace Go.Kw
open Go.Lib
set_option linter.unusedVariables false
set_option linter.unusedSimpArgs false
abbrev sv (l : List UInt8) : Value := .string ⟨l.toArray⟩
abbrev iv (z : Int) : Value := .int .i64 z
theorem sv_inj {a b : List UInt8} (h : sv a = sv b) : a = b := by
  simp only [sv, Value.string.injEq] at h
  exact str_inj.1 h
theorem iv_inj {a b : Int} (h : iv a = iv b) : a = b := by simpa [iv] using h
def entsAt {α : Type} (f : α → Value) : Nat → List α → List MapEntry
  | _, [] => []
  | i, k :: ks => ⟨f k, .bool true, i⟩ :: entsAt f (i + 1) ks
/-- A map that holds true for each of these keys. -/
def ents {α : Type} (f : α → Value) (ks : List α) : Obj := .map (entsAt f 0 ks).toArray ks.length
theorem entsAt_app {α : Type} (f : α → Value) (x : α) : ∀ (i : Nat) (ks : List α), entsAt f i (ks ++ [x]) = entsAt f i ks ++ [⟨f x, .bool true, i + ks.length⟩]
  | i, [] => rfl
  | i, k :: ks => by
    show _ :: entsAt f (i + 1) (ks ++ [x]) = _
    rw [entsAt_app f x (i + 1) ks, List.length_cons, show i + (ks.length + 1) = i + 1 + ks.length by omega]
    rfl
theorem entsAt_mem {α : Type} (f : α → Value) : ∀ (i : Nat) (ks : List α) (e : MapEntry), e ∈ entsAt f i ks → (∃ k ∈ ks, e.key = f k) ∧ e.val = .bool true
  | _, [], e, h => by cases h
  | i, k :: ks, e, h => by
    rcases List.mem_cons.1 h with rfl | h
    · exact ⟨⟨k, by simp, rfl⟩, rfl⟩
    · obtain ⟨⟨k', h1, h2⟩, h3⟩ := entsAt_mem f (i + 1) ks e h
      exact ⟨⟨k', by simp [h1], h2⟩, h3⟩
theorem mem_entsAt {α : Type} (f : α → Value) : ∀ (i : Nat) (ks : List α) (k : α), k ∈ ks → ∃ e ∈ entsAt f i ks, e.key = f k
  | _, [], _, h => by cases h
  | i, k' :: ks, k, h => by
    rcases List.mem_cons.1 h with rfl | h
    · exact ⟨_, List.mem_cons_self .., rfl⟩
    · obtain ⟨e, h1, h2⟩ := mem_entsAt f (i + 1) ks k h
      exact ⟨e, List.mem_cons_of_mem _ h1, h2⟩
theorem find_ents {α : Type} {f : α → Value} {d : TypeDesc} (hk : ∀ x, MapKept.IsKey d (f x)) (hi : ∀ x y, f x = f y → x = y) (ks : List α) (k : α) :
    (¬ k ∈ ks ∧ Instr.findNow d (f k) (entsAt f 0 ks) 0 = some none) ∨ (k ∈ ks ∧ ∃ j, Instr.findNow d (f k) (entsAt f 0 ks) 0 = some (some (j, .bool true))) := by
  rcases MapKept.findNow_spec (hk k) (entsAt f 0 ks) 0 (fun x hx => by obtain ⟨⟨k', _, h⟩, _⟩ := entsAt_mem f 0 ks x hx; rw [h]; exact hk k') with ⟨h1, h2⟩ | ⟨j, e, h1, h2, h3⟩
  · refine .inl ⟨fun hm => ?_, h1⟩
    obtain ⟨e, he, hek⟩ := mem_entsAt f 0 ks k hm
    exact h2 e he hek
  · obtain ⟨⟨k', hk', hkey⟩, hval⟩ := entsAt_mem f 0 ks e (List.mem_of_getElem? h2)
    rw [hkey] at h3
    have := hi _ _ h3
    subst this
    exact .inr ⟨hk', _, by rw [h1, hval]⟩
section
variable {P : Program} {ρ : Operand → Value} {w w0 : World} {M : List Nat} {L l1 l2 : List Item} {dst : Option Tmp} {ty : TypeId} {pos : String} {aft : Array Edge} {g : Option (Nat × Bool)} {x y z : Operand} {T T2 E I K : TypeId} {v : Value} {k : IntKind}
  {d dE : TypeDesc} {sz bts b o : Nat} {zv : Value} {a : Option Addr} {cs C : List Value}
theorem run_zeroV (h : TI P T d sz bts zv) : (zeroValue T).run P w = .ok zv w := by
  obtain ⟨i, hi, _, _, hz⟩ := h.info
  simp [zeroValue, typeInfo, program, Sem.run, hi, hz]
theorem x_makeMap {α : Type} (f : α → Value) (hS : St w0 M w L) : ∃ v w', (execOp ρ ⟨dst, .makeMap T none, ty, pos, aft, g⟩).run P w = .ok (.value v) w' ∧ ∃ b, v = .map (some b) ∧ St w0 M w' (.blk b (ents f []) :: L) := by
  have h := run_makeMap_plain (P := P) w T
  exact ⟨.map (some w.heap.size), w.alloc (ents f []), by simp [execOp, h]; rfl, _, rfl, hS.alloc _⟩
theorem r_lookupB {α : Type} [BEq α] [LawfulBEq α] {f : α → Value} {ks : List α} {q : α} (hk : ∀ x, MapKept.IsKey d (f x)) (hi : ∀ x y, f x = f y → x = y) (hT : P.underlying T = some (.map K E)) (hK : P.underlying K = some d) (hE : TI P E dE sz bts (.bool false)) (hx : ρ x = .map (some b)) (hy : ρ y = f q) (hb : w.heap[b]? = some (ents f ks)) :
    (execOp ρ ⟨dst, .lookup T x y false, ty, pos, aft, g⟩).run P w = .ok (.value (.bool (decide (q ∈ ks)))) w := by
  have hg := MapKept.run_getObj_map (P := P) hb
  have hc := fun e => MapKept.run_checkKey (P := P) (w := w) hK (hk q) e 9999
  rcases find_ents hk hi ks q with ⟨hn, hf⟩ | ⟨hm, j, hf⟩
  · have hf' := MapKept.run_findKey (P := P) (w := w) hK hf
    rw [decide_eq_false hn]
    simp [execOp, hx, hy, Instr.lookup, run_underlying hT, hg, hc, hf', run_zeroV hE]
  · have hf' := MapKept.run_findKey (P := P) (w := w) hK hf
    rw [decide_eq_true hm]
    simp [execOp, hx, hy, Instr.lookup, run_underlying hT, hg, hc, hf']
theorem x_mapAdd {α : Type} {f : α → Value} {ks : List α} {q : α} (l1 : List Item) {l2 : List Item} (hS : St w0 M w (l1 ++ .blk b (ents f ks) :: l2)) (hk : ∀ x, MapKept.IsKey d (f x)) (hi : ∀ x y, f x = f y → x = y) (hT : P.underlying T = some (.map K E)) (hK : P.underlying K = some d) (hx : ρ x = .map (some b)) (hy : ρ y = f q) (hz : ρ z = .bool true) (hn : ¬ q ∈ ks) :
    ∃ w', (execOp ρ ⟨none, .mapUpdate T x y z, ty, pos, aft, g⟩).run P w = .ok .skip w' ∧ St w0 M w' (l1 ++ .blk b (ents f (ks ++ [q])) :: l2) := by
  have hb : w.heap[b]? = some (ents f ks) := hS.heap (by simp)
  have hg := MapKept.run_getObj_map (P := P) hb
  have hc := MapKept.run_checkKey (P := P) (w := w) hK (hk q) false 9999
  have hs := MapKept.run_setObj_map (P := P) (w := w) (ents f (ks ++ [q])) hb
  have hset := MapKept.heap_set (o' := ents f (ks ++ [q])) hb
  have he : ents f (ks ++ [q]) = .map (entsAt f 0 ks ++ [({ key := f q, val := .bool true, born := ks.length } : MapEntry)]).toArray (ks.length + 1) := by
    simp [ents, entsAt_app]
  rw [he] at hs
  rcases find_ents hk hi ks q with ⟨_, hf⟩ | ⟨hm, _⟩
  · have hf' := MapKept.run_findKey (P := P) (w := w) hK hf
    refine ⟨{ w with heap := w.heap.setIfInBounds b (ents f (ks ++ [q])) }, by rw [he]; simp [execOp, hx, hy, hz, Instr.mapUpdate, run_underlying hT, hg, hc, hf', hs], ?_⟩
    have hit := hS.has (.blk b (ents f ks)) (by simp)
    refine hS.turnAt rfl rfl rfl (by simp) (fun k' hk' hne => hset.2 k' (fun e => hne (by rw [e]; rfl))) ⟨?_, hit.2⟩ (fun k' hk' => .inl hk')
    exact hset.1
  · exact absurd hm hn
theorem r_makeFunc {fn : Fn} {capt : Array Operand} {vs : List Value} (hc : capt.toList.map ρ = vs) : (execOp ρ ⟨dst, .makeFunc fn #[] capt, ty, pos, aft, g⟩).run P w = .ok (.value (.func fn #[] vs.toArray)) w := by
  have hc' : capt.map ρ = vs.toArray := by
    apply Array.ext'
    simpa using hc
  simp [execOp, Instr.makeFunc, hc']
theorem r_callDyn {f : FuncId} {t : Tmp} {args : Array Operand} {tys : Array TypeId} {vs lb : List Value} (hf : FnOk P f) (ha : args.toList.map ρ = vs) (hρ : ρ (.tmp t) = .func (.func f) #[] lb.toArray) :
    (execOp ρ ⟨dst, .call { callee := .value (.tmp t), args := args, argTypes := tys }, ty, pos, aft, g⟩).run P w = .ok (.enter f (vs ++ lb).toArray) w := by
  obtain ⟨fn, h1, h2, h3⟩ := hf
  have ha' : args.map ρ = vs.toArray := by
    apply Array.ext'
    simpa using ha
  have h2' : ¬ fn.name = "runtime.NumGoroutine" := by intro h; simp [h] at h2
  have h3' : ¬ fn.body = none := by intro h; simp [h] at h3
  simp [execOp, resolve, hρ, Deferred.ofValue, invoke, callFunc, program, Sem.run, h1, h2', h3', ha']
theorem r_max3n {a1 a2 a3 : Nat} {tys : Array TypeId} {u : Operand} (hx : ρ x = .int k (a1 : Int)) (hy : ρ y = .int k (a2 : Int)) (hu : ρ u = .int k (a3 : Int)) (args : Array Operand) (ha : args = #[x, y, u]) :
    (execOp ρ ⟨dst, .call { callee := .builtin .max, args := args, argTypes := tys }, ty, pos, aft, g⟩).run P w = .ok (.value (.int k ((max (max a1 a2) a3 : Nat) : Int))) w := by
  subst ha
  have h := run_max_int3 (P := P) w tys ty k k k (a1 : Int) (a2 : Int) (a3 : Int)
  have e : (if (a3 : Int) > (if (a2 : Int) > a1 then (a2 : Int) else a1) then (a3 : Int) else (if (a2 : Int) > a1 then (a2 : Int) else a1)) = ((max (max a1 a2) a3 : Nat) : Int) := by
    split <;> split <;> omega
  rw [e] at h
  simp [execOp, resolve, invoke, builtin, hx, hy, hu, h]
end
theorem Ret.br {P : Program} {f : FuncId} {args : List Value} {w : World} {b : Bool} (h : Ret P f args w (fun v w' => v = .bool b ∧ St w [] w' [])) : Ret P f args w (fun v w' => (b = true ∧ v = .bool true ∧ St w [] w' []) ∨ (b = false ∧ v = .bool false ∧ St w [] w' [])) :=
  h.mono fun v w' h => by
    cases b with
    | true => exact .inl ⟨rfl, h⟩
    | false => exact .inr ⟨rfl, h⟩
theorem any_step {α : Type} [Inhabited α] {p : α → Bool} {l : List α} {k : Nat} (h : k < l.length) (h1 : (l.take k).any p = false) (h2 : p (gt l k) = false) : (l.take (k + 1)).any p = false := by
  rw [take_gt l k h, List.any_append, h1, List.any_cons, h2]; rfl
theorem any_here {α : Type} [Inhabited α] {p : α → Bool} {l : List α} {k : Nat} (h : k < l.length) (h2 : p (gt l k) = true) : l.any p = true := List.any_eq_true.2 ⟨_, gt_mem l k h, h2⟩
theorem notmem_step {α : Type} [Inhabited α] {x : α} {l : List α} {k : Nat} (h : k < l.length) (h1 : ¬ x ∈ l.take k) (h2 : ¬ x = gt l k) : ¬ x ∈ l.take (k + 1) := by
  rw [take_gt l k h]; simp [h1, h2]
theorem nodup_step {α : Type} [Inhabited α] {l : List α} {k : Nat} (h : k < l.length) (h1 : (l.take k).Nodup) (h2 : ¬ gt l k ∈ l.take k) : (l.take (k + 1)).Nodup := by
  rw [take_gt l k h]
  refine List.nodup_append.2 ⟨h1, by simp, fun a ha b hb e => ?_⟩
  rw [List.mem_singleton.1 hb] at e
  subst e
  exact h2 ha
theorem nodup_no {α : Type} [Inhabited α] {l : List α} {k : Nat} (h : k < l.length) (h2 : gt l k ∈ l.take k) : ¬ l.Nodup := by
  intro hn
  have := hn.sublist (List.take_sublist (k + 1) l)
  rw [take_gt l k h] at this
  exact (List.nodup_append.1 this).2.2 _ h2 _ (by simp) rfl
end Go.Kw
end
section
namespace Go.Kw
set_option linter.unusedVariables false
set_option linter.unusedSimpArgs false
structure AskD where
  ac : List UInt8
  ra : Option Addr
  ro : List (List UInt8)
  rc : Nat
  act : Int
  lab : List UInt8
  key : List UInt8
  tm : Int
  det : List UInt8
def AskD.v (a : AskD) : List Value := a.ac.map b8 ++ ([.slice a.ra a.ro.length a.rc, iv a.act, sv a.lab] ++ (a.key.map b8 ++ ([iv a.tm] ++ a.det.map b8)))
structure AskOk (a : AskD) : Prop where
  ac : a.ac.length = 16
  key : a.key.length = 16
  det : a.det.length = 32
  rc : a.ro.length ≤ a.rc
  rn : a.ro.length ≤ 140737488351232
  rl : ∀ s ∈ a.ro, s.length ≤ 9223372036854775807
  ll : a.lab.length ≤ 9223372036854775807
  a1 : -9223372036854775808 ≤ a.act
  a2 : a.act ≤ 9223372036854775807
  t1 : -9223372036854775808 ≤ a.tm
  t2 : a.tm ≤ 9223372036854775807
@[simp] theorem ask_len {a : AskD} (h1 : a.ac.length = 16) (h2 : a.key.length = 16) (h3 : a.det.length = 32) : a.v.length = 68 := by simp [AskD.v, h1, h2, h3]
section
variable {w : World} {b : Nat} {E : TypeId} {fr : Nat × Nat}
end
open Classical in
structure RuleD where
  dn : Bool
  ra : Option Addr
  ro : List (List UInt8)
  rc : Nat
  aa : Option Addr
  acs : List Int
  ak : Nat
  la : Option Addr
  las : List (List UInt8)
  lc : Nat
  fr : Int
  to : Int
  nd : Int
  ofr : List UInt8
def RuleD.v (r : RuleD) : List Value := [.bool r.dn, .slice r.ra r.ro.length r.rc, .slice r.aa r.acs.length r.ak, .slice r.la r.las.length r.lc, iv r.fr, iv r.to, iv r.nd, sv r.ofr]
structure RuleOk (r : RuleD) : Prop where
  rc : r.ro.length ≤ r.rc
  rn : r.ro.length ≤ 140737488351232
  rl : ∀ s ∈ r.ro, s.length ≤ 9223372036854775807
  ac : r.acs.length ≤ r.ak
  an : r.acs.length ≤ 140737488351232
  lc : r.las.length ≤ r.lc
  ln : r.las.length ≤ 140737488351232
  ll : ∀ s ∈ r.las, s.length ≤ 9223372036854775807
  ol : r.ofr.length ≤ 9223372036854775807
@[simp] theorem rule_len {r : RuleD} : r.v.length = 8 := rfl
theorem rule_dn_t {r : RuleD} (h : r.dn = true) : r.v[0]? = some (.bool true) := by rw [RuleD.v, h]; rfl
theorem rule_dn_f {r : RuleD} (h : r.dn = false) : r.v[0]? = some (.bool false) := by rw [RuleD.v, h]; rfl
def actOut (n : Int) : Bool := decide (n < 1 ∨ 12 < n)
/-- What is wrong with a rule. -/
def ruleE (r : RuleD) : Int :=
  if 16 < r.ro.length ∨ 16 < r.acs.length ∨ 16 < r.las.length then 5
  else if r.ro.any (fun s => !nameE s) = true ∨ (¬ r.ofr = [] ∧ nameE r.ofr = false) then 6
  else if r.acs.any actOut = true then 3
  else if r.las.any (fun s => !patE s) = true then 6
  else if ¬ r.ro.Nodup ∨ ¬ r.acs.Nodup ∨ ¬ r.las.Nodup then 8
  else if r.fr < 0 ∨ 24 < r.fr ∨ r.to < 0 ∨ 24 < r.to ∨ (r.fr = r.to ∧ ¬ r.fr = 0) ∨ r.nd < 0 ∨ 16 < r.nd then 4
  else if ¬ (r.nd = 0 ↔ r.ofr = []) ∨ (r.dn = true ∧ 0 < r.nd) then 17
  else 0
theorem rule_1 {r : RuleD}  (h : (16 < r.ro.length ∨ 16 < r.acs.length ∨ 16 < r.las.length)) : ruleE r = 5 := by rw [ruleE, if_pos h]
theorem rule_2 {r : RuleD} (n1 : ¬ (16 < r.ro.length ∨ 16 < r.acs.length ∨ 16 < r.las.length)) (h : (r.ro.any (fun s => !nameE s) = true ∨ (¬ r.ofr = [] ∧ nameE r.ofr = false))) : ruleE r = 6 := by rw [ruleE, if_neg n1, if_pos h]
theorem rule_3 {r : RuleD} (n1 : ¬ (16 < r.ro.length ∨ 16 < r.acs.length ∨ 16 < r.las.length)) (n2 : ¬ (r.ro.any (fun s => !nameE s) = true ∨ (¬ r.ofr = [] ∧ nameE r.ofr = false))) (h : (r.acs.any actOut = true)) : ruleE r = 3 := by rw [ruleE, if_neg n1, if_neg n2, if_pos h]
theorem rule_4 {r : RuleD} (n1 : ¬ (16 < r.ro.length ∨ 16 < r.acs.length ∨ 16 < r.las.length)) (n2 : ¬ (r.ro.any (fun s => !nameE s) = true ∨ (¬ r.ofr = [] ∧ nameE r.ofr = false))) (n3 : ¬ (r.acs.any actOut = true)) (h : (r.las.any (fun s => !patE s) = true)) : ruleE r = 6 := by rw [ruleE, if_neg n1, if_neg n2, if_neg n3, if_pos h]
theorem rule_5 {r : RuleD} (n1 : ¬ (16 < r.ro.length ∨ 16 < r.acs.length ∨ 16 < r.las.length)) (n2 : ¬ (r.ro.any (fun s => !nameE s) = true ∨ (¬ r.ofr = [] ∧ nameE r.ofr = false))) (n3 : ¬ (r.acs.any actOut = true)) (n4 : ¬ (r.las.any (fun s => !patE s) = true)) (h : (¬ r.ro.Nodup ∨ ¬ r.acs.Nodup ∨ ¬ r.las.Nodup)) : ruleE r = 8 := by rw [ruleE, if_neg n1, if_neg n2, if_neg n3, if_neg n4, if_pos h]
theorem rule_6 {r : RuleD} (n1 : ¬ (16 < r.ro.length ∨ 16 < r.acs.length ∨ 16 < r.las.length)) (n2 : ¬ (r.ro.any (fun s => !nameE s) = true ∨ (¬ r.ofr = [] ∧ nameE r.ofr = false))) (n3 : ¬ (r.acs.any actOut = true)) (n4 : ¬ (r.las.any (fun s => !patE s) = true)) (n5 : ¬ (¬ r.ro.Nodup ∨ ¬ r.acs.Nodup ∨ ¬ r.las.Nodup)) (h : (r.fr < 0 ∨ 24 < r.fr ∨ r.to < 0 ∨ 24 < r.to ∨ (r.fr = r.to ∧ ¬ r.fr = 0) ∨ r.nd < 0 ∨ 16 < r.nd)) : ruleE r = 4 := by rw [ruleE, if_neg n1, if_neg n2, if_neg n3, if_neg n4, if_neg n5, if_pos h]
theorem rule_7 {r : RuleD} (n1 : ¬ (16 < r.ro.length ∨ 16 < r.acs.length ∨ 16 < r.las.length)) (n2 : ¬ (r.ro.any (fun s => !nameE s) = true ∨ (¬ r.ofr = [] ∧ nameE r.ofr = false))) (n3 : ¬ (r.acs.any actOut = true)) (n4 : ¬ (r.las.any (fun s => !patE s) = true)) (n5 : ¬ (¬ r.ro.Nodup ∨ ¬ r.acs.Nodup ∨ ¬ r.las.Nodup)) (n6 : ¬ (r.fr < 0 ∨ 24 < r.fr ∨ r.to < 0 ∨ 24 < r.to ∨ (r.fr = r.to ∧ ¬ r.fr = 0) ∨ r.nd < 0 ∨ 16 < r.nd)) (h : (r.nd = 0 ∧ ¬ r.ofr = []) ∨ (¬ r.nd = 0 ∧ r.ofr = []) ∨ (r.dn = true ∧ 0 < r.nd)) : ruleE r = 17 := by
  rw [ruleE, if_neg n1, if_neg n2, if_neg n3, if_neg n4, if_neg n5, if_neg n6, if_pos]
  rcases h with ⟨h1, h2⟩ | ⟨h1, h2⟩ | h
  · exact .inl fun hh => h2 (hh.1 h1)
  · exact .inl fun hh => h1 (hh.2 h2)
  · exact .inr h
theorem rule_8 {r : RuleD} (n1 : ¬ (16 < r.ro.length ∨ 16 < r.acs.length ∨ 16 < r.las.length)) (n2 : ¬ (r.ro.any (fun s => !nameE s) = true ∨ (¬ r.ofr = [] ∧ nameE r.ofr = false))) (n3 : ¬ (r.acs.any actOut = true)) (n4 : ¬ (r.las.any (fun s => !patE s) = true)) (n5 : ¬ (¬ r.ro.Nodup ∨ ¬ r.acs.Nodup ∨ ¬ r.las.Nodup)) (n6 : ¬ (r.fr < 0 ∨ 24 < r.fr ∨ r.to < 0 ∨ 24 < r.to ∨ (r.fr = r.to ∧ ¬ r.fr = 0) ∨ r.nd < 0 ∨ 16 < r.nd)) (h : (r.nd = 0 ∧ r.ofr = []) ∨ (¬ r.nd = 0 ∧ ¬ r.ofr = [] ∧ r.dn = false)) : ruleE r = 0 := by
  rw [ruleE, if_neg n1, if_neg n2, if_neg n3, if_neg n4, if_neg n5, if_neg n6, if_neg]
  rcases h with ⟨h1, h2⟩ | ⟨h1, h2, h3⟩
  · rintro (hh | ⟨_, hh⟩)
    · exact hh ⟨fun _ => h2, fun _ => h1⟩
    · omega
  · rintro (hh | ⟨hh, _⟩)
    · exact hh ⟨fun e => absurd e h1, fun e => absurd e h2⟩
    · rw [h3] at hh; cases hh
section
variable {P : Program} {w : World} {t : TypeId}
abbrev AskT := List UInt8 × Sl (List UInt8) × Int × List UInt8 × List UInt8 × Int × List UInt8 × Unit
def AskT.d (y : AskT) : AskD := ⟨y.1, y.2.1.a, y.2.1.xs, y.2.1.c, y.2.2.1, y.2.2.2.1, y.2.2.2.2.1, y.2.2.2.2.2.1, y.2.2.2.2.2.2.1⟩
abbrev RuleT := Bool × Sl (List UInt8) × Sl Int × Sl (List UInt8) × Int × Int × Int × List UInt8 × Unit
def RuleT.d (y : RuleT) : RuleD := ⟨y.1, y.2.1.a, y.2.1.xs, y.2.1.c, y.2.2.1.a, y.2.2.1.xs, y.2.2.1.c, y.2.2.2.1.a, y.2.2.2.1.xs, y.2.2.2.1.c, y.2.2.2.2.1, y.2.2.2.2.2.1, y.2.2.2.2.2.2.1, y.2.2.2.2.2.2.2.1⟩
/-- A rule as an argument. -/
theorem opens_rule {B : Int → Prop} (h : Opens P w t (fun y : RuleT => [Value.bool y.1] ++ ([y.2.1.v] ++ ([y.2.2.1.v] ++ ([y.2.2.2.1.v] ++ ([Value.int .i64 y.2.2.2.2.1] ++ ([Value.int .i64 y.2.2.2.2.2.1] ++ ([Value.int .i64 y.2.2.2.2.2.2.1] ++ ([Value.string ⟨y.2.2.2.2.2.2.2.1.toArray⟩] ++ []))))))))
      (fun y => True ∧ (Row w y.2.1.a (y.2.1.xs.map fun s => Value.string ⟨s.toArray⟩) ∧ y.2.1.xs.length ≤ y.2.1.c ∧ y.2.1.c * 16 ≤ 140737488351232 ∧ ∀ x ∈ y.2.1.xs, x.length ≤ 140737488351232) ∧ (Row w y.2.2.1.a (y.2.2.1.xs.map fun z => Value.int .i64 z) ∧ y.2.2.1.xs.length ≤ y.2.2.1.c ∧ y.2.2.1.c * 8 ≤ 140737488351232 ∧ ∀ x ∈ y.2.2.1.xs, B x) ∧
        (Row w y.2.2.2.1.a (y.2.2.2.1.xs.map fun s => Value.string ⟨s.toArray⟩) ∧ y.2.2.2.1.xs.length ≤ y.2.2.2.1.c ∧ y.2.2.2.1.c * 16 ≤ 140737488351232 ∧ ∀ x ∈ y.2.2.2.1.xs, x.length ≤ 140737488351232) ∧ B y.2.2.2.2.1 ∧ B y.2.2.2.2.2.1 ∧ B y.2.2.2.2.2.2.1 ∧ y.2.2.2.2.2.2.2.1.length ≤ 140737488351232 ∧ True)) :
    Opens P w t (fun r : RuleD => r.v) (fun r => RuleOk r ∧ Row w r.ra (r.ro.map sv) ∧ Row w r.aa (r.acs.map iv) ∧ Row w r.la (r.las.map sv)) :=
  h.to RuleT.d (fun y => by simp [RuleD.v, RuleT.d, Sl.v, sv, iv]) (fun y ⟨_, ⟨h2, h3, h4, h5⟩, ⟨h6, h7, h8, _⟩, ⟨h9, h10, h11, h12⟩, _, _, _, h13, _⟩ =>
    ⟨⟨h3, by show y.2.1.xs.length ≤ _; omega, fun s hs => by have := h5 s hs; omega, h7, by show y.2.2.1.xs.length ≤ _; omega, h10, by show y.2.2.2.1.xs.length ≤ _; omega, fun s hs => by have := h12 s hs; omega, by show y.2.2.2.2.2.2.2.1.length ≤ _; omega⟩, h2, h6, h9⟩)
end
theorem three3 (a b c : Bool) : (a = true ∧ b = true ∧ c = true) ∨ a = false ∨ (a = true ∧ b = false) ∨ (a = true ∧ b = true ∧ c = false) := by cases a <;> cases b <;> cases c <;> simp
theorem dec_or {p : Prop} [Decidable p] {b : Bool} (h : b = decide p) : (b = true ∧ p) ∨ (b = false ∧ ¬ p) := by
  by_cases hp : p
  · exact .inl ⟨by rw [h, decide_eq_true hp], hp⟩
  · exact .inr ⟨by rw [h, decide_eq_false hp], hp⟩
end Go.Kw
end
section
namespace Go.Kw
set_option linter.unusedVariables false
set_option linter.unusedSimpArgs false
instance : Inhabited RuleD := ⟨⟨false, none, [], 0, none, [], 0, none, [], 0, 0, 0, 0, []⟩⟩
theorem rule_v8 (r : RuleD) : r.v.length = 8 := rfl
/-- A rule's own lists lie in memory. -/
structure RuleAt (w : World) (r : RuleD) : Prop where
  ok : RuleOk r
  h1 : Row w r.ra (r.ro.map sv)
  h2 : Row w r.aa (r.acs.map iv)
  h3 : Row w r.la (r.las.map sv)
theorem RuleAt.st {w0 w : World} {L : List Item} {r : RuleD} (h : RuleAt w0 r) (hS : St w0 [] w L) : RuleAt w r := ⟨h.ok, h.h1.st hS, h.h2.st hS, h.h3.st hS⟩
theorem one_rule (r : RuleD) : One r.v := one_cons rfl (one_cons rfl (one_cons rfl (one_cons rfl (one_cons rfl (one_cons rfl (one_cons rfl (one_cons rfl one_nil)))))))
/-- A policy as an argument. -/
theorem opens_policy {P : Program} {w : World} {t : TypeId} {bts : Nat} (h : Opens P w t (fun y : Sl RuleD × Unit => [y.1.v] ++ []) (fun y => (Row w y.1.a (y.1.xs.flatMap RuleD.v) ∧ y.1.xs.length ≤ y.1.c ∧ y.1.c * bts ≤ 140737488351232 ∧ ∀ r ∈ y.1.xs, RuleOk r ∧ Row w r.ra (r.ro.map sv) ∧ Row w r.aa (r.acs.map iv) ∧ Row w r.la (r.las.map sv)) ∧ True)) :
    Opens P w t (fun y : Sl RuleD => [y.v]) (fun y => Row w y.a (y.xs.flatMap RuleD.v) ∧ y.xs.length ≤ y.c ∧ y.c * bts ≤ 140737488351232 ∧ ∀ r ∈ y.xs, RuleOk r ∧ Row w r.ra (r.ro.map sv) ∧ Row w r.aa (r.acs.map iv) ∧ Row w r.la (r.las.map sv)) :=
  h.to (fun y => y.1) (fun y => by simp) (fun y hy => hy.1)
def firstErr : List RuleD → Int
  | [] => 0
  | r :: rs => if ruleE r = 0 then firstErr rs else ruleE r
/-- What is wrong with a policy. -/
def polE (rs : List RuleD) : Int := if 100 < rs.length then 5 else firstErr rs
theorem firstErr_at : ∀ (rs : List RuleD) (k : Nat), k < rs.length → (∀ i, i < k → ruleE (gt rs i) = 0) → ¬ ruleE (gt rs k) = 0 → firstErr rs = ruleE (gt rs k)
  | [], _, h, _, _ => by simp at h
  | r :: rs, 0, _, _, hk => by
    have : gt (r :: rs) 0 = r := rfl
    rw [this] at hk ⊢
    rw [firstErr, if_neg hk]
  | r :: rs, k + 1, h, hi, hk => by
    have h0 : ruleE r = 0 := hi 0 (by omega)
    rw [firstErr, if_pos h0]
    exact firstErr_at rs k (by simpa using h) (fun i hik => hi (i + 1) (by omega)) hk
theorem firstErr_no : ∀ (rs : List RuleD), (∀ i, i < rs.length → ruleE (gt rs i) = 0) → firstErr rs = 0
  | [], _ => rfl
  | r :: rs, h => by
    have h0 : ruleE r = 0 := h 0 (by simp)
    rw [firstErr, if_pos h0]
    exact firstErr_no rs (fun i hi => h (i + 1) (by simpa using hi))
theorem firstErr_all : ∀ (rs : List RuleD), firstErr rs = 0 → ∀ r ∈ rs, ruleE r = 0
  | [], _, _, h => by cases h
  | r :: rs, he, x, hx => by
    rw [firstErr] at he
    by_cases h0 : ruleE r = 0
    · rw [if_pos h0] at he
      rcases List.mem_cons.1 hx with rfl | hx
      · exact h0
      · exact firstErr_all rs he x hx
    · rw [if_neg h0] at he; exact absurd he h0
theorem polE_big {rs : List RuleD} (h : 100 < rs.length) : polE rs = 5 := by rw [polE, if_pos h]
theorem polE_at {rs : List RuleD} {k : Nat} (h : ¬ 100 < rs.length) (hk : k < rs.length) (hi : ∀ i, i < k → ruleE (gt rs i) = 0) (he : ¬ ruleE (gt rs k) = 0) : polE rs = ruleE (gt rs k) := by rw [polE, if_neg h, firstErr_at rs k hk hi he]
theorem polE_ok {rs : List RuleD} (h : ¬ 100 < rs.length) (hi : ∀ i, i < rs.length → ruleE (gt rs i) = 0) : polE rs = 0 := by rw [polE, if_neg h, firstErr_no rs hi]
theorem polE_zero {rs : List RuleD} (h : polE rs = 0) : rs.length ≤ 100 ∧ ∀ r ∈ rs, ruleE r = 0 := by
  by_cases hb : 100 < rs.length
  · rw [polE_big hb] at h; exact absurd h (by decide)
  · rw [polE, if_neg hb] at h
    exact ⟨by omega, firstErr_all rs h⟩
theorem ok_step {rs : List RuleD} {k : Nat} (h : ∀ i, i < k → ruleE (gt rs i) = 0) (hk : ruleE (gt rs k) = 0) : ∀ i, i < k + 1 → ruleE (gt rs i) = 0 := fun i hi => by
  by_cases e : i = k
  · rw [e]; exact hk
  · exact h i (by omega)
end Go.Kw
end
