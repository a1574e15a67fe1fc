/- What the law's proof leans on. No condition. -/
import Derived.Test.YtjnnhlbfgnopiaaGreatDoorPCAS
import Derived.Test.YtjnnhlbfgnopiaaGreatDoorPCAY
import Derived.Test.YtjnnhlbfgnopiaaGreatDoorPCBC
import Derived.Test.YtjnnhlbfgnopiaaGreatDoorPCBA
import Derived.Lib.Fields
namespace Go.Kw
set_option linter.unusedVariables false
set_option linter.unusedSimpArgs false
open Go.Lib
/-- Where ws0 lies at a0, there lies ws at a. -/
def Sub (a0 : Option Addr) (ws0 : Ws) (a : Option Addr) (ws : Ws) : Prop := ∀ W : World, Row W a0 (ws0.map sv) → Row W a (ws.map sv)
theorem Sub.refl (a : Option Addr) (ws : Ws) : Sub a ws a ws := fun W h => h
theorem Sub.nil {a0 : Option Addr} {ws0 : Ws} {a : Option Addr} : Sub a0 ws0 a [] := fun W _ => Row.nil
theorem Sub.drop {a0 a : Option Addr} {ws0 ws : Ws} {c : Nat} (h : Sub a0 ws0 a ws) (hc : ws.length ≤ c) (m : Nat) : Sub a0 ws0 (Kw.sub a c m 1) (ws.drop m) := fun W hW => (h W hW).dropM hc m
theorem Sub.take {a0 a : Option Addr} {ws0 ws : Ws} (h : Sub a0 ws0 a ws) (m : Nat) : Sub a0 ws0 a (ws.take m) := fun W hW => by
  have := (h W hW).take (n := m)
  rwa [← List.map_take] at this
theorem Sub.tl {a0 a : Option Addr} {ws0 ws : Ws} {c : Nat} (h : Sub a0 ws0 a ws) (hc : ws.length ≤ c) : Sub a0 ws0 (Kw.sub a c 1 1) ws.tail := by
  have := h.drop hc 1
  rwa [List.drop_one] at this
theorem Sub.tk {a0 a : Option Addr} {ws0 ws : Ws} (h : Sub a0 ws0 a ws) : Sub a0 ws0 a (tkP ws) := by
  rw [tkP_eq]; exact h.take _
theorem Sub.dr {a0 a : Option Addr} {ws0 ws : Ws} {c : Nat} (h : Sub a0 ws0 a ws) (hc : ws.length ≤ c) : Sub a0 ws0 (Kw.sub a c (tkP ws).length 1) (drP ws) := by
  rw [drP_eq]; exact h.drop hc _
/-- A row of its own that a contract of the library hands over. -/
theorem st_own {w w' : World} {E sz n : Nat} {a : Option Addr} {m c : Nat} {xs : List Value} (h : w'.ownsRow w.heap.size E sz (.slice a m c) n xs) (hb : Go.RowKit.Below w.heap.size w w') : St w [] w' [.row (.slice a m c) E sz n xs] := by
  have hS : St w [] w' [] := St.of_below hb
  refine ⟨hS.os, hS.tape, hS.output, hS.size, hS.old, ?_, by cases hv : (Value.slice a m c).ownBlock <;> simp [List.filterMap, Item.id, hv]⟩
  intro x hx
  obtain rfl := List.mem_singleton.1 hx
  obtain ⟨h1, h2⟩ := h
  refine ⟨⟨h1, ?_⟩, fun g hg => ?_⟩
  · rcases h2 with h2 | ⟨g, cap, cur, hv, hg, r⟩
    · exact .inl h2
    · exact .inr ⟨g, cap, cur, hv, Nat.zero_le _, r⟩
  · rcases h2 with h2 | ⟨g', cap, cur, hv, hg', r⟩
    · rw [h2.1] at hg; cases hg
    · rw [hv] at hg
      simp only [Value.ownBlock, Option.some.injEq] at hg
      subst hg; exact .inl hg'
theorem noNil_take {l : Ws} {k : Nat} (hk : k < l.length) : noNil (l.take (k + 1)) = noNil (l.take k) ++ (if gt l k = [] then [] else [gt l k]) := by
  rw [take_gt l k hk, noNil, List.filter_append]
  congr 1
  by_cases h : gt l k = [] <;> simp [h]
theorem noNil_len (l : Ws) : (noNil l).length ≤ l.length := List.length_filter_le _ _
theorem noNil_first {l : Ws} {k : Nat} (h : ∀ j, j < k → ¬ gt l j = []) (hk : k ≤ l.length) : noNil (l.take k) = l.take k := by
  rw [noNil, List.filter_eq_self]
  intro x hx
  obtain ⟨j, hj⟩ := List.mem_iff_getElem?.1 hx
  rw [List.getElem?_take] at hj
  split at hj
  · rename_i hjk
    have := h j hjk
    rw [gt_eq l j (by omega)] at this
    rw [List.getElem?_eq_getElem (by omega)] at hj
    cases hj
    simp [this]
  · cases hj
theorem digB_t {b : UInt8} (h : 48 ≤ b.toNat ∧ b.toNat ≤ 57) : digB b = true := decide_eq_true h
theorem numV_step {s : List UInt8} {k : Nat} (hk : k < s.length) : numV (s.take (k + 1)) = 10 * numV (s.take k) + ((gt s k).toNat - 48) := by
  rw [take_gt s k hk, numV, List.foldl_append]; rfl
theorem numV_acc : ∀ (s : List UInt8) (acc : Nat), s.all digB = true → s.foldl (fun n b => 10 * n + (b.toNat - 48)) acc < (acc + 1) * 10 ^ s.length
  | [], acc, _ => by simp
  | b :: l, acc, h => by
    rw [List.all_cons, Bool.and_eq_true] at h
    have h2 : 48 ≤ b.toNat ∧ b.toNat ≤ 57 := of_decide_eq_true h.1
    have ih := numV_acc l (10 * acc + (b.toNat - 48)) h.2
    rw [List.foldl_cons, List.length_cons, Nat.pow_succ]
    refine Nat.lt_of_lt_of_le ih ?_
    rw [Nat.mul_comm (10 ^ l.length) 10, ← Nat.mul_assoc]
    exact Nat.mul_le_mul_right _ (by omega)
theorem numV_bound (s : List UInt8) (h : s.all digB = true) : numV s < 10 ^ s.length := by
  have := numV_acc s 0 h
  rw [Nat.zero_add, Nat.one_mul] at this; exact this
theorem sub48 {b : UInt8} (h : 48 ≤ b.toNat) : (b - 48).toNat = b.toNat - 48 := by
  rw [UInt8.toNat_sub]
  show (2 ^ 8 - 48 + b.toNat) % 2 ^ 8 = _
  have := b.toNat_lt
  omega
/-- The acts' words in one text. -/
def actT : List UInt8 := [112, 111, 108, 105, 99, 121, 32, 101, 110, 114, 111, 108, 108, 32, 100, 105, 115, 109, 105, 115, 115, 32, 99, 114, 101, 97, 116, 101, 32, 114, 111, 116, 97, 116, 101, 32, 117, 115, 101, 32, 114, 101, 118, 111, 107, 101, 32, 97, 112, 112, 114, 111, 118, 101, 32, 101, 115, 99, 114, 111, 119, 32, 114, 101, 99, 111, 118, 101, 114, 32, 98, 97, 99, 107, 117, 112, 32, 114, 101, 115, 116, 111, 114, 101]
theorem actT_ascii : ∀ (j : Nat) (b : UInt8), (⟨actT.toArray⟩ : ByteArray).data.toList[j]? = some b → b.toNat < 128 := fun j b h => by
  have hm : b ∈ actT := List.mem_of_getElem? (by simpa using h)
  have : ∀ c ∈ actT, c.toNat < 128 := by decide +kernel
  exact this b hm
theorem actT_fields : Lib.fields actT = actW := by decide +kernel
def nrmR (r : RuleD) : RuleD := rn r.dn r.ro r.acs r.las r.fr r.to r.nd r.ofr
theorem ruleT_b {ws : Ws} (h : beginOk ws = false) : ruleT ws = none := by unfold ruleT; rw [if_neg (fun hh => by rw [h] at hh; cases hh.1)]
theorem ruleT_r {ws : Ws} (h : restOk ws.tail = false) : ruleT ws = none := by unfold ruleT; rw [if_neg (fun hh => by rw [h] at hh; cases hh.2)]
theorem ok32 {t : Ws} (h : ok3 t = true) : ok2 t = true := by unfold ok3 at h; exact (Bool.and_eq_true _ _ ▸ h).1
theorem ok43 {t : Ws} (h : ok4 t = true) : ok3 t = true := by unfold ok4 at h; exact (Bool.and_eq_true _ _ ▸ h).1
theorem ok54 {t : Ws} (h : ok5 t = true) : ok4 t = true := by unfold ok5 at h; exact (Bool.and_eq_true _ _ ▸ h).1
theorem restOk_t {t : Ws} (h : ok5 t = true) (h2 : (wk5 t).length = 0) : restOk t = true := by unfold restOk; rw [h, decide_eq_true (List.eq_nil_of_length_eq_zero h2)]; rfl
theorem restOk_f {t : Ws} (h : ok5 t = false) : restOk t = false := by unfold restOk; rw [h]; rfl
theorem restOk_l {t : Ws} (h2 : ¬ (wk5 t).length = 0) : restOk t = false := by unfold restOk; rw [decide_eq_false (fun e => h2 (by rw [e]; rfl)), Bool.and_false]
theorem ruleT_some {ws : Ws} {l2 : List Int} {fr tt nd : Int} {ofr : List UInt8} {dn : Bool} (hb : beginOk ws = true) (hd : dn = headIs kDENY ws) (h5 : ok5 ws.tail = true) (hw : (wk5 ws.tail).length = 0) (h2 : ok2 ws.tail = true → l2 = actsV (secA kACT (wk1 ws.tail)))
    (h4 : ok4 ws.tail = true → fr = frT ws.tail ∧ tt = toT ws.tail) (h6 : ok5 ws.tail = true → nd = ndT ws.tail ∧ ofr = ofT ws.tail) :
    ruleT ws = some (rn dn (secA kROLE ws.tail) l2 (secA kON (wk2 ws.tail)) fr tt nd ofr) := by
  have e4 := ok54 h5
  unfold ruleT
  rw [if_pos ⟨hb, restOk_t h5 hw⟩, restR, h2 (ok32 (ok43 e4)), (h4 e4).1, (h4 e4).2, (h6 h5).1, (h6 h5).2, hd]
theorem secA_mem {k : List UInt8} {ws : Ws} {x : List UInt8} (h : x ∈ secA k ws) : x ∈ ws := by
  unfold secA at h
  split at h
  · exact List.mem_of_mem_tail ((List.takeWhile_sublist _).subset h)
  · cases h
theorem secR_mem {k : List UInt8} {ws : Ws} {x : List UInt8} (h : x ∈ secR k ws) : x ∈ ws := by
  unfold secR at h
  split at h
  · exact List.mem_of_mem_tail ((List.dropWhile_sublist _).subset h)
  · exact h
theorem wk1_mem {t : Ws} {x : List UInt8} (h : x ∈ wk1 t) : x ∈ t := secR_mem h
theorem wk2_mem {t : Ws} {x : List UInt8} (h : x ∈ wk2 t) : x ∈ t := wk1_mem (secR_mem h)
theorem wk3_mem {t : Ws} {x : List UInt8} (h : x ∈ wk3 t) : x ∈ t := wk2_mem (secR_mem h)
theorem wk4_mem {t : Ws} {x : List UInt8} (h : x ∈ wk4 t) : x ∈ t := wk3_mem (secR_mem h)
theorem secR_le (k : List UInt8) (ws : Ws) : (secR k ws).length ≤ ws.length := by
  unfold secR; split
  · have := drP_le ws.tail; rw [List.length_tail] at this; omega
  · omega
theorem secA_le (k : List UInt8) (ws : Ws) : (secA k ws).length ≤ ws.length := by
  unfold secA; split
  · have := tkP_len ws.tail; rw [List.length_tail] at this; omega
  · simp
theorem w_le (t : Ws) : (wk1 t).length ≤ t.length ∧ (wk2 t).length ≤ t.length ∧ (wk3 t).length ≤ t.length ∧ (wk4 t).length ≤ t.length ∧ (wk5 t).length ≤ t.length := by
  have a : (wk1 t).length ≤ t.length := secR_le kROLE t
  have b : (wk2 t).length ≤ (wk1 t).length := secR_le kACT (wk1 t)
  have c : (wk3 t).length ≤ (wk2 t).length := secR_le kON (wk2 t)
  have d : (wk4 t).length ≤ (wk3 t).length := secR_le kAT (wk3 t)
  have e : (wk5 t).length ≤ (wk4 t).length := secR_le kNEED (wk4 t)
  exact ⟨a, by omega, by omega, by omega, by omega⟩
theorem begin_d {ws : Ws} (h : headIs kDENY ws = true) : beginOk ws = true := by unfold beginOk; rw [h]; rfl
theorem begin_a {ws : Ws} (h : headIs kALLOW ws = true) : beginOk ws = true := by unfold beginOk; rw [h, Bool.or_true]
theorem begin_n {ws : Ws} (h : headIs kDENY ws = false) (h2 : headIs kALLOW ws = false) : beginOk ws = false := by unfold beginOk; rw [h, h2]; rfl
theorem acts_n {l : Ws} {k : Nat} (hk : k < l.length) (h : ¬ gt l k ∈ actW) : actsOk l = false := by
  unfold actsOk
  rw [List.all_eq_false]
  exact ⟨gt l k, gt_mem l k hk, by simp [h]⟩
theorem acts_y {l : Ws} (h : ∀ j, j < l.length → gt l j ∈ actW) : actsOk l = true := by
  unfold actsOk
  rw [List.all_eq_true]
  intro x hx
  obtain ⟨j, hj⟩ := List.mem_iff_getElem?.1 hx
  have hjl := (List.getElem?_eq_some_iff.1 hj).1
  have := h j hjl
  rw [gt_eq l j hjl] at this
  rw [List.getElem?_eq_getElem hjl] at hj
  cases hj
  exact decide_eq_true this
theorem actsV_step {l : Ws} {k : Nat} (hk : k < l.length) : actsV (l.take (k + 1)) = actsV (l.take k) ++ [((actW.idxOf (gt l k) : Nat) : Int) + 1] := by
  rw [take_gt l k hk, actsV, List.map_append]; rfl
theorem idxOf_first {xs : Ws} {x : List UInt8} {i : Nat} (hi : i < xs.length) (h : gt xs i = x) (hno : ∀ j, j < i → ¬ gt xs j = x) : xs.idxOf x = i := by
  induction xs generalizing i with
  | nil => simp at hi
  | cons y l ih =>
    cases i with
    | zero =>
      have : y = x := by simpa [gt] using h
      subst this; simp
    | succ i =>
      have h0 : ¬ y = x := by simpa [gt] using hno 0 (by omega)
      have := ih (i := i) (by simpa using hi) (by simpa [gt] using h) (fun j hj => by have := hno (j + 1) (by omega); simpa [gt] using this)
      rw [List.idxOf_cons]
      have : (y == x) = false := by simpa using h0
      rw [this]
      simp only [cond_false]
      omega
theorem mem_gtw {xs : Ws} {x : List UInt8} {i : Nat} (hi : i < xs.length) (h : gt xs i = x) : x ∈ xs := h ▸ gt_mem xs i hi
theorem not_mem_gtw {xs : Ws} {x : List UInt8} (h : ∀ j, j < xs.length → ¬ gt xs j = x) : ¬ x ∈ xs := fun hm => by
  obtain ⟨j, hj⟩ := List.mem_iff_getElem?.1 hm
  have hjl := (List.getElem?_eq_some_iff.1 hj).1
  rw [List.getElem?_eq_getElem hjl] at hj
  exact h j hjl (by rw [gt_eq xs j hjl]; exact Option.some.inj hj)
theorem tkP_mem {ws : Ws} {x : List UInt8} (h : x ∈ tkP ws.tail) : x ∈ ws := List.mem_of_mem_tail ((List.takeWhile_sublist _).subset h)
theorem actsV_len (l : Ws) : (actsV l).length = l.length := by simp [actsV]
theorem Row.aheadW {w : World} {b : Nat} {xs D : List Value} {E : TypeId} {fr : Nat × Nat} (h : w.heap[b]? = some (.cells (xs ++ D).toArray E fr)) : Row w (some ⟨b, 0, none⟩) xs :=
  Row.of_at (at_of_heap h fun i v hv => by
    rw [Nat.zero_add, List.getElem?_append_left (List.getElem?_eq_some_iff.1 hv).1]
    exact hv)
/-- The lists of some rules lie in the items LT. -/
def RulesP (LT : List Item) (rs : List RuleD) : Prop := ∀ W, Hold0 W LT → ∀ r ∈ rs, RuleAt W r
theorem RulesP.nil {LT : List Item} : RulesP LT [] := fun W _ r hr => by cases hr
theorem RulesP.sub {LT LT' : List Item} {rs : List RuleD} (h : RulesP LT rs) (hs : ∀ x ∈ LT, x ∈ LT') : RulesP LT' rs := fun W hW => h W (hW.sub hs)
/-- One more rule, whose words lie in a row that the items hold. -/
theorem RulesP.add {LT : List Item} {rs : List RuleD} {r : RuleD} {a : Option Addr} {ws : Ws} {n : Nat} {E : TypeId} {y : Item} (h : RulesP LT rs) (hr : RuleOk r) (h1 : Sub a ws r.ra r.ro) (h2 : Sub a ws r.la r.las) (hy : ∀ W, Hold0 W (y :: LT) → Row W a (ws.map sv)) :
    RulesP (.row (.slice r.aa n r.ak) E 1 n (r.acs.map iv) :: y :: LT) (rs ++ [r]) := fun W hW q hq => by
  have hW' : Hold0 W (y :: LT) := hW.sub fun x hx => List.mem_cons_of_mem _ hx
  rcases List.mem_append.1 hq with hq | hq
  · exact h W (hW'.sub fun x hx => List.mem_cons_of_mem _ hx) q hq
  · rw [List.mem_singleton.1 hq]
    exact ⟨hr, h1 W (hy W hW'), hW.row (.head _), h2 W (hy W hW')⟩
theorem hold_blk {LT : List Item} {b : Nat} {xs D : List Value} {E : TypeId} : ∀ W, Hold0 W (.blk b (cl (xs ++ D) E) :: LT) → Row W (some ⟨b, 0, none⟩) xs := fun W hW => Row.aheadW (hW _ (.head _)).1
theorem hold_row {LT : List Item} {a : Option Addr} {n c sz : Nat} {xs : List Value} {E : TypeId} : ∀ W, Hold0 W (.row (.slice a n c) E sz n xs :: LT) → Row W a xs := fun W hW => hW.row (.head _)
theorem lineW_le (l : List UInt8) : (lineW l).length ≤ l.length + 1 ∧ ∀ x ∈ lineW l, x.length ≤ l.length := by
  have h := flds_le (ahead1 35 l) []
  have h2 := ahead1_le 35 l
  exact ⟨by show (flds [] (ahead1 35 l)).length ≤ _; omega, fun x hx => by have := h.2 x hx; simp at this; omega⟩
theorem lineBad_e {l : List UInt8} (h : lineW l = []) : lineBad l = false := by unfold lineBad; rw [decide_eq_true h]; rfl
theorem lineBad_s {l : List UInt8} {r : RuleD} (h : ruleT (lineW l) = some r) : lineBad l = false := by unfold lineBad; rw [h]; simp
theorem lineBad_n {l : List UInt8} (h0 : ¬ lineW l = []) (h : ruleT (lineW l) = none) : lineBad l = true := by unfold lineBad; rw [decide_eq_false h0, h]; rfl
theorem ruleE_nrmR (r : RuleD) : ruleE (nrmR r) = ruleE r := rfl
theorem firstErr_nrmR : ∀ rs : List RuleD, firstErr (rs.map nrmR) = firstErr rs
  | [] => rfl
  | r :: rs => by simp only [List.map_cons, firstErr, ruleE_nrmR, firstErr_nrmR rs]
theorem polE_nrmR (rs : List RuleD) : polE (rs.map nrmR) = polE rs := by unfold polE; rw [List.length_map, firstErr_nrmR]
theorem len0 {α : Type} {l : List α} (h : l.length = 0) : l = [] := List.eq_nil_of_length_eq_zero h
/-- What is left behind i parts. -/
def uu (t : Ws) : Nat → Ws
  | 0 => t
  | 1 => wk1 t
  | 2 => wk2 t
  | 3 => wk3 t
  | 4 => wk4 t
  | _ => wk5 t
theorem uu_le (t : Ws) (i : Nat) : (uu t i).length ≤ t.length := by
  have h := w_le t
  unfold uu; split <;> omega
theorem parts_mem {s : List UInt8} : s ∈ [kROLE, kACT, kON, kAT, kNEED] ↔ (s = kROLE ∨ s = kACT ∨ s = kON ∨ s = kAT ∨ s = kNEED) := by simp
theorem sec_none {k : List UInt8} {u : Ws} (h : secOk k u = true) (h0 : (secA k u).length = 0) : headIs k u = false := by
  cases hh : headIs k u with
  | false => rfl
  | true =>
    unfold secOk at h
    rw [hh, decide_eq_true (List.eq_nil_of_length_eq_zero h0)] at h
    cases h
theorem sec_some {k : List UInt8} {u : Ws} (h0 : 0 < (secA k u).length) : headIs k u = true := by
  cases hh : headIs k u with
  | true => rfl
  | false => rw [secA_f hh] at h0; simp at h0
theorem idx_cons {x : List UInt8} (h : x ∈ actW) : ([] :: actW).idxOf x = actW.idxOf x + 1 := by
  have h0 : ([] == x) = false := by
    have : ¬ ([] : List UInt8) ∈ actW := by decide
    simp only [beq_eq_false_iff_ne, ne_eq]
    exact fun e => this (e ▸ h)
  rw [List.idxOf_cons, h0]; rfl
theorem idx_pos {x : List UInt8} (hx : x ∈ ([] :: actW)) (h : ¬ ((([] :: actW).idxOf x : Nat) : Int) < 1) : x ∈ actW := by
  rcases List.mem_cons.1 hx with rfl | hx
  · exact absurd (by decide) h
  · exact hx
theorem idx_zero {x : List UInt8} (h : ((([] :: actW).idxOf x : Nat) : Int) < 1) : ¬ x ∈ actW := fun hx => by rw [idx_cons hx] at h; omega
theorem rest_f1 {t : Ws} (h : secOk kROLE t = false) : restOk t = false := by unfold restOk ok5 ok4 ok3 ok2 ok1; rw [h]; rfl
theorem rest_f2 {t : Ws} (h : secOk kACT (wk1 t) = false) : restOk t = false := by unfold restOk ok5 ok4 ok3 ok2; rw [h]; simp
theorem rest_f3 {t : Ws} (h : secOk kON (wk2 t) = false) : restOk t = false := by unfold restOk ok5 ok4 ok3; rw [h]; simp
theorem rest_f4 {t : Ws} (h : secOk kAT (wk3 t) = false) : restOk t = false := by
  have hh : headIs kAT (wk3 t) = true ∧ secA kAT (wk3 t) = [] := by
    unfold secOk at h
    cases h1 : headIs kAT (wk3 t) with
    | false => rw [h1] at h; cases h
    | true => rw [h1] at h; exact ⟨rfl, by simpa using h⟩
  have : atOk t = false := by unfold atOk; rw [hh.1, hh.2]; rfl
  unfold restOk ok5 ok4; rw [this]; simp
theorem rest_f5 {t : Ws} (h : secOk kNEED (wk4 t) = false) : restOk t = false := by
  have hh : headIs kNEED (wk4 t) = true ∧ secA kNEED (wk4 t) = [] := by
    unfold secOk at h
    cases h1 : headIs kNEED (wk4 t) with
    | false => rw [h1] at h; cases h
    | true => rw [h1] at h; exact ⟨rfl, by simpa using h⟩
  have : needOk t = false := by unfold needOk; rw [hh.1, hh.2]; rfl
  unfold restOk ok5; rw [this]; simp
theorem rest_acts {t : Ws} (h : actsOk (secA kACT (wk1 t)) = false) : restOk t = false := by unfold restOk ok5 ok4 ok3 ok2; rw [h]; simp
theorem rest_at {t : Ws} (h : atOk t = false) : restOk t = false := by unfold restOk ok5 ok4; rw [h]; simp
theorem rest_need {t : Ws} (h : needOk t = false) : restOk t = false := by unfold restOk ok5; rw [h]; simp
theorem rest_all {t : Ws} (h1 : secOk kROLE t = true) (h2 : secOk kACT (wk1 t) = true) (h2a : actsOk (secA kACT (wk1 t)) = true) (h3 : secOk kON (wk2 t) = true) (h4 : atOk t = true) (h5 : needOk t = true) : ok5 t = true := by
  unfold ok5 ok4 ok3 ok2 ok1; rw [h1, h2, h2a, h3, h4, h5]; rfl
end Go.Kw
