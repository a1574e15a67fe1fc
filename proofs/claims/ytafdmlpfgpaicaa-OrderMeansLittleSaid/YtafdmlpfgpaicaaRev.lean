/- Rows of records that are put behind one another and turned round. No condition. -/
import Derived.Test.YtafdmlpfgpaicaaPol
import Derived.Test.YtafdmlpfgpaicaaOct
namespace Go.Kw
set_option linter.unusedVariables false
set_option linter.unusedSimpArgs false
def totalR (ps : List (Sl RuleD)) : Nat := (ps.map fun p => p.xs.length).sum
def joinedR (ps : List (Sl RuleD)) : List RuleD := ps.flatMap (·.xs)
theorem totalR_take (ps : List (Sl RuleD)) (k : Nat) (h : k < ps.length) : totalR (ps.take (k + 1)) = totalR (ps.take k) + (gt ps k).xs.length := by
  rw [List.take_succ_eq_append_getElem h, gt_eq _ _ h]
  simp only [totalR, List.map_append, List.sum_append, List.map_cons, List.map_nil, List.sum_cons, List.sum_nil, Nat.add_zero]
theorem totalR_le (ps : List (Sl RuleD)) (k : Nat) : totalR (ps.take k) ≤ totalR ps := by
  have : totalR ps = totalR (ps.take k) + totalR (ps.drop k) := by
    conv => lhs; rw [← List.take_append_drop k ps]
    simp only [totalR, List.map_append, List.sum_append]
  omega
theorem joinedR_take (ps : List (Sl RuleD)) (k : Nat) (h : k < ps.length) : joinedR (ps.take (k + 1)) = joinedR (ps.take k) ++ (gt ps k).xs := by
  rw [List.take_succ_eq_append_getElem h, gt_eq _ _ h]
  simp only [joinedR, List.flatMap_append, List.flatMap_cons, List.flatMap_nil, List.append_nil]
theorem one_flat (l : List RuleD) : One (l.flatMap RuleD.v) := by
  intro c hc
  obtain ⟨r, _, h⟩ := List.mem_flatMap.1 hc
  exact one_rule r c h
theorem one_slices (ps : List (Sl RuleD)) : One (ps.map Sl.v) := one_map ps fun _ => rfl
/-- The same rules, in whatever order. -/
def Same (rs rs' : List RuleD) : Prop := rs.length = rs'.length ∧ ∀ r, r ∈ rs ↔ r ∈ rs'
theorem Same.refl (rs : List RuleD) : Same rs rs := ⟨rfl, fun _ => Iff.rfl⟩
theorem Same.trans {a b c : List RuleD} (h : Same a b) (h' : Same b c) : Same a c := ⟨h.1.trans h'.1, fun r => (h.2 r).trans (h'.2 r)⟩
theorem Same.app {a b c d : List RuleD} (h : Same a b) (h' : Same c d) : Same (a ++ c) (b ++ d) := ⟨by rw [List.length_append, List.length_append, h.1, h'.1], fun r => by rw [List.mem_append, List.mem_append, h.2 r, h'.2 r]⟩
theorem Same.turn (a : List RuleD) (k : Nat) : Same a (a.drop k ++ a.take k) := by
  refine ⟨by rw [List.length_append, List.length_drop, List.length_take]; omega, fun r => ?_⟩
  conv => lhs; rw [← List.take_append_drop k a]
  rw [List.mem_append, List.mem_append]
  exact Or.comm
def swapL (l : List RuleD) (i j : Nat) : List RuleD := (l.set i (gt l j)).set j (gt l i)
theorem swap_same {l : List RuleD} {i j : Nat} (hi : i < l.length) (hj : j < l.length) : Same l (swapL l i j) := by
  have hlen : (swapL l i j).length = l.length := by simp [swapL]
  refine ⟨hlen.symm, fun r => ?_⟩
  have get : ∀ k (hk : k < (swapL l i j).length), (swapL l i j)[k] = if j = k then gt l i else if i = k then gt l j else l[k]'(by omega) := by
    intro k hk
    simp only [swapL, List.getElem_set]
  constructor
  · intro h
    obtain ⟨k, hk, e⟩ := List.mem_iff_getElem.1 h
    by_cases h1 : k = i
    · refine List.mem_iff_getElem.2 ⟨j, by omega, ?_⟩
      rw [get j (by omega), if_pos rfl, gt_eq l i hi]
      subst h1; exact e
    · by_cases h2 : k = j
      · refine List.mem_iff_getElem.2 ⟨i, by omega, ?_⟩
        rw [get i (by omega)]
        subst h2
        rw [if_neg h1, if_pos rfl, gt_eq l k hj]; exact e
      · refine List.mem_iff_getElem.2 ⟨k, by omega, ?_⟩
        rw [get k (by omega), if_neg (fun e => h2 e.symm), if_neg (fun e => h1 e.symm)]; exact e
  · intro h
    obtain ⟨k, hk, e⟩ := List.mem_iff_getElem.1 h
    rw [get k hk] at e
    split at e
    · rw [← e]; exact gt_mem l i hi
    · split at e
      · rw [← e]; exact gt_mem l j hj
      · rw [← e]; exact List.getElem_mem _
theorem polE_same {rs rs' : List RuleD} (hp : Same rs rs') (h : polE rs = 0) : polE rs' = 0 := by
  obtain ⟨h1, h2⟩ := polE_zero h
  exact polE_ok (by rw [← hp.1]; omega) fun i hi => h2 _ ((hp.2 _).2 (gt_mem rs' i hi))
theorem splice_flat {u : RuleD} {D : List Value} : ∀ {l : List RuleD} {m : Nat}, m < l.length → splice (l.flatMap RuleD.v ++ D) (m * 8) u.v = (l.set m u).flatMap RuleD.v ++ D
  | [], _, h => by simp at h
  | r :: l, 0, _ => by
    have h8 := rule_v8 r
    simp only [splice, List.flatMap_cons, Nat.zero_mul, List.take_zero, List.nil_append, Nat.zero_add, rule_v8, List.set_cons_zero, List.append_assoc]
    rw [← h8, List.drop_left]
  | r :: l, m + 1, h => by
    have ih := splice_flat (u := u) (D := D) (l := l) (m := m) (by simpa using h)
    have h8 := rule_v8 r
    simp only [splice, rule_v8] at ih
    simp only [splice, List.flatMap_cons, rule_v8, List.set_cons_succ, List.append_assoc]
    have e1 : (m + 1) * 8 = r.v.length + m * 8 := by rw [h8]; omega
    have e2 : (m + 1) * 8 + 8 = r.v.length + (m * 8 + 8) := by rw [h8]; omega
    rw [e2, ← List.drop_drop, List.drop_left, e1, List.take_length_add_append, List.append_assoc, ih]
section
variable {P : Program} {ρ : Operand → Value} {w w0 : World} {M : List Nat} {L l1 l2 : List Item} {dst : Option Tmp} {ty : TypeId} {pos : String} {aft : Array Edge} {g : Option (Nat × Bool)} {x y z : Operand} {T T2 E I : TypeId} {v : Value} {k : IntKind}
  {d dE : TypeDesc} {sz bts b o : Nat} {zv : Value} {a : Option Addr} {cs C : List Value}
theorem r_ixP {len cap m : Nat} (h : P.underlying T = some (.slice E)) (hE : TI P E dE sz bts zv) (hx : ρ x = .slice (some ⟨b, 0, none⟩) len cap) (hy : ρ y = .int k (m : Int)) (hm : m < len) :
    (execOp ρ ⟨dst, .indexAddr T x y, ty, pos, aft, g⟩).run P w = .ok (.value (pt b (m * sz))) w := by
  have h0 : (0 : Int) ≤ (m : Int) ∧ (m : Int) < (len : Int) := by omega
  simp [execOp, hx, hy, Instr.indexAt, asIntOf, run_underlying h, run_sizeOf hE, hm, add_lit]
theorem r_loadP8 {m : Nat} {l : List RuleD} {D : List Value} {fr : Nat × Nat} (h : TI P T d 8 bts zv) (hd : aggD d = true) (hx : ρ x = pt b (m * 8)) (hb : w.heap[b]? = some (.cells (l.flatMap RuleD.v ++ D).toArray E fr)) (hm : m < l.length) :
    (execOp ρ ⟨dst, .load T x, ty, pos, aft, g⟩).run P w = .ok (.value (.agg (gt l m).v.toArray)) w := by
  have hl : (l.flatMap RuleD.v).length = l.length * 8 := flatM_len rule_v8 l
  have hA := at_part (off := m * 8) (n := 8) hb
  have e : ((l.flatMap RuleD.v ++ D).drop (m * 8)).take 8 = (gt l m).v := by
    rw [List.drop_append_of_le_length (by omega), List.take_append_of_le_length (by rw [List.length_drop]; omega), flatM_gt rule_v8 hm]
  rw [e] at hA
  exact r_loadA (cs := (gt l m).v) (by rw [rule_v8]; exact h) hd hx hA
theorem x_storeP8 {m : Nat} {l : List RuleD} {u : RuleD} {D : List Value} (l1 : List Item) {l2 : List Item} (hS : St w0 M w (l1 ++ .blk b (cl (l.flatMap RuleD.v ++ D) E) :: l2)) (h : TI P T d 8 bts zv) (hx : ρ x = pt b (m * 8)) (hy : ρ y = .agg u.v.toArray) (hm : m < l.length) :
    ∃ w', (execOp ρ ⟨none, .store T x y, ty, pos, aft, g⟩).run P w = .ok .skip w' ∧ St w0 M w' (l1 ++ .blk b (cl ((l.set m u).flatMap RuleD.v ++ D) E) :: l2) :=
  x_store l1 hS h hx hy (cs := u.v) rfl rfl (one_rule u) (by rw [List.length_append, flatM_len rule_v8, rule_v8]; omega) (splice_flat hm)
theorem r_remI {a : Int} {b : Nat} (hx : ρ x = .int .i64 a) (hy : ρ y = vi b) (h : 0 < b) : (execOp ρ ⟨dst, .binOp .rem T x y T2, ty, pos, aft, g⟩).run P w = .ok (.value (.int .i64 (a.tmod b))) w :=
  r_bin hx hy (by
    have h0 : ¬ (b : Int) = 0 := by omega
    simp only [binOp, Op.intDiv, h0, if_false, Sem.run_pure, ne_eq, not_true_eq_false])
end
theorem flat_drop8 (l : List RuleD) : ∀ k, (l.flatMap RuleD.v).drop (k * 8) = (l.drop k).flatMap RuleD.v := by
  induction l with
  | nil => intro k; simp
  | cons r l ih =>
    intro k
    cases k with
    | zero => simp
    | succ k =>
      have e : (k + 1) * 8 = r.v.length + k * 8 := by rw [rule_v8]; omega
      rw [List.flatMap_cons, e, ← List.drop_drop, List.drop_left, ih k]; rfl
theorem flat_take8 (l : List RuleD) : ∀ k, (l.flatMap RuleD.v).take (k * 8) = (l.take k).flatMap RuleD.v := by
  induction l with
  | nil => intro k; simp
  | cons r l ih =>
    intro k
    cases k with
    | zero => simp
    | succ k =>
      have e : (k + 1) * 8 = r.v.length + k * 8 := by rw [rule_v8]; omega
      rw [List.flatMap_cons, e, List.take_length_add_append, ih k]; rfl
theorem Row.from8 {w : World} {a : Option Addr} {c : Nat} {l : List RuleD} (h : Row w a (l.flatMap RuleD.v)) (hc : l.length ≤ c) (k : Nat) : Row w (Kw.sub a c k 8) ((l.drop k).flatMap RuleD.v) := by
  have := h.sub (cap := c) (l := k) (sz := 8) (by rw [flatM_len rule_v8]; exact Nat.mul_le_mul_right _ hc)
  rwa [flat_drop8] at this
theorem Row.to8 {w : World} {a : Option Addr} {l : List RuleD} (h : Row w a (l.flatMap RuleD.v)) (k : Nat) : Row w a ((l.take k).flatMap RuleD.v) := by
  have := h.take (n := k * 8)
  rwa [flat_take8] at this
theorem part8 {C : List Value} {rs : List RuleD} {n m : Nat} (hn : rs.length = n) (hC : C.take (n * 8) = rs.flatMap RuleD.v) : ∃ D, C = (rs.take m).flatMap RuleD.v ++ ((rs.drop m).flatMap RuleD.v ++ D) := by
  refine ⟨C.drop (n * 8), ?_⟩
  rw [← List.append_assoc, ← List.flatMap_append, List.take_append_drop, ← hC, List.take_append_drop]
theorem tmod_b {a : Int} {b : Nat} (h : 0 < b) : -(b : Int) < a.tmod b ∧ a.tmod b < b := by
  refine ⟨?_, Int.tmod_lt_of_pos a (by omega)⟩
  have := Int.tmod_lt_of_pos (-a) (b := (b : Int)) (by omega)
  rw [Int.neg_tmod] at this
  omega
end Go.Kw
