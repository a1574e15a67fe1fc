/- A map's entries as rows of 64 octets: put, looked for, taken out, turned round. No condition. -/
import Derived.Test.YtfohfnpehfcaaaaBits
import Derived.Test.YtfohfnpehfcaaaaRec
import Derived.Test.YtfohfnpehfcaaaaComp
namespace Go.Kw
open Go.Lib
set_option linter.unusedVariables false
set_option linter.unusedSimpArgs false
def entsL (E : List MapE) : List (List UInt8) := E.map fun x => x.k.1 ++ x.v.1
theorem entsL_64 (E : List MapE) : SN 64 (entsL E) := by
  intro s hs
  obtain ⟨x, _, rfl⟩ := List.mem_map.1 hs
  rw [List.length_append, x.k.2, x.v.2]
theorem entsL_len (E : List MapE) : (entsL E).length = E.length := by simp [entsL]
theorem entsL_gt {E : List MapE} {i : Nat} (h : i < E.length) : gt (entsL E) i = (gt E i).k.1 ++ (gt E i).v.1 := by
  rw [gt_eq _ _ (by rw [entsL_len]; exact h), gt_eq _ _ h]; simp [entsL]
theorem ent_k {E : List MapE} {i : Nat} (h : i < E.length) : ((gt (entsL E) i).drop 0).take 32 = (gt E i).k.1 := by
  rw [entsL_gt h, List.drop_zero, List.take_left' (gt E i).k.2]
theorem ent_v {E : List MapE} {i : Nat} (h : i < E.length) : ((gt (entsL E) i).drop 32).take 32 = (gt E i).v.1 := by
  rw [entsL_gt h, List.drop_left' (gt E i).k.2, List.take_of_length_le (by rw [(gt E i).v.2]; exact Nat.le_refl _)]
theorem mapRootF_perm : ∀ (f : Nat) {l m : List (List UInt8)} (lev : Nat), lev + f = 256 → Parts lev l → l.Perm m → mapRootF f l lev = mapRootF f m lev
  | 0, l, m, lev, hf, hp, h => by
    have hl := h.length_eq
    obtain rfl : lev = 256 := by omega
    have hs := hp.short
    rw [mapRootF, mapRootF, hl]
    by_cases h0 : m.length = 0
    · rw [if_pos h0, if_pos h0]
    · rw [if_neg h0, if_neg h0]
      obtain ⟨x, rfl⟩ := List.length_eq_one_iff.1 (show m.length = 1 by omega)
      rw [List.perm_singleton.1 h]
  | f + 1, l, m, lev, hf, hp, h => by
    have hl := h.length_eq
    rw [mapRootF, mapRootF, hl]
    by_cases h0 : m.length = 0
    · rw [if_pos h0, if_pos h0]
    · rw [if_neg h0, if_neg h0]
      by_cases h1 : m.length = 1
      · rw [if_pos h1, if_pos h1]
        obtain ⟨x, rfl⟩ := List.length_eq_one_iff.1 h1
        rw [List.perm_singleton.1 h]
      · rw [if_neg h1, if_neg h1, mapRootF_perm f (lev + 1) (by omega) hp.zero (h.filter _), mapRootF_perm f (lev + 1) (by omega) hp.one (h.filter _)]
theorem getM_own {E : List MapE} {clock : Nat} (hwf : WfM E clock) {x : MapE} (hx : x ∈ E) : getM E x.k = some x.v := by
  obtain ⟨j, hj, rfl⟩ := List.mem_iff_getElem.1 hx
  exact getM_at hwf.keys (List.getElem?_eq_getElem hj) rfl
theorem parts_ents {E : List MapE} {clock : Nat} (hwf : WfM E clock) : Parts 0 (entsL E) := by
  unfold Parts entsL
  rw [List.pairwise_map]
  have hk := hwf.keys
  unfold List.Nodup at hk
  rw [List.pairwise_map] at hk
  refine hk.imp fun {x y} hne => ?_
  have hd := differL_ne x.k.2 y.k.2 (fun h => hne (Subtype.ext h))
  obtain ⟨_, _, h3⟩ := differL_spec x.k.1 y.k.1
  refine ⟨differL x.k.1 y.k.1, Nat.zero_le _, hd, ?_⟩
  rw [bitL_app x.k.2 hd, bitL_app y.k.2 hd]
  exact h3 hd
theorem raw_perm {a b : List Sum32} (h : (rawL a).Perm (rawL b)) : a.Perm b := by
  have e : ∀ l : List Sum32, (rawL l).map (fun x => if h : x.length = 32 then (⟨x, h⟩ : Sum32) else default) = l := by
    intro l
    rw [rawL, List.map_map]
    conv => rhs; rw [← List.map_id l]
    exact List.map_congr_left fun x _ => by simp only [Function.comp]; rw [dif_pos x.2]; rfl
  have := h.map (fun x => if h : x.length = 32 then (⟨x, h⟩ : Sum32) else default)
  rwa [e, e] at this
theorem keysD_perm (E : List MapE) : (keysD E).Perm (E.map (·.k)) := by
  refine raw_perm ?_
  rw [keysD_raw]
  have := List.mergeSort_perm (keysM E) fun x y => !decide (compareBytes y x < 0)
  have e : rawL (E.map (·.k)) = keysM E := by rw [rawL, keysM, List.map_map]; rfl
  rw [e]; exact this
theorem ents_root {E : List MapE} {clock : Nat} (hwf : WfM E clock) : mapRootF 256 (entM E (keysD E)) 0 = mapRootF 256 (entsL E) 0 := by
  refine (mapRootF_perm 256 0 rfl (parts_ents hwf) (List.Perm.symm ?_)).symm
  have h := (keysD_perm E).map fun k => k.1 ++ (valM E k).1
  rw [List.map_map] at h
  have e : E.map ((fun k : Sum32 => k.1 ++ (valM E k).1) ∘ fun x => x.k) = entsL E := by
    refine List.map_congr_left fun x hx => ?_
    simp only [Function.comp, valM, getM_own hwf hx, Option.getD_some]
  rw [e] at h
  exact h
/-- Where a key is; -1: nowhere. -/
def IdxM (E : List MapE) (q : Sum32) (i : Int) : Prop := (getM E q = none ∧ i = -1) ∨ ∃ j : Nat, i = (j : Int) ∧ j < E.length ∧ (gt E j).k = q
theorem idx_none {E : List MapE} {q : Sum32} (h : ∀ j, j < E.length → ¬ (gt E j).k = q) : getM E q = none := by
  rw [getM_none]
  intro x hx
  obtain ⟨j, hj, rfl⟩ := List.mem_iff_getElem.1 hx
  have := h j hj
  rwa [gt_eq _ _ hj] at this
theorem idx_some {E : List MapE} {clock : Nat} {q : Sum32} {j : Nat} (hwf : WfM E clock) (hj : j < E.length) (h : (gt E j).k = q) : getM E q = some (gt E j).v :=
  getM_at hwf.keys (List.getElem?_eq_getElem hj) (by rw [← gt_eq _ _ hj]; exact h) |>.trans (by rw [gt_eq _ _ hj])
theorem ents_new (E : List MapE) (clock : Nat) (q v : Sum32) : entsL (E ++ [⟨clock, q, v⟩]) = entsL E ++ [q.1 ++ v.1] := by simp [entsL]
theorem ents_set {E : List MapE} {clock : Nat} {q v : Sum32} {j : Nat} (hwf : WfM E clock) (hj : j < E.length) (h : (gt E j).k = q) : (entsL E).set j (q.1 ++ v.1) = entsL (setM E q v) := by
  have hx : E[j]? = some (gt E j) := by rw [gt_eq _ _ hj]; exact List.getElem?_eq_getElem hj
  rw [← setM_at (v := v) hwf.keys hx h]
  apply List.ext_getElem
  · simp [entsL]
  · intro i h1 h2
    simp only [entsL, List.getElem_set, List.getElem_map, List.getElem_modify]
    by_cases hij : j = i
    · subst hij
      rw [if_pos rfl, if_pos rfl, ← gt_eq _ _ hj, h]
    · rw [if_neg hij, if_neg hij]
theorem ents_drop {E : List MapE} {clock : Nat} {q : Sum32} {j : Nat} (hwf : WfM E clock) (hj : j < E.length) (h : (gt E j).k = q) : (entsL E).take j ++ (entsL E).drop (j + 1) = entsL (dropM E q) := by
  have hx : E[j]? = some (gt E j) := by rw [gt_eq _ _ hj]; exact List.getElem?_eq_getElem hj
  rw [← dropM_at hwf.keys hx h, List.eraseIdx_eq_take_drop_succ, entsL, entsL, List.map_append, List.map_take, List.map_drop]
theorem ent_is {E : List MapE} {j : Nat} {q : Sum32} (h : j < E.length) : (gt (entsL E) j).take 32 = q.1 ↔ (gt E j).k = q := by
  rw [entsL_gt h, List.take_left' (gt E j).k.2]
  exact ⟨fun h => Subtype.ext h, fun h => by rw [h]⟩
theorem ents_setV {E : List MapE} {clock : Nat} {q v : Sum32} {j : Nat} (hwf : WfM E clock) (hj : j < E.length) (h : (gt E j).k = q) : (entsL E).set j (splice (gt (entsL E) j) 32 v.1) = entsL (setM E q v) := by
  rw [← ents_set hwf hj h, entsL_gt hj, h]
  congr 1
  rw [splice, List.take_left' q.2, List.drop_of_length_le (by rw [List.length_append, q.2, v.2, (gt E j).v.2]; exact Nat.le_refl _), List.append_nil]
theorem setM_len (E : List MapE) (q v : Sum32) : (setM E q v).length = E.length := by simp [setM]
theorem dropM_len {E : List MapE} {clock : Nat} {q : Sum32} {j : Nat} (hwf : WfM E clock) (hj : j < E.length) (h : (gt E j).k = q) : (dropM E q).length = E.length - 1 := by
  have := congrArg List.length (ents_drop hwf hj h)
  rw [entsL_len, List.length_append, List.length_take, List.length_drop, entsL_len] at this
  omega
theorem keysM_ents (E : List MapE) : keysM E = (entsL E).map (·.take 32) := by
  simp only [keysM, entsL, List.map_map]
  exact List.map_congr_left fun x _ => by simp only [Function.comp]; rw [List.take_left' x.k.2]
/-- Two maps of the same entries, in whatever order. -/
theorem ents_same {E F : List MapE} {clock : Nat} (hwf : WfM E clock) (h : entsL F = (entsL E).reverse) : mapRootF 256 (entsL F) 0 = mapRootF 256 (entsL E) 0 ∧ sortL (keysM F) = sortL (keysM E) := by
  rw [keysM_ents F, keysM_ents E, h]
  exact ⟨(mapRootF_perm 256 0 rfl (parts_ents hwf) (List.reverse_perm _).symm).symm, sortL_perm ((List.reverse_perm _).map _)⟩
theorem rev_none {E F : List MapE} {clock i : Nat} (hwf : WfM E clock) (hi : i < E.length) (h : entsL F = (entsL E).reverse.take i) : getM F (gt E (E.length - 1 - i)).k = none := by
  rw [getM_none]
  intro x hx hk
  have hm : x.k.1 ++ x.v.1 ∈ entsL F := List.mem_map.2 ⟨x, hx, rfl⟩
  rw [h, List.mem_take_iff_getElem] at hm
  obtain ⟨j, hj, e⟩ := hm
  have hj1 : j < i := by omega
  rw [List.getElem_reverse] at e
  simp only [entsL_len] at e
  rw [← gt_eq _ _ (by rw [entsL_len]; omega), entsL_gt (by omega)] at e
  have e2 : (gt E (E.length - 1 - j)).k = x.k := by
    have := congrArg (List.take 32) e
    rw [List.take_left' (gt E (E.length - 1 - j)).k.2, List.take_left' x.k.2] at this
    exact Subtype.ext this
  have hn := nodup_at hwf.keys (i := E.length - 1 - j) (j := E.length - 1 - i) (by rw [List.length_map]; omega) (by rw [List.length_map]; omega) (by
    rw [List.getElem_map, List.getElem_map, ← gt_eq _ _ (by omega), ← gt_eq _ _ (by omega), e2, hk])
  omega
theorem rev_at {E : List MapE} {i : Nat} (hi : i < E.length) : gt (entsL E).reverse i = (gt E (E.length - 1 - i)).k.1 ++ (gt E (E.length - 1 - i)).v.1 := by
  rw [gt_eq _ _ (by rw [List.length_reverse, entsL_len]; exact hi), List.getElem_reverse, ← gt_eq _ _ (by rw [entsL_len]; omega), entsL_gt (by rw [entsL_len]; omega), entsL_len]
theorem rev_k {E : List MapE} {i : Nat} (hi : i < E.length) : ((gt (entsL E).reverse i).drop 0).take 32 = (gt E (E.length - 1 - i)).k.1 := by rw [rev_at hi, List.drop_zero, List.take_left' (gt E _).k.2]
theorem rev_v {E : List MapE} {i : Nat} (hi : i < E.length) : ((gt (entsL E).reverse i).drop 32).take 32 = (gt E (E.length - 1 - i)).v.1 := by
  rw [rev_at hi, List.drop_left' (gt E _).k.2, List.take_of_length_le (by rw [(gt E _).v.2]; exact Nat.le_refl _)]
theorem rev_step {E F : List MapE} {ck i : Nat} (hi : i < E.length) (h : entsL F = (entsL E).reverse.take i) : entsL (F ++ [⟨ck, (gt E (E.length - 1 - i)).k, (gt E (E.length - 1 - i)).v⟩]) = (entsL E).reverse.take (i + 1) := by
  rw [ents_new, h, take_gt _ i (by rw [List.length_reverse, entsL_len]; exact hi), rev_at hi]
/-- No value is nothing. -/
def NZM (E : List MapE) : Prop := ∀ x ∈ E, ¬ x.v.1 = List.replicate 32 0
theorem NZM.nil : NZM [] := fun x h => by cases h
theorem NZM.new {E : List MapE} {clock : Nat} {q v : Sum32} (h : NZM E) (hv : ¬ v.1 = List.replicate 32 0) : NZM (E ++ [⟨clock, q, v⟩]) := by
  intro x hx
  rcases List.mem_append.1 hx with hx | hx
  · exact h x hx
  · rw [List.mem_singleton.1 hx]; exact hv
theorem NZM.set {E : List MapE} {q v : Sum32} (h : NZM E) (hv : ¬ v.1 = List.replicate 32 0) : NZM (setM E q v) := by
  intro x hx
  obtain ⟨y, hy, rfl⟩ := List.mem_map.1 hx
  split
  · exact hv
  · exact h y hy
theorem NZM.drop {E : List MapE} {q : Sum32} (h : NZM E) : NZM (dropM E q) := fun x hx => h x (List.mem_filter.1 hx).1
/-- Something that is done with a map. -/
structure StepD where
  kd : Int
  k : Int
  u : Int
instance : Inhabited StepD := ⟨⟨0, 0, 0⟩⟩
def StepD.v (s : StepD) : List Value := [.int .i64 s.kd, .int .i64 s.k, .int .i64 s.u]
theorem step_v3 (s : StepD) : s.v.length = 3 := rfl
theorem one_step (s : StepD) : One s.v := one_cons rfl (one_cons rfl (one_cons rfl one_nil))
theorem opens_step {P : Program} {w : World} {t : TypeId} {R : Int × Int × Int × Unit → Prop} (h : Opens P w t (fun y : Int × Int × Int × Unit => [Value.int .i64 y.1] ++ ([Value.int .i64 y.2.1] ++ ([Value.int .i64 y.2.2.1] ++ []))) R) : Opens P w t StepD.v (fun _ => True) :=
  h.to (fun y => ⟨y.1, y.2.1, y.2.2.1⟩) (fun y => by simp [StepD.v]) (fun y hy => trivial)
/-! ### Blocks of elements of z octets -/
theorem spliceN {z o : Nat} {u : List UInt8} {D : List Value} : ∀ {l : List (List UInt8)} {m : Nat}, SN z l → m < l.length → o + u.length ≤ z → splice (l.flatten.map b8 ++ D) (m * z + o) (u.map b8) = (l.set m (splice (gt l m) o u)).flatten.map b8 ++ D
  | [], _, _, h, _ => by simp at h
  | r :: l, 0, hs, h, ho => by
    have h8 : r.length = z := hs r (by simp)
    have e0 : gt (r :: l) 0 = r := rfl
    simp only [splice, List.flatten_cons, List.map_append, Nat.zero_mul, Nat.zero_add, List.length_map, List.set_cons_zero, List.append_assoc, e0, List.map_take, List.map_drop]
    rw [List.take_append_of_le_length (by rw [List.length_map]; omega), List.drop_append_of_le_length (by rw [List.length_map]; omega)]
  | r :: l, m + 1, hs, h, ho => by
    have ih := spliceN (u := u) (D := D) (o := o) (l := l) (m := m) (fun x hx => hs x (by simp [hx])) (by simpa using h) ho
    have h8 : (r.map b8).length = z := by rw [List.length_map]; exact hs r (by simp)
    have e0 : gt (r :: l) (m + 1) = gt l m := rfl
    simp only [splice, List.length_map] at ih
    simp only [splice, List.flatten_cons, List.map_append, List.length_map, List.set_cons_succ, List.append_assoc, e0]
    have e1 : (m + 1) * z + o = (r.map b8).length + (m * z + o) := by rw [h8, Nat.succ_mul]; omega
    have e2 : (m + 1) * z + o + u.length = (r.map b8).length + (m * z + o + u.length) := by rw [h8, Nat.succ_mul]; omega
    rw [e2, ← List.drop_drop, List.drop_left, e1, List.take_length_add_append, List.append_assoc, ih]
theorem SN.set {z : Nat} {l : List (List UInt8)} (h : SN z l) {u : List UInt8} (hu : u.length = z) (m : Nat) : SN z (l.set m u) := by
  intro s hs
  rcases List.mem_or_eq_of_mem_set hs with h' | rfl
  · exact h s h'
  · exact hu
section
variable {P : Program} {ρ : Operand → Value} {w w0 : World} {M : List Nat} {L l1 l2 : List Item} {dst : Option Tmp} {ty : TypeId} {pos : String} {aft : Array Edge} {g : Option (Nat × Bool)} {x y z : Operand} {T T2 E I K : TypeId} {v : Value} {k : IntKind}
  {d dE dK : TypeDesc} {sz bts b o : Nat} {zv : Value} {a : Option Addr} {cs C : List Value}
theorem c_int_u8 {a : Int} (hT : P.underlying T = some (.int .u8)) (hS : ∃ d, P.underlying T2 = some d) (hx : ρ x = .int .i64 a) : (execOp ρ ⟨dst, .convert T2 T x, ty, pos, aft, g⟩).run P w = .ok (.value (b8 (UInt8.ofNat (a % 256).toNat))) w :=
  r_conv hT hS hx (by rw [wrap_u8, UInt8.toNat_ofNat']; omega)
theorem r_ixZ {len cap m : Nat} (h : P.underlying T = some (.slice E)) (hE : TI P E dE sz bts zv) (hx : ρ x = .slice (some ⟨b, 0, none⟩) len cap) (hy : ρ y = .int k (m : Int)) (hm : m < len) :
    (execOp ρ ⟨dst, .indexAddr T x y, ty, pos, aft, g⟩).run P w = .ok (.value (pt b (m * sz))) w := by
  have h0 : (0 : Int) ≤ (m : Int) ∧ (m : Int) < (len : Int) := by omega
  simp [execOp, hx, hy, Instr.indexAt, asIntOf, run_underlying h, run_sizeOf hE, hm, add_lit]
theorem r_loadZ {m : Nat} {l : List (List UInt8)} {D : List Value} {fr : Nat × Nat} (h : TI P T d sz bts zv) (hd : aggD d = true) (hx : ρ x = pt b (m * sz)) (hb : w.heap[b]? = some (.cells (l.flatten.map b8 ++ D).toArray E fr)) (hs : SN sz l) (hm : m < l.length) :
    (execOp ρ ⟨dst, .load T x, ty, pos, aft, g⟩).run P w = .ok (.value (.agg ((gt l m).map b8).toArray)) w := by
  have hl := flatN_lenV hs
  have h1 : m * sz + sz ≤ l.length * sz := by rw [← Nat.succ_mul]; exact Nat.mul_le_mul_right _ hm
  have hA := at_part (off := m * sz) (n := sz) hb
  have e : ((l.flatten.map b8 ++ D).drop (m * sz)).take sz = (gt l m).map b8 := by
    rw [List.drop_append_of_le_length (by omega), List.take_append_of_le_length (by rw [List.length_drop]; omega), ← List.map_drop, ← List.map_take, flatN_get hs hm]
  rw [e] at hA
  exact r_loadA (cs := (gt l m).map b8) (by rw [List.length_map, hs.gt hm]; exact h) hd hx hA
theorem x_storeZ {m : Nat} {l : List (List UInt8)} {u : List UInt8} {D : List Value} (l1 : List Item) {l2 : List Item} (hS : St w0 M w (l1 ++ .blk b (cl (l.flatten.map b8 ++ D) E) :: l2)) (h : TI P T d sz bts zv) (hx : ρ x = pt b (m * sz)) (hy : ρ y = .agg (u.map b8).toArray) (hs : SN sz l) (hu : u.length = sz) (hm : m < l.length) :
    ∃ w', (execOp ρ ⟨none, .store T x y, ty, pos, aft, g⟩).run P w = .ok .skip w' ∧ St w0 M w' (l1 ++ .blk b (cl ((l.set m u).flatten.map b8 ++ D) E) :: l2) := by
  have h1 : m * sz + sz ≤ l.length * sz := by rw [← Nat.succ_mul]; exact Nat.mul_le_mul_right _ hm
  have hsp := spliceN (o := 0) (u := u) (D := D) hs hm (by omega)
  rw [Nat.add_zero, splice0 _ _ (by rw [hu, hs.gt hm])] at hsp
  exact x_store l1 hS h hx hy (cs := u.map b8) rfl (by rw [List.length_map, hu]) (one_b8 u) (by rw [List.length_append, flatN_lenV hs, List.length_map, hu]; omega) hsp
/-- A part of an element of an owned row. -/
theorem x_storeRowF {n c m o : Nat} {l : List (List UInt8)} {u : List UInt8} {sy : Nat} (l1 : List Item) {l2 : List Item} (hS : St w0 M w (l1 ++ .row (.slice a n c) E sz n (l.flatten.map b8) :: l2)) (h : TI P T d sy bts zv) (hx : ρ x = .pointer (a.map (·.add (m * sz + o)))) (hy : ρ y = .agg (u.map b8).toArray) (hs : SN sz l) (hu : u.length = sy) (hl : l.length = n) (hm : m < n) (ho : o + sy ≤ sz) :
    ∃ w', (execOp ρ ⟨none, .store T x y, ty, pos, aft, g⟩).run P w = .ok .skip w' ∧ St w0 M w' (l1 ++ .row (.slice a n c) E sz n ((l.set m (splice (gt l m) o u)).flatten.map b8) :: l2) := by
  have h1 : m * sz + sz ≤ n * sz := by rw [← Nat.succ_mul]; exact Nat.mul_le_mul_right _ hm
  obtain ⟨w', h2, h3⟩ := x_storeRowO (ty := ty) (pos := pos) (aft := aft) (g := g) (m := m * sz + o) (cs := u.map b8) l1 hS h hx hy rfl (by rw [List.length_map, hu]) (one_b8 u) (by omega) (by omega)
  refine ⟨w', h2, ?_⟩
  have := spliceN (o := o) (u := u) (D := []) hs (by omega : m < l.length) (by omega)
  rw [List.append_nil, List.append_nil] at this
  rw [this] at h3
  exact h3
/-- What is appended in place. -/
theorem x_appendIn {n m c q : Nat} {news : List Value} (l1 : List Item) {l2 : List Item} (hS : St w0 M w (l1 ++ .blk b (cl C E) :: l2)) (hT : P.underlying T = some (.slice E)) (hE : TI P E dE sz bts zv) (hsz : 0 < sz)
    (hx : ρ x = .slice (some ⟨b, 0, none⟩) n c) (hy : ρ y = .slice a m q) (hr : Row w a news) (hl : news.length = m * sz) (h1 : One news) (hroom : n + m ≤ c) (hC : C.length = c * sz) (args : Array Operand) (ha : args = #[x, y]) :
    ∃ u w', (execOp ρ ⟨dst, .call { callee := .builtin .append, args := args, argTypes := #[T, T] }, ty, pos, aft, g⟩).run P w = .ok (.value u) w' ∧
      u = .slice (some ⟨b, 0, none⟩) (n + m) c ∧ St w0 M w' (l1 ++ .blk b (cl (splice C (n * sz) news) E) :: l2) := by
  subst ha
  obtain ⟨i, hi, hs1, hs2, hs3⟩ := hE.info
  subst hs1; subst hs2
  have hg := hS.heap (b := b) (o := cl C E) (by simp)
  have fin : ∀ u w', (Builtin.append_ #[T, T] ty #[.slice (some ⟨b, 0, none⟩) n c, .slice a m q]).run P w = .ok u w' → (execOp ρ ⟨dst, .call { callee := .builtin .append, args := #[x, y], argTypes := #[T, T] }, ty, pos, aft, g⟩).run P w = .ok (.value u) w' := by
    intro u w' h
    simp [execOp, resolve, invoke, builtin, hx, hy, h]
  rcases Nat.eq_zero_or_pos m with hm | hm
  · subst hm
    have hn0 : news = [] := List.eq_nil_of_length_eq_zero (by simpa using hl)
    subst hn0
    refine ⟨_, w, fin (.slice (some ⟨b, 0, none⟩) n c) w ?_, rfl, ?_⟩
    · have hnc : n ≤ c := by omega
      cases a with
      | none => simp [Builtin.append_, run_underlying hT, sizeOf, typeInfo, hi, Builtin.lenOf, Builtin.firstCells, hnc, storeCells]
      | some q => simp [Builtin.append_, run_underlying hT, sizeOf, typeInfo, hi, Builtin.lenOf, Builtin.firstCells, loadCells, loadCellsFrom, hnc, storeCells]
    · have e : splice C (n * i.size) ([] : List Value) = C := by simp [splice]
      rw [e]; exact hS
  · have hpos : 0 < news.length := by rw [hl]; exact Nat.mul_pos hm hsz
    obtain ⟨bq, oq, ha, hA⟩ := hr.some_of hpos
    subst ha
    have hnews : ∀ j u, news[j]? = some u → w.cell? ((⟨bq, oq, none⟩ : Addr).add j) = some u := fun j u hu => by rw [add_lit]; exact hA j u hu
    have hfit : n * i.size + news.length ≤ C.toArray.size := by
      rw [hl, ← Nat.add_mul, List.size_toArray, hC]; exact Nat.mul_le_mul_right _ hroom
    have hrun := run_append_room (P := P) w T ty E i hT hi b n c C.toArray hg ⟨bq, oq, none⟩ m q news hl hnews h1 hroom hfit
    refine ⟨_, _, fin _ _ hrun, rfl, ?_⟩
    have := put_at (C' := splice C (n * i.size) news) hS
    simpa [splice] using this
theorem r_slZ {len cap m : Nat} (hT : P.underlying T = some (.slice E)) (hE : TI P E dE sz bts zv) (hx : ρ x = .slice (some ⟨b, 0, none⟩) len cap) (hy : ρ y = vi m) (hm : m ≤ len) (hc : m < cap) :
    (execOp ρ ⟨dst, .slice T x (some y) none none, ty, pos, aft, g⟩).run P w = .ok (.value (.slice (some ⟨b, m * sz, none⟩) (len - m) (cap - m))) w := by
  have h := r_sl_l (w := w) (dst := dst) (ty := ty) (pos := pos) (aft := aft) (g := g) hT hE hx hy hm
  have e : sub (some ⟨b, 0, none⟩) cap m sz = some ⟨b, m * sz, none⟩ := by
    unfold sub
    rw [if_neg (by omega)]
    simp [add_lit]
  rwa [e] at h
theorem r_slZ2 {len cap m h' : Nat} (hT : P.underlying T = some (.slice E)) (hE : TI P E dE sz bts zv) (hx : ρ x = .slice (some ⟨b, 0, none⟩) len cap) (hy : ρ y = vi m) (hz : ρ z = vi h') (hm : m ≤ h') (hl : h' ≤ cap) (hc : m < cap) :
    (execOp ρ ⟨dst, .slice T x (some y) (some z) none, ty, pos, aft, g⟩).run P w = .ok (.value (.slice (some ⟨b, m * sz, none⟩) (h' - m) (cap - m))) w := by
  have h := r_sl_lh (w := w) (dst := dst) (ty := ty) (pos := pos) (aft := aft) (g := g) hT hE hx hy hz hm hl
  have e : sub (some ⟨b, 0, none⟩) cap m sz = some ⟨b, m * sz, none⟩ := by
    unfold sub
    rw [if_neg (by omega)]
    simp [add_lit]
  rwa [e] at h
end
theorem Row.fromN {w : World} {a : Option Addr} {c z : Nat} {l : List (List UInt8)} (h : Row w a (l.flatten.map b8)) (hs : SN z l) (hc : l.length ≤ c) (i : Nat) : Row w (Kw.sub a c i z) ((l.drop i).flatten.map b8) := by
  have := h.sub (cap := c) (l := i) (sz := z) (by rw [flatN_lenV hs]; exact Nat.mul_le_mul_right _ hc)
  rwa [← List.map_drop, flatN_drop i hs] at this
theorem Row.ahead {w : World} {b : Nat} {xs D : List Value} {E : TypeId} {fr : Nat × Nat} (h : w.heap[b]? = some (.cells (xs ++ D).toArray E fr)) : Row w (some ⟨b, 0, none⟩) xs :=
  Row.of_at (at_of_heap h fun i v hv => by
    rw [Nat.zero_add, List.getElem?_append_left (List.getElem?_eq_some_iff.1 hv).1]
    exact hv)
theorem s32 (q : Sum32) : q.1.length = 32 := q.2
theorem splitN (xs : List (List UInt8)) (D : List Value) (m : Nat) : xs.flatten.map b8 ++ D = (xs.take m).flatten.map b8 ++ ((xs.drop m).flatten.map b8 ++ D) := by
  rw [← List.append_assoc, ← List.map_append, ← List.flatten_append, List.take_append_drop]
/-- An element is taken out: what lies behind it is put over it. -/
theorem splice_out {z : Nat} {l : List (List UInt8)} {D : List Value} (h : SN z l) {i j : Nat} (hij : i ≤ j) (hj : j ≤ l.length) :
    ∃ D', splice (l.flatten.map b8 ++ D) (i * z) ((l.drop j).flatten.map b8) = (l.take i ++ l.drop j).flatten.map b8 ++ D' ∧ D'.length = D.length + (j - i) * z := by
  refine ⟨(l.flatten.map b8 ++ D).drop (i * z + ((l.drop j).flatten.map b8).length), ?_, ?_⟩
  · rw [splice]
    have e : (l.flatten.map b8 ++ D).take (i * z) = (l.take i).flatten.map b8 := by
      rw [splitN l D i, List.take_left' (by rw [flatN_lenV (h.take i), List.length_take, Nat.min_eq_left (by omega)])]
    rw [e, List.flatten_append, List.map_append, List.append_assoc]
  · rw [List.length_drop, List.length_append, flatN_lenV h, flatN_lenV (h.drop j), List.length_drop]
    have e1 : l.length * z = j * z + (l.length - j) * z := by rw [← Nat.add_mul]; congr 1; omega
    have e2 : j * z = i * z + (j - i) * z := by rw [← Nat.add_mul]; congr 1; omega
    omega
theorem swap_rev {l lq : List (List UInt8)} {i j : Nat} (hl : lq.length = l.length) (hij : i + j + 1 = l.length) (hlt : i < j)
    (h : ∀ t, t < l.length → gt lq t = if t < i ∨ j < t then gt l (l.length - 1 - t) else gt l t) :
    ∀ t, t < l.length → gt ((lq.set i (gt lq j)).set j (gt lq i)) t = if t < i + 1 ∨ j - 1 < t then gt l (l.length - 1 - t) else gt l t := by
  intro t ht
  have hi' := h i (by omega)
  have hj' := h j (by omega)
  rw [if_neg (by omega)] at hi' hj'
  rw [gt_set, List.length_set]
  by_cases h1 : j = t
  · subst h1
    rw [if_pos ⟨rfl, by omega⟩, if_pos (.inr (by omega)), hi']
    congr 1; omega
  · rw [if_neg (fun h => h1 h.1), gt_set]
    by_cases h2 : i = t
    · subst h2
      rw [if_pos ⟨rfl, by omega⟩, if_pos (.inl (by omega)), hj']
      congr 1; omega
    · rw [if_neg (fun h => h2 h.1), h t ht]
      by_cases h3 : t < i ∨ j < t
      · rw [if_pos h3, if_pos (by omega)]
      · rw [if_neg h3, if_neg (by omega)]
theorem rev_of {l lq : List (List UInt8)} {i j : Nat} (hl : lq.length = l.length) (hij : i + j + 1 = l.length) (hle : j ≤ i)
    (h : ∀ t, t < l.length → gt lq t = if t < i ∨ j < t then gt l (l.length - 1 - t) else gt l t) : lq = l.reverse := by
  apply ext_gt (by rw [List.length_reverse]; exact hl)
  intro t ht
  rw [h t (by omega), gt_eq (l.reverse) t (by rw [List.length_reverse]; omega), List.getElem_reverse, ← gt_eq]
  by_cases h1 : t < i ∨ j < t
  · rw [if_pos h1]
  · rw [if_neg h1]; congr 1; omega
end Go.Kw
