/- What the law's proof leans on. No condition. -/
import Derived.Test.YtfohfnpehfcaaaaPMcAT
import Derived.Test.YtfohfnpehfcaaaaPMcAU
import Derived.Test.YtfohfnpehfcaaaaPMcAO
section
namespace Go.Kw
open Go.Lib
set_option linter.unusedVariables false
set_option linter.unusedSimpArgs false
def entsL (E : List MapE) : List (List UInt8) := E.map fun x => x.k.1 ++ x.v.1
theorem entsL_64 (E : List MapE) : SN 64 (entsL E) := by
  intro s hs
  obtain ⟨x, _, rfl⟩ := List.mem_map.1 hs
  rw [List.length_append, x.k.2, x.v.2]
theorem entsL_len (E : List MapE) : (entsL E).length = E.length := by simp [entsL]
theorem entsL_gt {E : List MapE} {i : Nat} (h : i < E.length) : gt (entsL E) i = (gt E i).k.1 ++ (gt E i).v.1 := by
  rw [gt_eq _ _ (by rw [entsL_len]; exact h), gt_eq _ _ h]; simp [entsL]
theorem ent_v {E : List MapE} {i : Nat} (h : i < E.length) : ((gt (entsL E) i).drop 32).take 32 = (gt E i).v.1 := by
  rw [entsL_gt h, List.drop_left' (gt E i).k.2, List.take_of_length_le (by rw [(gt E i).v.2]; exact Nat.le_refl _)]
theorem mapRootF_perm : ∀ (f : Nat) {l m : List (List UInt8)} (lev : Nat), lev + f = 256 → Parts lev l → l.Perm m → mapRootF f l lev = mapRootF f m lev
  | 0, l, m, lev, hf, hp, h => by
    have hl := h.length_eq
    obtain rfl : lev = 256 := by omega
    have hs := hp.short
    rw [mapRootF, mapRootF, hl]
    by_cases h0 : m.length = 0
    · rw [if_pos h0, if_pos h0]
    · rw [if_neg h0, if_neg h0]
      obtain ⟨x, rfl⟩ := List.length_eq_one_iff.1 (show m.length = 1 by omega)
      rw [List.perm_singleton.1 h]
  | f + 1, l, m, lev, hf, hp, h => by
    have hl := h.length_eq
    rw [mapRootF, mapRootF, hl]
    by_cases h0 : m.length = 0
    · rw [if_pos h0, if_pos h0]
    · rw [if_neg h0, if_neg h0]
      by_cases h1 : m.length = 1
      · rw [if_pos h1, if_pos h1]
        obtain ⟨x, rfl⟩ := List.length_eq_one_iff.1 h1
        rw [List.perm_singleton.1 h]
      · rw [if_neg h1, if_neg h1, mapRootF_perm f (lev + 1) (by omega) hp.zero (h.filter _), mapRootF_perm f (lev + 1) (by omega) hp.one (h.filter _)]
theorem getM_own {E : List MapE} {clock : Nat} (hwf : WfM E clock) {x : MapE} (hx : x ∈ E) : getM E x.k = some x.v := by
  obtain ⟨j, hj, rfl⟩ := List.mem_iff_getElem.1 hx
  exact getM_at hwf.keys (List.getElem?_eq_getElem hj) rfl
theorem parts_ents {E : List MapE} {clock : Nat} (hwf : WfM E clock) : Parts 0 (entsL E) := by
  unfold Parts entsL
  rw [List.pairwise_map]
  have hk := hwf.keys
  unfold List.Nodup at hk
  rw [List.pairwise_map] at hk
  refine hk.imp fun {x y} hne => ?_
  have hd := differL_ne x.k.2 y.k.2 (fun h => hne (Subtype.ext h))
  obtain ⟨_, _, h3⟩ := differL_spec x.k.1 y.k.1
  refine ⟨differL x.k.1 y.k.1, Nat.zero_le _, hd, ?_⟩
  rw [bitL_app x.k.2 hd, bitL_app y.k.2 hd]
  exact h3 hd
theorem raw_perm {a b : List Sum32} (h : (rawL a).Perm (rawL b)) : a.Perm b := by
  have e : ∀ l : List Sum32, (rawL l).map (fun x => if h : x.length = 32 then (⟨x, h⟩ : Sum32) else default) = l := by
    intro l
    rw [rawL, List.map_map]
    conv => rhs; rw [← List.map_id l]
    exact List.map_congr_left fun x _ => by simp only [Function.comp]; rw [dif_pos x.2]; rfl
  have := h.map (fun x => if h : x.length = 32 then (⟨x, h⟩ : Sum32) else default)
  rwa [e, e] at this
theorem keysD_perm (E : List MapE) : (keysD E).Perm (E.map (·.k)) := by
  refine raw_perm ?_
  rw [keysD_raw]
  have := List.mergeSort_perm (keysM E) fun x y => !decide (compareBytes y x < 0)
  have e : rawL (E.map (·.k)) = keysM E := by rw [rawL, keysM, List.map_map]; rfl
  rw [e]; exact this
theorem ents_root {E : List MapE} {clock : Nat} (hwf : WfM E clock) : mapRootF 256 (entM E (keysD E)) 0 = mapRootF 256 (entsL E) 0 := by
  refine (mapRootF_perm 256 0 rfl (parts_ents hwf) (List.Perm.symm ?_)).symm
  have h := (keysD_perm E).map fun k => k.1 ++ (valM E k).1
  rw [List.map_map] at h
  have e : E.map ((fun k : Sum32 => k.1 ++ (valM E k).1) ∘ fun x => x.k) = entsL E := by
    refine List.map_congr_left fun x hx => ?_
    simp only [Function.comp, valM, getM_own hwf hx, Option.getD_some]
  rw [e] at h
  exact h
/-- Where a key is; -1: nowhere. -/
def IdxM (E : List MapE) (q : Sum32) (i : Int) : Prop := (getM E q = none ∧ i = -1) ∨ ∃ j : Nat, i = (j : Int) ∧ j < E.length ∧ (gt E j).k = q
theorem idx_none {E : List MapE} {q : Sum32} (h : ∀ j, j < E.length → ¬ (gt E j).k = q) : getM E q = none := by
  rw [getM_none]
  intro x hx
  obtain ⟨j, hj, rfl⟩ := List.mem_iff_getElem.1 hx
  have := h j hj
  rwa [gt_eq _ _ hj] at this
theorem idx_some {E : List MapE} {clock : Nat} {q : Sum32} {j : Nat} (hwf : WfM E clock) (hj : j < E.length) (h : (gt E j).k = q) : getM E q = some (gt E j).v :=
  getM_at hwf.keys (List.getElem?_eq_getElem hj) (by rw [← gt_eq _ _ hj]; exact h) |>.trans (by rw [gt_eq _ _ hj])
theorem ents_new (E : List MapE) (clock : Nat) (q v : Sum32) : entsL (E ++ [⟨clock, q, v⟩]) = entsL E ++ [q.1 ++ v.1] := by simp [entsL]
theorem ents_set {E : List MapE} {clock : Nat} {q v : Sum32} {j : Nat} (hwf : WfM E clock) (hj : j < E.length) (h : (gt E j).k = q) : (entsL E).set j (q.1 ++ v.1) = entsL (setM E q v) := by
  have hx : E[j]? = some (gt E j) := by rw [gt_eq _ _ hj]; exact List.getElem?_eq_getElem hj
  rw [← setM_at (v := v) hwf.keys hx h]
  apply List.ext_getElem
  · simp [entsL]
  · intro i h1 h2
    simp only [entsL, List.getElem_set, List.getElem_map, List.getElem_modify]
    by_cases hij : j = i
    · subst hij
      rw [if_pos rfl, if_pos rfl, ← gt_eq _ _ hj, h]
    · rw [if_neg hij, if_neg hij]
theorem ents_drop {E : List MapE} {clock : Nat} {q : Sum32} {j : Nat} (hwf : WfM E clock) (hj : j < E.length) (h : (gt E j).k = q) : (entsL E).take j ++ (entsL E).drop (j + 1) = entsL (dropM E q) := by
  have hx : E[j]? = some (gt E j) := by rw [gt_eq _ _ hj]; exact List.getElem?_eq_getElem hj
  rw [← dropM_at hwf.keys hx h, List.eraseIdx_eq_take_drop_succ, entsL, entsL, List.map_append, List.map_take, List.map_drop]
theorem ent_is {E : List MapE} {j : Nat} {q : Sum32} (h : j < E.length) : (gt (entsL E) j).take 32 = q.1 ↔ (gt E j).k = q := by
  rw [entsL_gt h, List.take_left' (gt E j).k.2]
  exact ⟨fun h => Subtype.ext h, fun h => by rw [h]⟩
theorem ents_setV {E : List MapE} {clock : Nat} {q v : Sum32} {j : Nat} (hwf : WfM E clock) (hj : j < E.length) (h : (gt E j).k = q) : (entsL E).set j (splice (gt (entsL E) j) 32 v.1) = entsL (setM E q v) := by
  rw [← ents_set hwf hj h, entsL_gt hj, h]
  congr 1
  rw [splice, List.take_left' q.2, List.drop_of_length_le (by rw [List.length_append, q.2, v.2, (gt E j).v.2]; exact Nat.le_refl _), List.append_nil]
theorem setM_len (E : List MapE) (q v : Sum32) : (setM E q v).length = E.length := by simp [setM]
theorem dropM_len {E : List MapE} {clock : Nat} {q : Sum32} {j : Nat} (hwf : WfM E clock) (hj : j < E.length) (h : (gt E j).k = q) : (dropM E q).length = E.length - 1 := by
  have := congrArg List.length (ents_drop hwf hj h)
  rw [entsL_len, List.length_append, List.length_take, List.length_drop, entsL_len] at this
  omega
/-- The key of the laws at a number. -/
def keyL (n : Int) : List UInt8 :=
  if (n % (2 ^ 2 : Nat)).toNat = 0 then sumL (UInt8.ofNat 0) [UInt8.ofNat ((n.fdiv (2 ^ (min 2 (IntKind.bits .i64)))) % 256).toNat]
  else if (n % (2 ^ 2 : Nat)).toNat = 1 then (List.replicate 32 0).set 0 (UInt8.ofNat ((IntKind.wrap .i64 (n.fdiv (2 ^ (min 2 (IntKind.bits .i64))) * 2 ^ (min 4 (IntKind.bits .i64)))) % 256).toNat)
  else if (n % (2 ^ 2 : Nat)).toNat = 2 then (List.replicate 32 0).set 31 (UInt8.ofNat ((n.fdiv (2 ^ (min 2 (IntKind.bits .i64)))) % 256).toNat)
  else (List.replicate 32 0).set ((n.fdiv (2 ^ (min 2 (IntKind.bits .i64)))) % (2 ^ 5 : Nat)).toNat ((1 : UInt8) <<< UInt8.ofNat ((n.fdiv (2 ^ (min 7 (IntKind.bits .i64)))) % (2 ^ 3 : Nat)).toNat)
theorem keyL_len (n : Int) : (keyL n).length = 32 := by
  unfold keyL
  split
  · exact sumL_len _ _
  · repeat' split
    all_goals rw [List.length_set, List.length_replicate]
def keyS (n : Int) : Sum32 := ⟨keyL n, keyL_len n⟩
/-- No value is nothing. -/
def NZM (E : List MapE) : Prop := ∀ x ∈ E, ¬ x.v.1 = List.replicate 32 0
theorem NZM.nil : NZM [] := fun x h => by cases h
theorem NZM.new {E : List MapE} {clock : Nat} {q v : Sum32} (h : NZM E) (hv : ¬ v.1 = List.replicate 32 0) : NZM (E ++ [⟨clock, q, v⟩]) := by
  intro x hx
  rcases List.mem_append.1 hx with hx | hx
  · exact h x hx
  · rw [List.mem_singleton.1 hx]; exact hv
theorem NZM.set {E : List MapE} {q v : Sum32} (h : NZM E) (hv : ¬ v.1 = List.replicate 32 0) : NZM (setM E q v) := by
  intro x hx
  obtain ⟨y, hy, rfl⟩ := List.mem_map.1 hx
  split
  · exact hv
  · exact h y hy
theorem NZM.drop {E : List MapE} {q : Sum32} (h : NZM E) : NZM (dropM E q) := fun x hx => h x (List.mem_filter.1 hx).1
/-- Something that is done with a map. -/
structure StepD where
  kd : Int
  k : Int
  u : Int
instance : Inhabited StepD := ⟨⟨0, 0, 0⟩⟩
def StepD.v (s : StepD) : List Value := [.int .i64 s.kd, .int .i64 s.k, .int .i64 s.u]
theorem step_v3 (s : StepD) : s.v.length = 3 := rfl
theorem one_step (s : StepD) : One s.v := one_cons rfl (one_cons rfl (one_cons rfl one_nil))
theorem opens_step {P : Program} {w : World} {t : TypeId} {R : Int × Int × Int × Unit → Prop} (h : Opens P w t (fun y : Int × Int × Int × Unit => [Value.int .i64 y.1] ++ ([Value.int .i64 y.2.1] ++ ([Value.int .i64 y.2.2.1] ++ []))) R) : Opens P w t StepD.v (fun _ => True) :=
  h.to (fun y => ⟨y.1, y.2.1, y.2.2.1⟩) (fun y => by simp [StepD.v]) (fun y hy => trivial)
/-! ### Blocks of elements of z octets -/
theorem spliceN {z o : Nat} {u : List UInt8} {D : List Value} : ∀ {l : List (List UInt8)} {m : Nat}, SN z l → m < l.length → o + u.length ≤ z → splice (l.flatten.map b8 ++ D) (m * z + o) (u.map b8) = (l.set m (splice (gt l m) o u)).flatten.map b8 ++ D
  | [], _, _, h, _ => by simp at h
  | r :: l, 0, hs, h, ho => by
    have h8 : r.length = z := hs r (by simp)
    have e0 : gt (r :: l) 0 = r := rfl
    simp only [splice, List.flatten_cons, List.map_append, Nat.zero_mul, Nat.zero_add, List.length_map, List.set_cons_zero, List.append_assoc, e0, List.map_take, List.map_drop]
    rw [List.take_append_of_le_length (by rw [List.length_map]; omega), List.drop_append_of_le_length (by rw [List.length_map]; omega)]
  | r :: l, m + 1, hs, h, ho => by
    have ih := spliceN (u := u) (D := D) (o := o) (l := l) (m := m) (fun x hx => hs x (by simp [hx])) (by simpa using h) ho
    have h8 : (r.map b8).length = z := by rw [List.length_map]; exact hs r (by simp)
    have e0 : gt (r :: l) (m + 1) = gt l m := rfl
    simp only [splice, List.length_map] at ih
    simp only [splice, List.flatten_cons, List.map_append, List.length_map, List.set_cons_succ, List.append_assoc, e0]
    have e1 : (m + 1) * z + o = (r.map b8).length + (m * z + o) := by rw [h8, Nat.succ_mul]; omega
    have e2 : (m + 1) * z + o + u.length = (r.map b8).length + (m * z + o + u.length) := by rw [h8, Nat.succ_mul]; omega
    rw [e2, ← List.drop_drop, List.drop_left, e1, List.take_length_add_append, List.append_assoc, ih]
theorem SN.set {z : Nat} {l : List (List UInt8)} (h : SN z l) {u : List UInt8} (hu : u.length = z) (m : Nat) : SN z (l.set m u) := by
  intro s hs
  rcases List.mem_or_eq_of_mem_set hs with h' | rfl
  · exact h s h'
  · exact hu
section
variable {P : Program} {ρ : Operand → Value} {w w0 : World} {M : List Nat} {L l1 l2 : List Item} {dst : Option Tmp} {ty : TypeId} {pos : String} {aft : Array Edge} {g : Option (Nat × Bool)} {x y z : Operand} {T T2 E I K : TypeId} {v : Value} {k : IntKind}
  {d dE dK : TypeDesc} {sz bts b o : Nat} {zv : Value} {a : Option Addr} {cs C : List Value}
theorem c_int_u8 {a : Int} (hT : P.underlying T = some (.int .u8)) (hS : ∃ d, P.underlying T2 = some d) (hx : ρ x = .int .i64 a) : (execOp ρ ⟨dst, .convert T2 T x, ty, pos, aft, g⟩).run P w = .ok (.value (b8 (UInt8.ofNat (a % 256).toNat))) w :=
  r_conv hT hS hx (by rw [wrap_u8, UInt8.toNat_ofNat']; omega)
theorem r_ixZ {len cap m : Nat} (h : P.underlying T = some (.slice E)) (hE : TI P E dE sz bts zv) (hx : ρ x = .slice (some ⟨b, 0, none⟩) len cap) (hy : ρ y = .int k (m : Int)) (hm : m < len) :
    (execOp ρ ⟨dst, .indexAddr T x y, ty, pos, aft, g⟩).run P w = .ok (.value (pt b (m * sz))) w := by
  have h0 : (0 : Int) ≤ (m : Int) ∧ (m : Int) < (len : Int) := by omega
  simp [execOp, hx, hy, Instr.indexAt, asIntOf, run_underlying h, run_sizeOf hE, hm, add_lit]
theorem r_loadZ {m : Nat} {l : List (List UInt8)} {D : List Value} {fr : Nat × Nat} (h : TI P T d sz bts zv) (hd : aggD d = true) (hx : ρ x = pt b (m * sz)) (hb : w.heap[b]? = some (.cells (l.flatten.map b8 ++ D).toArray E fr)) (hs : SN sz l) (hm : m < l.length) :
    (execOp ρ ⟨dst, .load T x, ty, pos, aft, g⟩).run P w = .ok (.value (.agg ((gt l m).map b8).toArray)) w := by
  have hl := flatN_lenV hs
  have h1 : m * sz + sz ≤ l.length * sz := by rw [← Nat.succ_mul]; exact Nat.mul_le_mul_right _ hm
  have hA := at_part (off := m * sz) (n := sz) hb
  have e : ((l.flatten.map b8 ++ D).drop (m * sz)).take sz = (gt l m).map b8 := by
    rw [List.drop_append_of_le_length (by omega), List.take_append_of_le_length (by rw [List.length_drop]; omega), ← List.map_drop, ← List.map_take, flatN_get hs hm]
  rw [e] at hA
  exact r_loadA (cs := (gt l m).map b8) (by rw [List.length_map, hs.gt hm]; exact h) hd hx hA
theorem x_storeZ {m : Nat} {l : List (List UInt8)} {u : List UInt8} {D : List Value} (l1 : List Item) {l2 : List Item} (hS : St w0 M w (l1 ++ .blk b (cl (l.flatten.map b8 ++ D) E) :: l2)) (h : TI P T d sz bts zv) (hx : ρ x = pt b (m * sz)) (hy : ρ y = .agg (u.map b8).toArray) (hs : SN sz l) (hu : u.length = sz) (hm : m < l.length) :
    ∃ w', (execOp ρ ⟨none, .store T x y, ty, pos, aft, g⟩).run P w = .ok .skip w' ∧ St w0 M w' (l1 ++ .blk b (cl ((l.set m u).flatten.map b8 ++ D) E) :: l2) := by
  have h1 : m * sz + sz ≤ l.length * sz := by rw [← Nat.succ_mul]; exact Nat.mul_le_mul_right _ hm
  have hsp := spliceN (o := 0) (u := u) (D := D) hs hm (by omega)
  rw [Nat.add_zero, splice0 _ _ (by rw [hu, hs.gt hm])] at hsp
  exact x_store l1 hS h hx hy (cs := u.map b8) rfl (by rw [List.length_map, hu]) (one_b8 u) (by rw [List.length_append, flatN_lenV hs, List.length_map, hu]; omega) hsp
/-- A part of an element of an owned row. -/
theorem x_storeRowF {n c m o : Nat} {l : List (List UInt8)} {u : List UInt8} {sy : Nat} (l1 : List Item) {l2 : List Item} (hS : St w0 M w (l1 ++ .row (.slice a n c) E sz n (l.flatten.map b8) :: l2)) (h : TI P T d sy bts zv) (hx : ρ x = .pointer (a.map (·.add (m * sz + o)))) (hy : ρ y = .agg (u.map b8).toArray) (hs : SN sz l) (hu : u.length = sy) (hl : l.length = n) (hm : m < n) (ho : o + sy ≤ sz) :
    ∃ w', (execOp ρ ⟨none, .store T x y, ty, pos, aft, g⟩).run P w = .ok .skip w' ∧ St w0 M w' (l1 ++ .row (.slice a n c) E sz n ((l.set m (splice (gt l m) o u)).flatten.map b8) :: l2) := by
  have h1 : m * sz + sz ≤ n * sz := by rw [← Nat.succ_mul]; exact Nat.mul_le_mul_right _ hm
  obtain ⟨w', h2, h3⟩ := x_storeRowO (ty := ty) (pos := pos) (aft := aft) (g := g) (m := m * sz + o) (cs := u.map b8) l1 hS h hx hy rfl (by rw [List.length_map, hu]) (one_b8 u) (by omega) (by omega)
  refine ⟨w', h2, ?_⟩
  have := spliceN (o := o) (u := u) (D := []) hs (by omega : m < l.length) (by omega)
  rw [List.append_nil, List.append_nil] at this
  rw [this] at h3
  exact h3
/-- What is appended in place. -/
theorem x_appendIn {n m c q : Nat} {news : List Value} (l1 : List Item) {l2 : List Item} (hS : St w0 M w (l1 ++ .blk b (cl C E) :: l2)) (hT : P.underlying T = some (.slice E)) (hE : TI P E dE sz bts zv) (hsz : 0 < sz)
    (hx : ρ x = .slice (some ⟨b, 0, none⟩) n c) (hy : ρ y = .slice a m q) (hr : Row w a news) (hl : news.length = m * sz) (h1 : One news) (hroom : n + m ≤ c) (hC : C.length = c * sz) (args : Array Operand) (ha : args = #[x, y]) :
    ∃ u w', (execOp ρ ⟨dst, .call { callee := .builtin .append, args := args, argTypes := #[T, T] }, ty, pos, aft, g⟩).run P w = .ok (.value u) w' ∧
      u = .slice (some ⟨b, 0, none⟩) (n + m) c ∧ St w0 M w' (l1 ++ .blk b (cl (splice C (n * sz) news) E) :: l2) := by
  subst ha
  obtain ⟨i, hi, hs1, hs2, hs3⟩ := hE.info
  subst hs1; subst hs2
  have hg := hS.heap (b := b) (o := cl C E) (by simp)
  have fin : ∀ u w', (Builtin.append_ #[T, T] ty #[.slice (some ⟨b, 0, none⟩) n c, .slice a m q]).run P w = .ok u w' → (execOp ρ ⟨dst, .call { callee := .builtin .append, args := #[x, y], argTypes := #[T, T] }, ty, pos, aft, g⟩).run P w = .ok (.value u) w' := by
    intro u w' h
    simp [execOp, resolve, invoke, builtin, hx, hy, h]
  rcases Nat.eq_zero_or_pos m with hm | hm
  · subst hm
    have hn0 : news = [] := List.eq_nil_of_length_eq_zero (by simpa using hl)
    subst hn0
    refine ⟨_, w, fin (.slice (some ⟨b, 0, none⟩) n c) w ?_, rfl, ?_⟩
    · have hnc : n ≤ c := by omega
      cases a with
      | none => simp [Builtin.append_, run_underlying hT, sizeOf, typeInfo, hi, Builtin.lenOf, Builtin.firstCells, hnc, storeCells]
      | some q => simp [Builtin.append_, run_underlying hT, sizeOf, typeInfo, hi, Builtin.lenOf, Builtin.firstCells, loadCells, loadCellsFrom, hnc, storeCells]
    · have e : splice C (n * i.size) ([] : List Value) = C := by simp [splice]
      rw [e]; exact hS
  · have hpos : 0 < news.length := by rw [hl]; exact Nat.mul_pos hm hsz
    obtain ⟨bq, oq, ha, hA⟩ := hr.some_of hpos
    subst ha
    have hnews : ∀ j u, news[j]? = some u → w.cell? ((⟨bq, oq, none⟩ : Addr).add j) = some u := fun j u hu => by rw [add_lit]; exact hA j u hu
    have hfit : n * i.size + news.length ≤ C.toArray.size := by
      rw [hl, ← Nat.add_mul, List.size_toArray, hC]; exact Nat.mul_le_mul_right _ hroom
    have hrun := run_append_room (P := P) w T ty E i hT hi b n c C.toArray hg ⟨bq, oq, none⟩ m q news hl hnews h1 hroom hfit
    refine ⟨_, _, fin _ _ hrun, rfl, ?_⟩
    have := put_at (C' := splice C (n * i.size) news) hS
    simpa [splice] using this
theorem r_slZ {len cap m : Nat} (hT : P.underlying T = some (.slice E)) (hE : TI P E dE sz bts zv) (hx : ρ x = .slice (some ⟨b, 0, none⟩) len cap) (hy : ρ y = vi m) (hm : m ≤ len) (hc : m < cap) :
    (execOp ρ ⟨dst, .slice T x (some y) none none, ty, pos, aft, g⟩).run P w = .ok (.value (.slice (some ⟨b, m * sz, none⟩) (len - m) (cap - m))) w := by
  have h := r_sl_l (w := w) (dst := dst) (ty := ty) (pos := pos) (aft := aft) (g := g) hT hE hx hy hm
  have e : sub (some ⟨b, 0, none⟩) cap m sz = some ⟨b, m * sz, none⟩ := by
    unfold sub
    rw [if_neg (by omega)]
    simp [add_lit]
  rwa [e] at h
theorem r_slZ2 {len cap m h' : Nat} (hT : P.underlying T = some (.slice E)) (hE : TI P E dE sz bts zv) (hx : ρ x = .slice (some ⟨b, 0, none⟩) len cap) (hy : ρ y = vi m) (hz : ρ z = vi h') (hm : m ≤ h') (hl : h' ≤ cap) (hc : m < cap) :
    (execOp ρ ⟨dst, .slice T x (some y) (some z) none, ty, pos, aft, g⟩).run P w = .ok (.value (.slice (some ⟨b, m * sz, none⟩) (h' - m) (cap - m))) w := by
  have h := r_sl_lh (w := w) (dst := dst) (ty := ty) (pos := pos) (aft := aft) (g := g) hT hE hx hy hz hm hl
  have e : sub (some ⟨b, 0, none⟩) cap m sz = some ⟨b, m * sz, none⟩ := by
    unfold sub
    rw [if_neg (by omega)]
    simp [add_lit]
  rwa [e] at h
end
theorem Row.fromN {w : World} {a : Option Addr} {c z : Nat} {l : List (List UInt8)} (h : Row w a (l.flatten.map b8)) (hs : SN z l) (hc : l.length ≤ c) (i : Nat) : Row w (Kw.sub a c i z) ((l.drop i).flatten.map b8) := by
  have := h.sub (cap := c) (l := i) (sz := z) (by rw [flatN_lenV hs]; exact Nat.mul_le_mul_right _ hc)
  rwa [← List.map_drop, flatN_drop i hs] at this
theorem Row.ahead {w : World} {b : Nat} {xs D : List Value} {E : TypeId} {fr : Nat × Nat} (h : w.heap[b]? = some (.cells (xs ++ D).toArray E fr)) : Row w (some ⟨b, 0, none⟩) xs :=
  Row.of_at (at_of_heap h fun i v hv => by
    rw [Nat.zero_add, List.getElem?_append_left (List.getElem?_eq_some_iff.1 hv).1]
    exact hv)
theorem s32 (q : Sum32) : q.1.length = 32 := q.2
theorem splitN (xs : List (List UInt8)) (D : List Value) (m : Nat) : xs.flatten.map b8 ++ D = (xs.take m).flatten.map b8 ++ ((xs.drop m).flatten.map b8 ++ D) := by
  rw [← List.append_assoc, ← List.map_append, ← List.flatten_append, List.take_append_drop]
/-- An element is taken out: what lies behind it is put over it. -/
theorem splice_out {z : Nat} {l : List (List UInt8)} {D : List Value} (h : SN z l) {i j : Nat} (hij : i ≤ j) (hj : j ≤ l.length) :
    ∃ D', splice (l.flatten.map b8 ++ D) (i * z) ((l.drop j).flatten.map b8) = (l.take i ++ l.drop j).flatten.map b8 ++ D' ∧ D'.length = D.length + (j - i) * z := by
  refine ⟨(l.flatten.map b8 ++ D).drop (i * z + ((l.drop j).flatten.map b8).length), ?_, ?_⟩
  · rw [splice]
    have e : (l.flatten.map b8 ++ D).take (i * z) = (l.take i).flatten.map b8 := by
      rw [splitN l D i, List.take_left' (by rw [flatN_lenV (h.take i), List.length_take, Nat.min_eq_left (by omega)])]
    rw [e, List.flatten_append, List.map_append, List.append_assoc]
  · rw [List.length_drop, List.length_append, flatN_lenV h, flatN_lenV (h.drop j), List.length_drop]
    have e1 : l.length * z = j * z + (l.length - j) * z := by rw [← Nat.add_mul]; congr 1; omega
    have e2 : j * z = i * z + (j - i) * z := by rw [← Nat.add_mul]; congr 1; omega
    omega
end Go.Kw
end
section
namespace Go.Kw
open Go.Lib
set_option linter.unusedVariables false
set_option linter.unusedSimpArgs false
/-- The entries that go the same way as a key, down to a level. -/
def lvlL (l : List (List UInt8)) (k : List UInt8) : Nat → List (List UInt8)
  | 0 => l
  | j + 1 => (lvlL l k j).filter fun e => bitL e j == bitL k j
def outL (l : List (List UInt8)) (k : List UInt8) (j : Nat) : List (List UInt8) := (lvlL l k j).filter fun e => !(bitL e j == bitL k j)
def setBit (lv : List UInt8) (j : Nat) : List UInt8 := lv.set (j / 8) (gt lv (j / 8) ||| ((128 : UInt8) >>> UInt8.ofNat (j % 8)))
def marksTo (l : List (List UInt8)) (k : List UInt8) : Nat → List UInt8
  | 0 => Z32L
  | j + 1 => if (outL l k j).length = 0 then marksTo l k j else setBit (marksTo l k j) j
def sibsTo (l : List (List UInt8)) (k : List UInt8) : Nat → List (List UInt8)
  | 0 => []
  | j + 1 => if (outL l k j).length = 0 then sibsTo l k j else sibsTo l k j ++ [mapRootF (255 - j) (outL l k j) (j + 1)]
def lastP (c : List (List UInt8)) (k : List UInt8) : List (List UInt8) := if c.length = 1 ∧ ¬ (gt c 0).take 32 = k then [(gt c 0).take 32, ((gt c 0).drop 32).take 32] else []
def fullP (l : List (List UInt8)) (k : List UInt8) (T : Nat) : List (List UInt8) := sibsTo l k T ++ lastP (lvlL l k T) k
theorem marks_len (l : List (List UInt8)) (k : List UInt8) : ∀ j, (marksTo l k j).length = 32
  | 0 => by simp [marksTo]
  | j + 1 => by
    rw [marksTo]
    split
    · exact marks_len l k j
    · rw [setBit, List.length_set]; exact marks_len l k j
theorem sibs_32 (l : List (List UInt8)) (k : List UInt8) : ∀ j, S32 (sibsTo l k j)
  | 0 => S32.nil
  | j + 1 => by
    rw [sibsTo]
    split
    · exact sibs_32 l k j
    · exact (sibs_32 l k j).app (S32.one (mapRootF_len _ _ _))
theorem sibs_len (l : List (List UInt8)) (k : List UInt8) : ∀ j, (sibsTo l k j).length ≤ j
  | 0 => by simp [sibsTo]
  | j + 1 => by
    have := sibs_len l k j
    rw [sibsTo]
    split
    · omega
    · rw [List.length_append, List.length_singleton]; omega
theorem bit8_or (x : UInt8) {s t : Nat} (hs : s < 8) (ht : t < 8) : bit8 (x ||| ((128 : UInt8) >>> UInt8.ofNat t)) s = if s = t then 1 else bit8 x s := by
  have h1 : ((128 : UInt8) >>> UInt8.ofNat t).toNat = 2 ^ (7 - t) := by
    match t, ht with
    | 0, _ => rfl
    | 1, _ => rfl
    | 2, _ => rfl
    | 3, _ => rfl
    | 4, _ => rfl
    | 5, _ => rfl
    | 6, _ => rfl
    | 7, _ => rfl
  have h2 : ∀ n i : Nat, n / 2 ^ i % 2 = if n.testBit i then 1 else 0 := by
    intro n i
    rw [Nat.testBit_eq_decide_div_mod_eq]
    by_cases h : n / 2 ^ i % 2 = 1
    · simp [h]
    · simp [h]; omega
  unfold bit8
  rw [UInt8.toNat_or, h1, h2, h2, Nat.testBit_or, Nat.testBit_two_pow]
  by_cases h : s = t
  · subst h; simp
  · have : ¬ 7 - t = 7 - s := by omega
    simp [h, this]
theorem bitL_set {lv : List UInt8} {i j : Nat} (hl : lv.length = 32) (hj : j < 256) : bitL (setBit lv j) i = if i = j then 1 else bitL lv i := by
  rw [bitL_8, bitL_8, setBit, gt_set]
  by_cases h : j / 8 = i / 8
  · rw [if_pos ⟨h, by omega⟩, bit8_or _ (by omega) (by omega), h]
    by_cases h2 : i = j
    · rw [if_pos h2, if_pos (by rw [h2])]
    · rw [if_neg h2, if_neg (by omega)]
  · rw [if_neg (fun h' => h h'.1), if_neg (by omega)]
theorem bitL_marks (l : List (List UInt8)) (k : List UInt8) {i : Nat} (hi : i < 256) : ∀ j, j ≤ 256 → bitL (marksTo l k j) i = if i < j ∧ ¬ (outL l k i).length = 0 then 1 else 0
  | 0, _ => by
    rw [if_neg (by omega), marksTo, bitL_8]
    have : gt Z32L (i / 8) = 0 := by rw [gt_eq _ _ (by simp [Z32L]; omega)]; exact List.eq_of_mem_replicate (List.getElem_mem _)
    rw [this]; unfold bit8; simp
  | j + 1, hj => by
    have ih := bitL_marks l k hi j (by omega)
    rw [marksTo]
    by_cases h : (outL l k j).length = 0
    · rw [if_pos h, ih]
      by_cases h2 : i = j
      · subst h2
        rw [if_neg (by omega), if_neg (fun h' => h'.2 h)]
      · by_cases h3 : i < j ∧ ¬ (outL l k i).length = 0
        · rw [if_pos h3, if_pos ⟨by omega, h3.2⟩]
        · rw [if_neg h3, if_neg (fun h' => h3 ⟨by omega, h'.2⟩)]
    · rw [if_neg h, bitL_set (marks_len l k j) (by omega), ih]
      by_cases h2 : i = j
      · subst h2
        rw [if_pos rfl, if_pos ⟨by omega, h⟩]
      · rw [if_neg h2]
        by_cases h3 : i < j ∧ ¬ (outL l k i).length = 0
        · rw [if_pos h3, if_pos ⟨by omega, h3.2⟩]
        · rw [if_neg h3, if_neg (fun h' => h3 ⟨by omega, h'.2⟩)]
theorem many_marks (l : List (List UInt8)) (k : List UInt8) {j : Nat} (hj : j ≤ 256) : ∀ i, i ≤ j → manyTo (marksTo l k j) i = (sibsTo l k i).length
  | 0, _ => by simp [manyTo, sibsTo]
  | i + 1, hi => by
    rw [manyTo, many_marks l k hj i (by omega), bitL_marks l k (by omega) j hj, sibsTo]
    by_cases h : (outL l k i).length = 0
    · rw [if_neg (fun h' => h'.2 h), if_pos h, Nat.add_zero]
    · rw [if_pos ⟨by omega, h⟩, if_neg h, List.length_append, List.length_singleton]
theorem many_rest (l : List (List UInt8)) (k : List UInt8) {j : Nat} (hj : j ≤ 256) : ∀ n, j + n ≤ 256 → manyTo (marksTo l k j) (j + n) = (sibsTo l k j).length
  | 0, _ => many_marks l k hj j (Nat.le_refl _)
  | n + 1, hn => by
    rw [show j + (n + 1) = j + n + 1 by omega, manyTo, many_rest l k hj n (by omega), bitL_marks l k (by omega) j hj, if_neg (by omega), Nat.add_zero]
theorem many_all (l : List (List UInt8)) (k : List UInt8) {j : Nat} (hj : j ≤ 256) : manyTo (marksTo l k j) 256 = (sibsTo l k j).length := by
  have := many_rest l k hj (256 - j) (by omega)
  rwa [show j + (256 - j) = 256 by omega] at this
theorem sibs_pre (l : List (List UInt8)) (k : List UInt8) (i : Nat) : ∀ n, ∃ t, sibsTo l k (i + n) = sibsTo l k i ++ t
  | 0 => ⟨[], by simp⟩
  | n + 1 => by
    obtain ⟨t, ht⟩ := sibs_pre l k i n
    rw [show i + (n + 1) = i + n + 1 by omega, sibsTo]
    split
    · exact ⟨t, ht⟩
    · exact ⟨t ++ [mapRootF (255 - (i + n)) (outL l k (i + n)) (i + n + 1)], by rw [ht, List.append_assoc]⟩
theorem sibs_at (l : List (List UInt8)) (k : List UInt8) {i j : Nat} (hij : i < j) (h : ¬ (outL l k i).length = 0) (x : List (List UInt8)) : gt (sibsTo l k j ++ x) (sibsTo l k i).length = mapRootF (255 - i) (outL l k i) (i + 1) := by
  obtain ⟨t, ht⟩ := sibs_pre l k (i + 1) (j - (i + 1))
  rw [show i + 1 + (j - (i + 1)) = j by omega, sibsTo, if_neg h] at ht
  rw [ht, gt_eq _ _ (by simp)]
  simp
theorem len_split (l : List (List UInt8)) (k : List UInt8) (j : Nat) : (lvlL l k (j + 1)).length + (outL l k j).length = (lvlL l k j).length := by
  rw [lvlL, outL]
  generalize lvlL l k j = c
  induction c with
  | nil => rfl
  | cons x c ih =>
    rw [List.filter_cons, List.filter_cons, List.length_cons]
    cases bitL x j == bitL k j
    · simp; omega
    · simp; omega
theorem filter_one {c : List (List UInt8)} {j : Nat} : (c.filter fun e => bitL e j == 1) = c.filter fun e => !(bitL e j == 0) := by
  refine List.filter_congr fun e _ => ?_
  rcases bitL_01 e j with h | h <;> simp [h]
theorem filter_zero {c : List (List UInt8)} {j : Nat} : (c.filter fun e => !(bitL e j == 1)) = c.filter fun e => bitL e j == 0 := by
  refine List.filter_congr fun e _ => ?_
  rcases bitL_01 e j with h | h <;> simp [h]
theorem root_step (l : List (List UInt8)) (k : List UInt8) {j : Nat} (hj : j < 256) (h : 2 ≤ (lvlL l k j).length) : mapRootF (256 - j) (lvlL l k j) j = sideL k j (mapRootF (256 - (j + 1)) (lvlL l k (j + 1)) (j + 1)) (mapRootF (255 - j) (outL l k j) (j + 1)) := by
  rw [show 256 - j = 255 - j + 1 by omega, show 256 - (j + 1) = 255 - j by omega, mapRootF, if_neg (by omega), if_neg (by omega), lvlL, outL, sideL]
  rcases bitL_01 k j with hb | hb
  · rw [hb, if_pos rfl]
  · rw [hb, if_neg (by decide), filter_one, filter_zero]
theorem up_root (l : List (List UInt8)) (k : List UInt8) {T : Nat} (hT : T ≤ 256) (h : ∀ j, j < T → 2 ≤ (lvlL l k j).length) (x : List (List UInt8)) : ∀ j, j ≤ T → upL k (marksTo l k T) (sibsTo l k T ++ x) j (mapRootF (256 - j) (lvlL l k j) j) = mapRootF 256 l 0
  | 0, _ => by rw [upL]; rfl
  | j + 1, hj => by
    rw [upL, bitL_marks l k (by omega) T hT, many_marks l k hT j (by omega)]
    have e : (if (if j < T ∧ ¬ (outL l k j).length = 0 then 1 else 0) = 1 then gt (sibsTo l k T ++ x) (sibsTo l k j).length else Z32L) = mapRootF (255 - j) (outL l k j) (j + 1) := by
      by_cases h0 : (outL l k j).length = 0
      · rw [if_neg (fun h' => by rw [if_neg (fun hh => hh.2 h0)] at h'; exact absurd h' (by decide)), List.eq_nil_of_length_eq_zero h0, mapRootF_0]
      · rw [if_pos (by rw [if_pos ⟨by omega, h0⟩]), sibs_at l k (by omega) h0]
    rw [e, ← root_step l k (by omega) (h j (by omega))]
    exact up_root l k hT h x j (by omega)
theorem depth_zero (lv : List UInt8) (T : Nat) (h0 : T = 0 ∨ bitL lv (T - 1) = 1) : ∀ n, (∀ i, T ≤ i → i < T + n → bitL lv i = 0) → depthTo lv (T + n) = T
  | 0, _ => by
    rcases h0 with h | h
    · subst h; rfl
    · cases T with
      | zero => rfl
      | succ t => rw [Nat.add_zero, depthTo, if_pos (by simpa using h)]
  | n + 1, h => by
    rw [show T + (n + 1) = T + n + 1 by omega, depthTo, if_neg (by rw [h (T + n) (by omega) (by omega)]; decide)]
    exact depth_zero lv T h0 n fun i h1 h2 => h i h1 (by omega)
theorem depth_marks (l : List (List UInt8)) (k : List UInt8) {T : Nat} (hT : T ≤ 256) (h : ∀ j, j < T → 2 ≤ (lvlL l k j).length) (h1 : (lvlL l k T).length ≤ 1) : depthTo (marksTo l k T) 256 = T := by
  have := depth_zero (marksTo l k T) T (by
    rcases Nat.eq_zero_or_pos T with h0 | h0
    · exact .inl h0
    · refine .inr ?_
      have hs := len_split l k (T - 1)
      have h2 := h (T - 1) (by omega)
      rw [show T - 1 + 1 = T by omega] at hs
      rw [bitL_marks l k (by omega) T hT, if_pos ⟨by omega, by omega⟩]) (256 - T) (fun i h2 h3 => by rw [bitL_marks l k (by omega) T hT, if_neg (by omega)])
  rwa [show T + (256 - T) = 256 by omega] at this
theorem parts_lvl {l : List (List UInt8)} (h : Parts 0 l) (k : List UInt8) : ∀ j, Parts j (lvlL l k j)
  | 0 => h
  | j + 1 => by
    have ih := parts_lvl h k j
    rw [lvlL]
    rcases bitL_01 k j with hb | hb
    · rw [hb]; exact ih.zero
    · rw [hb, filter_one]; exact ih.one
theorem parts_out {l : List (List UInt8)} (h : Parts 0 l) (k : List UInt8) (j : Nat) : Parts (j + 1) (outL l k j) := by
  have ih := parts_lvl h k j
  rw [outL]
  rcases bitL_01 k j with hb | hb
  · rw [hb]; exact ih.one
  · rw [hb, filter_zero]; exact ih.zero
theorem lvl_lt {l : List (List UInt8)} (h : Parts 0 l) {k : List UInt8} {j : Nat} (hj : j ≤ 256) (h2 : 2 ≤ (lvlL l k j).length) : j < 256 := by
  rcases Nat.lt_or_ge j 256 with h' | h'
  · exact h'
  · obtain rfl : j = 256 := by omega
    have := (parts_lvl h k 256).short
    omega
theorem lvl_perm {l m : List (List UInt8)} (h : l.Perm m) (k : List UInt8) : ∀ j, (lvlL l k j).Perm (lvlL m k j)
  | 0 => h
  | j + 1 => (lvl_perm h k j).filter _
theorem out_perm {l m : List (List UInt8)} (h : l.Perm m) (k : List UInt8) (j : Nat) : (outL l k j).Perm (outL m k j) := (lvl_perm h k j).filter _
theorem marks_perm {l m : List (List UInt8)} (h : l.Perm m) (k : List UInt8) : ∀ j, marksTo l k j = marksTo m k j
  | 0 => rfl
  | j + 1 => by rw [marksTo, marksTo, (out_perm h k j).length_eq, marks_perm h k j]
theorem sibs_perm {l m : List (List UInt8)} (h : l.Perm m) (hp : Parts 0 l) (k : List UInt8) : ∀ j, j ≤ 256 → sibsTo l k j = sibsTo m k j
  | 0, _ => rfl
  | j + 1, hj => by rw [sibsTo, sibsTo, (out_perm h k j).length_eq, sibs_perm h hp k j (by omega), mapRootF_perm (255 - j) (j + 1) (by omega) (parts_out hp k j) (out_perm h k j)]
/-- The way to a key ends there. -/
structure EndsAt (l : List (List UInt8)) (k : List UInt8) (T : Nat) : Prop where
  le : T ≤ 256
  more : ∀ j, j < T → 2 ≤ (lvlL l k j).length
  last : (lvlL l k T).length ≤ 1
theorem EndsAt.perm {l m : List (List UInt8)} {k : List UInt8} {T : Nat} (h : EndsAt l k T) (hp : l.Perm m) : EndsAt m k T :=
  ⟨h.le, fun j hj => by rw [← (lvl_perm hp k j).length_eq]; exact h.more j hj, by rw [← (lvl_perm hp k T).length_eq]; exact h.last⟩
theorem EndsAt.one {l : List (List UInt8)} {k : List UInt8} {T U : Nat} (h : EndsAt l k T) (h' : EndsAt l k U) : T = U := by
  rcases Nat.lt_trichotomy T U with g | g | g
  · have := h'.more T g; have := h.last; omega
  · exact g
  · have := h.more U g; have := h'.last; omega
theorem full_perm {l m : List (List UInt8)} {k : List UInt8} {T : Nat} (h : EndsAt l k T) (hp : l.Perm m) (hpt : Parts 0 l) : fullP l k T = fullP m k T := by
  rw [fullP, fullP, sibs_perm hp hpt k T h.le]
  have hl := lvl_perm hp k T
  have h1 := h.last
  have e : lvlL l k T = lvlL m k T := by
    rcases Nat.lt_or_ge (lvlL l k T).length 1 with g | g
    · have h0 : lvlL l k T = [] := List.eq_nil_of_length_eq_zero (by omega)
      rw [h0] at hl ⊢
      exact (List.nil_perm.1 hl).symm
    · obtain ⟨x, hx⟩ := List.length_eq_one_iff.1 (show (lvlL l k T).length = 1 by omega)
      rw [hx] at hl ⊢
      exact (List.perm_singleton.1 hl.symm).symm
  rw [e]
theorem ent_perm {E : List MapE} {clock : Nat} (hwf : WfM E clock) : (entM E (keysD E)).Perm (entsL E) := by
  have h := (keysD_perm E).map fun k => k.1 ++ (valM E k).1
  rw [List.map_map] at h
  have e : E.map ((fun k : Sum32 => k.1 ++ (valM E k).1) ∘ fun x => x.k) = entsL E := by
    refine List.map_congr_left fun x hx => ?_
    simp only [Function.comp, valM, getM_own hwf hx, Option.getD_some]
  rw [e] at h
  exact h
theorem parts_perm {l m : List (List UInt8)} {i : Nat} (h : Parts i l) (hp : l.Perm m) : Parts i m := by
  unfold Parts at *
  exact (hp.pairwise_iff (fun {a b} ⟨j, h1, h2, h3⟩ => ⟨j, h1, h2, fun h => h3 h.symm⟩)).1 h
theorem lvl_mem {l : List (List UInt8)} {k e : List UInt8} : ∀ {j : Nat}, e ∈ lvlL l k j → e ∈ l ∧ ∀ i, i < j → bitL e i = bitL k i
  | 0, h => ⟨h, fun i hi => by omega⟩
  | j + 1, h => by
    rw [lvlL, List.mem_filter] at h
    obtain ⟨h1, h2⟩ := lvl_mem h.1
    refine ⟨h1, fun i hi => ?_⟩
    by_cases g : i = j
    · subst g; simpa using h.2
    · exact h2 i (by omega)
theorem mem_lvl {l : List (List UInt8)} {k e : List UInt8} : ∀ {j : Nat}, e ∈ l → (∀ i, i < j → bitL e i = bitL k i) → e ∈ lvlL l k j
  | 0, h, _ => h
  | j + 1, h, hb => by
    rw [lvlL, List.mem_filter]
    exact ⟨mem_lvl h fun i hi => hb i (by omega), by simpa using hb j (by omega)⟩
/-- A key that is there is shown. -/
theorem there_full {E : List MapE} {clock T : Nat} {k v : Sum32} (hwf : WfM E clock) (hg : getM E k = some v) (hv : ¬ v.1 = Z32L) (hE : EndsAt (entsL E) k.1 T) : thereE (mapRootF 256 (entsL E) 0) k.1 v.1 (marksTo (entsL E) k.1 T) (fullP (entsL E) k.1 T) = 0 := by
  have hm : k.1 ++ v.1 ∈ entsL E := by
    obtain ⟨x, hx, e⟩ := Option.map_eq_some_iff.1 hg
    have h1 := List.find?_some hx
    have h2 := List.mem_of_find?_eq_some hx
    refine List.mem_map.2 ⟨x, h2, ?_⟩
    rw [← e]; congr 1; congr 1; simpa using h1
  have hmT := mem_lvl (k := k.1) (j := T) hm fun i hi => bitL_app k.2 (by have := hE.le; omega)
  have hc : lvlL (entsL E) k.1 T = [k.1 ++ v.1] := by
    have hl := hE.last
    obtain ⟨x, hx⟩ := List.length_eq_one_iff.1 (show (lvlL (entsL E) k.1 T).length = 1 by have := List.length_pos_of_mem hmT; omega)
    rw [hx] at hmT ⊢
    rw [List.mem_singleton.1 hmT]
  have e0 : gt (lvlL (entsL E) k.1 T) 0 = k.1 ++ v.1 := by rw [hc]; rfl
  have hf : fullP (entsL E) k.1 T = sibsTo (entsL E) k.1 T ++ [] := by
    rw [fullP, lastP, e0, if_neg (fun h => h.2 (List.take_left' k.2))]
  have hu := up_root (entsL E) k.1 hE.le hE.more [] T (Nat.le_refl _)
  rw [hc, mapRootF_1] at hu
  rw [hf, thereE, if_neg hv, if_pos]
  refine ⟨by rw [List.append_nil, many_all _ _ hE.le], ?_⟩
  rw [upAll, depth_marks _ _ hE.le hE.more hE.last]
  exact hu
/-- A key that is not there is shown not to be. -/
theorem absent_full {E : List MapE} {clock T : Nat} {k : Sum32} (hwf : WfM E clock) (hnz : NZM E) (hg : getM E k = none) (hE : EndsAt (entsL E) k.1 T) : absentE (mapRootF 256 (entsL E) 0) k.1 (marksTo (entsL E) k.1 T) (fullP (entsL E) k.1 T) = 0 := by
  have hu := fun x => up_root (entsL E) k.1 hE.le hE.more x T (Nat.le_refl _)
  have hma := many_all (entsL E) k.1 hE.le
  have hd := depth_marks _ _ hE.le hE.more hE.last
  rcases Nat.lt_or_ge (lvlL (entsL E) k.1 T).length 1 with g | g
  · have hc : lvlL (entsL E) k.1 T = [] := List.eq_nil_of_length_eq_zero (by omega)
    have hf : fullP (entsL E) k.1 T = sibsTo (entsL E) k.1 T ++ [] := by
      rw [fullP, lastP, hc, if_neg (fun h => by simp at h)]
    have hu' := hu []
    rw [hc, mapRootF_0] at hu'
    rw [hf, absentE, if_pos (by rw [List.append_nil, hma]), upAll, hd, if_pos hu']
  · obtain ⟨e, hc⟩ := List.length_eq_one_iff.1 (show (lvlL (entsL E) k.1 T).length = 1 by have := hE.last; omega)
    have hm := lvl_mem (show e ∈ lvlL (entsL E) k.1 T by rw [hc]; simp)
    obtain ⟨x, hx, rfl⟩ := List.mem_map.1 hm.1
    have hk : ¬ x.k.1 = k.1 := fun h => getM_none.1 hg x hx (Subtype.ext h)
    have e0 : gt (lvlL (entsL E) k.1 T) 0 = x.k.1 ++ x.v.1 := by rw [hc]; rfl
    have e1 : (x.k.1 ++ x.v.1).take 32 = x.k.1 := List.take_left' x.k.2
    have e2 : ((x.k.1 ++ x.v.1).drop 32).take 32 = x.v.1 := by rw [List.drop_left' x.k.2, List.take_of_length_le (by rw [x.v.2]; exact Nat.le_refl _)]
    have hf : fullP (entsL E) k.1 T = sibsTo (entsL E) k.1 T ++ [x.k.1, x.v.1] := by
      rw [fullP, lastP, e0, e1, e2, if_pos ⟨by rw [hc]; rfl, hk⟩]
    have hu' := hu [x.k.1, x.v.1]
    rw [hc, mapRootF_1] at hu'
    have g1 : gt (sibsTo (entsL E) k.1 T ++ [x.k.1, x.v.1]) (sibsTo (entsL E) k.1 T).length = x.k.1 := by rw [gt_eq _ _ (by simp)]; simp
    have g2 : gt (sibsTo (entsL E) k.1 T ++ [x.k.1, x.v.1]) ((sibsTo (entsL E) k.1 T).length + 1) = x.v.1 := by rw [gt_eq _ _ (by simp)]; simp
    rw [hf, absentE, hma, if_neg (by simp), if_pos (by simp), g1, g2, hd, if_neg, upAll, hd, if_pos hu']
    rintro (h | h | h)
    · exact hk h
    · obtain ⟨_, _, h3⟩ := differL_spec x.k.1 k.1
      have hlt : differL x.k.1 k.1 < 256 := by have := hE.le; omega
      have := hm.2 _ h
      rw [bitL_app x.k.2 hlt] at this
      exact h3 hlt this
    · exact hnz x hx h
/-! ### Keys in order, a part of them -/
structure KeysP (a0 : Option Addr) (E : List MapE) (lev : Nat) (ds : List Sum32) (a : Option Addr) (n c : Nat) : Prop where
  len : ds.length = n
  cap : n ≤ c
  row : ∀ W, Row W a0 ((sortL (keysM E)).flatten.map b8) → Row W a ((rawL ds).flatten.map b8)
  lt : (rawL ds).Pairwise LtB
  alike : Alike lev (rawL ds)
  got : ∀ k ∈ ds, ∃ v, getM E k = some v
  small : n ≤ 1000
theorem KeysP.take {a0 a : Option Addr} {E : List MapE} {lev n c i : Nat} {ds : List Sum32} (h : KeysP a0 E lev ds a n c) (hi : i ≤ n) (ha : Alike (lev + 1) (rawL (ds.take i))) : KeysP a0 E (lev + 1) (ds.take i) a i c := by
  have e : rawL (ds.take i) = (rawL ds).take i := by simp [rawL, List.map_take]
  refine ⟨by rw [List.length_take, h.len]; omega, by have := h.cap; omega, fun W hW => ?_, ?_, ha, fun k hk => h.got k (List.mem_of_mem_take hk), by have := h.small; omega⟩
  · rw [e]; exact (h.row W hW).take32 (rawL_32 ds) i
  · rw [e]; exact h.lt.sublist (List.take_sublist i _)
theorem KeysP.drop {a0 a : Option Addr} {E : List MapE} {lev n c i : Nat} {ds : List Sum32} (h : KeysP a0 E lev ds a n c) (hi : i ≤ n) (ha : Alike (lev + 1) (rawL (ds.drop i))) : KeysP a0 E (lev + 1) (ds.drop i) (Kw.sub a c i 32) (n - i) (c - i) := by
  have e : rawL (ds.drop i) = (rawL ds).drop i := by simp [rawL, List.map_drop]
  refine ⟨by rw [List.length_drop, h.len], by have := h.cap; omega, fun W hW => ?_, ?_, ha, fun k hk => h.got k (List.mem_of_mem_drop hk), by have := h.small; omega⟩
  · rw [e]; exact (h.row W hW).from32 (c := c) (rawL_32 ds) (by rw [rawL_len, h.len]; exact h.cap) i
  · rw [e]; exact h.lt.sublist (List.drop_sublist i _)
theorem halves_ds (E : List MapE) (ds : List Sum32) {lev i : Nat} (hlev : lev < 256) (h1 : (rawL ds).filter (fun e => bitL e lev == 0) = (rawL ds).take i) (h2 : (rawL ds).filter (fun e => !(bitL e lev == 0)) = (rawL ds).drop i) :
    (entM E ds).filter (fun e => bitL e lev == 0) = entM E (ds.take i) ∧ (entM E ds).filter (fun e => !(bitL e lev == 0)) = entM E (ds.drop i) := by
  have inj : ∀ {a b : List Sum32}, rawL a = rawL b → a = b := fun {a b} e => List.map_inj_right (fun x y h => Subtype.ext h) |>.1 e
  have f0 : ds.filter (fun k => bitL k.1 lev == 0) = ds.take i := inj (by
    rw [show rawL (ds.filter fun k => bitL k.1 lev == 0) = (rawL ds).filter (fun e => bitL e lev == 0) from by unfold rawL; rw [List.filter_map]; rfl, h1]; simp [rawL, List.map_take])
  have f1 : ds.filter (fun k => !(bitL k.1 lev == 0)) = ds.drop i := inj (by
    rw [show rawL (ds.filter fun k => !(bitL k.1 lev == 0)) = (rawL ds).filter (fun e => !(bitL e lev == 0)) from by unfold rawL; rw [List.filter_map]; rfl, h2]; simp [rawL, List.map_drop])
  refine ⟨?_, ?_⟩
  · rw [← f0]; have := ent_filter E ds hlev true; simpa using this
  · rw [← f1]; have := ent_filter E ds hlev false; simpa using this
/-- Both sides of a level. -/
theorem KeysP.halves {a0 a : Option Addr} {E : List MapE} {lev n c i : Nat} {ds : List Sum32} (h : KeysP a0 E lev ds a n c) (hlev : lev < 256) (hi : i ≤ n) (hz : ∀ j, j < i → bitL (gt (rawL ds) j) lev = 0) (hnz : i < n → ¬ bitL (gt (rawL ds) i) lev = 0) :
    (KeysP a0 E (lev + 1) (ds.take i) a i c ∧ entM E (ds.take i) = (entM E ds).filter fun e => bitL e lev == 0) ∧ (KeysP a0 E (lev + 1) (ds.drop i) (Kw.sub a c i 32) (n - i) (c - i) ∧ entM E (ds.drop i) = (entM E ds).filter fun e => !(bitL e lev == 0)) := by
  have h32 := rawL_32 ds
  have hf9 := halves_filter h32 hlev h.alike h.lt (by rw [rawL_len, h.len]; exact hi) hz (by rw [rawL_len, h.len]; exact hnz)
  have e1 : rawL (ds.take i) = (rawL ds).take i := by simp [rawL, List.map_take]
  have e2 : rawL (ds.drop i) = (rawL ds).drop i := by simp [rawL, List.map_drop]
  have hat : Kw.Alike (lev + 1) (rawL (ds.take i)) := h.alike.next (v := 0) (fun x hx => List.mem_of_mem_take (by rwa [e1] at hx)) (fun x hx => by rw [e1, ← hf9.1] at hx; simpa using (List.mem_filter.1 hx).2)
  have had : Kw.Alike (lev + 1) (rawL (ds.drop i)) := h.alike.next (v := 1) (fun x hx => List.mem_of_mem_drop (by rwa [e2] at hx)) (fun x hx => by rw [e2, ← hf9.2] at hx; have h9 := (List.mem_filter.1 hx).2; have h8 := bitL_01 x lev; simp at h9; omega)
  have g := halves_ds E ds hlev hf9.1 hf9.2
  exact ⟨⟨h.take hi hat, g.1.symm⟩, ⟨h.drop hi had, g.2.symm⟩⟩
theorem lvl_SN {m : Nat} {l : List (List UInt8)} (h : SN m l) (k : List UInt8) : ∀ j, SN m (lvlL l k j)
  | 0 => h
  | j + 1 => (lvl_SN h k j).filter _
theorem entM_len (E : List MapE) (ds : List Sum32) : (entM E ds).length = ds.length := by simp [entM]
theorem full_32 {l : List (List UInt8)} (h : SN 64 l) (k : List UInt8) (T : Nat) : S32 (fullP l k T) := by
  refine (sibs_32 l k T).app ?_
  unfold lastP
  split
  · rename_i hc
    have hl := (lvl_SN h k T).gt (show 0 < (lvlL l k T).length by omega)
    intro s hs
    simp only [List.mem_cons, List.not_mem_nil, or_false] at hs
    rcases hs with rfl | rfl
    · rw [List.length_take, hl]; decide
    · rw [List.length_take, List.length_drop, hl]; decide
  · exact S32.nil
theorem full_len {l : List (List UInt8)} {k : List UInt8} {T : Nat} (h : T ≤ 256) : (fullP l k T).length ≤ 258 := by
  have := sibs_len l k T
  rw [fullP, List.length_append, lastP]
  split
  · simp; omega
  · simp; omega
theorem last_none {c : List (List UInt8)} {k : List UInt8} (h : ¬ c.length = 1) : lastP c k = [] := by rw [lastP, if_neg (fun h' => h h'.1)]
theorem last_same {c : List (List UInt8)} {k : List UInt8} (h : (gt c 0).take 32 = k) : lastP c k = [] := by rw [lastP, if_neg (fun h' => h'.2 h)]
theorem last_one {c : List (List UInt8)} {k : List UInt8} (h1 : c.length = 1) (h : ¬ (gt c 0).take 32 = k) : lastP c k = [(gt c 0).take 32, ((gt c 0).drop 32).take 32] := by rw [lastP, if_pos ⟨h1, h⟩]
theorem ent_at {E : List MapE} {ds : List Sum32} {i : Nat} (h : i < ds.length) : (gt (entM E ds) i).take 32 = gt (rawL ds) i := by
  rw [rawL_gt h, gt_eq _ _ (by rw [entM_len]; exact h), gt_eq _ _ h]
  simp only [entM, List.getElem_map]
  exact List.take_left' ds[i].2
theorem ent_val {E : List MapE} {ds : List Sum32} {i : Nat} {v : Sum32} (h : i < ds.length) (hg : getM E (gt ds i) = some v) : ((gt (entM E ds) i).drop 32).take 32 = v.1 := by
  rw [gt_eq _ _ h] at hg
  rw [gt_eq _ _ (by rw [entM_len]; exact h)]
  simp only [entM, List.getElem_map]
  rw [List.drop_left' ds[i].2, List.take_of_length_le (by rw [(valM E ds[i]).2]; exact Nat.le_refl _), valM, hg]; rfl
theorem mp_gt {lv : List UInt8} {u : Value} {o : Nat} (h : o < lv.length) : (lv.map b8 ++ [u])[o]? = some (b8 (gt lv o)) := by
  rw [List.getElem?_append_left (by rw [List.length_map]; exact h)]
  exact map_gt _ _ _ h
theorem mp_set {lv : List UInt8} {u : Value} {x : UInt8} {o : Nat} (h : o < lv.length) : (lv.map b8 ++ [u]).set o (b8 x) = (lv.set o x).map b8 ++ [u] := by
  rw [List.set_append_left _ _ (by rw [List.length_map]; exact h), List.map_set]
theorem mp_setR {lv : List UInt8} {u v : Value} (h : lv.length = 32) : (lv.map b8 ++ [u]).set 32 v = lv.map b8 ++ [v] := by
  rw [List.set_append_right _ _ (by rw [List.length_map, h]; exact Nat.le_refl _), List.length_map, h]; rfl
end Go.Kw
end
section
namespace Go.Kw
open Go.Lib
set_option linter.unusedVariables false
set_option linter.unusedSimpArgs false
theorem drop_none {E : List MapE} {k : Sum32} (h : getM E k = none) : dropM E k = E := by
  refine List.filter_eq_self.2 fun x hx => ?_
  have := getM_none.1 h x hx
  simp [this]
theorem getM_drop (E : List MapE) (k : Sum32) : getM (dropM E k) k = none := by
  rw [getM_none]
  intro x hx
  have := (List.mem_filter.1 hx).2
  simpa using this
theorem lvl_app (l m : List (List UInt8)) (k : List UInt8) : ∀ j, lvlL (l ++ m) k j = lvlL l k j ++ lvlL m k j
  | 0 => rfl
  | j + 1 => by rw [lvlL, lvl_app l m k j, List.filter_append, lvlL, lvlL]
theorem lvl_own {k v : List UInt8} (hk : k.length = 32) : ∀ j, j ≤ 256 → lvlL [k ++ v] k j = [k ++ v]
  | 0, _ => rfl
  | j + 1, hj => by rw [lvlL, lvl_own hk j (by omega)]; simp [bitL_app hk (show j < 256 by omega)]
theorem out_own {k v : List UInt8} (l : List (List UInt8)) (hk : k.length = 32) {j : Nat} (hj : j < 256) : outL (l ++ [k ++ v]) k j = outL l k j := by
  rw [outL, lvl_app, List.filter_append, lvl_own hk j (by omega), outL]; simp [bitL_app hk hj]
theorem marks_out {l m : List (List UInt8)} {k : List UInt8} : ∀ T, (∀ j, j < T → (outL l k j).Perm (outL m k j)) → marksTo l k T = marksTo m k T
  | 0, _ => rfl
  | T + 1, h => by rw [marksTo, marksTo, (h T (by omega)).length_eq, marks_out T fun j hj => h j (by omega)]
theorem sibs_out {l m : List (List UInt8)} {k : List UInt8} (hp : Parts 0 l) : ∀ T, T ≤ 256 → (∀ j, j < T → (outL l k j).Perm (outL m k j)) → sibsTo l k T = sibsTo m k T
  | 0, _, _ => rfl
  | T + 1, hT, h => by rw [sibsTo, sibsTo, (h T (by omega)).length_eq, sibs_out hp T (by omega) (fun j hj => h j (by omega)), mapRootF_perm (255 - T) (T + 1) (by omega) (parts_out hp k T) (h T (by omega))]
theorem old_perm {E : List MapE} {clock : Nat} {k v0 : Sum32} (hwf : WfM E clock) (hg : getM E k = some v0) : (entsL E).Perm (entsL (dropM E k) ++ [k.1 ++ v0.1]) := by
  obtain ⟨x, hx, e⟩ := Option.map_eq_some_iff.1 hg
  have h1 : x.k = k := by simpa using List.find?_some hx
  obtain ⟨j, hj, hjx⟩ := List.mem_iff_getElem.1 (List.mem_of_find?_eq_some hx)
  have hgx : gt E j = x := by rw [gt_eq _ _ hj]; exact hjx
  have hd := ents_drop (q := k) hwf hj (by rw [hgx]; exact h1)
  have hs := List.take_append_drop j (entsL E)
  rw [List.drop_eq_getElem_cons (by rw [entsL_len]; exact hj), ← gt_eq _ _ (by rw [entsL_len]; exact hj), entsL_gt hj, hgx, h1, e] at hs
  rw [← hs, ← hd]
  refine List.perm_middle.trans ?_
  exact (List.perm_append_singleton _ _).symm
theorem out_old {E : List MapE} {clock : Nat} (hwf : WfM E clock) (k : Sum32) {j : Nat} (hj : j < 256) : (outL (entsL E) k.1 j).Perm (outL (entsL (dropM E k)) k.1 j) := by
  rcases getM_cases E k with h | ⟨v0, h⟩
  · rw [drop_none h]
  · have := out_perm (old_perm hwf h) k.1 j
    rwa [out_own _ k.2 hj] at this
theorem lvl_old {E : List MapE} {clock : Nat} (hwf : WfM E clock) (k : Sum32) {j : Nat} (hj : j ≤ 256) : (lvlL (entsL E) k.1 j).length ≤ (lvlL (entsL (dropM E k)) k.1 j).length + 1 := by
  rcases getM_cases E k with h | ⟨v0, h⟩
  · rw [drop_none h]; omega
  · have := (lvl_perm (old_perm hwf h) k.1 j).length_eq
    rw [lvl_app, List.length_append, lvl_own k.2 j hj] at this
    simp at this; omega
/-- The entries with a key's new value, the key's own behind all others. -/
def newE (E : List MapE) (k v : Sum32) : List (List UInt8) := entsL (dropM E k) ++ [k.1 ++ v.1]
theorem newE_ents (E : List MapE) (ck : Nat) (k v : Sum32) : newE E k v = entsL (dropM E k ++ [⟨ck, k, v⟩]) := by simp [newE, entsL]
theorem wf_new {E : List MapE} {clock : Nat} (hwf : WfM E clock) (k v : Sum32) : WfM (dropM E k ++ [⟨clock, k, v⟩]) (clock + 1) := hwf.drop.new (getM_drop E k)
theorem newE_parts {E : List MapE} {clock : Nat} (hwf : WfM E clock) (k v : Sum32) : Parts 0 (newE E k v) := by
  rw [newE_ents E clock]; exact parts_ents (wf_new hwf k v)
theorem newE_put {E : List MapE} {clock : Nat} (hwf : WfM E clock) (k v : Sum32) : (newE E k v).Perm (entsL (putM E clock k v).1) := by
  rcases getM_cases E k with h | ⟨v0, h⟩
  · rw [putM_new h, ents_new, newE, drop_none h]
  · rw [putM_old h]
    obtain ⟨x, hx, e⟩ := Option.map_eq_some_iff.1 h
    have h1 : x.k = k := by simpa using List.find?_some hx
    obtain ⟨j, hj, hjx⟩ := List.mem_iff_getElem.1 (List.mem_of_find?_eq_some hx)
    have hgx : gt E j = x := by rw [gt_eq _ _ hj]; exact hjx
    rw [newE, ← ents_drop (q := k) hwf hj (by rw [hgx]; exact h1), ← ents_set (q := k) (v := v) hwf hj (by rw [hgx]; exact h1), List.set_eq_take_append_cons_drop, if_pos (by rw [entsL_len]; exact hj)]
    exact (List.perm_append_singleton _ _).trans List.perm_middle.symm
theorem root_new {E : List MapE} {clock T : Nat} {k v : Sum32} (hwf : WfM E clock) (hE : EndsAt (entsL E) k.1 T) (x : List (List UInt8)) :
    mapRootF 256 (newE E k v) 0 = upL k.1 (marksTo (entsL E) k.1 T) (sibsTo (entsL E) k.1 T ++ x) T (mapRootF (256 - T) (lvlL (entsL (dropM E k)) k.1 T ++ [k.1 ++ v.1]) T) := by
  have ho : ∀ j, j < T → (outL (entsL E) k.1 j).Perm (outL (newE E k v) k.1 j) := fun j hj => by
    rw [newE, out_own _ k.2 (by have := hE.le; omega)]
    exact out_old hwf k (by have := hE.le; omega)
  have hl : ∀ j, j ≤ T → lvlL (newE E k v) k.1 j = lvlL (entsL (dropM E k)) k.1 j ++ [k.1 ++ v.1] := fun j hj => by
    rw [newE, lvl_app, lvl_own k.2 j (by have := hE.le; omega)]
  have h := up_root (newE E k v) k.1 hE.le (fun j hj => by
    rw [hl j (by omega), List.length_append, List.length_singleton]
    have h1 := hE.more j hj
    have h2 := lvl_old hwf k (j := j) (by have := hE.le; omega)
    omega) x T (Nat.le_refl _)
  rw [← marks_out T ho, ← sibs_out (parts_ents hwf) T hE.le ho, hl T (Nat.le_refl _)] at h
  exact h.symm
/-- What Changed tells by a map's own proof. -/
theorem changed_full {E : List MapE} {clock T : Nat} {k v : Sum32} {old : List UInt8} (hwf : WfM E clock) (hnz : NZM E) (hv : ¬ v.1 = Z32L) (ho : (∃ v0, getM E k = some v0 ∧ old = v0.1) ∨ (getM E k = none ∧ old = Z32L)) (hE : EndsAt (entsL E) k.1 T) :
    changedL (mapRootF 256 (entsL E) 0) k.1 old v.1 (marksTo (entsL E) k.1 T) (fullP (entsL E) k.1 T) = (mapRootF 256 (newE E k v) 0, 0) := by
  have hma := many_all (entsL E) k.1 hE.le
  have hd := depth_marks _ _ hE.le hE.more hE.last
  have hr := root_new (v := v) hwf hE (lastP (lvlL (entsL E) k.1 T) k.1)
  rw [changedL, if_neg hv]
  rcases ho with ⟨v0, hg, rfl⟩ | ⟨hg, rfl⟩
  · have hm := List.mem_of_find?_eq_some (Option.map_eq_some_iff.1 hg).choose_spec.1
    have hz : ¬ v0.1 = Z32L := by
      rw [← (Option.map_eq_some_iff.1 hg).choose_spec.2]; exact hnz _ hm
    have h0 : lvlL (entsL (dropM E k)) k.1 T = [] := by
      have := (lvl_perm (old_perm hwf hg) k.1 T).length_eq
      rw [lvl_app, List.length_append, lvl_own k.2 T hE.le] at this
      have h1 := hE.last
      exact List.eq_nil_of_length_eq_zero (by simp at this; omega)
    rw [if_pos hz, if_pos (there_full hwf hg hz hE), upAll, hd, fullP]
    rw [h0, List.nil_append, mapRootF_1] at hr
    rw [← hr]
  · have ha := absent_full hwf hnz hg hE
    rw [if_neg (not_not_intro rfl), if_pos ha]
    rw [drop_none hg] at hr
    rcases Nat.lt_or_ge (lvlL (entsL E) k.1 T).length 1 with g | g
    · have hc : lvlL (entsL E) k.1 T = [] := List.eq_nil_of_length_eq_zero (by omega)
      have hf : lastP (lvlL (entsL E) k.1 T) k.1 = [] := last_none (by omega)
      rw [if_pos (by rw [fullP, hf, List.append_nil, hma]), upAll, hd, fullP]
      rw [hc, List.nil_append, mapRootF_1] at hr
      rw [hc]
      rw [← hr]
    · obtain ⟨e, hc⟩ := List.length_eq_one_iff.1 (show (lvlL (entsL E) k.1 T).length = 1 by have := hE.last; omega)
      have hm := lvl_mem (show e ∈ lvlL (entsL E) k.1 T by rw [hc]; simp)
      obtain ⟨x, hx, rfl⟩ := List.mem_map.1 hm.1
      have hk : ¬ x.k.1 = k.1 := fun h => getM_none.1 hg x hx (Subtype.ext h)
      have e0 : gt (lvlL (entsL E) k.1 T) 0 = x.k.1 ++ x.v.1 := by rw [hc]; rfl
      have e1 : (x.k.1 ++ x.v.1).take 32 = x.k.1 := List.take_left' x.k.2
      have e2 : ((x.k.1 ++ x.v.1).drop 32).take 32 = x.v.1 := by rw [List.drop_left' x.k.2, List.take_of_length_le (by rw [x.v.2]; exact Nat.le_refl _)]
      have hlp : lastP (lvlL (entsL E) k.1 T) k.1 = [x.k.1, x.v.1] := by rw [lastP, e0, e1, e2, if_pos ⟨by rw [hc]; rfl, hk⟩]
      have hf : fullP (entsL E) k.1 T = sibsTo (entsL E) k.1 T ++ [x.k.1, x.v.1] := by rw [fullP, hlp]
      have g1 : gt (sibsTo (entsL E) k.1 T ++ [x.k.1, x.v.1]) (sibsTo (entsL E) k.1 T).length = x.k.1 := by rw [gt_eq _ _ (by simp)]; simp
      have g2 : gt (sibsTo (entsL E) k.1 T ++ [x.k.1, x.v.1]) ((sibsTo (entsL E) k.1 T).length + 1) = x.v.1 := by rw [gt_eq _ _ (by simp)]; simp
      have hdl : T ≤ differL x.k.1 k.1 := by
        rcases Nat.lt_or_ge (differL x.k.1 k.1) T with h | h
        · exfalso
          obtain ⟨_, _, h3⟩ := differL_spec x.k.1 k.1
          have hlt : differL x.k.1 k.1 < 256 := by have := hE.le; omega
          have := hm.2 _ h
          rw [bitL_app x.k.2 hlt] at this
          exact h3 hlt this
        · exact h
      have hch := mapRoot_chain (v := v.1) (u := x.v.1) k.2 x.k.2 hk hdl
      have hpp : mapRootF (256 - T) [x.k.1 ++ x.v.1, k.1 ++ v.1] T = mapRootF (256 - T) [k.1 ++ v.1, x.k.1 ++ x.v.1] T :=
        (mapRootF_perm (256 - T) T (by have := hE.le; omega) (parts_two k.2 x.k.2 hk hdl) (List.Perm.swap _ _ _)).symm
      rw [hf, if_neg (by rw [hma]; simp), hma, g1, g2, hd, ← hch, upAll, hd]
      rw [hlp, hc, List.singleton_append, hpp] at hr
      rw [← hr]
theorem ent_uniq {E : List MapE} {clock i j : Nat} {q : Sum32} (hwf : WfM E clock) (hi : i < E.length) (hj : j < E.length) (h1 : (gt E i).k = q) (h2 : (gt E j).k = q) : i = j :=
  nodup_at hwf.keys (i := i) (j := j) (by simpa using hi) (by simpa using hj) (by rw [List.getElem_map, List.getElem_map, ← gt_eq _ _ hi, ← gt_eq _ _ hj, h1, h2])
/-- All but one, moved up. -/
theorem del_list {l lq : List (List UInt8)} {n j t : Nat} (hl : l.length = n) (hlq : lq.length = n) (hj : j ≤ t) (ht : t + 1 = n) (h1 : ∀ u, u < j → gt lq u = gt l u) (h2 : ∀ u, j ≤ u → u < t → gt lq u = gt l (u + 1)) : lq.take t = l.take j ++ l.drop (j + 1) := by
  apply ext_gt
  · rw [List.length_append, List.length_take, List.length_take, List.length_drop]; omega
  · intro u hu
    rw [List.length_take] at hu
    rw [gt_take _ _ _ (by omega)]
    by_cases g : u < j
    · rw [gt_app _ _ _ (by rw [List.length_take]; omega), gt_take _ _ _ g]; exact h1 u g
    · rw [h2 u (by omega) (by omega), gt_eq (l.take j ++ l.drop (j + 1)) u (by rw [List.length_append, List.length_take, List.length_drop]; omega), List.getElem_append_right (by rw [List.length_take]; omega), List.getElem_drop, gt_eq _ _ (by omega)]
      congr 1
      rw [List.length_take]; omega
theorem WfM.put {E : List MapE} {clock : Nat} {q v : Sum32} (h : WfM E clock) : WfM (putM E clock q v).1 (putM E clock q v).2 := by
  rcases getM_cases E q with hg | ⟨v0, hg⟩
  · rw [putM_new hg]; exact h.new hg
  · rw [putM_old hg]; exact h.set
theorem put_len {E : List MapE} {clock : Nat} {q v : Sum32} : (putM E clock q v).1.length ≤ E.length + 1 := by
  rcases getM_cases E q with hg | ⟨v0, hg⟩
  · rw [putM_new hg]; simp
  · rw [putM_old hg]; simp [setM_len]
theorem drop_len (E : List MapE) (q : Sum32) : (dropM E q).length ≤ E.length := List.length_filter_le _ _
/-- A call that may turn blocks, but leaves them as they were, turns nothing. -/
theorem St.unM {w w' : World} {M : List Nat} {L X : List Item} (h : St w M w' (L ++ X)) (hX : ∀ k ∈ M, ∃ o, Item.blk k o ∈ X ∧ w.heap[k]? = some o) : St w [] w' L := by
  have hnd := h.apart
  rw [List.filterMap_append, List.nodup_append] at hnd
  refine ⟨h.os, h.tape, h.output, h.size, fun k hk _ => ?_, fun x hx => ?_, hnd.1⟩
  · by_cases hm : k ∈ M
    · obtain ⟨o, ho, hw⟩ := hX k hm
      rw [hw]; exact h.heap (by simp [ho])
    · exact h.old k hk hm
  · have hs := h.has x (by simp [hx])
    have hno : ∀ b, x.id = some b → b ∉ M := fun b hb hm => by
      obtain ⟨o, ho, _⟩ := hX b hm
      exact hnd.2.2 b (List.mem_filterMap.2 ⟨x, hx, hb⟩) b (List.mem_filterMap.2 ⟨_, ho, rfl⟩) rfl
    cases x with
    | blk b o => exact ⟨hs.1, .inl (hs.2.resolve_right (hno b rfl))⟩
    | row v E sz n xs => exact ⟨hs.1, fun g hg => .inl ((hs.2 g hg).resolve_right (hno g hg))⟩
end Go.Kw
end
