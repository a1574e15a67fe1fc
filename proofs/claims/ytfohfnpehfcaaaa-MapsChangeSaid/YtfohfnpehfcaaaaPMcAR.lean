/- What the law's proof leans on. No condition. -/
import Derived.Test.YtfohfnpehfcaaaaPMcAQ
import Derived.Maps.RangeRun
namespace Go.Kw
open Go.WideMaps Go.Lib
set_option linter.unusedVariables false
set_option linter.unusedSimpArgs false
/-- An entry: when it was born, its key, its value. -/
structure MapE where
  born : Nat
  k : Sum32
  v : Sum32
  deriving DecidableEq
instance : Inhabited MapE := ⟨⟨0, default, default⟩⟩
def MapE.e (x : MapE) : MapEntry := { key := suv x.k, val := suv x.v, born := x.born }
def mobj (E : List MapE) (clock : Nat) : Obj := .map (E.map MapE.e).toArray clock
structure WfM (E : List MapE) (clock : Nat) : Prop where
  keys : (E.map (·.k)).Nodup
  born : (E.map (·.born)).Nodup
  lt : ∀ x ∈ E, x.born < clock
def getM (E : List MapE) (q : Sum32) : Option Sum32 := (E.find? fun x => decide (x.k = q)).map (·.v)
def setM (E : List MapE) (q v : Sum32) : List MapE := E.map fun x => if x.k = q then ⟨x.born, x.k, v⟩ else x
def dropM (E : List MapE) (q : Sum32) : List MapE := E.filter fun x => !decide (x.k = q)
theorem nodup_at {α : Type} {l : List α} (hn : l.Nodup) {i j : Nat} (hi : i < l.length) (hj : j < l.length) (h : l[i] = l[j]) : i = j := by
  rcases Nat.lt_trichotomy i j with g | g | g
  · exact absurd h (List.pairwise_iff_getElem.1 hn i j hi hj g)
  · exact g
  · exact absurd h.symm (List.pairwise_iff_getElem.1 hn j i hj hi g)
theorem getM_none {E : List MapE} {q : Sum32} : getM E q = none ↔ ∀ x ∈ E, ¬ x.k = q := by
  simp [getM, List.find?_eq_none]
theorem getM_at {E : List MapE} {q : Sum32} {j : Nat} {x : MapE} (hn : (E.map (·.k)).Nodup) (hj : E[j]? = some x) (hx : x.k = q) : getM E q = some x.v := by
  obtain ⟨hjl, hje⟩ := List.getElem?_eq_some_iff.1 hj
  cases h : getM E q with
  | none => exact absurd hx (getM_none.1 h x (hje ▸ List.getElem_mem hjl))
  | some v =>
    simp only [getM, Option.map_eq_some_iff] at h
    obtain ⟨y, hy, rfl⟩ := h
    have hyk := List.find?_some hy
    have hym := List.mem_of_find?_eq_some hy
    obtain ⟨i, hi, hie⟩ := List.mem_iff_getElem.1 hym
    have hkk : y.k = x.k := by rw [hx]; simpa using hyk
    have : i = j := by
      refine nodup_at hn (by simpa using hi) (by simpa using hjl) ?_
      simp [hie, hje, hkk]
    subst this
    rw [← hie, hje]
section
variable {P : Program} {ρ : Operand → Value} {w w0 : World} {M : List Nat} {L l1 l2 : List Item} {dst : Option Tmp} {ty : TypeId} {pos : String} {aft : Array Edge} {g : Option (Nat × Bool)} {x y z : Operand} {T T2 E' I K : TypeId} {k : IntKind}
  {d dE : TypeDesc} {sz bts b o : Nat} {zv : Value}
theorem findM (hK : SumKeys P K) (w : World) (E : List MapE) (q : Sum32) :
    ((Instr.findKey K (suv q) (E.map MapE.e)).run P w = .ok none w ∧ ∀ x ∈ E, ¬ x.k = q) ∨ ∃ j x, (Instr.findKey K (suv q) (E.map MapE.e)).run P w = .ok (some (j, suv x.v)) w ∧ E[j]? = some x ∧ x.k = q := by
  obtain ⟨lq, hlq⟩ := hK.some q
  rcases hK.law.find w hlq (E.map MapE.e) (fun e he => by obtain ⟨x, _, rfl⟩ := List.mem_map.1 he; exact hK.some x.k) with ⟨hf, hno⟩ | ⟨j, e, hf, hj, hkey⟩
  · exact .inl ⟨hf, fun x hx hq => hno x.e (List.mem_map.2 ⟨x, hx, rfl⟩) (by rw [← hq]; rfl)⟩
  · rw [List.getElem?_map, Option.map_eq_some_iff] at hj
    obtain ⟨x, hx, rfl⟩ := hj
    exact .inr ⟨j, x, hf, hx, suv_inj hkey⟩
theorem r_lookup2_some {E : List MapE} {clock : Nat} {q v : Sum32} (hK : SumKeys P K) (hwf : WfM E clock) (hT : P.underlying T = some (.map K E')) (hx : ρ x = .map (some b)) (hy : ρ y = suv q) (hb : w.heap[b]? = some (mobj E clock)) (hg : getM E q = some v) :
    (execOp ρ ⟨dst, .lookup T x y true, ty, pos, aft, g⟩).run P w = .ok (.value (.tuple #[suv v, .bool true])) w := by
  have hgo := MapKept.run_getObj_map (P := P) hb
  obtain ⟨lq, hlq⟩ := hK.some q
  have hc := fun em => hK.law.check w em hlq
  rcases findM hK w E q with ⟨hf, hno⟩ | ⟨j, e, hf, hj, hk⟩
  · rw [getM_none.2 hno] at hg; cases hg
  · rw [getM_at hwf.keys hj hk] at hg
    cases hg
    simp [execOp, hx, hy, Instr.lookup, run_underlying hT, hgo, hc, hf]
theorem r_lookup1_some {E : List MapE} {clock : Nat} {q v : Sum32} (hK : SumKeys P K) (hwf : WfM E clock) (hT : P.underlying T = some (.map K E')) (hx : ρ x = .map (some b)) (hy : ρ y = suv q) (hb : w.heap[b]? = some (mobj E clock)) (hg : getM E q = some v) :
    (execOp ρ ⟨dst, .lookup T x y false, ty, pos, aft, g⟩).run P w = .ok (.value (suv v)) w := by
  have hgo := MapKept.run_getObj_map (P := P) hb
  obtain ⟨lq, hlq⟩ := hK.some q
  have hc := fun em => hK.law.check w em hlq
  rcases findM hK w E q with ⟨hf, hno⟩ | ⟨j, e, hf, hj, hk⟩
  · rw [getM_none.2 hno] at hg; cases hg
  · rw [getM_at hwf.keys hj hk] at hg
    cases hg
    simp [execOp, hx, hy, Instr.lookup, run_underlying hT, hgo, hc, hf]
theorem r_lookup2_none {E : List MapE} {clock : Nat} {q : Sum32} (hK : SumKeys P K) (hT : P.underlying T = some (.map K E')) (hE : TI P E' dE sz bts zv) (hx : ρ x = .map (some b)) (hy : ρ y = suv q) (hb : w.heap[b]? = some (mobj E clock)) (hg : getM E q = none) :
    (execOp ρ ⟨dst, .lookup T x y true, ty, pos, aft, g⟩).run P w = .ok (.value (.tuple #[zv, .bool false])) w := by
  have hgo := MapKept.run_getObj_map (P := P) hb
  obtain ⟨lq, hlq⟩ := hK.some q
  have hc := fun em => hK.law.check w em hlq
  rcases findM hK w E q with ⟨hf, hno⟩ | ⟨j, e, hf, hj, hk⟩
  · simp [execOp, hx, hy, Instr.lookup, run_underlying hT, hgo, hc, hf, run_zeroV hE]
  · exact absurd hk (getM_none.1 hg e (List.mem_of_getElem? hj))
/-- A new key. -/
theorem x_mapNew {E : List MapE} {clock : Nat} {q v : Sum32} (l1 : List Item) {l2 : List Item} (hS : St w0 M w (l1 ++ .blk b (mobj E clock) :: l2)) (hK : SumKeys P K) (hT : P.underlying T = some (.map K E')) (hx : ρ x = .map (some b)) (hy : ρ y = suv q) (hz : ρ z = suv v) (hg : getM E q = none) :
    ∃ w', (execOp ρ ⟨none, .mapUpdate T x y z, ty, pos, aft, g⟩).run P w = .ok .skip w' ∧ St w0 M w' (l1 ++ .blk b (mobj (E ++ [⟨clock, q, v⟩]) (clock + 1)) :: l2) := by
  have hb : w.heap[b]? = some (mobj E clock) := hS.heap (by simp)
  have hgo := MapKept.run_getObj_map (P := P) hb
  obtain ⟨lq, hlq⟩ := hK.some q
  have hc := hK.law.check w false hlq
  rcases findM hK w E q with ⟨hf, hno⟩ | ⟨j, e, hf, hj, hk⟩
  · have hs := MapKept.run_setObj_map (P := P) (w := w) (mobj (E ++ [⟨clock, q, v⟩]) (clock + 1)) hb
    have hset := MapKept.heap_set (o' := mobj (E ++ [⟨clock, q, v⟩]) (clock + 1)) hb
    have he : mobj (E ++ [⟨clock, q, v⟩]) (clock + 1) = .map ((E.map MapE.e).toArray.push { key := suv q, val := suv v, born := clock }) (clock + 1) := by
      simp [mobj, MapE.e]
    rw [he] at hs
    refine ⟨{ w with heap := w.heap.setIfInBounds b (mobj (E ++ [⟨clock, q, v⟩]) (clock + 1)) }, ?_, ?_⟩
    · rw [he]
      have hr : (Instr.mapUpdate T (.map (some b)) (suv q) (suv v)).run P w = .ok () { w with heap := w.heap.setIfInBounds b (.map ((E.map MapE.e).toArray.push { key := suv q, val := suv v, born := clock }) (clock + 1)) } := by
        unfold Instr.mapUpdate
        simp only [Sem.run_bind, run_underlying hT, Result.andThen_ok, hgo, mobj, hc]
        rw [hf]
        simp only [Result.andThen_ok]
        exact hs
      simp only [execOp, hx, hy, hz]
      rw [Sem.run_bind, hr]
      rfl
    · have hit := hS.has (.blk b (mobj E clock)) (by simp)
      exact hS.turnAt rfl rfl rfl (by simp) (fun k' hk' hne => hset.2 k' (fun e => hne (by rw [e]; rfl))) ⟨hset.1, hit.2⟩ (fun k' hk' => .inl hk')
  · exact absurd hk (getM_none.1 hg e (List.mem_of_getElem? hj))
theorem setM_at {E : List MapE} {q v : Sum32} {j : Nat} {x : MapE} (hn : (E.map (·.k)).Nodup) (hj : E[j]? = some x) (hx : x.k = q) : E.modify j (fun y => ⟨y.born, y.k, v⟩) = setM E q v := by
  obtain ⟨hjl, hje⟩ := List.getElem?_eq_some_iff.1 hj
  apply List.ext_getElem
  · simp [setM]
  · intro i h1 h2
    have hi : i < E.length := by simpa using h1
    simp only [setM, List.getElem_map, List.getElem_modify]
    by_cases hij : j = i
    · subst hij
      rw [if_pos rfl, hje, if_pos hx]
    · rw [if_neg hij, if_neg]
      intro hk
      exact hij (nodup_at hn (by simpa using hjl) (by simpa using hi) (by simp [hje, hx, hk]))
/-- A key that is there. -/
theorem x_mapOld {E : List MapE} {clock : Nat} {q v v0 : Sum32} (l1 : List Item) {l2 : List Item} (hS : St w0 M w (l1 ++ .blk b (mobj E clock) :: l2)) (hK : SumKeys P K) (hwf : WfM E clock) (hT : P.underlying T = some (.map K E')) (hx : ρ x = .map (some b)) (hy : ρ y = suv q) (hz : ρ z = suv v) (hg : getM E q = some v0) :
    ∃ w', (execOp ρ ⟨none, .mapUpdate T x y z, ty, pos, aft, g⟩).run P w = .ok .skip w' ∧ St w0 M w' (l1 ++ .blk b (mobj (setM E q v) clock) :: l2) := by
  have hb : w.heap[b]? = some (mobj E clock) := hS.heap (by simp)
  have hgo := MapKept.run_getObj_map (P := P) hb
  obtain ⟨lq, hlq⟩ := hK.some q
  have hc := hK.law.check w false hlq
  rcases findM hK w E q with ⟨hf, hno⟩ | ⟨j, e, hf, hj, hk⟩
  · rw [getM_none.2 hno] at hg; cases hg
  · have hs := MapKept.run_setObj_map (P := P) (w := w) (mobj (setM E q v) clock) hb
    have hset := MapKept.heap_set (o' := mobj (setM E q v) clock) hb
    have hst := hK.law.stays w hlq
    have hget : (((E.map MapE.e).toArray[j]?).map (·.key)).getD (suv q) = suv q := by
      simp [hj, MapE.e, hk]
    have hmod : (E.map MapE.e).toArray.modify j (fun e => { e with key := suv q, val := suv v }) = ((setM E q v).map MapE.e).toArray := by
      rw [← setM_at (v := v) hwf.keys hj hk]
      apply Array.ext'
      rw [Array.toList_modify]
      obtain ⟨hjl, hje⟩ := List.getElem?_eq_some_iff.1 hj
      apply List.ext_getElem
      · simp
      · intro i h1 h2
        simp only [List.getElem_map, List.getElem_modify]
        by_cases hij : j = i
        · subst hij
          simp [MapE.e, hje, hk]
        · simp [hij]
    refine ⟨{ w with heap := w.heap.setIfInBounds b (mobj (setM E q v) clock) }, ?_, ?_⟩
    · have hr : (Instr.mapUpdate T (.map (some b)) (suv q) (suv v)).run P w = .ok () { w with heap := w.heap.setIfInBounds b (mobj (setM E q v) clock) } := by
        unfold Instr.mapUpdate
        simp only [Sem.run_bind, run_underlying hT, Result.andThen_ok, hgo, mobj, hc]
        rw [hf]
        simp only [Result.andThen_ok, Sem.run_bind]
        rw [hget, hst]
        simp only [Result.andThen_ok]
        rw [hmod]
        exact hs
      simp only [execOp, hx, hy, hz]
      rw [Sem.run_bind, hr]
      rfl
    · have hit := hS.has (.blk b (mobj E clock)) (by simp)
      exact hS.turnAt rfl rfl rfl (by simp) (fun k' hk' hne => hset.2 k' (fun e => hne (by rw [e]; rfl))) ⟨hset.1, hit.2⟩ (fun k' hk' => .inl hk')
def iterO (b clock : Nat) (done : List MapE) : Obj := .mapIter (some b) clock (done.map MapE.born).toArray clock
theorem x_range {E : List MapE} {clock : Nat} (hS : St w0 M w L) (hT : P.underlying T = some (.map K E')) (hx : ρ x = .map (some b)) (hb : w.heap[b]? = some (mobj E clock)) :
    ∃ v w', (execOp ρ ⟨dst, .range T x, ty, pos, aft, g⟩).run P w = .ok (.value v) w' ∧ ∃ r, v = pt r 0 ∧ St w0 M w' (.blk r (iterO b clock []) :: L) := by
  have hgo := MapKept.run_getObj_map (P := P) hb
  refine ⟨pt w.heap.size 0, w.alloc (iterO b clock []), ?_, w.heap.size, rfl, hS.alloc _⟩
  simp [execOp, Instr.range, hx, run_underlying hT, hgo, mobj, iterO]
theorem born_inj {E : List MapE} {clock : Nat} (hwf : WfM E clock) {x y : MapE} (hx : x ∈ E) (hy : y ∈ E) (h : x.born = y.born) : x = y := by
  obtain ⟨i, hi, rfl⟩ := List.mem_iff_getElem.1 hx
  obtain ⟨j, hj, rfl⟩ := List.mem_iff_getElem.1 hy
  have : i = j := nodup_at hwf.born (by simpa using hi) (by simpa using hj) (by simpa using h)
  subst this; rfl
theorem x_next {E done : List MapE} {clock r : Nat} (l1 : List Item) {l2 : List Item} (hS : St w0 M w (l1 ++ .blk r (iterO b clock done) :: l2)) (hwf : WfM E clock) (hx : ρ x = pt r 0) (hb : w.heap[b]? = some (mobj E clock)) (hsub : ∀ e ∈ done, e ∈ E) :
    ∃ v w', (execOp ρ ⟨dst, .next x false, ty, pos, aft, g⟩).run P w = .ok (.value v) w' ∧ ((v = .tuple #[.bool false] ∧ (∀ e ∈ E, e ∈ done) ∧ St w0 M w' (l1 ++ .blk r (iterO b clock done) :: l2)) ∨
      ∃ e, e ∈ E ∧ ¬ e ∈ done ∧ v = .tuple #[.bool true, suv e.k, suv e.v] ∧ St w0 M w' (l1 ++ .blk r (iterO b clock (done ++ [e])) :: l2)) := by
  have hr : w.heap[r]? = some (iterO b clock done) := hS.heap (by simp)
  have hold : ∀ x ∈ (E.map MapE.e).toArray.toList, x.born < clock := by
    intro x hx
    simp only [List.mem_map] at hx
    obtain ⟨y, hy, rfl⟩ := hx
    exact hwf.lt y hy
  have hseen : ∀ e ∈ E, ((done.map MapE.born).toArray.contains e.born = true ↔ e ∈ done) := by
    intro e he
    rw [Array.contains_iff_mem, List.mem_toArray, List.mem_map]
    exact ⟨fun ⟨y, hy, h⟩ => born_inj hwf (hsub y hy) he h ▸ hy, fun h => ⟨e, h, rfl⟩⟩
  rcases run_next_at (P := P) w ty r b clock clock (done.map MapE.born).toArray (E.map MapE.e).toArray clock hr hb hold (Nat.le_refl _) with ⟨h0, hrun⟩ | ⟨e, he, w1, hw1, hrun⟩
  · refine ⟨.tuple #[.bool false], w, by simp [execOp, hx, hrun], .inl ⟨rfl, fun e he => ?_, hS⟩⟩
    have hl : (leftOf (E.map MapE.e).toArray (done.map MapE.born).toArray) = #[] := Array.eq_empty_of_size_eq_zero h0
    refine (hseen e he).1 ?_
    cases hc : (done.map MapE.born).toArray.contains e.born with
    | true => rfl
    | false =>
      have hm : e.e ∈ leftOf (E.map MapE.e).toArray (done.map MapE.born).toArray := by
        unfold leftOf
        rw [Array.mem_filter]
        exact ⟨by simpa using ⟨e, he, rfl⟩, by simpa [MapE.e] using hc⟩
      rw [hl] at hm
      simp at hm
  · have he' : e ∈ leftOf (E.map MapE.e).toArray (done.map MapE.born).toArray := by simpa using he
    unfold leftOf at he'
    rw [Array.mem_filter] at he'
    obtain ⟨h1, h2⟩ := he'
    simp only [List.mem_toArray, List.mem_map] at h1
    obtain ⟨y, hy, rfl⟩ := h1
    have hnd : ¬ y ∈ done := fun h => by
      have := (hseen y hy).2 h
      rw [show (y.e).born = y.born from rfl, this] at h2
      simp at h2
    have hpush : (Obj.mapIter (some b) clock ((done.map MapE.born).toArray.push (y.e).born) clock) = iterO b clock (done ++ [y]) := by simp [iterO, MapE.e]
    have hrun' : (Instr.next (pt r 0) false ty).run P w = .ok (.tuple #[.bool true, suv y.k, suv y.v]) (Go.ChangeMaps.setBlock w1 r (iterO b clock (done ++ [y]))) := by rw [← hpush]; exact hrun
    refine ⟨.tuple #[.bool true, suv y.k, suv y.v], Go.ChangeMaps.setBlock w1 r (iterO b clock (done ++ [y])), by simp [execOp, hx, hrun'], .inr ⟨y, hy, hnd, rfl, ?_⟩⟩
    have hset := MapKept.heap_set (o' := iterO b clock (done ++ [y])) hr
    rcases hw1 with rfl | rfl
    · have hit := hS.has (.blk r (iterO b clock done)) (by simp)
      exact hS.turnAt rfl rfl rfl (by simp [Go.ChangeMaps.setBlock]) (fun k' hk' hne => hset.2 k' (fun e => hne (by rw [e]; rfl))) ⟨hset.1, hit.2⟩ (fun k' hk' => .inl hk')
    · have hS' := hS.drew
      have hit := hS'.has (.blk r (iterO b clock done)) (by simp)
      exact hS'.turnAt rfl rfl rfl (by simp [Go.ChangeMaps.setBlock]) (fun k' hk' hne => hset.2 k' (fun e => hne (by rw [e]; rfl))) ⟨hset.1, hit.2⟩ (fun k' hk' => .inl hk')
theorem dropM_at {E : List MapE} {q : Sum32} : ∀ {j : Nat} {x : MapE}, (E.map (·.k)).Nodup → E[j]? = some x → x.k = q → E.eraseIdx j = dropM E q := by
  induction E with
  | nil => intro j x _ h; simp at h
  | cons y E ih =>
    intro j x hn hj hx
    have hn' := List.nodup_cons.1 (show (y.k :: E.map (·.k)).Nodup from hn)
    cases j with
    | zero =>
      simp only [List.getElem?_cons_zero, Option.some.injEq] at hj
      subst hj
      have : dropM (y :: E) q = dropM E q := by simp [dropM, hx]
      rw [this, List.eraseIdx_cons_zero, dropM, List.filter_eq_self.2]
      intro z hz
      have : ¬ z.k = q := fun h => hn'.1 (List.mem_map.2 ⟨z, hz, by rw [h, hx]⟩)
      simp [this]
    | succ j =>
      simp only [List.getElem?_cons_succ] at hj
      have hne : ¬ y.k = q := fun h => hn'.1 (List.mem_map.2 ⟨x, List.mem_of_getElem? hj, by rw [h, hx]⟩)
      have : dropM (y :: E) q = y :: dropM E q := by simp [dropM, hne]
      rw [this, List.eraseIdx_cons_succ, ih hn'.2 hj hx]
theorem x_mapDel {E : List MapE} {clock : Nat} {q v0 : Sum32} {tys : Array TypeId} (l1 : List Item) {l2 : List Item} (hS : St w0 M w (l1 ++ .blk b (mobj E clock) :: l2)) (hK : SumKeys P K) (hwf : WfM E clock) (ht : tys[0]? = some T) (hT : P.underlying T = some (.map K E')) (hx : ρ x = .map (some b)) (hy : ρ y = suv q) (hg : getM E q = some v0) (args : Array Operand) (ha : args = #[x, y]) :
    ∃ v w', (execOp ρ ⟨dst, .call { callee := .builtin .delete, args := args, argTypes := tys }, ty, pos, aft, g⟩).run P w = .ok (.value v) w' ∧ v = .tuple #[] ∧ St w0 M w' (l1 ++ .blk b (mobj (dropM E q) clock) :: l2) := by
  subst ha
  have hb : w.heap[b]? = some (mobj E clock) := hS.heap (by simp)
  have hgo := MapKept.run_getObj_map (P := P) hb
  obtain ⟨lq, hlq⟩ := hK.some q
  have hc := fun em => hK.law.check w em hlq
  rcases findM hK w E q with ⟨hf, hno⟩ | ⟨j, e, hf, hj, hk⟩
  · rw [getM_none.2 hno] at hg; cases hg
  · have hs := MapKept.run_setObj_map (P := P) (w := w) (mobj (dropM E q) clock) hb
    have hset := MapKept.heap_set (o' := mobj (dropM E q) clock) hb
    have hdel : (E.map MapE.e).toArray.eraseIdxIfInBounds j = ((dropM E q).map MapE.e).toArray := by
      rw [← dropM_at hwf.keys hj hk]
      obtain ⟨hjl, hje⟩ := List.getElem?_eq_some_iff.1 hj
      apply Array.ext'
      rw [Go.ChangeMaps.map_eraseIdx]
      simp [Array.eraseIdxIfInBounds, hjl]
    refine ⟨.tuple #[], { w with heap := w.heap.setIfInBounds b (mobj (dropM E q) clock) }, ?_, rfl, ?_⟩
    · have hr : (Builtin.delete_ tys ty #[.map (some b), suv q]).run P w = .ok (.tuple #[]) { w with heap := w.heap.setIfInBounds b (mobj (dropM E q) clock) } := by
        unfold Builtin.delete_
        rw [ht]
        simp only [Sem.run_bind, run_underlying hT, Result.andThen_ok, hgo, mobj, hc, List.getElem?_toArray, List.getElem?_cons_zero, List.getElem?_cons_succ]
        rw [hf]
        simp only [Result.andThen_ok, Sem.run_bind]
        rw [hdel]
        rw [show (setObj b (.map ((dropM E q).map MapE.e).toArray clock)).run P w = .ok () _ from hs]
        rfl
      simp only [execOp, resolve, hx, hy, List.map_toArray, List.map_cons, List.map_nil, invoke, builtin, Sem.run_bind, Sem.run_pure, Result.andThen_ok, hr]
    · have hit := hS.has (.blk b (mobj E clock)) (by simp)
      exact hS.turnAt rfl rfl rfl (by simp) (fun k' hk' hne => hset.2 k' (fun e => hne (by rw [e]; rfl))) ⟨hset.1, hit.2⟩ (fun k' hk' => .inl hk')
theorem r_entry {E done : List MapE} {clock r : Nat} {e : MapE} (hwf : WfM E clock) (hx : ρ x = pt r 0) (hr : w.heap[r]? = some (iterO b clock (done ++ [e]))) (hb : w.heap[b]? = some (mobj E clock)) (he : e ∈ E) :
    (execOp ρ ⟨dst, .entry x, ty, pos, aft, g⟩).run P w = .ok (.value (.tuple #[suv e.k, suv e.v])) w := by
  have hr' : w.heap[r]? = some (.mapIter (some b) clock ((done.map MapE.born).toArray.push e.e.born) clock) := by rw [hr]; simp [iterO, MapE.e]
  have hn : ((E.map MapE.e).toArray.toList.map (·.born)).Nodup := by
    have := hwf.born
    simpa [List.map_map, Function.comp_def, MapE.e] using this
  have h := run_entry_at (P := P) w r b clock (done.map MapE.born).toArray (E.map MapE.e).toArray clock e.e hr' hb (by simpa using ⟨e, he, rfl⟩) hn
  simp [execOp, hx, h]
  exact ⟨rfl, rfl⟩
end
theorem WfM.nil : WfM [] 0 := ⟨List.nodup_nil, List.nodup_nil, fun x h => by cases h⟩
theorem WfM.new {E : List MapE} {clock : Nat} {q v : Sum32} (h : WfM E clock) (hg : getM E q = none) : WfM (E ++ [⟨clock, q, v⟩]) (clock + 1) := by
  refine ⟨?_, ?_, ?_⟩
  · rw [List.map_append]
    refine List.nodup_append.2 ⟨h.keys, by simp, fun a ha b hb e => ?_⟩
    obtain ⟨x, hx, rfl⟩ := List.mem_map.1 ha
    simp only [List.map_cons, List.map_nil, List.mem_singleton] at hb
    exact getM_none.1 hg x hx (e.trans hb)
  · rw [List.map_append]
    refine List.nodup_append.2 ⟨h.born, by simp, fun a ha b hb e => ?_⟩
    obtain ⟨x, hx, rfl⟩ := List.mem_map.1 ha
    simp only [List.map_cons, List.map_nil, List.mem_singleton] at hb
    have := h.lt x hx
    omega
  · intro x hx
    rcases List.mem_append.1 hx with hx | hx
    · have := h.lt x hx; omega
    · rw [List.mem_singleton.1 hx]; exact Nat.lt_succ_self _
theorem setM_keys (E : List MapE) (q v : Sum32) : (setM E q v).map (·.k) = E.map (·.k) := by
  simp only [setM, List.map_map]
  exact List.map_congr_left fun x _ => by simp only [Function.comp]; split <;> rfl
theorem setM_born (E : List MapE) (q v : Sum32) : (setM E q v).map (·.born) = E.map (·.born) := by
  simp only [setM, List.map_map]
  exact List.map_congr_left fun x _ => by simp only [Function.comp]; split <;> rfl
theorem WfM.set {E : List MapE} {clock : Nat} {q v : Sum32} (h : WfM E clock) : WfM (setM E q v) clock := by
  refine ⟨by rw [setM_keys]; exact h.keys, by rw [setM_born]; exact h.born, fun x hx => ?_⟩
  have : x.born ∈ (setM E q v).map (·.born) := List.mem_map.2 ⟨x, hx, rfl⟩
  rw [setM_born] at this
  obtain ⟨y, hy, hb⟩ := List.mem_map.1 this
  rw [← hb]; exact h.lt y hy
theorem WfM.drop {E : List MapE} {clock : Nat} {q : Sum32} (h : WfM E clock) : WfM (dropM E q) clock :=
  ⟨h.keys.sublist (List.filter_sublist.map _), h.born.sublist (List.filter_sublist.map _), fun x hx => h.lt x (List.mem_filter.1 hx).1⟩
theorem getM_cases (E : List MapE) (q : Sum32) : getM E q = none ∨ ∃ v0, getM E q = some v0 := by
  cases h : getM E q with
  | none => exact .inl rfl
  | some v => exact .inr ⟨v, rfl⟩
/-- What a map is after a key was set. -/
def putM (E : List MapE) (clock : Nat) (q v : Sum32) : List MapE × Nat := if getM E q = none then (E ++ [⟨clock, q, v⟩], clock + 1) else (setM E q v, clock)
theorem putM_new {E : List MapE} {clock : Nat} {q v : Sum32} (h : getM E q = none) : putM E clock q v = (E ++ [⟨clock, q, v⟩], clock + 1) := by rw [putM, if_pos h]
theorem putM_old {E : List MapE} {clock : Nat} {q v v0 : Sum32} (h : getM E q = some v0) : putM E clock q v = (setM E q v, clock) := by rw [putM, if_neg (by rw [h]; simp)]
theorem St.own2 {w : World} {b c : Nat} {o p : Obj} (h1 : w.heap[b]? = some o) (h2 : w.heap[c]? = some p) (hne : b ≠ c) : St w [b, c] w [.blk b o, .blk c p] := by
  refine ⟨rfl, rfl, rfl, Nat.le_refl _, fun _ _ _ => rfl, ?_, by simpa [Item.id] using hne⟩
  intro x hx
  simp only [List.mem_cons, List.not_mem_nil, or_false] at hx
  rcases hx with rfl | rfl
  · exact ⟨h1, .inr (by simp)⟩
  · exact ⟨h2, .inr (by simp)⟩
theorem r_lenM {P : Program} {ρ : Operand → Value} {w : World} {dst : Option Tmp} {ty : TypeId} {pos : String} {aft : Array Edge} {g : Option (Nat × Bool)} {x : Operand} {T K E' : TypeId} {b clock : Nat} {E : List MapE} {tys : Array TypeId} (ht : tys = #[T]) (hT : P.underlying T = some (.map K E')) (hx : ρ x = .map (some b)) (hb : w.heap[b]? = some (mobj E clock)) (args : Array Operand) (ha : args = #[x]) :
    (execOp ρ ⟨dst, .call { callee := .builtin .len, args := args, argTypes := tys }, ty, pos, aft, g⟩).run P w = .ok (.value (vi E.length)) w := by
  subst ha; subst ht
  have hm : P.underlying T = some (.map (P.mapKeyOf T) (P.mapElemOf T)) := by unfold Program.mapKeyOf Program.mapElemOf; rw [hT]
  have h := run_len_map (P := P) w T ty b (E.map MapE.e).toArray clock hm hb
  simp [execOp, resolve, invoke, builtin, hx, h, goInt]
theorem done_lt {E done : List MapE} {e : MapE} (hn : done.Nodup) (hs : ∀ x ∈ done, x ∈ E) (he : e ∈ E) (hd : ¬ e ∈ done) : done.length < E.length := by
  have hn' : (done ++ [e]).Nodup := List.nodup_append.2 ⟨hn, by simp, fun a ha b hb h => by
    rw [List.mem_singleton.1 hb] at h
    exact hd (h ▸ ha)⟩
  have := nodup_len hn' (b := E) (fun x hx => by
    rcases List.mem_append.1 hx with hx | hx
    · exact hs x hx
    · rw [List.mem_singleton.1 hx]; exact he)
  rw [List.length_append, List.length_singleton] at this
  omega
theorem wf_nodup {E : List MapE} {clock : Nat} (h : WfM E clock) : E.Nodup := by
  refine List.pairwise_iff_getElem.2 fun i j hi hj hij e => ?_
  have := nodup_at h.born (i := i) (j := j) (by simpa using hi) (by simpa using hj) (by simp [e])
  omega
def keysM (E : List MapE) : List (List UInt8) := E.map fun x => x.k.1
theorem keysM_32 (E : List MapE) : S32 (keysM E) := by
  intro s hs
  obtain ⟨x, _, rfl⟩ := List.mem_map.1 hs
  exact x.k.2
theorem sortL_perm {a b : List (List UInt8)} (h : a.Perm b) : sortL a = sortL b := by
  refine List.Perm.eq_of_pairwise (le := fun x y => ¬ LtB y x) (fun x y _ _ h1 h2 => ?_) (sortL_sorted a) (sortL_sorted b) (((List.mergeSort_perm a _).trans h).trans (List.mergeSort_perm b _).symm)
  have s1 := cmp_swap x y
  simp only [LtB] at h1 h2
  exact cmp_eq0 (by omega)
theorem done_sort {E done : List MapE} {clock : Nat} (hwf : WfM E clock) (hn : done.Nodup) (hs : ∀ x ∈ done, x ∈ E) (ha : ∀ x ∈ E, x ∈ done) : sortL (keysM done) = sortL (keysM E) ∧ done.length = E.length := by
  have hp : done.Perm E := (List.perm_ext_iff_of_nodup hn (wf_nodup hwf)).2 fun x => ⟨hs x, ha x⟩
  exact ⟨sortL_perm (hp.map _), hp.length_eq⟩
end Go.Kw
