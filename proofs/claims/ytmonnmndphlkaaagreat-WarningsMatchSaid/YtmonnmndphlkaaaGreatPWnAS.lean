/- What the law's proof leans on. No condition. -/
import Derived.Test.YtmonnmndphlkaaaGreatPWnAR
import Derived.Test.YtmonnmndphlkaaaGreatPWnAN
import Derived.Maps.RangeRun
namespace Go.Kw
open Go.WideMaps
set_option linter.unusedVariables false
set_option linter.unusedSimpArgs false
/-- An entry: when it was born, its key, its value. -/
structure MB (α : Type) where
  born : Nat
  k : α
  v : Bool
  deriving DecidableEq
def MB.e {α : Type} (f : α → Value) (x : MB α) : MapEntry := { key := f x.k, val := .bool x.v, born := x.born }
def mobj {α : Type} (f : α → Value) (E : List (MB α)) (clock : Nat) : Obj := .map (E.map (MB.e f)).toArray clock
/-- What is known of plain keys. -/
structure KeyF {α : Type} (P : Program) (K : TypeId) (f : α → Value) : Prop where
  inj : ∀ x y, f x = f y → x = y
  check : ∀ (w : World) (em : Bool) (x : α), (Instr.checkKey em 10000 K (f x)).run P w = .ok () w
  find : ∀ (w : World) (q : α) (es : List MapEntry), (∀ e ∈ es, ∃ x, e.key = f x) → ((Instr.findKey K (f q) es).run P w = .ok none w ∧ ∀ e ∈ es, e.key ≠ f q) ∨ ∃ j e, (Instr.findKey K (f q) es).run P w = .ok (some (j, e.val)) w ∧ es[j]? = some e ∧ e.key = f q
  stays : ∀ (w : World) (x : α), (Instr.keyThatStays (f x) (f x)).run P w = .ok (f x) w
theorem KeyF.of {α : Type} {P : Program} {K : TypeId} {f : α → Value} {d : TypeDesc} (hK : P.underlying K = some d) (hk : ∀ x, MapKept.IsKey d (f x)) (hi : ∀ x y, f x = f y → x = y) (hs : ∀ (w : World) (x : α), (Instr.keyThatStays (f x) (f x)).run P w = .ok (f x) w) : KeyF P K f where
  inj := hi
  check := fun w em x => MapKept.run_checkKey (P := P) (w := w) hK (hk x) em 9999
  find := fun w q es he => by
    rcases MapKept.findNow_spec (hk q) es 0 (fun x hx => by obtain ⟨y, h⟩ := he x hx; rw [h]; exact hk y) with ⟨h1, h2⟩ | ⟨j, e, h1, h2, h3⟩
    · exact .inl ⟨MapKept.run_findKey (P := P) (w := w) hK h1, h2⟩
    · exact .inr ⟨j, e, MapKept.run_findKey (P := P) (w := w) hK (by rw [h1, Nat.zero_add]), h2, h3⟩
  stays := hs
theorem keyStr {P : Program} {K : TypeId} (hK : P.underlying K = some .string) : KeyF P K sv := .of hK (fun x => trivial) (fun x y h => sv_inj h) (fun w x => by
  have h : ((⟨x.toArray⟩ : ByteArray) == ⟨x.toArray⟩) = true := by show (x.toArray == x.toArray) = true; simp
  simp [Instr.keyThatStays, Instr.sameBits, h])
theorem keyInt {P : Program} {K : TypeId} (hK : P.underlying K = some (.int .i64)) : KeyF P K iv := .of hK (fun x => rfl) (fun x y h => iv_inj h) (fun w x => by simp [Instr.keyThatStays, Instr.sameBits])
structure WfM {α : Type} (E : List (MB α)) (clock : Nat) : Prop where
  keys : (E.map (·.k)).Nodup
  born : (E.map (·.born)).Nodup
  lt : ∀ x ∈ E, x.born < clock
section
variable {α : Type} [DecidableEq α]
def getM (E : List (MB α)) (q : α) : Option Bool := (E.find? fun x => decide (x.k = q)).map (·.v)
def setM (E : List (MB α)) (q : α) (v : Bool) : List (MB α) := E.map fun x => if x.k = q then ⟨x.born, x.k, v⟩ else x
def dropM (E : List (MB α)) (q : α) : List (MB α) := E.filter fun x => !decide (x.k = q)
end
theorem nodup_at {α : Type} {l : List α} (hn : l.Nodup) {i j : Nat} (hi : i < l.length) (hj : j < l.length) (h : l[i] = l[j]) : i = j := by
  rcases Nat.lt_trichotomy i j with g | g | g
  · exact absurd h (List.pairwise_iff_getElem.1 hn i j hi hj g)
  · exact g
  · exact absurd h.symm (List.pairwise_iff_getElem.1 hn j i hj hi g)
theorem getM_none {α : Type} [DecidableEq α] {E : List (MB α)} {q : α} : getM E q = none ↔ ∀ x ∈ E, ¬ x.k = q := by
  simp [getM, List.find?_eq_none]
theorem getM_at {α : Type} [DecidableEq α] {E : List (MB α)} {q : α} {j : Nat} {x : MB α} (hn : (E.map (·.k)).Nodup) (hj : E[j]? = some x) (hx : x.k = q) : getM E q = some x.v := by
  obtain ⟨hjl, hje⟩ := List.getElem?_eq_some_iff.1 hj
  cases h : getM E q with
  | none => exact absurd hx (getM_none.1 h x (hje ▸ List.getElem_mem hjl))
  | some v =>
    simp only [getM, Option.map_eq_some_iff] at h
    obtain ⟨y, hy, rfl⟩ := h
    have hyk := List.find?_some hy
    have hym := List.mem_of_find?_eq_some hy
    obtain ⟨i, hi, hie⟩ := List.mem_iff_getElem.1 hym
    have hkk : y.k = x.k := by rw [hx]; simpa using hyk
    have : i = j := by
      refine nodup_at hn (by simpa using hi) (by simpa using hjl) ?_
      simp [hie, hje, hkk]
    subst this
    rw [← hie, hje]
section
variable {α : Type} {f : α → Value} {P : Program} {ρ : Operand → Value} {w w0 : World} {M : List Nat} {L l1 l2 : List Item} {dst : Option Tmp} {ty : TypeId} {pos : String} {aft : Array Edge} {g : Option (Nat × Bool)} {x y z : Operand} {T T2 E' I K : TypeId} {k : IntKind}
  {d dE : TypeDesc} {sz bts b o : Nat} {zv : Value}
theorem findM (hK : KeyF P K f) (w : World) (E : List (MB α)) (q : α) :
    ((Instr.findKey K (f q) (E.map (MB.e f))).run P w = .ok none w ∧ ∀ x ∈ E, ¬ x.k = q) ∨ ∃ j x, (Instr.findKey K (f q) (E.map (MB.e f))).run P w = .ok (some (j, .bool x.v)) w ∧ E[j]? = some x ∧ x.k = q := by
  rcases hK.find w q (E.map (MB.e f)) (fun e he => by obtain ⟨x, _, rfl⟩ := List.mem_map.1 he; exact ⟨x.k, rfl⟩) with ⟨hf, hno⟩ | ⟨j, e, hf, hj, hkey⟩
  · exact .inl ⟨hf, fun x hx hq => hno (x.e f) (List.mem_map.2 ⟨x, hx, rfl⟩) (by rw [← hq]; rfl)⟩
  · rw [List.getElem?_map, Option.map_eq_some_iff] at hj
    obtain ⟨x, hx, rfl⟩ := hj
    exact .inr ⟨j, x, hf, hx, hK.inj _ _ hkey⟩
theorem x_mapNew [DecidableEq α] {E : List (MB α)} {clock : Nat} {q : α} {v : Bool} (l1 : List Item) {l2 : List Item} (hS : St w0 M w (l1 ++ .blk b (mobj f E clock) :: l2)) (hK : KeyF P K f) (hT : P.underlying T = some (.map K E')) (hx : ρ x = .map (some b)) (hy : ρ y = f q) (hz : ρ z = .bool v) (hg : getM E q = none) :
    ∃ w', (execOp ρ ⟨none, .mapUpdate T x y z, ty, pos, aft, g⟩).run P w = .ok .skip w' ∧ St w0 M w' (l1 ++ .blk b (mobj f (E ++ [⟨clock, q, v⟩]) (clock + 1)) :: l2) := by
  have hb : w.heap[b]? = some (mobj f E clock) := hS.heap (by simp)
  have hgo := MapKept.run_getObj_map (P := P) hb
  have hc := hK.check w false q
  rcases findM hK w E q with ⟨hf, hno⟩ | ⟨j, e, hf, hj, hk⟩
  · have hs := MapKept.run_setObj_map (P := P) (w := w) (mobj f (E ++ [⟨clock, q, v⟩]) (clock + 1)) hb
    have hset := MapKept.heap_set (o' := mobj f (E ++ [⟨clock, q, v⟩]) (clock + 1)) hb
    have he : mobj f (E ++ [⟨clock, q, v⟩]) (clock + 1) = .map ((E.map (MB.e f)).toArray.push { key := f q, val := .bool v, born := clock }) (clock + 1) := by
      simp [mobj, MB.e]
    rw [he] at hs
    refine ⟨{ w with heap := w.heap.setIfInBounds b (mobj f (E ++ [⟨clock, q, v⟩]) (clock + 1)) }, ?_, ?_⟩
    · rw [he]
      have hr : (Instr.mapUpdate T (.map (some b)) (f q) (.bool v)).run P w = .ok () { w with heap := w.heap.setIfInBounds b (.map ((E.map (MB.e f)).toArray.push { key := f q, val := .bool v, born := clock }) (clock + 1)) } := by
        unfold Instr.mapUpdate
        simp only [Sem.run_bind, run_underlying hT, Result.andThen_ok, hgo, mobj, hc]
        rw [hf]
        simp only [Result.andThen_ok]
        exact hs
      simp only [execOp, hx, hy, hz]
      rw [Sem.run_bind, hr]
      rfl
    · have hit := hS.has (.blk b (mobj f E clock)) (by simp)
      exact hS.turnAt rfl rfl rfl (by simp) (fun k' hk' hne => hset.2 k' (fun e => hne (by rw [e]; rfl))) ⟨hset.1, hit.2⟩ (fun k' hk' => .inl hk')
  · exact absurd hk (getM_none.1 hg e (List.mem_of_getElem? hj))
theorem setM_at [DecidableEq α] {E : List (MB α)} {q : α} {v : Bool} {j : Nat} {x : MB α} (hn : (E.map (·.k)).Nodup) (hj : E[j]? = some x) (hx : x.k = q) : E.modify j (fun y => ⟨y.born, y.k, v⟩) = setM E q v := by
  obtain ⟨hjl, hje⟩ := List.getElem?_eq_some_iff.1 hj
  apply List.ext_getElem
  · simp [setM]
  · intro i h1 h2
    have hi : i < E.length := by simpa using h1
    simp only [setM, List.getElem_map, List.getElem_modify]
    by_cases hij : j = i
    · subst hij
      rw [if_pos rfl, hje, if_pos hx]
    · rw [if_neg hij, if_neg]
      intro hk
      exact hij (nodup_at hn (by simpa using hjl) (by simpa using hi) (by simp [hje, hx, hk]))
/-- A key that is there. -/
theorem x_mapOld [DecidableEq α] {E : List (MB α)} {clock : Nat} {q : α} {v v0 : Bool} (l1 : List Item) {l2 : List Item} (hS : St w0 M w (l1 ++ .blk b (mobj f E clock) :: l2)) (hK : KeyF P K f) (hwf : WfM E clock) (hT : P.underlying T = some (.map K E')) (hx : ρ x = .map (some b)) (hy : ρ y = f q) (hz : ρ z = .bool v) (hg : getM E q = some v0) :
    ∃ w', (execOp ρ ⟨none, .mapUpdate T x y z, ty, pos, aft, g⟩).run P w = .ok .skip w' ∧ St w0 M w' (l1 ++ .blk b (mobj f (setM E q v) clock) :: l2) := by
  have hb : w.heap[b]? = some (mobj f E clock) := hS.heap (by simp)
  have hgo := MapKept.run_getObj_map (P := P) hb
  have hc := hK.check w false q
  rcases findM hK w E q with ⟨hf, hno⟩ | ⟨j, e, hf, hj, hk⟩
  · rw [getM_none.2 hno] at hg; cases hg
  · have hs := MapKept.run_setObj_map (P := P) (w := w) (mobj f (setM E q v) clock) hb
    have hset := MapKept.heap_set (o' := mobj f (setM E q v) clock) hb
    have hst := hK.stays w q
    have hget : (((E.map (MB.e f)).toArray[j]?).map (·.key)).getD (f q) = f q := by
      simp [hj, MB.e, hk]
    have hmod : (E.map (MB.e f)).toArray.modify j (fun e => { e with key := f q, val := .bool v }) = ((setM E q v).map (MB.e f)).toArray := by
      rw [← setM_at (v := v) hwf.keys hj hk]
      apply Array.ext'
      rw [Array.toList_modify]
      obtain ⟨hjl, hje⟩ := List.getElem?_eq_some_iff.1 hj
      apply List.ext_getElem
      · simp
      · intro i h1 h2
        simp only [List.getElem_map, List.getElem_modify]
        by_cases hij : j = i
        · subst hij
          simp [MB.e, hje, hk]
        · simp [hij]
    refine ⟨{ w with heap := w.heap.setIfInBounds b (mobj f (setM E q v) clock) }, ?_, ?_⟩
    · have hr : (Instr.mapUpdate T (.map (some b)) (f q) (.bool v)).run P w = .ok () { w with heap := w.heap.setIfInBounds b (mobj f (setM E q v) clock) } := by
        unfold Instr.mapUpdate
        simp only [Sem.run_bind, run_underlying hT, Result.andThen_ok, hgo, mobj, hc]
        rw [hf]
        simp only [Result.andThen_ok, Sem.run_bind]
        rw [hget, hst]
        simp only [Result.andThen_ok]
        rw [hmod]
        exact hs
      simp only [execOp, hx, hy, hz]
      rw [Sem.run_bind, hr]
      rfl
    · have hit := hS.has (.blk b (mobj f E clock)) (by simp)
      exact hS.turnAt rfl rfl rfl (by simp) (fun k' hk' hne => hset.2 k' (fun e => hne (by rw [e]; rfl))) ⟨hset.1, hit.2⟩ (fun k' hk' => .inl hk')
def iterO (b clock : Nat) (done : List (MB α)) : Obj := .mapIter (some b) clock (done.map MB.born).toArray clock
theorem x_range {E : List (MB α)} {clock : Nat} (hS : St w0 M w L) (hT : P.underlying T = some (.map K E')) (hx : ρ x = .map (some b)) (hb : w.heap[b]? = some (mobj f E clock)) :
    ∃ v w', (execOp ρ ⟨dst, .range T x, ty, pos, aft, g⟩).run P w = .ok (.value v) w' ∧ ∃ r, v = pt r 0 ∧ St w0 M w' (.blk r (iterO b clock ([] : List (MB α))) :: L) := by
  have hgo := MapKept.run_getObj_map (P := P) hb
  refine ⟨pt w.heap.size 0, w.alloc (iterO b clock ([] : List (MB α))), ?_, w.heap.size, rfl, hS.alloc _⟩
  simp [execOp, Instr.range, hx, run_underlying hT, hgo, mobj, iterO]
theorem born_inj {E : List (MB α)} {clock : Nat} (hwf : WfM E clock) {x y : MB α} (hx : x ∈ E) (hy : y ∈ E) (h : x.born = y.born) : x = y := by
  obtain ⟨i, hi, rfl⟩ := List.mem_iff_getElem.1 hx
  obtain ⟨j, hj, rfl⟩ := List.mem_iff_getElem.1 hy
  have : i = j := nodup_at hwf.born (by simpa using hi) (by simpa using hj) (by simpa using h)
  subst this; rfl
theorem x_next {E E0 done : List (MB α)} {clock r : Nat} (l1 : List Item) {l2 : List Item} (hS : St w0 M w (l1 ++ .blk r (iterO b clock done) :: l2)) (hwf : WfM E0 clock) (hE : ∀ e ∈ E, e ∈ E0) (hx : ρ x = pt r 0) (hb : w.heap[b]? = some (mobj f E clock)) (hsub : ∀ e ∈ done, e ∈ E0) :
    ∃ v w', (execOp ρ ⟨dst, .next x false, ty, pos, aft, g⟩).run P w = .ok (.value v) w' ∧ ((v = .tuple #[.bool false] ∧ (∀ e ∈ E, e ∈ done) ∧ St w0 M w' (l1 ++ .blk r (iterO b clock done) :: l2)) ∨
      ∃ e, e ∈ E ∧ ¬ e ∈ done ∧ v = .tuple #[.bool true, f e.k, .bool e.v] ∧ St w0 M w' (l1 ++ .blk r (iterO b clock (done ++ [e])) :: l2)) := by
  have hr : w.heap[r]? = some (iterO b clock done) := hS.heap (by simp)
  have hold : ∀ x ∈ (E.map (MB.e f)).toArray.toList, x.born < clock := by
    intro x hx
    simp only [List.mem_map] at hx
    obtain ⟨y, hy, rfl⟩ := hx
    exact hwf.lt y (hE y hy)
  have hseen : ∀ e ∈ E, ((done.map MB.born).toArray.contains e.born = true ↔ e ∈ done) := by
    intro e he
    rw [Array.contains_iff_mem, List.mem_toArray, List.mem_map]
    exact ⟨fun ⟨y, hy, h⟩ => born_inj hwf (hsub y hy) (hE e he) h ▸ hy, fun h => ⟨e, h, rfl⟩⟩
  rcases run_next_at (P := P) w ty r b clock clock (done.map MB.born).toArray (E.map (MB.e f)).toArray clock hr hb hold (Nat.le_refl _) with ⟨h0, hrun⟩ | ⟨e, he, w1, hw1, hrun⟩
  · refine ⟨.tuple #[.bool false], w, by simp [execOp, hx, hrun], .inl ⟨rfl, fun e he => ?_, hS⟩⟩
    have hl : (leftOf (E.map (MB.e f)).toArray (done.map MB.born).toArray) = #[] := Array.eq_empty_of_size_eq_zero h0
    refine (hseen e he).1 ?_
    cases hc : (done.map MB.born).toArray.contains e.born with
    | true => rfl
    | false =>
      have hm : (e.e f) ∈ leftOf (E.map (MB.e f)).toArray (done.map MB.born).toArray := by
        unfold leftOf
        rw [Array.mem_filter]
        exact ⟨by simpa using ⟨e, he, rfl⟩, by simpa [MB.e] using hc⟩
      rw [hl] at hm
      simp at hm
  · have he' : e ∈ leftOf (E.map (MB.e f)).toArray (done.map MB.born).toArray := by simpa using he
    unfold leftOf at he'
    rw [Array.mem_filter] at he'
    obtain ⟨h1, h2⟩ := he'
    simp only [List.mem_toArray, List.mem_map] at h1
    obtain ⟨y, hy, rfl⟩ := h1
    have hnd : ¬ y ∈ done := fun h => by
      have := (hseen y hy).2 h
      rw [show (y.e f).born = y.born from rfl, this] at h2
      simp at h2
    have hpush : (Obj.mapIter (some b) clock ((done.map MB.born).toArray.push (y.e f).born) clock) = iterO b clock (done ++ [y]) := by simp [iterO, MB.e]
    have hrun' : (Instr.next (pt r 0) false ty).run P w = .ok (.tuple #[.bool true, f y.k, .bool y.v]) (Go.ChangeMaps.setBlock w1 r (iterO b clock (done ++ [y]))) := by rw [← hpush]; exact hrun
    refine ⟨.tuple #[.bool true, f y.k, .bool y.v], Go.ChangeMaps.setBlock w1 r (iterO b clock (done ++ [y])), by simp [execOp, hx, hrun'], .inr ⟨y, hy, hnd, rfl, ?_⟩⟩
    have hset := MapKept.heap_set (o' := iterO b clock (done ++ [y])) hr
    rcases hw1 with rfl | rfl
    · have hit := hS.has (.blk r (iterO b clock done)) (by simp)
      exact hS.turnAt rfl rfl rfl (by simp [Go.ChangeMaps.setBlock]) (fun k' hk' hne => hset.2 k' (fun e => hne (by rw [e]; rfl))) ⟨hset.1, hit.2⟩ (fun k' hk' => .inl hk')
    · have hS' := hS.drew
      have hit := hS'.has (.blk r (iterO b clock done)) (by simp)
      exact hS'.turnAt rfl rfl rfl (by simp [Go.ChangeMaps.setBlock]) (fun k' hk' hne => hset.2 k' (fun e => hne (by rw [e]; rfl))) ⟨hset.1, hit.2⟩ (fun k' hk' => .inl hk')
theorem dropM_at [DecidableEq α] {E : List (MB α)} {q : α} : ∀ {j : Nat} {x : MB α}, (E.map (·.k)).Nodup → E[j]? = some x → x.k = q → E.eraseIdx j = dropM E q := by
  induction E with
  | nil => intro j x _ h; simp at h
  | cons y E ih =>
    intro j x hn hj hx
    have hn' := List.nodup_cons.1 (show (y.k :: E.map (·.k)).Nodup from hn)
    cases j with
    | zero =>
      simp only [List.getElem?_cons_zero, Option.some.injEq] at hj
      subst hj
      have : dropM (y :: E) q = dropM E q := by simp [dropM, hx]
      rw [this, List.eraseIdx_cons_zero, dropM, List.filter_eq_self.2]
      intro z hz
      have : ¬ z.k = q := fun h => hn'.1 (List.mem_map.2 ⟨z, hz, by rw [h, hx]⟩)
      simp [this]
    | succ j =>
      simp only [List.getElem?_cons_succ] at hj
      have hne : ¬ y.k = q := fun h => hn'.1 (List.mem_map.2 ⟨x, List.mem_of_getElem? hj, by rw [h, hx]⟩)
      have : dropM (y :: E) q = y :: dropM E q := by simp [dropM, hne]
      rw [this, List.eraseIdx_cons_succ, ih hn'.2 hj hx]
theorem x_mapDel [DecidableEq α] {E : List (MB α)} {clock : Nat} {q : α} {v0 : Bool} {tys : Array TypeId} (l1 : List Item) {l2 : List Item} (hS : St w0 M w (l1 ++ .blk b (mobj f E clock) :: l2)) (hK : KeyF P K f) (hwf : WfM E clock) (ht : tys[0]? = some T) (hT : P.underlying T = some (.map K E')) (hx : ρ x = .map (some b)) (hy : ρ y = f q) (hg : getM E q = some v0) (args : Array Operand) (ha : args = #[x, y]) :
    ∃ v w', (execOp ρ ⟨dst, .call { callee := .builtin .delete, args := args, argTypes := tys }, ty, pos, aft, g⟩).run P w = .ok (.value v) w' ∧ v = .tuple #[] ∧ St w0 M w' (l1 ++ .blk b (mobj f (dropM E q) clock) :: l2) := by
  subst ha
  have hb : w.heap[b]? = some (mobj f E clock) := hS.heap (by simp)
  have hgo := MapKept.run_getObj_map (P := P) hb
  have hc := fun em => hK.check w em q
  rcases findM hK w E q with ⟨hf, hno⟩ | ⟨j, e, hf, hj, hk⟩
  · rw [getM_none.2 hno] at hg; cases hg
  · have hs := MapKept.run_setObj_map (P := P) (w := w) (mobj f (dropM E q) clock) hb
    have hset := MapKept.heap_set (o' := mobj f (dropM E q) clock) hb
    have hdel : (E.map (MB.e f)).toArray.eraseIdxIfInBounds j = ((dropM E q).map (MB.e f)).toArray := by
      rw [← dropM_at hwf.keys hj hk]
      obtain ⟨hjl, hje⟩ := List.getElem?_eq_some_iff.1 hj
      apply Array.ext'
      rw [Go.ChangeMaps.map_eraseIdx]
      simp [Array.eraseIdxIfInBounds, hjl]
    refine ⟨.tuple #[], { w with heap := w.heap.setIfInBounds b (mobj f (dropM E q) clock) }, ?_, rfl, ?_⟩
    · have hr : (Builtin.delete_ tys ty #[.map (some b), f q]).run P w = .ok (.tuple #[]) { w with heap := w.heap.setIfInBounds b (mobj f (dropM E q) clock) } := by
        unfold Builtin.delete_
        rw [ht]
        simp only [Sem.run_bind, run_underlying hT, Result.andThen_ok, hgo, mobj, hc, List.getElem?_toArray, List.getElem?_cons_zero, List.getElem?_cons_succ]
        rw [hf]
        simp only [Result.andThen_ok, Sem.run_bind]
        rw [hdel]
        rw [show (setObj b (.map ((dropM E q).map (MB.e f)).toArray clock)).run P w = .ok () _ from hs]
        rfl
      simp only [execOp, resolve, hx, hy, List.map_toArray, List.map_cons, List.map_nil, invoke, builtin, Sem.run_bind, Sem.run_pure, Result.andThen_ok, hr]
    · have hit := hS.has (.blk b (mobj f E clock)) (by simp)
      exact hS.turnAt rfl rfl rfl (by simp) (fun k' hk' hne => hset.2 k' (fun e => hne (by rw [e]; rfl))) ⟨hset.1, hit.2⟩ (fun k' hk' => .inl hk')
theorem r_entry {E done : List (MB α)} {clock r : Nat} {e : MB α} (hwf : WfM E clock) (hx : ρ x = pt r 0) (hr : w.heap[r]? = some (iterO b clock (done ++ [e]))) (hb : w.heap[b]? = some (mobj f E clock)) (he : e ∈ E) :
    (execOp ρ ⟨dst, .entry x, ty, pos, aft, g⟩).run P w = .ok (.value (.tuple #[f e.k, .bool e.v])) w := by
  have hr' : w.heap[r]? = some (.mapIter (some b) clock ((done.map MB.born).toArray.push (e.e f).born) clock) := by rw [hr]; simp [iterO, MB.e]
  have hn : ((E.map (MB.e f)).toArray.toList.map (·.born)).Nodup := by
    have := hwf.born
    simpa [List.map_map, Function.comp_def, MB.e] using this
  have h := run_entry_at (P := P) w r b clock (done.map MB.born).toArray (E.map (MB.e f)).toArray clock (e.e f) hr' hb (by simpa using ⟨e, he, rfl⟩) hn
  simp [execOp, hx, h]
  exact ⟨rfl, rfl⟩
end
theorem WfM.nil {α : Type} : WfM ([] : List (MB α)) 0 := ⟨List.nodup_nil, List.nodup_nil, fun x h => by cases h⟩
theorem WfM.new {α : Type} [DecidableEq α] {E : List (MB α)} {clock : Nat} {q : α} {v : Bool} (h : WfM E clock) (hg : getM E q = none) : WfM (E ++ [⟨clock, q, v⟩]) (clock + 1) := by
  refine ⟨?_, ?_, ?_⟩
  · rw [List.map_append]
    refine List.nodup_append.2 ⟨h.keys, by simp, fun a ha b hb e => ?_⟩
    obtain ⟨x, hx, rfl⟩ := List.mem_map.1 ha
    simp only [List.map_cons, List.map_nil, List.mem_singleton] at hb
    exact getM_none.1 hg x hx (e.trans hb)
  · rw [List.map_append]
    refine List.nodup_append.2 ⟨h.born, by simp, fun a ha b hb e => ?_⟩
    obtain ⟨x, hx, rfl⟩ := List.mem_map.1 ha
    simp only [List.map_cons, List.map_nil, List.mem_singleton] at hb
    have := h.lt x hx
    omega
  · intro x hx
    rcases List.mem_append.1 hx with hx | hx
    · have := h.lt x hx; omega
    · rw [List.mem_singleton.1 hx]; exact Nat.lt_succ_self _
theorem setM_keys {α : Type} [DecidableEq α] (E : List (MB α)) (q : α) (v : Bool) : (setM E q v).map (·.k) = E.map (·.k) := by
  simp only [setM, List.map_map]
  exact List.map_congr_left fun x _ => by simp only [Function.comp]; split <;> rfl
theorem setM_born {α : Type} [DecidableEq α] (E : List (MB α)) (q : α) (v : Bool) : (setM E q v).map (·.born) = E.map (·.born) := by
  simp only [setM, List.map_map]
  exact List.map_congr_left fun x _ => by simp only [Function.comp]; split <;> rfl
theorem WfM.set {α : Type} [DecidableEq α] {E : List (MB α)} {clock : Nat} {q : α} {v : Bool} (h : WfM E clock) : WfM (setM E q v) clock := by
  refine ⟨by rw [setM_keys]; exact h.keys, by rw [setM_born]; exact h.born, fun x hx => ?_⟩
  have : x.born ∈ (setM E q v).map (·.born) := List.mem_map.2 ⟨x, hx, rfl⟩
  rw [setM_born] at this
  obtain ⟨y, hy, hb⟩ := List.mem_map.1 this
  rw [← hb]; exact h.lt y hy
theorem WfM.drop {α : Type} [DecidableEq α] {E : List (MB α)} {clock : Nat} {q : α} (h : WfM E clock) : WfM (dropM E q) clock :=
  ⟨h.keys.sublist (List.filter_sublist.map _), h.born.sublist (List.filter_sublist.map _), fun x hx => h.lt x (List.mem_filter.1 hx).1⟩
theorem getM_cases {α : Type} [DecidableEq α] (E : List (MB α)) (q : α) : getM E q = none ∨ ∃ v0, getM E q = some v0 := by
  cases h : getM E q with
  | none => exact .inl rfl
  | some v => exact .inr ⟨v, rfl⟩
/-- What a map is after a key was set. -/
def putM {α : Type} [DecidableEq α] (E : List (MB α)) (clock : Nat) (q : α) (v : Bool) : List (MB α) × Nat := if getM E q = none then (E ++ [⟨clock, q, v⟩], clock + 1) else (setM E q v, clock)
theorem putM_new {α : Type} [DecidableEq α] {E : List (MB α)} {clock : Nat} {q : α} {v : Bool} (h : getM E q = none) : putM E clock q v = (E ++ [⟨clock, q, v⟩], clock + 1) := by rw [putM, if_pos h]
theorem putM_old {α : Type} [DecidableEq α] {E : List (MB α)} {clock : Nat} {q : α} {v v0 : Bool} (h : getM E q = some v0) : putM E clock q v = (setM E q v, clock) := by rw [putM, if_neg (by rw [h]; simp)]
theorem nodup_lenB {α : Type} [BEq α] [LawfulBEq α] : ∀ {a b : List α}, a.Nodup → (∀ x, x ∈ a → x ∈ b) → a.length ≤ b.length
  | [], b, _, _ => Nat.zero_le _
  | x :: a, b, hn, h => by
    have hx := h x (by simp)
    have ih := nodup_lenB (a := a) (b := b.erase x) (List.nodup_cons.1 hn).2 (fun y hy => by
      have hne : y ≠ x := fun e => (List.nodup_cons.1 hn).1 (e ▸ hy)
      exact (List.mem_erase_of_ne hne).2 (h y (by simp [hy])))
    rw [List.length_erase_of_mem hx] at ih
    have := List.length_pos_of_mem hx
    rw [List.length_cons]; omega
theorem done_lt {α : Type} [DecidableEq α] {E done : List (MB α)} {e : MB α} (hn : done.Nodup) (hs : ∀ x ∈ done, x ∈ E) (he : e ∈ E) (hd : ¬ e ∈ done) : done.length < E.length := by
  have hn' : (done ++ [e]).Nodup := List.nodup_append.2 ⟨hn, by simp, fun a ha b hb h => by
    rw [List.mem_singleton.1 hb] at h
    exact hd (h ▸ ha)⟩
  have := nodup_lenB hn' (b := E) (fun x hx => by
    rcases List.mem_append.1 hx with hx | hx
    · exact hs x hx
    · rw [List.mem_singleton.1 hx]; exact he)
  rw [List.length_append, List.length_singleton] at this
  omega
theorem wf_nodup {α : Type} {E : List (MB α)} {clock : Nat} (h : WfM E clock) : E.Nodup := by
  refine List.pairwise_iff_getElem.2 fun i j hi hj hij e => ?_
  have := nodup_at h.born (i := i) (j := j) (by simpa using hi) (by simpa using hj) (by simp [e])
  omega
end Go.Kw
