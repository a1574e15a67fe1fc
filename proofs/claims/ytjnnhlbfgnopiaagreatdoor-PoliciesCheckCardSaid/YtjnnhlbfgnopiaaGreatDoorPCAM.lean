/- What the law's proof leans on. No condition. -/
import Derived.Test.YtjnnhlbfgnopiaaGreatDoorPCAF
import Derived.Test.YtjnnhlbfgnopiaaGreatDoorPCAG
import Derived.Laws.StructEq
section
namespace Go.Kw
open Go.WideShapes
set_option linter.unusedVariables false
set_option linter.unusedSimpArgs false

theorem bseq (s : ByteArray) : s = ⟨s.data.toList.toArray⟩ := by cases s; simp
/-- Whatever reads as data of type t in w is f of something of which R holds. -/
def Opens (P : Program) (w : World) (t : TypeId) {α : Type} (f : α → List Value) (R : α → Prop) : Prop :=
  ∀ (H : Type) (enc : TypeId × Value → H) (fuel : Nat) (cs : List Value) (x : DataW H × List MemPlace), DataW.trod enc P w 0 (fun _ => true) true fuel t cs = some x → (∀ n ∈ x.1.weights P t, n ≤ reachBytes) → ∃ y, cs = f y ∧ R y
section
variable {P : Program} {w : World} {t e : TypeId}

theorem Opens.to {α β : Type} {f : α → List Value} {R : α → Prop} {f' : β → List Value} {R' : β → Prop} (h : Opens P w t f R) (g : α → β) (hf : ∀ y, f y = f' (g y)) (hR : ∀ y, R y → R' (g y)) : Opens P w t f' R' := by
  intro H enc fuel cs x hx hw
  obtain ⟨y, h1, h2⟩ := h H enc fuel cs x hx hw
  exact ⟨g y, h1.trans (hf y), hR y h2⟩

theorem opens_i64 (ht : P.underlying t = some (.int .i64)) : Opens P w t (fun b : Int => [.int .i64 b]) (fun b => -9223372036854775808 ≤ b ∧ b ≤ 9223372036854775807) := by
  intro H enc fuel cs x hx _
  obtain ⟨n, rfl, _, h⟩ := DataW.trod_int ht hx
  exact ⟨n, rfl, i64_of_wf h⟩
theorem opens_bool (ht : P.underlying t = some .bool) : Opens P w t (fun b : Bool => [.bool b]) (fun _ => True) := by
  intro H enc fuel cs x hx _
  obtain ⟨b, rfl, _⟩ := DataW.trod_bool ht hx
  exact ⟨b, rfl, trivial⟩
theorem opens_str (ht : P.underlying t = some .string) : Opens P w t (fun s : List UInt8 => [.string ⟨s.toArray⟩]) (fun s => s.length ≤ 140737488351232) := by
  intro H enc fuel cs x hx hw
  obtain ⟨s, rfl, rfl, _⟩ := DataW.trod_string ht hx
  refine ⟨s.data.toList, congrArg (fun u => [Value.string u]) (bseq s), ?_⟩
  have := hw s.data.toList.length (by simp [DataW.weights])
  simpa [reachBytes] using this
theorem weightsAll_mem {H : Type} {P : Program} {e : TypeId} : ∀ {l : List (DataW H)} {d : DataW H}, d ∈ l → ∀ n ∈ d.weights P e, n ∈ DataW.weightsAll P e l
  | d' :: r, d, hd, n, hn => by
    simp only [DataW.weightsAll, List.mem_append]
    rcases List.mem_cons.1 hd with rfl | h
    · exact Or.inl hn
    · exact Or.inr (weightsAll_mem h n hn)

theorem flatM_get {α : Type} {f : α → List Value} {sz : Nat} (hf : ∀ x, (f x).length = sz) : ∀ (l : List α) (i j : Nat) (y : α), l[i]? = some y → j < sz → (l.flatMap f)[i * sz + j]? = (f y)[j]?
  | [], i, j, y, h, _ => by simp at h
  | a :: l, 0, j, y, h, hj => by
    simp only [List.getElem?_cons_zero, Option.some.injEq] at h
    subst h
    rw [List.flatMap_cons, Nat.zero_mul, Nat.zero_add, List.getElem?_append_left (by rw [hf]; exact hj)]
  | a :: l, i + 1, j, y, h, hj => by
    simp only [List.getElem?_cons_succ] at h
    rw [List.flatMap_cons, List.getElem?_append_right (by rw [hf, Nat.succ_mul]; omega), hf, Nat.succ_mul]
    rw [show i * sz + sz + j - sz = i * sz + j by omega]
    exact flatM_get hf l i j y h hj
theorem flatM_len {α : Type} {f : α → List Value} {sz : Nat} (hf : ∀ x, (f x).length = sz) (l : List α) : (l.flatMap f).length = l.length * sz := by
  induction l with
  | nil => simp
  | cons a l ih => rw [List.flatMap_cons, List.length_append, ih, hf, List.length_cons, Nat.succ_mul]; omega

/-- A slice of whatever opens. -/
theorem opens_slice {α : Type} {f : α → List Value} {R : α → Prop} {sz bts : Nat} (hu : P.underlying t = some (.slice e)) (hc : P.cellsOf e = sz) (hz : 0 < sz) (hby : P.bytesOf e = bts) (hf : ∀ x, (f x).length = sz) (h : Opens P w e f R) :
    Opens P w t (fun s : Sl α => [s.v]) (fun s => Row w s.a (s.xs.flatMap f) ∧ s.xs.length ≤ s.c ∧ s.c * bts ≤ 140737488351232 ∧ ∀ x ∈ s.xs, R x) := by
  intro H enc fuel cs x hx hw
  rcases DataW.trod_slice hu hx with ⟨hcs, _⟩ | ⟨a', len, cap, elems, rest, n, _, hcs, hxe, hb, hl, hm, hel, hget, hrest, _⟩
  · exact ⟨⟨none, 0, []⟩, by rw [hcs]; rfl, Row.nil, Nat.le_refl _, by simp, by simp⟩
  · have hr := (hrest rfl).1
    subst hxe
    have hw0 := hw ((elems.length + rest.length) * P.bytesOf e) (by simp [DataW.weights, hu])
    rw [hel, hr, hby, show len + (cap - len) = cap by omega] at hw0
    have hcell : ∀ i, i < len → ∃ y : α, R y ∧ w.cells? 0 (a'.add (i * sz)) sz = some (f y) := by
      intro i hi
      have h1 := hget i hi
      rw [List.getElem?_eq_getElem (by omega), hc] at h1
      obtain ⟨cs', h2, h3⟩ := Option.bind_eq_some_iff.1 h1
      obtain ⟨y, h4, h5⟩ := h H enc n cs' _ h3 (by
        intro m hm
        refine hw m ?_
        simp only [DataW.weights, hu, List.mem_cons, List.mem_append]
        exact .inr (.inl (weightsAll_mem (List.mem_map.2 ⟨_, List.getElem_mem (by omega), rfl⟩) m hm)))
      exact ⟨y, h5, by rw [h2, h4]⟩
    by_cases h0 : len = 0
    · subst h0
      exact ⟨⟨some a', cap, []⟩, by rw [hcs]; rfl, Row.nil, Nat.zero_le _, hw0, by simp⟩
    · obtain ⟨y0, _, hy0⟩ := hcell 0 (by omega)
      have hsome : ∀ i, i < len → ∀ j, j < sz → ∃ y : α, R y ∧ w.cells? 0 (a'.add (i * sz)) sz = some (f y) ∧ w.cell? ((a'.add (i * sz)).add j) = (f y)[j]? := by
        intro i hi j hj
        obtain ⟨y, h1, h2⟩ := hcell i hi
        exact ⟨y, h1, h2, (World.cells?_some h2).2.2 j hj⟩
      obtain ⟨b, off, spot⟩ := a'
      have hspot : spot = none := by
        obtain ⟨y, _, _, hx⟩ := hsome 0 (by omega) 0 hz
        rw [List.getElem?_eq_getElem (by rw [hf]; exact hz)] at hx
        simpa [Addr.add] using World.cell?_spot hx
      subst hspot
      let ys : List α := (List.range len).map fun i => if h : i < len then (hcell i h).choose else y0
      have hyl : ys.length = len := by simp [ys]
      have hyi : ∀ i (hi : i < len), ys[i]? = some (hcell i hi).choose := by intro i hi; simp [ys, hi]
      refine ⟨⟨_, cap, ys⟩, by rw [hcs]; simp only [Sl.v, hyl], Row.of_at (b := b) (off := off) ?_, by simp only [hyl]; exact hl, hw0, ?_⟩
      · intro i v hv
        have hil : i < len * sz := by
          have := (List.getElem?_eq_some_iff.1 hv).1
          rwa [flatM_len hf, hyl] at this
        have hq : i / sz < len := Nat.div_lt_of_lt_mul (by rw [Nat.mul_comm]; exact hil)
        have hr' : i % sz < sz := Nat.mod_lt _ hz
        have e : i = i / sz * sz + i % sz := by rw [Nat.mul_comm]; exact (Nat.div_add_mod i sz).symm
        have h1 := (hcell _ hq).choose_spec.2
        have h2 := (World.cells?_some h1).2.2 _ hr'
        have e2 := flatM_get hf ys _ _ _ (hyi _ hq) hr'
        rw [← e] at e2
        rw [e2, ← h2, add_lit, add_lit, Nat.add_assoc, ← e] at hv
        exact hv
      · intro y hy
        obtain ⟨i, hi, rfl⟩ := List.mem_map.1 hy
        have hi' : i < len := by simpa using hi
        simp only [hi', ↓reduceDIte]
        exact (hcell i hi').choose_spec.1

theorem flatM_one {α : Type} (g : α → Value) (l : List α) : l.flatMap (fun x => [g x]) = l.map g := by
  induction l with
  | nil => rfl
  | cons a l ih => rw [List.flatMap_cons, ih]; rfl
/-- A slice of single cells. -/
theorem opens_slice1 {α : Type} {g : α → Value} {R : α → Prop} {bts : Nat} (hu : P.underlying t = some (.slice e)) (hc : P.cellsOf e = 1) (hby : P.bytesOf e = bts) (h : Opens P w e (fun x => [g x]) R) :
    Opens P w t (fun s : Sl α => [s.v]) (fun s => Row w s.a (s.xs.map g) ∧ s.xs.length ≤ s.c ∧ s.c * bts ≤ 140737488351232 ∧ ∀ x ∈ s.xs, R x) :=
  (opens_slice hu hc (by decide) hby (fun _ => rfl) h).to id (fun _ => rfl) (fun y hy => by rw [flatM_one] at hy; exact hy)
/-- Fields from a place on. -/
def OpensFs (P : Program) (w : World) (off : Nat) (fs : List Field) {α : Type} (f : α → List Value) (R : α → Prop) : Prop :=
  ∀ (H : Type) (enc : TypeId × Value → H) (fuel : Nat) (cs : List Value) (xs : List (DataW H × List MemPlace)), xs.length = fs.length → cs.length = (fs.map fun f : Field => P.cellsOf f.type).sum → (∀ (i : Nat) (fd : Field), fs[i]? = some fd → DataW.trod enc P w 0 (fun _ => true) true fuel fd.type ((cs.drop (fd.offset - off)).take (P.cellsOf fd.type)) = xs[i]?) →
    (∀ n ∈ DataW.weightsEach P (fs.map (·.type)) (xs.map (·.1)), n ≤ reachBytes) → (∀ fd : Field, fd ∈ fs → off ≤ fd.offset) → ∃ y, cs = f y ∧ R y
theorem opensFs_nil {off : Nat} : OpensFs P w off [] (fun _ : Unit => []) (fun _ => True) := by
  intro H enc fuel cs xs _ hl _ _ _
  exact ⟨(), List.eq_nil_of_length_eq_zero (by simpa using hl), trivial⟩
theorem opensFs_cons {α β : Type} {f1 : α → List Value} {R1 : α → Prop} {f2 : β → List Value} {R2 : β → Prop} {off sz : Nat} {fd : Field} {fs : List Field} (h1 : Opens P w fd.type f1 R1) (ho : fd.offset = off) (hs : P.cellsOf fd.type = sz) (h2 : OpensFs P w (off + sz) fs f2 R2)
    (hoff : ∀ g ∈ fs, off + sz ≤ g.offset) : OpensFs P w off (fd :: fs) (fun y : α × β => f1 y.1 ++ f2 y.2) (fun y => R1 y.1 ∧ R2 y.2) := by
  intro H enc fuel cs xs hxl hl hg hw _
  match xs, hxl with
  | x :: xs, hxl =>
    have g0 := hg 0 fd rfl
    rw [ho, Nat.sub_self, List.drop_zero, List.getElem?_cons_zero, hs] at g0
    simp only [List.map_cons, DataW.weightsEach, List.mem_append] at hw
    obtain ⟨y1, e1, r1⟩ := h1 H enc fuel _ x g0 (fun n hn => hw n (.inl hn))
    simp only [List.map_cons, List.sum_cons, hs] at hl
    obtain ⟨y2, e2, r2⟩ := h2 H enc fuel (cs.drop sz) xs (by simpa using hxl) (by rw [List.length_drop, hl]; omega) (fun i g hgi => by
      have := hg (i + 1) g (by simpa using hgi)
      have hm := hoff g (List.mem_of_getElem? hgi)
      rw [List.drop_drop, show sz + (g.offset - (off + sz)) = g.offset - off by omega]
      simpa using this) (fun n hn => hw n (.inr hn)) hoff
    exact ⟨(y1, y2), by simp only []; rw [← e1, ← e2, List.take_append_drop], r1, r2⟩
theorem opens_struct {α : Type} {f : α → List Value} {R : α → Prop} {fs : List Field} (hu : P.underlying t = some (.struct fs.toArray)) (hc : P.cellsOf t = (fs.map fun f : Field => P.cellsOf f.type).sum) (h : OpensFs P w 0 fs f R) : Opens P w t f R := by
  intro H enc fuel cs x hx hw
  obtain ⟨xs, n, _, rfl, hl, hxl, hg⟩ := DataW.trod_struct hu hx
  refine h H enc n cs xs (by simpa using hxl) (hl.trans hc) (fun i fd hfd => by simpa using hg i fd (by simpa using hfd)) (fun m hm => hw m ?_) (fun _ _ => Nat.zero_le _)
  simp only [DataW.weights, hu]
  exact hm

variable {H : Type} {enc : TypeId × Value → H} {b0 : Nat} {r : Reach} {v : Value} {d : DataW H} {p : List MemPlace}
theorem okWide_aggs {fs : Array Field} (ht : P.underlying t = some (.struct fs)) (h : Value.okWide P w r b0 t v) : ∃ cs, v = .agg cs := by
  unfold Value.okWide at h
  rw [ht] at h
  obtain ⟨cs, h1, _⟩ := h
  exact ⟨cs, h1⟩
theorem sized_at {ts : List TypeId} {ds : List (DataW H)} {j : Nat} (hsz : (DataW.weightsEach P ts ds).all (· ≤ reachBytes) = true) (ht : ts[j]? = some t) (hd : ds[j]? = some d) : ∀ n ∈ d.weights P t, n ≤ reachBytes := by
  intro n hn
  simpa using List.all_eq_true.1 hsz n (DataW.weights_mem_each ht hd n hn)
/-- An argument that is a record. -/
theorem open_struct {α : Type} {f : α → List Value} {R : α → Prop} {fs : Array Field} {ts : List TypeId} {ds : List (DataW H)} {j : Nat} (ht : P.underlying t = some (.struct fs)) (o : Opens P w t f R) (hok : Value.okWide P w r b0 t v) (h : DataW.Trod enc P w 0 (fun _ => true) true t v d p)
    (hsz : (DataW.weightsEach P ts ds).all (· ≤ reachBytes) = true) (hj : ts[j]? = some t) (hd : ds[j]? = some d) : ∃ y, v = .agg (f y).toArray ∧ R y := by
  obtain ⟨cs, rfl⟩ := okWide_aggs ht hok
  obtain ⟨fuel, hf⟩ := h
  obtain ⟨y, h1, h2⟩ := o H enc fuel _ _ hf (sized_at hsz hj hd)
  refine ⟨y, ?_, h2⟩
  rw [← h1]
  simp [Value.cells]
end
end Go.Kw
end
section
namespace Go.Kw
set_option linter.unusedVariables false
set_option linter.unusedSimpArgs false
section
variable {P : Program} {ρ : Operand → Value} {w w0 : World} {M : List Nat} {L l1 l2 : List Item} {dst : Option Tmp} {ty : TypeId} {pos : String} {aft : Array Edge} {g : Option (Nat × Bool)} {x y z : Operand} {T T2 E I : TypeId} {v : Value} {k : IntKind}
  {d dE : TypeDesc} {sz bts b o : Nat} {zv : Value} {a : Option Addr} {cs C : List Value}
/-! ### Structures, field by field -/
/-! ### Heads -/
/-- The cells of a head. -/
def headV (ct tm : Int) (la ro : List UInt8) : List Value := [Value.int .i64 ct, Value.int .i64 tm] ++ (la.map b8 ++ ro.map b8)
@[simp] theorem headV_len {ct tm : Int} {la ro : List UInt8} (hla : la.length = 32) (hro : ro.length = 32) : (headV ct tm la ro).length = 66 := by simp [headV, hla, hro]
end
end Go.Kw
end
