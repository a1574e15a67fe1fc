/- What the law's proof leans on. No condition. -/
import Derived.Test.YtkoknlcegiemnaaDoorPFiAF
import Derived.Test.YtkoknlcegiemnaaDoorPFiAL
namespace Go.Kw
open Go.WideShapes
set_option linter.unusedVariables false
set_option linter.unusedSimpArgs false

/-- Whatever reads as data of type t in w is f of something of which R holds. -/
def Opens (P : Program) (w : World) (t : TypeId) {α : Type} (f : α → List Value) (R : α → Prop) : Prop :=
  ∀ (H : Type) (enc : TypeId × Value → H) (fuel : Nat) (cs : List Value) (x : DataW H × List MemPlace), DataW.trod enc P w 0 (fun _ => true) true fuel t cs = some x → (∀ n ∈ x.1.weights P t, n ≤ reachBytes) → ∃ y, cs = f y ∧ R y
section
variable {P : Program} {w : World} {t e : TypeId}

theorem opens_i64 (ht : P.underlying t = some (.int .i64)) : Opens P w t (fun b : Int => [.int .i64 b]) (fun b => -9223372036854775808 ≤ b ∧ b ≤ 9223372036854775807) := by
  intro H enc fuel cs x hx _
  obtain ⟨n, rfl, _, h⟩ := DataW.trod_int ht hx
  exact ⟨n, rfl, i64_of_wf h⟩
/-- Fields from a place on. -/
def OpensFs (P : Program) (w : World) (off : Nat) (fs : List Field) {α : Type} (f : α → List Value) (R : α → Prop) : Prop :=
  ∀ (H : Type) (enc : TypeId × Value → H) (fuel : Nat) (cs : List Value) (xs : List (DataW H × List MemPlace)), xs.length = fs.length → cs.length = (fs.map fun f : Field => P.cellsOf f.type).sum → (∀ (i : Nat) (fd : Field), fs[i]? = some fd → DataW.trod enc P w 0 (fun _ => true) true fuel fd.type ((cs.drop (fd.offset - off)).take (P.cellsOf fd.type)) = xs[i]?) →
    (∀ n ∈ DataW.weightsEach P (fs.map (·.type)) (xs.map (·.1)), n ≤ reachBytes) → (∀ fd : Field, fd ∈ fs → off ≤ fd.offset) → ∃ y, cs = f y ∧ R y
theorem opensFs_nil {off : Nat} : OpensFs P w off [] (fun _ : Unit => []) (fun _ => True) := by
  intro H enc fuel cs xs _ hl _ _ _
  exact ⟨(), List.eq_nil_of_length_eq_zero (by simpa using hl), trivial⟩
theorem opensFs_cons {α β : Type} {f1 : α → List Value} {R1 : α → Prop} {f2 : β → List Value} {R2 : β → Prop} {off sz : Nat} {fd : Field} {fs : List Field} (h1 : Opens P w fd.type f1 R1) (ho : fd.offset = off) (hs : P.cellsOf fd.type = sz) (h2 : OpensFs P w (off + sz) fs f2 R2)
    (hoff : ∀ g ∈ fs, off + sz ≤ g.offset) : OpensFs P w off (fd :: fs) (fun y : α × β => f1 y.1 ++ f2 y.2) (fun y => R1 y.1 ∧ R2 y.2) := by
  intro H enc fuel cs xs hxl hl hg hw _
  match xs, hxl with
  | x :: xs, hxl =>
    have g0 := hg 0 fd rfl
    rw [ho, Nat.sub_self, List.drop_zero, List.getElem?_cons_zero, hs] at g0
    simp only [List.map_cons, DataW.weightsEach, List.mem_append] at hw
    obtain ⟨y1, e1, r1⟩ := h1 H enc fuel _ x g0 (fun n hn => hw n (.inl hn))
    simp only [List.map_cons, List.sum_cons, hs] at hl
    obtain ⟨y2, e2, r2⟩ := h2 H enc fuel (cs.drop sz) xs (by simpa using hxl) (by rw [List.length_drop, hl]; omega) (fun i g hgi => by
      have := hg (i + 1) g (by simpa using hgi)
      have hm := hoff g (List.mem_of_getElem? hgi)
      rw [List.drop_drop, show sz + (g.offset - (off + sz)) = g.offset - off by omega]
      simpa using this) (fun n hn => hw n (.inr hn)) hoff
    exact ⟨(y1, y2), by simp only []; rw [← e1, ← e2, List.take_append_drop], r1, r2⟩
theorem opens_struct {α : Type} {f : α → List Value} {R : α → Prop} {fs : List Field} (hu : P.underlying t = some (.struct fs.toArray)) (hc : P.cellsOf t = (fs.map fun f : Field => P.cellsOf f.type).sum) (h : OpensFs P w 0 fs f R) : Opens P w t f R := by
  intro H enc fuel cs x hx hw
  obtain ⟨xs, n, _, rfl, hl, hxl, hg⟩ := DataW.trod_struct hu hx
  refine h H enc n cs xs (by simpa using hxl) (hl.trans hc) (fun i fd hfd => by simpa using hg i fd (by simpa using hfd)) (fun m hm => hw m ?_) (fun _ _ => Nat.zero_le _)
  simp only [DataW.weights, hu]
  exact hm

variable {H : Type} {enc : TypeId × Value → H} {b0 : Nat} {r : Reach} {v : Value} {d : DataW H} {p : List MemPlace}
theorem okWide_aggs {fs : Array Field} (ht : P.underlying t = some (.struct fs)) (h : Value.okWide P w r b0 t v) : ∃ cs, v = .agg cs := by
  unfold Value.okWide at h
  rw [ht] at h
  obtain ⟨cs, h1, _⟩ := h
  exact ⟨cs, h1⟩
theorem sized_at {ts : List TypeId} {ds : List (DataW H)} {j : Nat} (hsz : (DataW.weightsEach P ts ds).all (· ≤ reachBytes) = true) (ht : ts[j]? = some t) (hd : ds[j]? = some d) : ∀ n ∈ d.weights P t, n ≤ reachBytes := by
  intro n hn
  simpa using List.all_eq_true.1 hsz n (DataW.weights_mem_each ht hd n hn)
/-- An argument that is a record. -/
theorem open_struct {α : Type} {f : α → List Value} {R : α → Prop} {fs : Array Field} {ts : List TypeId} {ds : List (DataW H)} {j : Nat} (ht : P.underlying t = some (.struct fs)) (o : Opens P w t f R) (hok : Value.okWide P w r b0 t v) (h : DataW.Trod enc P w 0 (fun _ => true) true t v d p)
    (hsz : (DataW.weightsEach P ts ds).all (· ≤ reachBytes) = true) (hj : ts[j]? = some t) (hd : ds[j]? = some d) : ∃ y, v = .agg (f y).toArray ∧ R y := by
  obtain ⟨cs, rfl⟩ := okWide_aggs ht hok
  obtain ⟨fuel, hf⟩ := h
  obtain ⟨y, h1, h2⟩ := o H enc fuel _ _ hf (sized_at hsz hj hd)
  refine ⟨y, ?_, h2⟩
  rw [← h1]
  simp [Value.cells]
end
end Go.Kw
