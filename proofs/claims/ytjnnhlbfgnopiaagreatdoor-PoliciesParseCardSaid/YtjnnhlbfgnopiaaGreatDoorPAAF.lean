/- What the law's proof leans on. No condition. -/
import Derived.Test.YtjnnhlbfgnopiaaGreatDoorPAAE
import Derived.Laws.Cover3
import Derived.Laws.Pointers
import Derived.Laws.Small
section
namespace Go.Kw
set_option linter.unusedVariables false
set_option linter.unusedSimpArgs false
section
variable {P : Program} {ρ : Operand → Value} {w w0 : World} {M : List Nat} {L l1 l2 : List Item} {dst : Option Tmp} {ty : TypeId} {pos : String} {aft : Array Edge} {g : Option (Nat × Bool)} {x y z : Operand} {T T2 E I : TypeId} {v : Value} {k : IntKind}
  {d dE : TypeDesc} {sz bts b o : Nat} {zv : Value} {a : Option Addr} {cs C : List Value}

theorem r_eqlBool {p q : Bool} (hT : P.underlying T = some .bool) (hx : ρ x = .bool p) (hy : ρ y = .bool q) : (execOp ρ ⟨dst, .binOp .eql T x y T2, ty, pos, aft, g⟩).run P w = .ok (.value (.bool (decide (p = q)))) w := by
  have he : (eqGuard .eql T x y (.bool p) (.bool q)).run P w = .ok () w := by unfold eqGuard; simp
  simp only [execOp, hx, hy, Sem.run_bind, he, Result.andThen_ok, run_eql_bool w T p q hT, Sem.run_pure]
  cases p <;> cases q <;> rfl
theorem r_neqBool {p q : Bool} (hT : P.underlying T = some .bool) (hx : ρ x = .bool p) (hy : ρ y = .bool q) : (execOp ρ ⟨dst, .binOp .neq T x y T2, ty, pos, aft, g⟩).run P w = .ok (.value (.bool (decide (¬ p = q)))) w := by
  have he : (eqGuard .neq T x y (.bool p) (.bool q)).run P w = .ok () w := by unfold eqGuard; simp
  simp only [execOp, hx, hy, Sem.run_bind, he, Result.andThen_ok, run_neq_bool w T p q hT, Sem.run_pure]
  cases p <;> cases q <;> rfl

end
/-! Cuts behind two statements, and behind three. -/
section
variable {P : Program} {Q : Exit → Act → World → Prop} {n : Nat} {e0 : Env} {w : World} {x y u z : Code}
end
end Go.Kw
end
section
namespace Go.Kw
set_option linter.unusedVariables false
set_option linter.unusedSimpArgs false
section
variable {P : Program} {ρ : Operand → Value} {w w0 : World} {M : List Nat} {L l1 l2 : List Item} {dst : Option Tmp} {ty : TypeId} {pos : String} {aft : Array Edge} {g : Option (Nat × Bool)} {x y z : Operand} {T T2 E I : TypeId} {v : Value} {k : IntKind}
  {d dE : TypeDesc} {sz bts b o : Nat} {zv : Value} {a : Option Addr} {cs C : List Value}

/-- An element behind a slice of a known block. -/
theorem r_ixB {len cap m : Nat} (h : P.underlying T = some (.slice E)) (hE : TI P E dE 1 bts zv) (hx : ρ x = .slice (some ⟨b, 0, none⟩) len cap) (hy : ρ y = .int k (m : Int)) (hm : m < len) :
    (execOp ρ ⟨dst, .indexAddr T x y, ty, pos, aft, g⟩).run P w = .ok (.value (pt b m)) w := by
  have h0 : (0 : Int) ≤ (m : Int) ∧ (m : Int) < (len : Int) := by omega
  simp [execOp, hx, hy, Instr.indexAt, asIntOf, run_underlying h, run_sizeOf hE, hm, add_lit]
end
theorem one_all {cs : List Value} (h : cs.all Value.oneCell' = true) : One cs := by
  intro c hc
  exact List.all_eq_true.1 h c hc
/-! Items held shut. -/
theorem St.frame {w0 w : World} {M : List Nat} (us rs : List Item) (h : St w0 M w (us ++ rs)) : ∃ LT, LT = rs ∧ St w0 M w (us ++ LT) := ⟨rs, rfl, h⟩
section
variable {P : Program} {ρ : Operand → Value} {w w0 : World} {M : List Nat} {L l1 l2 : List Item} {dst : Option Tmp} {ty : TypeId} {pos : String} {aft : Array Edge} {g : Option (Nat × Bool)} {x y z : Operand} {T T2 E I : TypeId} {v : Value} {k : IntKind}
  {d dE : TypeDesc} {sz bts b o : Nat} {zv : Value} {a : Option Addr} {cs C : List Value}
end
section
variable {P : Program} {ρ : Operand → Value} {w w0 : World} {M : List Nat} {L l1 l2 : List Item} {dst : Option Tmp} {ty : TypeId} {pos : String} {aft : Array Edge} {g : Option (Nat × Bool)} {x y z : Operand} {T T2 E I : TypeId} {v : Value} {k : IntKind}
  {d dE : TypeDesc} {sz bts b o : Nat} {zv : Value} {a : Option Addr} {cs C : List Value}
/-- []T{..} of elements of sz cells, all said. -/
theorem x_litN {parts : Array (Nat × Operand)} {vs : List Value} {css : List (List Value)} {len : Nat} (hS : St w0 M w L) (hT : P.underlying T = some (.slice E)) (hE : TI P E dE sz bts zv) (hp : parts.toList.map (fun x => (x.1, ρ x.2)) = vs.zipIdx.map (fun x => (x.2, x.1))) (hl : vs.length = len)
    (hcl : css.length = len) (hcs : ∀ i, i < len → ((vs.getD i undef).cells = (css.getD i []).toArray ∧ (css.getD i []).length = sz)) (hzc : zv.cells.size = sz) (hlen : len * sz ≤ 16777216) (h0 : 0 < len * sz) :
    ∃ v w', (execOp ρ ⟨dst, .buildSlice T len parts, ty, pos, aft, g⟩).run P w = .ok (.value v) w' ∧ ∃ b, v = .slice (some ⟨b, 0, none⟩) len len ∧ St w0 M w' (.blk b (cl css.flatten E) :: L) := by
  obtain ⟨i, hi, hs1, _, h3⟩ := hE.info
  have hp' : (parts.map fun (x : Nat × Operand) => (x.1, ρ x.2)).toList = vs.zipIdx.map (fun x => (x.2, x.1)) := by simpa using hp
  have hfl : ∀ (l : List (List Value)) (k : Nat), k ≤ l.length → (∀ j, j < l.length → (l.getD j []).length = sz) → ((l.take k).flatten).length = k * sz := by
    intro l
    induction l with
    | nil => intro k hk _; simp at hk; subst hk; simp
    | cons a l ih =>
      intro k hk h
      cases k with
      | zero => simp
      | succ k =>
        have ha := h 0 (by simp)
        have := ih k (by simpa using hk) (fun j hj => by have := h (j + 1) (by simpa using hj); simpa using this)
        simp only [List.getD_cons_zero] at ha
        rw [List.take_succ_cons, List.flatten_cons, List.length_append, this, ha, Nat.succ_mul]; omega
  have hfill : ∀ zs : List Value, zs.length = len * sz → Instr.fill (fun i => some (i * sz, sz)) ([] ++ zs).toArray (vs.zipIdx.map (fun x => (x.2, x.1))) = some ([] ++ css.flatten).toArray := by
    intro zs hzs
    refine fill_all _ _ css [] _ (by simp [hl, hcl]) ?_ ?_
    · intro i hi
      simp at hi
      have hi' : i < len := by omega
      refine ⟨i, vs.getD i undef, by simp [hi], (hcs i hi').1, ?_⟩
      rw [hfl css i (by omega) (fun j hj => (hcs j (by omega)).2), (hcs i hi').2]
      simp
    · have := hfl css css.length (Nat.le_refl _) (fun j hj => (hcs j (by omega)).2)
      rw [List.take_length] at this
      rw [this, hzs, hcl]
  simp only [List.nil_append] at hfill
  refine ⟨.slice (some ⟨w.heap.size, 0, none⟩) len len, w.alloc (cl css.flatten E), ?_, w.heap.size, rfl, hS.alloc _⟩
  have n1 : ¬ (len * sz > 2 ^ 24) := by simp; omega
  have n0 : ¬ len * sz = 0 := by omega
  have hz : (zeroValue E).run P w = .ok zv w := by simp [zeroValue, typeInfo, program, Sem.run, hi, h3]
  have hf := hfill ((Array.range (len * sz)).map (zv.cells[· % zv.cells.size]!)).toList (by simp)
  simp only [Array.toArray_toList] at hf
  simp only [execOp, Instr.buildSlice, Sem.run_bind, run_underlying hT, Result.andThen_ok, run_sizeOf hE, hp', n1, if_false, n0, hz, hf, newRow, Sem.run_pure]
  simp [hf, newRow]
/-- .. of one array. -/
theorem x_litA1 {parts : Array (Nat × Operand)} {as : List Value} (hS : St w0 M w L) (hT : P.underlying T = some (.slice E)) (hE : TI P E dE sz bts zv) (hp : parts.toList.map (fun x => (x.1, ρ x.2)) = [(0, .agg as.toArray)]) (hl : as.length = sz) (hzc : zv.cells.size = sz) (hlen : sz ≤ 16777216) (h0 : 0 < sz) :
    ∃ v w', (execOp ρ ⟨dst, .buildSlice T 1 parts, ty, pos, aft, g⟩).run P w = .ok (.value v) w' ∧ ∃ b, v = .slice (some ⟨b, 0, none⟩) 1 1 ∧ St w0 M w' (.blk b (cl as E) :: L) := by
  have h := x_litN (dst := dst) (ty := ty) (pos := pos) (aft := aft) (g := g) (vs := [.agg as.toArray]) (css := [as]) (len := 1) hS hT hE (by simpa using hp) rfl rfl (fun i hi => by
    obtain rfl : i = 0 := Nat.lt_one_iff.1 hi
    exact ⟨rfl, by simpa using hl⟩) hzc (by omega) (by omega)
  simpa using h
end
/-! Records that are built. -/
def placesOf (P : Program) (t : TypeId) : Option (List (Nat × Nat)) :=
  match P.underlying t with
  | some (.struct fs) => fs.toList.mapM fun f => (P.info? f.type).map fun i => (f.offset, i.size)
  | _ => none
section
variable {P : Program} {ρ : Operand → Value} {w w0 : World} {M : List Nat} {L l1 l2 : List Item} {dst : Option Tmp} {ty : TypeId} {pos : String} {aft : Array Edge} {g : Option (Nat × Bool)} {x y z : Operand} {T T2 E I : TypeId} {v : Value} {k : IntKind}
  {d dE : TypeDesc} {sz bts b o : Nat} {zv : Value} {a : Option Addr} {cs C : List Value}
theorem run_places : ∀ (l : List Field) (pl : List (Nat × Nat)), (l.mapM fun f => (P.info? f.type).map fun i => (f.offset, i.size)) = some pl → (l.mapM (fun (f : Field) => do pure (f.offset, ← sizeOf f.type) : Field → Sem (Nat × Nat))).run P w = .ok pl w := by
  intro l
  induction l with
  | nil =>
    intro pl h
    simp only [List.mapM_nil, Option.pure_def, Option.some.injEq] at h
    subst h
    rfl
  | cons f l ih =>
    intro pl h
    simp only [List.mapM_cons, Option.bind_eq_bind, Option.bind_eq_some_iff, Option.pure_def, Option.map_eq_some_iff, Option.some.injEq] at h
    obtain ⟨_, ⟨i, hi, rfl⟩, pl', h2, rfl⟩ := h
    have hs : (sizeOf f.type).run P w = .ok i.size w := by simp [sizeOf, typeInfo, program, Sem.run, hi]
    simp only [List.mapM_cons, Sem.run_bind, hs, Result.andThen_ok, Sem.run_pure, ih pl' h2]
theorem placesOf_run {pl : List (Nat × Nat)} (h : placesOf P T = some pl) : ∃ fs : Array Field, P.underlying T = some (.struct fs) ∧ (fs.mapM (fun (f : Field) => do pure (f.offset, ← sizeOf f.type) : Field → Sem (Nat × Nat))).run P w = .ok pl.toArray w := by
  unfold placesOf at h
  split at h
  · rename_i fs hu
    refine ⟨fs, hu, ?_⟩
    have := run_places (P := P) (w := w) _ _ h
    rw [Array.mapM_eq_mapM_toList]
    refine (Sem.run_bind' P _ (Sem.pure ∘ List.toArray) w).trans ?_
    rw [this]
    rfl
  · cases h
/-- T{} of a record. -/
theorem r_buildZ {pl : List (Nat × Nat)} (hp : placesOf P T = some pl) (hZ : TI P T d sz bts (.agg cs.toArray)) :
    (execOp ρ ⟨dst, .build T #[], ty, pos, aft, g⟩).run P w = .ok (.value (.agg cs.toArray)) w := by
  obtain ⟨fs, hT, hr⟩ := placesOf_run (w := w) hp
  exact r_build hT hZ hr (ps := []) (by simp) (by simp [Instr.fill, Value.cells])
end
section
variable {P : Program} {ρ : Operand → Value} {w w0 : World} {M : List Nat} {L l1 l2 : List Item} {dst : Option Tmp} {ty : TypeId} {pos : String} {aft : Array Edge} {g : Option (Nat × Bool)} {x y z : Operand} {T T2 E I : TypeId} {v : Value} {k : IntKind}
  {d dE : TypeDesc} {sz bts b o : Nat} {zv : Value} {a : Option Addr} {cs C : List Value}
end
end Go.Kw
end
