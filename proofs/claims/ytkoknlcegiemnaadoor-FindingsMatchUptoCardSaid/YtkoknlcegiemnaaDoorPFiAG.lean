/- What the law's proof leans on. No condition. -/
import Derived.Test.YtkoknlcegiemnaaDoorPFiAE
import Derived.Laws.Cover3
import Derived.Laws.Pointers
import Derived.Laws.Small
section
namespace Go.Kw
set_option linter.unusedVariables false
set_option linter.unusedSimpArgs false
section
variable {P : Program} {ρ : Operand → Value} {w w0 : World} {M : List Nat} {L l1 l2 : List Item} {dst : Option Tmp} {ty : TypeId} {pos : String} {aft : Array Edge} {g : Option (Nat × Bool)} {x y z : Operand} {T T2 E I : TypeId} {v : Value} {k : IntKind}
  {d dE : TypeDesc} {sz bts b o : Nat} {zv : Value} {a : Option Addr} {cs C : List Value}

theorem r_neqBool {p q : Bool} (hT : P.underlying T = some .bool) (hx : ρ x = .bool p) (hy : ρ y = .bool q) : (execOp ρ ⟨dst, .binOp .neq T x y T2, ty, pos, aft, g⟩).run P w = .ok (.value (.bool (decide (¬ p = q)))) w := by
  have he : (eqGuard .neq T x y (.bool p) (.bool q)).run P w = .ok () w := by unfold eqGuard; simp
  simp only [execOp, hx, hy, Sem.run_bind, he, Result.andThen_ok, run_neq_bool w T p q hT, Sem.run_pure]
  cases p <;> cases q <;> rfl

end
/-! Cuts behind two statements, and behind three. -/
section
variable {P : Program} {Q : Exit → Act → World → Prop} {n : Nat} {e0 : Env} {w : World} {x y u z : Code}
end
end Go.Kw
end
section
namespace Go.Kw
set_option linter.unusedVariables false
set_option linter.unusedSimpArgs false
section
variable {P : Program} {ρ : Operand → Value} {w w0 : World} {M : List Nat} {L l1 l2 : List Item} {dst : Option Tmp} {ty : TypeId} {pos : String} {aft : Array Edge} {g : Option (Nat × Bool)} {x y z : Operand} {T T2 E I : TypeId} {v : Value} {k : IntKind}
  {d dE : TypeDesc} {sz bts b o : Nat} {zv : Value} {a : Option Addr} {cs C : List Value}

/-- An element behind a slice of a known block. -/
theorem r_ixB {len cap m : Nat} (h : P.underlying T = some (.slice E)) (hE : TI P E dE 1 bts zv) (hx : ρ x = .slice (some ⟨b, 0, none⟩) len cap) (hy : ρ y = .int k (m : Int)) (hm : m < len) :
    (execOp ρ ⟨dst, .indexAddr T x y, ty, pos, aft, g⟩).run P w = .ok (.value (pt b m)) w := by
  have h0 : (0 : Int) ≤ (m : Int) ∧ (m : Int) < (len : Int) := by omega
  simp [execOp, hx, hy, Instr.indexAt, asIntOf, run_underlying h, run_sizeOf hE, hm, add_lit]
end
theorem one_all {cs : List Value} (h : cs.all Value.oneCell' = true) : One cs := by
  intro c hc
  exact List.all_eq_true.1 h c hc
/-! Items held shut. -/
theorem St.frame {w0 w : World} {M : List Nat} (us rs : List Item) (h : St w0 M w (us ++ rs)) : ∃ LT, LT = rs ∧ St w0 M w (us ++ LT) := ⟨rs, rfl, h⟩
section
variable {P : Program} {ρ : Operand → Value} {w w0 : World} {M : List Nat} {L l1 l2 : List Item} {dst : Option Tmp} {ty : TypeId} {pos : String} {aft : Array Edge} {g : Option (Nat × Bool)} {x y z : Operand} {T T2 E I : TypeId} {v : Value} {k : IntKind}
  {d dE : TypeDesc} {sz bts b o : Nat} {zv : Value} {a : Option Addr} {cs C : List Value}
end
section
variable {P : Program} {ρ : Operand → Value} {w w0 : World} {M : List Nat} {L l1 l2 : List Item} {dst : Option Tmp} {ty : TypeId} {pos : String} {aft : Array Edge} {g : Option (Nat × Bool)} {x y z : Operand} {T T2 E I : TypeId} {v : Value} {k : IntKind}
  {d dE : TypeDesc} {sz bts b o : Nat} {zv : Value} {a : Option Addr} {cs C : List Value}
end
/-! Records that are built. -/
def placesOf (P : Program) (t : TypeId) : Option (List (Nat × Nat)) :=
  match P.underlying t with
  | some (.struct fs) => fs.toList.mapM fun f => (P.info? f.type).map fun i => (f.offset, i.size)
  | _ => none
section
variable {P : Program} {ρ : Operand → Value} {w w0 : World} {M : List Nat} {L l1 l2 : List Item} {dst : Option Tmp} {ty : TypeId} {pos : String} {aft : Array Edge} {g : Option (Nat × Bool)} {x y z : Operand} {T T2 E I : TypeId} {v : Value} {k : IntKind}
  {d dE : TypeDesc} {sz bts b o : Nat} {zv : Value} {a : Option Addr} {cs C : List Value}
theorem run_places : ∀ (l : List Field) (pl : List (Nat × Nat)), (l.mapM fun f => (P.info? f.type).map fun i => (f.offset, i.size)) = some pl → (l.mapM (fun (f : Field) => do pure (f.offset, ← sizeOf f.type) : Field → Sem (Nat × Nat))).run P w = .ok pl w := by
  intro l
  induction l with
  | nil =>
    intro pl h
    simp only [List.mapM_nil, Option.pure_def, Option.some.injEq] at h
    subst h
    rfl
  | cons f l ih =>
    intro pl h
    simp only [List.mapM_cons, Option.bind_eq_bind, Option.bind_eq_some_iff, Option.pure_def, Option.map_eq_some_iff, Option.some.injEq] at h
    obtain ⟨_, ⟨i, hi, rfl⟩, pl', h2, rfl⟩ := h
    have hs : (sizeOf f.type).run P w = .ok i.size w := by simp [sizeOf, typeInfo, program, Sem.run, hi]
    simp only [List.mapM_cons, Sem.run_bind, hs, Result.andThen_ok, Sem.run_pure, ih pl' h2]
theorem placesOf_run {pl : List (Nat × Nat)} (h : placesOf P T = some pl) : ∃ fs : Array Field, P.underlying T = some (.struct fs) ∧ (fs.mapM (fun (f : Field) => do pure (f.offset, ← sizeOf f.type) : Field → Sem (Nat × Nat))).run P w = .ok pl.toArray w := by
  unfold placesOf at h
  split at h
  · rename_i fs hu
    refine ⟨fs, hu, ?_⟩
    have := run_places (P := P) (w := w) _ _ h
    rw [Array.mapM_eq_mapM_toList]
    refine (Sem.run_bind' P _ (Sem.pure ∘ List.toArray) w).trans ?_
    rw [this]
    rfl
  · cases h
/-- T{} of a record. -/
theorem r_buildZ {pl : List (Nat × Nat)} (hp : placesOf P T = some pl) (hZ : TI P T d sz bts (.agg cs.toArray)) :
    (execOp ρ ⟨dst, .build T #[], ty, pos, aft, g⟩).run P w = .ok (.value (.agg cs.toArray)) w := by
  obtain ⟨fs, hT, hr⟩ := placesOf_run (w := w) hp
  exact r_build hT hZ hr (ps := []) (by simp) (by simp [Instr.fill, Value.cells])
end
section
variable {P : Program} {ρ : Operand → Value} {w w0 : World} {M : List Nat} {L l1 l2 : List Item} {dst : Option Tmp} {ty : TypeId} {pos : String} {aft : Array Edge} {g : Option (Nat × Bool)} {x y z : Operand} {T T2 E I : TypeId} {v : Value} {k : IntKind}
  {d dE : TypeDesc} {sz bts b o : Nat} {zv : Value} {a : Option Addr} {cs C : List Value}
end
end Go.Kw
end
