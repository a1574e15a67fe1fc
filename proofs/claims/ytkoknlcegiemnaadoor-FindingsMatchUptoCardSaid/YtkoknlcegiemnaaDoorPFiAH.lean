/- What the law's proof leans on. No condition. -/
import Derived.Test.YtkoknlcegiemnaaDoorPFiAG
import Derived.Test.YtkoknlcegiemnaaDoorProg
import Derived.KernelRfl
namespace Go.Proofs.YtkoknlcegiemnaaDoor
open Go.Kw
set_option linter.unusedVariables false
set_option maxRecDepth 100000
theorem TImk {P : Program} {t : TypeId} {d : TypeDesc} {sz bts : Nat} {z : Value} (h : P.underlying t = some d) (h2 : (P.info? t).map (fun i => (i.size, i.bytes, i.zero)) = some (sz, bts, some z)) : TI P t d sz bts z := by
  obtain ⟨i, hi, hz⟩ := Option.map_eq_some_iff.1 h2
  simp only [Prod.mk.injEq] at hz
  exact ⟨h, i, hi, hz.1, hz.2.1, hz.2.2⟩
theorem FAmk {P : Program} {S : TypeId} {i off k : Nat} {fs : Array Field} {f : Field} (h1 : P.underlying S = some (.struct fs)) (h2 : fs[i]? = some f) (h3 : f.offset = off) (h4 : (P.info? f.type).map (·.size) = some (k + 1)) : FA P S i off := by
  obtain ⟨t, ht, hs⟩ := Option.map_eq_some_iff.1 h4
  exact ⟨fs, f, h1, h2, h3, t, ht, by omega⟩
theorem ti3 : TI Tryd.prog 3 (.int .i64) 1 8 (.int .i64 0) := TImk Tryd.underlying3 (by kernel_rfl)
theorem ti4 : TI Tryd.prog 4 (.bool) 1 1 (.bool false) := TImk Tryd.underlying4 (by kernel_rfl)
theorem ti5 : TI Tryd.prog 5 (.int .u8) 1 1 (.int .u8 0) := TImk Tryd.underlying5 (by kernel_rfl)
theorem ti9 : TI Tryd.prog 9 (.string) 1 16 (.string ⟨#[]⟩) := TImk Tryd.underlying9 (by kernel_rfl)
theorem ti22 : TI Tryd.prog 22 (.int .i64) 1 8 (.int .i64 0) := TImk Tryd.underlying22 (by kernel_rfl)
noncomputable def sd24 : TypeDesc := (Tryd.prog.underlying 24).getD .bool
theorem ti24 : TI Tryd.prog 24 sd24 4 32 (.agg (List.replicate 4 (.int .i64 0 : Value)).toArray) := TImk (by unfold sd24; rw [Tryd.underlying24]; rfl) (by kernel_rfl)
theorem ag24 : aggD sd24 = true := by unfold sd24; rw [Tryd.underlying24]; rfl
theorem ti32 : TI Tryd.prog 32 (.slice 5) 1 24 (.slice none 0 0) := TImk Tryd.underlying32 (by kernel_rfl)
theorem ti34 : TI Tryd.prog 34 (.slice 9) 1 24 (.slice none 0 0) := TImk Tryd.underlying34 (by kernel_rfl)
noncomputable def sd43 : TypeDesc := (Tryd.prog.underlying 43).getD .bool
theorem ti43 : TI Tryd.prog 43 sd43 1 16 (.nilIface) := TImk (by unfold sd43; rw [Tryd.underlying43]; rfl) (by kernel_rfl)
theorem ti82 : TI Tryd.prog 82 (.pointer 84) 1 8 (.pointer none) := TImk Tryd.underlying82 (by kernel_rfl)
noncomputable def sd84 : TypeDesc := (Tryd.prog.underlying 84).getD .bool
theorem ti84 : TI Tryd.prog 84 sd84 1 16 (.agg #[.string ⟨#[]⟩]) := TImk (by unfold sd84; rw [Tryd.underlying84]; rfl) (by kernel_rfl)
theorem pl24 : placesOf Tryd.prog 24 = some [(0, 1), (1, 1), (2, 1), (3, 1)] := by kernel_rfl
theorem fn4 : FnOk Tryd.prog 4 := ⟨_, Tryd.func4, by kernel_rfl, by kernel_rfl⟩
theorem fn5 : FnOk Tryd.prog 5 := ⟨_, Tryd.func5, by kernel_rfl, by kernel_rfl⟩
theorem fn6 : FnOk Tryd.prog 6 := ⟨_, Tryd.func6, by kernel_rfl, by kernel_rfl⟩
theorem fn7 : FnOk Tryd.prog 7 := ⟨_, Tryd.func7, by kernel_rfl, by kernel_rfl⟩
theorem fn8 : FnOk Tryd.prog 8 := ⟨_, Tryd.func8, by kernel_rfl, by kernel_rfl⟩
theorem fn9 : FnOk Tryd.prog 9 := ⟨_, Tryd.func9, by kernel_rfl, by kernel_rfl⟩
theorem fn10 : FnOk Tryd.prog 10 := ⟨_, Tryd.func10, by kernel_rfl, by kernel_rfl⟩
theorem fn11 : FnOk Tryd.prog 11 := ⟨_, Tryd.func11, by kernel_rfl, by kernel_rfl⟩
theorem fn12 : FnOk Tryd.prog 12 := ⟨_, Tryd.func12, by kernel_rfl, by kernel_rfl⟩
theorem fn14 : FnOk Tryd.prog 14 := ⟨_, Tryd.func14, by kernel_rfl, by kernel_rfl⟩
theorem fn15 : FnOk Tryd.prog 15 := ⟨_, Tryd.func15, by kernel_rfl, by kernel_rfl⟩
theorem fn18 : FnOk Tryd.prog 18 := ⟨_, Tryd.func18, by kernel_rfl, by kernel_rfl⟩
theorem fn26 : FnOk Tryd.prog 26 := ⟨_, Tryd.func26, by kernel_rfl, by kernel_rfl⟩
theorem fa24_0 : FA Tryd.prog 24 0 0 := FAmk (k := 0) Tryd.underlying24 rfl rfl (by kernel_rfl)
theorem fa24_1 : FA Tryd.prog 24 1 1 := FAmk (k := 0) Tryd.underlying24 rfl rfl (by kernel_rfl)
theorem fa24_2 : FA Tryd.prog 24 2 2 := FAmk (k := 0) Tryd.underlying24 rfl rfl (by kernel_rfl)
theorem fa24_3 : FA Tryd.prog 24 3 3 := FAmk (k := 0) Tryd.underlying24 rfl rfl (by kernel_rfl)
theorem eg24 : Tryd.prog.eqGuardType Tryd.prog.depth 24 = false := by kernel_rfl
theorem hMixed : Tryd.prog.follows .mixedOrders = true := by kernel_rfl
end Go.Proofs.YtkoknlcegiemnaaDoor
