/- What the law's proof leans on. No condition. -/
import Derived.Test.YtjnnhlbfgnopiaaGreatDoorPAAG
import Derived.Test.YtjnnhlbfgnopiaaGreatDoorProg
import Derived.KernelRfl
namespace Go.Proofs.YtjnnhlbfgnopiaaGreatDoor
open Go.Kw
set_option linter.unusedVariables false
set_option maxRecDepth 100000
theorem TImk {P : Program} {t : TypeId} {d : TypeDesc} {sz bts : Nat} {z : Value} (h : P.underlying t = some d) (h2 : (P.info? t).map (fun i => (i.size, i.bytes, i.zero)) = some (sz, bts, some z)) : TI P t d sz bts z := by
  obtain ⟨i, hi, hz⟩ := Option.map_eq_some_iff.1 h2
  simp only [Prod.mk.injEq] at hz
  exact ⟨h, i, hi, hz.1, hz.2.1, hz.2.2⟩
theorem FAmk {P : Program} {S : TypeId} {i off k : Nat} {fs : Array Field} {f : Field} (h1 : P.underlying S = some (.struct fs)) (h2 : fs[i]? = some f) (h3 : f.offset = off) (h4 : (P.info? f.type).map (·.size) = some (k + 1)) : FA P S i off := by
  obtain ⟨t, ht, hs⟩ := Option.map_eq_some_iff.1 h4
  exact ⟨fs, f, h1, h2, h3, t, ht, by omega⟩
theorem ti3 : TI Tryz.prog 3 (.int .i64) 1 8 (.int .i64 0) := TImk Tryz.underlying3 (by kernel_rfl)
theorem ti4 : TI Tryz.prog 4 (.bool) 1 1 (.bool false) := TImk Tryz.underlying4 (by kernel_rfl)
theorem ti5 : TI Tryz.prog 5 (.int .u8) 1 1 (.int .u8 0) := TImk Tryz.underlying5 (by kernel_rfl)
theorem ti9 : TI Tryz.prog 9 (.string) 1 16 (.string ⟨#[]⟩) := TImk Tryz.underlying9 (by kernel_rfl)
theorem ti23 : TI Tryz.prog 23 (.slice 51) 1 24 (.slice none 0 0) := TImk Tryz.underlying23 (by kernel_rfl)
noncomputable def sd25 : TypeDesc := (Tryz.prog.underlying 25).getD .bool
theorem ti25 : TI Tryz.prog 25 sd25 1 24 (.agg #[.slice none 0 0]) := TImk (by unfold sd25; rw [Tryz.underlying25]; rfl) (by kernel_rfl)
theorem ag25 : aggD sd25 = true := by unfold sd25; rw [Tryz.underlying25]; rfl
theorem ti39 : TI Tryz.prog 39 (.slice 5) 1 24 (.slice none 0 0) := TImk Tryz.underlying39 (by kernel_rfl)
theorem ti42 : TI Tryz.prog 42 (.slice 9) 1 24 (.slice none 0 0) := TImk Tryz.underlying42 (by kernel_rfl)
theorem ti46 : TI Tryz.prog 46 (.slice 9) 1 24 (.slice none 0 0) := TImk Tryz.underlying46 (by kernel_rfl)
theorem ti49 : TI Tryz.prog 49 (.slice 3) 1 24 (.slice none 0 0) := TImk Tryz.underlying49 (by kernel_rfl)
noncomputable def sd51 : TypeDesc := (Tryz.prog.underlying 51).getD .bool
theorem ti51 : TI Tryz.prog 51 sd51 8 120 (.agg #[.bool false, .slice none 0 0, .slice none 0 0, .slice none 0 0, .int .i64 0, .int .i64 0, .int .i64 0, .string ⟨#[]⟩]) := TImk (by unfold sd51; rw [Tryz.underlying51]; rfl) (by kernel_rfl)
theorem ag51 : aggD sd51 = true := by unfold sd51; rw [Tryz.underlying51]; rfl
theorem ti81 : TI Tryz.prog 81 (.pointer 42) 1 8 (.pointer none) := TImk Tryz.underlying81 (by kernel_rfl)
theorem ti82 : TI Tryz.prog 82 (.slice 81) 1 24 (.slice none 0 0) := TImk Tryz.underlying82 (by kernel_rfl)
noncomputable def sd94 : TypeDesc := (Tryz.prog.underlying 94).getD .bool
theorem ti94 : TI Tryz.prog 94 sd94 1 16 (.nilIface) := TImk (by unfold sd94; rw [Tryz.underlying94]; rfl) (by kernel_rfl)
theorem ti129 : TI Tryz.prog 129 (.map 9 4) 1 8 (.map none) := TImk Tryz.underlying129 (by kernel_rfl)
theorem ti130 : TI Tryz.prog 130 (.map 3 4) 1 8 (.map none) := TImk Tryz.underlying130 (by kernel_rfl)
theorem ti203 : TI Tryz.prog 203 (.pointer 205) 1 8 (.pointer none) := TImk Tryz.underlying203 (by kernel_rfl)
noncomputable def sd205 : TypeDesc := (Tryz.prog.underlying 205).getD .bool
theorem ti205 : TI Tryz.prog 205 sd205 1 16 (.agg #[.string ⟨#[]⟩]) := TImk (by unfold sd205; rw [Tryz.underlying205]; rfl) (by kernel_rfl)
theorem pl25 : placesOf Tryz.prog 25 = some [(0, 1)] := by kernel_rfl
theorem pl51 : placesOf Tryz.prog 51 = some [(0, 1), (1, 1), (2, 1), (3, 1), (4, 1), (5, 1), (6, 1), (7, 1)] := by kernel_rfl
theorem fn5 : FnOk Tryz.prog 5 := ⟨_, Tryz.func5, by kernel_rfl, by kernel_rfl⟩
theorem fn6 : FnOk Tryz.prog 6 := ⟨_, Tryz.func6, by kernel_rfl, by kernel_rfl⟩
theorem fn7 : FnOk Tryz.prog 7 := ⟨_, Tryz.func7, by kernel_rfl, by kernel_rfl⟩
theorem fn8 : FnOk Tryz.prog 8 := ⟨_, Tryz.func8, by kernel_rfl, by kernel_rfl⟩
theorem fn9 : FnOk Tryz.prog 9 := ⟨_, Tryz.func9, by kernel_rfl, by kernel_rfl⟩
theorem fn13 : FnOk Tryz.prog 13 := ⟨_, Tryz.func13, by kernel_rfl, by kernel_rfl⟩
theorem fn15 : FnOk Tryz.prog 15 := ⟨_, Tryz.func15, by kernel_rfl, by kernel_rfl⟩
theorem fn16 : FnOk Tryz.prog 16 := ⟨_, Tryz.func16, by kernel_rfl, by kernel_rfl⟩
theorem fn17 : FnOk Tryz.prog 17 := ⟨_, Tryz.func17, by kernel_rfl, by kernel_rfl⟩
theorem fn18 : FnOk Tryz.prog 18 := ⟨_, Tryz.func18, by kernel_rfl, by kernel_rfl⟩
theorem fn19 : FnOk Tryz.prog 19 := ⟨_, Tryz.func19, by kernel_rfl, by kernel_rfl⟩
theorem fn20 : FnOk Tryz.prog 20 := ⟨_, Tryz.func20, by kernel_rfl, by kernel_rfl⟩
theorem fn21 : FnOk Tryz.prog 21 := ⟨_, Tryz.func21, by kernel_rfl, by kernel_rfl⟩
theorem fn22 : FnOk Tryz.prog 22 := ⟨_, Tryz.func22, by kernel_rfl, by kernel_rfl⟩
theorem fn24 : FnOk Tryz.prog 24 := ⟨_, Tryz.func24, by kernel_rfl, by kernel_rfl⟩
theorem fn25 : FnOk Tryz.prog 25 := ⟨_, Tryz.func25, by kernel_rfl, by kernel_rfl⟩
theorem fn26 : FnOk Tryz.prog 26 := ⟨_, Tryz.func26, by kernel_rfl, by kernel_rfl⟩
theorem fn27 : FnOk Tryz.prog 27 := ⟨_, Tryz.func27, by kernel_rfl, by kernel_rfl⟩
theorem fn28 : FnOk Tryz.prog 28 := ⟨_, Tryz.func28, by kernel_rfl, by kernel_rfl⟩
theorem fn29 : FnOk Tryz.prog 29 := ⟨_, Tryz.func29, by kernel_rfl, by kernel_rfl⟩
theorem fn34 : FnOk Tryz.prog 34 := ⟨_, Tryz.func34, by kernel_rfl, by kernel_rfl⟩
theorem fn38 : FnOk Tryz.prog 38 := ⟨_, Tryz.func38, by kernel_rfl, by kernel_rfl⟩
theorem fn40 : FnOk Tryz.prog 40 := ⟨_, Tryz.func40, by kernel_rfl, by kernel_rfl⟩
theorem fn41 : FnOk Tryz.prog 41 := ⟨_, Tryz.func41, by kernel_rfl, by kernel_rfl⟩
theorem fn42 : FnOk Tryz.prog 42 := ⟨_, Tryz.func42, by kernel_rfl, by kernel_rfl⟩
theorem fn43 : FnOk Tryz.prog 43 := ⟨_, Tryz.func43, by kernel_rfl, by kernel_rfl⟩
theorem fn44 : FnOk Tryz.prog 44 := ⟨_, Tryz.func44, by kernel_rfl, by kernel_rfl⟩
theorem fn45 : FnOk Tryz.prog 45 := ⟨_, Tryz.func45, by kernel_rfl, by kernel_rfl⟩
theorem fn46 : FnOk Tryz.prog 46 := ⟨_, Tryz.func46, by kernel_rfl, by kernel_rfl⟩
theorem fn47 : FnOk Tryz.prog 47 := ⟨_, Tryz.func47, by kernel_rfl, by kernel_rfl⟩
theorem fn48 : FnOk Tryz.prog 48 := ⟨_, Tryz.func48, by kernel_rfl, by kernel_rfl⟩
theorem fn49 : FnOk Tryz.prog 49 := ⟨_, Tryz.func49, by kernel_rfl, by kernel_rfl⟩
theorem fn50 : FnOk Tryz.prog 50 := ⟨_, Tryz.func50, by kernel_rfl, by kernel_rfl⟩
theorem fn51 : FnOk Tryz.prog 51 := ⟨_, Tryz.func51, by kernel_rfl, by kernel_rfl⟩
theorem fn52 : FnOk Tryz.prog 52 := ⟨_, Tryz.func52, by kernel_rfl, by kernel_rfl⟩
theorem fn53 : FnOk Tryz.prog 53 := ⟨_, Tryz.func53, by kernel_rfl, by kernel_rfl⟩
theorem fn54 : FnOk Tryz.prog 54 := ⟨_, Tryz.func54, by kernel_rfl, by kernel_rfl⟩
theorem fn55 : FnOk Tryz.prog 55 := ⟨_, Tryz.func55, by kernel_rfl, by kernel_rfl⟩
theorem fn56 : FnOk Tryz.prog 56 := ⟨_, Tryz.func56, by kernel_rfl, by kernel_rfl⟩
theorem fn57 : FnOk Tryz.prog 57 := ⟨_, Tryz.func57, by kernel_rfl, by kernel_rfl⟩
theorem fn58 : FnOk Tryz.prog 58 := ⟨_, Tryz.func58, by kernel_rfl, by kernel_rfl⟩
theorem fn64 : FnOk Tryz.prog 64 := ⟨_, Tryz.func64, by kernel_rfl, by kernel_rfl⟩
theorem fn68 : FnOk Tryz.prog 68 := ⟨_, Tryz.func68, by kernel_rfl, by kernel_rfl⟩
theorem fn69 : FnOk Tryz.prog 69 := ⟨_, Tryz.func69, by kernel_rfl, by kernel_rfl⟩
theorem fn70 : FnOk Tryz.prog 70 := ⟨_, Tryz.func70, by kernel_rfl, by kernel_rfl⟩
theorem fn71 : FnOk Tryz.prog 71 := ⟨_, Tryz.func71, by kernel_rfl, by kernel_rfl⟩
theorem fn72 : FnOk Tryz.prog 72 := ⟨_, Tryz.func72, by kernel_rfl, by kernel_rfl⟩
theorem fn73 : FnOk Tryz.prog 73 := ⟨_, Tryz.func73, by kernel_rfl, by kernel_rfl⟩
theorem fn74 : FnOk Tryz.prog 74 := ⟨_, Tryz.func74, by kernel_rfl, by kernel_rfl⟩
theorem fn75 : FnOk Tryz.prog 75 := ⟨_, Tryz.func75, by kernel_rfl, by kernel_rfl⟩
theorem fn85 : FnOk Tryz.prog 85 := ⟨_, Tryz.func85, by kernel_rfl, by kernel_rfl⟩
theorem fn86 : FnOk Tryz.prog 86 := ⟨_, Tryz.func86, by kernel_rfl, by kernel_rfl⟩
theorem fn87 : FnOk Tryz.prog 87 := ⟨_, Tryz.func87, by kernel_rfl, by kernel_rfl⟩
theorem fn88 : FnOk Tryz.prog 88 := ⟨_, Tryz.func88, by kernel_rfl, by kernel_rfl⟩
theorem fn89 : FnOk Tryz.prog 89 := ⟨_, Tryz.func89, by kernel_rfl, by kernel_rfl⟩
theorem fn92 : FnOk Tryz.prog 92 := ⟨_, Tryz.func92, by kernel_rfl, by kernel_rfl⟩
theorem fn93 : FnOk Tryz.prog 93 := ⟨_, Tryz.func93, by kernel_rfl, by kernel_rfl⟩
theorem fn94 : FnOk Tryz.prog 94 := ⟨_, Tryz.func94, by kernel_rfl, by kernel_rfl⟩
theorem fn100 : FnOk Tryz.prog 100 := ⟨_, Tryz.func100, by kernel_rfl, by kernel_rfl⟩
theorem fn112 : FnOk Tryz.prog 112 := ⟨_, Tryz.func112, by kernel_rfl, by kernel_rfl⟩
theorem fn117 : FnOk Tryz.prog 117 := ⟨_, Tryz.func117, by kernel_rfl, by kernel_rfl⟩
theorem fn118 : FnOk Tryz.prog 118 := ⟨_, Tryz.func118, by kernel_rfl, by kernel_rfl⟩
theorem fn137 : FnOk Tryz.prog 137 := ⟨_, Tryz.func137, by kernel_rfl, by kernel_rfl⟩
theorem fa25_0 : FA Tryz.prog 25 0 0 := FAmk (k := 0) Tryz.underlying25 rfl rfl (by kernel_rfl)
theorem fa51_0 : FA Tryz.prog 51 0 0 := FAmk (k := 0) Tryz.underlying51 rfl rfl (by kernel_rfl)
theorem fa51_1 : FA Tryz.prog 51 1 1 := FAmk (k := 0) Tryz.underlying51 rfl rfl (by kernel_rfl)
theorem fa51_2 : FA Tryz.prog 51 2 2 := FAmk (k := 0) Tryz.underlying51 rfl rfl (by kernel_rfl)
theorem fa51_3 : FA Tryz.prog 51 3 3 := FAmk (k := 0) Tryz.underlying51 rfl rfl (by kernel_rfl)
theorem fa51_4 : FA Tryz.prog 51 4 4 := FAmk (k := 0) Tryz.underlying51 rfl rfl (by kernel_rfl)
theorem fa51_5 : FA Tryz.prog 51 5 5 := FAmk (k := 0) Tryz.underlying51 rfl rfl (by kernel_rfl)
theorem fa51_6 : FA Tryz.prog 51 6 6 := FAmk (k := 0) Tryz.underlying51 rfl rfl (by kernel_rfl)
theorem fa51_7 : FA Tryz.prog 51 7 7 := FAmk (k := 0) Tryz.underlying51 rfl rfl (by kernel_rfl)
theorem hMixed : Tryz.prog.follows .mixedOrders = true := by kernel_rfl
end Go.Proofs.YtjnnhlbfgnopiaaGreatDoor
