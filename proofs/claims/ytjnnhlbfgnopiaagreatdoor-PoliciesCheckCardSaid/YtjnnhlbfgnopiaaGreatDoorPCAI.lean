/- What the law's proof leans on. No condition. -/
import Derived.Test.YtjnnhlbfgnopiaaGreatDoorPCAH
import Derived.Test.YtjnnhlbfgnopiaaGreatDoorPCAC
import Derived.Test.YtjnnhlbfgnopiaaGreatDoorPCAG
import Derived.Test.YtjnnhlbfgnopiaaGreatDoorProg
import Derived.KernelRfl
section
namespace Go.Proofs.YtjnnhlbfgnopiaaGreatDoor
open Go.Kw
set_option linter.unusedVariables false
set_option maxRecDepth 100000
theorem TImk {P : Program} {t : TypeId} {d : TypeDesc} {sz bts : Nat} {z : Value} (h : P.underlying t = some d) (h2 : (P.info? t).map (fun i => (i.size, i.bytes, i.zero)) = some (sz, bts, some z)) : TI P t d sz bts z := by
  obtain ⟨i, hi, hz⟩ := Option.map_eq_some_iff.1 h2
  simp only [Prod.mk.injEq] at hz
  exact ⟨h, i, hi, hz.1, hz.2.1, hz.2.2⟩
theorem FAmk {P : Program} {S : TypeId} {i off k : Nat} {fs : Array Field} {f : Field} (h1 : P.underlying S = some (.struct fs)) (h2 : fs[i]? = some f) (h3 : f.offset = off) (h4 : (P.info? f.type).map (·.size) = some (k + 1)) : FA P S i off := by
  obtain ⟨t, ht, hs⟩ := Option.map_eq_some_iff.1 h4
  exact ⟨fs, f, h1, h2, h3, t, ht, by omega⟩
theorem ti3 : TI Tryz.prog 3 (.int .i64) 1 8 (.int .i64 0) := TImk Tryz.underlying3 (by kernel_rfl)
theorem ti4 : TI Tryz.prog 4 (.bool) 1 1 (.bool false) := TImk Tryz.underlying4 (by kernel_rfl)
theorem ti5 : TI Tryz.prog 5 (.int .u8) 1 1 (.int .u8 0) := TImk Tryz.underlying5 (by kernel_rfl)
theorem ti9 : TI Tryz.prog 9 (.string) 1 16 (.string ⟨#[]⟩) := TImk Tryz.underlying9 (by kernel_rfl)
theorem ti23 : TI Tryz.prog 23 (.slice 51) 1 24 (.slice none 0 0) := TImk Tryz.underlying23 (by kernel_rfl)
noncomputable def sd25 : TypeDesc := (Tryz.prog.underlying 25).getD .bool
theorem ti25 : TI Tryz.prog 25 sd25 1 24 (.agg #[.slice none 0 0]) := TImk (by unfold sd25; rw [Tryz.underlying25]; rfl) (by kernel_rfl)
theorem ag25 : aggD sd25 = true := by unfold sd25; rw [Tryz.underlying25]; rfl
theorem ti34 : TI Tryz.prog 34 (.array 32 5) 32 32 (.agg ((List.replicate 32 (0 : UInt8)).map b8).toArray) := TImk Tryz.underlying34 (by kernel_rfl)
theorem ti35 : TI Tryz.prog 35 (.array 32 5) 32 32 (.agg ((List.replicate 32 (0 : UInt8)).map b8).toArray) := TImk Tryz.underlying35 (by kernel_rfl)
theorem ti39 : TI Tryz.prog 39 (.slice 5) 1 24 (.slice none 0 0) := TImk Tryz.underlying39 (by kernel_rfl)
theorem ti42 : TI Tryz.prog 42 (.slice 9) 1 24 (.slice none 0 0) := TImk Tryz.underlying42 (by kernel_rfl)
theorem ti46 : TI Tryz.prog 46 (.slice 9) 1 24 (.slice none 0 0) := TImk Tryz.underlying46 (by kernel_rfl)
theorem ti49 : TI Tryz.prog 49 (.slice 3) 1 24 (.slice none 0 0) := TImk Tryz.underlying49 (by kernel_rfl)
noncomputable def sd51 : TypeDesc := (Tryz.prog.underlying 51).getD .bool
theorem ti51 : TI Tryz.prog 51 sd51 8 120 (.agg #[.bool false, .slice none 0 0, .slice none 0 0, .slice none 0 0, .int .i64 0, .int .i64 0, .int .i64 0, .string ⟨#[]⟩]) := TImk (by unfold sd51; rw [Tryz.underlying51]; rfl) (by kernel_rfl)
theorem ag51 : aggD sd51 = true := by unfold sd51; rw [Tryz.underlying51]; rfl
theorem ti64 : TI Tryz.prog 64 (.array 64 5) 64 64 (.agg ((List.replicate 64 (0 : UInt8)).map b8).toArray) := TImk Tryz.underlying64 (by kernel_rfl)
theorem ti66 : TI Tryz.prog 66 (.int .u64) 1 8 (.int .u64 0) := TImk Tryz.underlying66 (by kernel_rfl)
theorem ti81 : TI Tryz.prog 81 (.pointer 42) 1 8 (.pointer none) := TImk Tryz.underlying81 (by kernel_rfl)
theorem ti82 : TI Tryz.prog 82 (.slice 81) 1 24 (.slice none 0 0) := TImk Tryz.underlying82 (by kernel_rfl)
noncomputable def sd92 : TypeDesc := (Tryz.prog.underlying 92).getD .bool
theorem ti92 : TI Tryz.prog 92 sd92 2 32 (.agg #[.pointer none, .slice none 0 0]) := TImk (by unfold sd92; rw [Tryz.underlying92]; rfl) (by kernel_rfl)
noncomputable def sd94 : TypeDesc := (Tryz.prog.underlying 94).getD .bool
theorem ti94 : TI Tryz.prog 94 sd94 1 16 (.nilIface) := TImk (by unfold sd94; rw [Tryz.underlying94]; rfl) (by kernel_rfl)
theorem ti125 : TI Tryz.prog 125 (.slice 39) 1 24 (.slice none 0 0) := TImk Tryz.underlying125 (by kernel_rfl)
theorem ti129 : TI Tryz.prog 129 (.map 9 4) 1 8 (.map none) := TImk Tryz.underlying129 (by kernel_rfl)
theorem ti130 : TI Tryz.prog 130 (.map 3 4) 1 8 (.map none) := TImk Tryz.underlying130 (by kernel_rfl)
theorem ti131 : TI Tryz.prog 131 (.int .u32) 1 4 (.int .u32 0) := TImk Tryz.underlying131 (by kernel_rfl)
theorem ti132 : TI Tryz.prog 132 (.array 16 131) 16 64 (.agg ((List.replicate 16 (0 : UInt32)).map v32).toArray) := TImk Tryz.underlying132 (by kernel_rfl)
noncomputable def sd148 : TypeDesc := (Tryz.prog.underlying 148).getD .bool
theorem ti148 : TI Tryz.prog 148 sd148 98 112 (.agg #[.int .u8 0, .int .u8 0, .int .u8 0, .int .u8 0, .int .u8 0, .int .u8 0, .int .u8 0, .int .u8 0, .int .u8 0, .int .u8 0, .int .u8 0, .int .u8 0, .int .u8 0, .int .u8 0, .int .u8 0, .int .u8 0, .int .u8 0, .int .u8 0, .int .u8 0, .int .u8 0, .int .u8 0, .int .u8 0, .int .u8 0, .int .u8 0, .int .u8 0, .int .u8 0, .int .u8 0, .int .u8 0, .int .u8 0, .int .u8 0, .int .u8 0, .int .u8 0, .int .u8 0, .int .u8 0, .int .u8 0, .int .u8 0, .int .u8 0, .int .u8 0, .int .u8 0, .int .u8 0, .int .u8 0, .int .u8 0, .int .u8 0, .int .u8 0, .int .u8 0, .int .u8 0, .int .u8 0, .int .u8 0, .int .u8 0, .int .u8 0, .int .u8 0, .int .u8 0, .int .u8 0, .int .u8 0, .int .u8 0, .int .u8 0, .int .u8 0, .int .u8 0, .int .u8 0, .int .u8 0, .int .u8 0, .int .u8 0, .int .u8 0, .int .u8 0, .int .u8 0, .int .u8 0, .int .u8 0, .int .u8 0, .int .u8 0, .int .u8 0, .int .u8 0, .int .u8 0, .int .u8 0, .int .u8 0, .int .u8 0, .int .u8 0, .int .u8 0, .int .u8 0, .int .u8 0, .int .u8 0, .int .u8 0, .int .u8 0, .int .u8 0, .int .u8 0, .int .u8 0, .int .u8 0, .int .u8 0, .int .u8 0, .int .u8 0, .int .u8 0, .int .u8 0, .int .u8 0, .int .u8 0, .int .u8 0, .int .u8 0, .int .u8 0, .int .i64 0, .int .i64 0]) := TImk (by unfold sd148; rw [Tryz.underlying148]; rfl) (by kernel_rfl)
theorem ag148 : aggD sd148 = true := by unfold sd148; rw [Tryz.underlying148]; rfl
theorem ti151 : TI Tryz.prog 151 (.array 8 5) 8 8 (.agg ((List.replicate 8 (0 : UInt8)).map b8).toArray) := TImk Tryz.underlying151 (by kernel_rfl)
theorem ti153 : TI Tryz.prog 153 (.int .u64) 1 8 (.int .u64 0) := TImk Tryz.underlying153 (by kernel_rfl)
theorem ti175 : TI Tryz.prog 175 (.array 4 5) 4 4 (.agg ((List.replicate 4 (0 : UInt8)).map b8).toArray) := TImk Tryz.underlying175 (by kernel_rfl)
theorem ti203 : TI Tryz.prog 203 (.pointer 205) 1 8 (.pointer none) := TImk Tryz.underlying203 (by kernel_rfl)
noncomputable def sd205 : TypeDesc := (Tryz.prog.underlying 205).getD .bool
theorem ti205 : TI Tryz.prog 205 sd205 1 16 (.agg #[.string ⟨#[]⟩]) := TImk (by unfold sd205; rw [Tryz.underlying205]; rfl) (by kernel_rfl)
theorem pl25 : placesOf Tryz.prog 25 = some [(0, 1)] := by kernel_rfl
theorem pl51 : placesOf Tryz.prog 51 = some [(0, 1), (1, 1), (2, 1), (3, 1), (4, 1), (5, 1), (6, 1), (7, 1)] := by kernel_rfl
theorem fn5 : FnOk Tryz.prog 5 := ⟨_, Tryz.func5, by kernel_rfl, by kernel_rfl⟩
theorem fn6 : FnOk Tryz.prog 6 := ⟨_, Tryz.func6, by kernel_rfl, by kernel_rfl⟩
theorem fn7 : FnOk Tryz.prog 7 := ⟨_, Tryz.func7, by kernel_rfl, by kernel_rfl⟩
theorem fn8 : FnOk Tryz.prog 8 := ⟨_, Tryz.func8, by kernel_rfl, by kernel_rfl⟩
theorem fn9 : FnOk Tryz.prog 9 := ⟨_, Tryz.func9, by kernel_rfl, by kernel_rfl⟩
theorem fn10 : FnOk Tryz.prog 10 := ⟨_, Tryz.func10, by kernel_rfl, by kernel_rfl⟩
theorem fn11 : FnOk Tryz.prog 11 := ⟨_, Tryz.func11, by kernel_rfl, by kernel_rfl⟩
theorem fn12 : FnOk Tryz.prog 12 := ⟨_, Tryz.func12, by kernel_rfl, by kernel_rfl⟩
theorem fn13 : FnOk Tryz.prog 13 := ⟨_, Tryz.func13, by kernel_rfl, by kernel_rfl⟩
theorem fn14 : FnOk Tryz.prog 14 := ⟨_, Tryz.func14, by kernel_rfl, by kernel_rfl⟩
theorem fn15 : FnOk Tryz.prog 15 := ⟨_, Tryz.func15, by kernel_rfl, by kernel_rfl⟩
theorem fn16 : FnOk Tryz.prog 16 := ⟨_, Tryz.func16, by kernel_rfl, by kernel_rfl⟩
theorem fn17 : FnOk Tryz.prog 17 := ⟨_, Tryz.func17, by kernel_rfl, by kernel_rfl⟩
theorem fn18 : FnOk Tryz.prog 18 := ⟨_, Tryz.func18, by kernel_rfl, by kernel_rfl⟩
theorem fn19 : FnOk Tryz.prog 19 := ⟨_, Tryz.func19, by kernel_rfl, by kernel_rfl⟩
theorem fn20 : FnOk Tryz.prog 20 := ⟨_, Tryz.func20, by kernel_rfl, by kernel_rfl⟩
theorem fn21 : FnOk Tryz.prog 21 := ⟨_, Tryz.func21, by kernel_rfl, by kernel_rfl⟩
theorem fn22 : FnOk Tryz.prog 22 := ⟨_, Tryz.func22, by kernel_rfl, by kernel_rfl⟩
theorem fn24 : FnOk Tryz.prog 24 := ⟨_, Tryz.func24, by kernel_rfl, by kernel_rfl⟩
theorem fn25 : FnOk Tryz.prog 25 := ⟨_, Tryz.func25, by kernel_rfl, by kernel_rfl⟩
theorem fn26 : FnOk Tryz.prog 26 := ⟨_, Tryz.func26, by kernel_rfl, by kernel_rfl⟩
theorem fn27 : FnOk Tryz.prog 27 := ⟨_, Tryz.func27, by kernel_rfl, by kernel_rfl⟩
theorem fn28 : FnOk Tryz.prog 28 := ⟨_, Tryz.func28, by kernel_rfl, by kernel_rfl⟩
theorem fn29 : FnOk Tryz.prog 29 := ⟨_, Tryz.func29, by kernel_rfl, by kernel_rfl⟩
theorem fn30 : FnOk Tryz.prog 30 := ⟨_, Tryz.func30, by kernel_rfl, by kernel_rfl⟩
theorem fn31 : FnOk Tryz.prog 31 := ⟨_, Tryz.func31, by kernel_rfl, by kernel_rfl⟩
theorem fn32 : FnOk Tryz.prog 32 := ⟨_, Tryz.func32, by kernel_rfl, by kernel_rfl⟩
theorem fn33 : FnOk Tryz.prog 33 := ⟨_, Tryz.func33, by kernel_rfl, by kernel_rfl⟩
theorem fn34 : FnOk Tryz.prog 34 := ⟨_, Tryz.func34, by kernel_rfl, by kernel_rfl⟩
theorem fn35 : FnOk Tryz.prog 35 := ⟨_, Tryz.func35, by kernel_rfl, by kernel_rfl⟩
theorem fn38 : FnOk Tryz.prog 38 := ⟨_, Tryz.func38, by kernel_rfl, by kernel_rfl⟩
theorem fn40 : FnOk Tryz.prog 40 := ⟨_, Tryz.func40, by kernel_rfl, by kernel_rfl⟩
theorem fn41 : FnOk Tryz.prog 41 := ⟨_, Tryz.func41, by kernel_rfl, by kernel_rfl⟩
theorem fn42 : FnOk Tryz.prog 42 := ⟨_, Tryz.func42, by kernel_rfl, by kernel_rfl⟩
theorem fn43 : FnOk Tryz.prog 43 := ⟨_, Tryz.func43, by kernel_rfl, by kernel_rfl⟩
theorem fn44 : FnOk Tryz.prog 44 := ⟨_, Tryz.func44, by kernel_rfl, by kernel_rfl⟩
theorem fn45 : FnOk Tryz.prog 45 := ⟨_, Tryz.func45, by kernel_rfl, by kernel_rfl⟩
theorem fn46 : FnOk Tryz.prog 46 := ⟨_, Tryz.func46, by kernel_rfl, by kernel_rfl⟩
theorem fn47 : FnOk Tryz.prog 47 := ⟨_, Tryz.func47, by kernel_rfl, by kernel_rfl⟩
theorem fn48 : FnOk Tryz.prog 48 := ⟨_, Tryz.func48, by kernel_rfl, by kernel_rfl⟩
theorem fn49 : FnOk Tryz.prog 49 := ⟨_, Tryz.func49, by kernel_rfl, by kernel_rfl⟩
theorem fn50 : FnOk Tryz.prog 50 := ⟨_, Tryz.func50, by kernel_rfl, by kernel_rfl⟩
theorem fn51 : FnOk Tryz.prog 51 := ⟨_, Tryz.func51, by kernel_rfl, by kernel_rfl⟩
theorem fn52 : FnOk Tryz.prog 52 := ⟨_, Tryz.func52, by kernel_rfl, by kernel_rfl⟩
theorem fn53 : FnOk Tryz.prog 53 := ⟨_, Tryz.func53, by kernel_rfl, by kernel_rfl⟩
theorem fn54 : FnOk Tryz.prog 54 := ⟨_, Tryz.func54, by kernel_rfl, by kernel_rfl⟩
theorem fn55 : FnOk Tryz.prog 55 := ⟨_, Tryz.func55, by kernel_rfl, by kernel_rfl⟩
theorem fn56 : FnOk Tryz.prog 56 := ⟨_, Tryz.func56, by kernel_rfl, by kernel_rfl⟩
theorem fn57 : FnOk Tryz.prog 57 := ⟨_, Tryz.func57, by kernel_rfl, by kernel_rfl⟩
theorem fn58 : FnOk Tryz.prog 58 := ⟨_, Tryz.func58, by kernel_rfl, by kernel_rfl⟩
theorem fn59 : FnOk Tryz.prog 59 := ⟨_, Tryz.func59, by kernel_rfl, by kernel_rfl⟩
theorem fn60 : FnOk Tryz.prog 60 := ⟨_, Tryz.func60, by kernel_rfl, by kernel_rfl⟩
theorem fn61 : FnOk Tryz.prog 61 := ⟨_, Tryz.func61, by kernel_rfl, by kernel_rfl⟩
theorem fn62 : FnOk Tryz.prog 62 := ⟨_, Tryz.func62, by kernel_rfl, by kernel_rfl⟩
theorem fn63 : FnOk Tryz.prog 63 := ⟨_, Tryz.func63, by kernel_rfl, by kernel_rfl⟩
theorem fn64 : FnOk Tryz.prog 64 := ⟨_, Tryz.func64, by kernel_rfl, by kernel_rfl⟩
theorem fn65 : FnOk Tryz.prog 65 := ⟨_, Tryz.func65, by kernel_rfl, by kernel_rfl⟩
theorem fn66 : FnOk Tryz.prog 66 := ⟨_, Tryz.func66, by kernel_rfl, by kernel_rfl⟩
theorem fn67 : FnOk Tryz.prog 67 := ⟨_, Tryz.func67, by kernel_rfl, by kernel_rfl⟩
theorem fn68 : FnOk Tryz.prog 68 := ⟨_, Tryz.func68, by kernel_rfl, by kernel_rfl⟩
theorem fn69 : FnOk Tryz.prog 69 := ⟨_, Tryz.func69, by kernel_rfl, by kernel_rfl⟩
theorem fn70 : FnOk Tryz.prog 70 := ⟨_, Tryz.func70, by kernel_rfl, by kernel_rfl⟩
theorem fn71 : FnOk Tryz.prog 71 := ⟨_, Tryz.func71, by kernel_rfl, by kernel_rfl⟩
theorem fn72 : FnOk Tryz.prog 72 := ⟨_, Tryz.func72, by kernel_rfl, by kernel_rfl⟩
theorem fn73 : FnOk Tryz.prog 73 := ⟨_, Tryz.func73, by kernel_rfl, by kernel_rfl⟩
theorem fn74 : FnOk Tryz.prog 74 := ⟨_, Tryz.func74, by kernel_rfl, by kernel_rfl⟩
theorem fn75 : FnOk Tryz.prog 75 := ⟨_, Tryz.func75, by kernel_rfl, by kernel_rfl⟩
theorem fn76 : FnOk Tryz.prog 76 := ⟨_, Tryz.func76, by kernel_rfl, by kernel_rfl⟩
theorem fn77 : FnOk Tryz.prog 77 := ⟨_, Tryz.func77, by kernel_rfl, by kernel_rfl⟩
theorem fn78 : FnOk Tryz.prog 78 := ⟨_, Tryz.func78, by kernel_rfl, by kernel_rfl⟩
theorem fn85 : FnOk Tryz.prog 85 := ⟨_, Tryz.func85, by kernel_rfl, by kernel_rfl⟩
theorem fn86 : FnOk Tryz.prog 86 := ⟨_, Tryz.func86, by kernel_rfl, by kernel_rfl⟩
theorem fn87 : FnOk Tryz.prog 87 := ⟨_, Tryz.func87, by kernel_rfl, by kernel_rfl⟩
theorem fn88 : FnOk Tryz.prog 88 := ⟨_, Tryz.func88, by kernel_rfl, by kernel_rfl⟩
theorem fn89 : FnOk Tryz.prog 89 := ⟨_, Tryz.func89, by kernel_rfl, by kernel_rfl⟩
theorem fn92 : FnOk Tryz.prog 92 := ⟨_, Tryz.func92, by kernel_rfl, by kernel_rfl⟩
theorem fn93 : FnOk Tryz.prog 93 := ⟨_, Tryz.func93, by kernel_rfl, by kernel_rfl⟩
theorem fn94 : FnOk Tryz.prog 94 := ⟨_, Tryz.func94, by kernel_rfl, by kernel_rfl⟩
theorem fn97 : FnOk Tryz.prog 97 := ⟨_, Tryz.func97, by kernel_rfl, by kernel_rfl⟩
theorem fn98 : FnOk Tryz.prog 98 := ⟨_, Tryz.func98, by kernel_rfl, by kernel_rfl⟩
theorem fn99 : FnOk Tryz.prog 99 := ⟨_, Tryz.func99, by kernel_rfl, by kernel_rfl⟩
theorem fn100 : FnOk Tryz.prog 100 := ⟨_, Tryz.func100, by kernel_rfl, by kernel_rfl⟩
theorem fn101 : FnOk Tryz.prog 101 := ⟨_, Tryz.func101, by kernel_rfl, by kernel_rfl⟩
theorem fn102 : FnOk Tryz.prog 102 := ⟨_, Tryz.func102, by kernel_rfl, by kernel_rfl⟩
theorem fn103 : FnOk Tryz.prog 103 := ⟨_, Tryz.func103, by kernel_rfl, by kernel_rfl⟩
theorem fn112 : FnOk Tryz.prog 112 := ⟨_, Tryz.func112, by kernel_rfl, by kernel_rfl⟩
theorem fn117 : FnOk Tryz.prog 117 := ⟨_, Tryz.func117, by kernel_rfl, by kernel_rfl⟩
theorem fn118 : FnOk Tryz.prog 118 := ⟨_, Tryz.func118, by kernel_rfl, by kernel_rfl⟩
theorem fn121 : FnOk Tryz.prog 121 := ⟨_, Tryz.func121, by kernel_rfl, by kernel_rfl⟩
theorem fn122 : FnOk Tryz.prog 122 := ⟨_, Tryz.func122, by kernel_rfl, by kernel_rfl⟩
theorem fn123 : FnOk Tryz.prog 123 := ⟨_, Tryz.func123, by kernel_rfl, by kernel_rfl⟩
theorem fn124 : FnOk Tryz.prog 124 := ⟨_, Tryz.func124, by kernel_rfl, by kernel_rfl⟩
theorem fn137 : FnOk Tryz.prog 137 := ⟨_, Tryz.func137, by kernel_rfl, by kernel_rfl⟩
theorem fn142 : FnOk Tryz.prog 142 := ⟨_, Tryz.func142, by kernel_rfl, by kernel_rfl⟩
theorem fn143 : FnOk Tryz.prog 143 := ⟨_, Tryz.func143, by kernel_rfl, by kernel_rfl⟩
theorem fn153 : FnOk Tryz.prog 153 := ⟨_, Tryz.func153, by kernel_rfl, by kernel_rfl⟩
theorem fn154 : FnOk Tryz.prog 154 := ⟨_, Tryz.func154, by kernel_rfl, by kernel_rfl⟩
theorem fn155 : FnOk Tryz.prog 155 := ⟨_, Tryz.func155, by kernel_rfl, by kernel_rfl⟩
theorem fn156 : FnOk Tryz.prog 156 := ⟨_, Tryz.func156, by kernel_rfl, by kernel_rfl⟩
theorem fn163 : FnOk Tryz.prog 163 := ⟨_, Tryz.func163, by kernel_rfl, by kernel_rfl⟩
theorem fa25_0 : FA Tryz.prog 25 0 0 := FAmk (k := 0) Tryz.underlying25 rfl rfl (by kernel_rfl)
theorem fa51_0 : FA Tryz.prog 51 0 0 := FAmk (k := 0) Tryz.underlying51 rfl rfl (by kernel_rfl)
theorem fa51_1 : FA Tryz.prog 51 1 1 := FAmk (k := 0) Tryz.underlying51 rfl rfl (by kernel_rfl)
theorem fa51_2 : FA Tryz.prog 51 2 2 := FAmk (k := 0) Tryz.underlying51 rfl rfl (by kernel_rfl)
theorem fa51_3 : FA Tryz.prog 51 3 3 := FAmk (k := 0) Tryz.underlying51 rfl rfl (by kernel_rfl)
theorem fa51_4 : FA Tryz.prog 51 4 4 := FAmk (k := 0) Tryz.underlying51 rfl rfl (by kernel_rfl)
theorem fa51_5 : FA Tryz.prog 51 5 5 := FAmk (k := 0) Tryz.underlying51 rfl rfl (by kernel_rfl)
theorem fa51_6 : FA Tryz.prog 51 6 6 := FAmk (k := 0) Tryz.underlying51 rfl rfl (by kernel_rfl)
theorem fa51_7 : FA Tryz.prog 51 7 7 := FAmk (k := 0) Tryz.underlying51 rfl rfl (by kernel_rfl)
theorem fa148_0 : FA Tryz.prog 148 0 0 := FAmk (k := 63) Tryz.underlying148 rfl rfl (by kernel_rfl)
theorem fa148_1 : FA Tryz.prog 148 1 64 := FAmk (k := 31) Tryz.underlying148 rfl rfl (by kernel_rfl)
theorem fa148_2 : FA Tryz.prog 148 2 96 := FAmk (k := 0) Tryz.underlying148 rfl rfl (by kernel_rfl)
theorem fa148_3 : FA Tryz.prog 148 3 97 := FAmk (k := 0) Tryz.underlying148 rfl rfl (by kernel_rfl)
theorem eg35 : Tryz.prog.eqGuardType Tryz.prog.depth 35 = false := by kernel_rfl
theorem hMixed : Tryz.prog.follows .mixedOrders = true := by kernel_rfl
end Go.Proofs.YtjnnhlbfgnopiaaGreatDoor
end
section
namespace Go.Proofs.YtjnnhlbfgnopiaaGreatDoor
open Go.Kw
set_option linter.unusedVariables false
set_option linter.unusedSimpArgs false
set_option maxRecDepth 100000
theorem word_ok (o : List UInt8) (w : World) (ho : o.length = 4) :
    Ret Tryz.prog 163 [.agg (o.map b8).toArray] w (fun v w' => v = v32 (word4 o) ∧ St w [] w' []) := by
  refine enter Tryz.func163 rfl Tryz.ntmps163 rfl ?_
  have hS := St.refl w []
  refine zS<|zR<|zB (v := .agg _) hS rfl rfl fun b1 w1 hS2=>zq 1 rfl<|zN<|zT<|zS<|zR<|zV (r_ixA (m := 0) (sz := 1) ti175.und ti5 rfl rfl Sd (Nat.zero_add _ |>.trans (Nat.mul_one _))) ?_; refine zV (r_loadB1 ti5.und rfl rfl (hS2.heap Z0) (map_gt b8 o 0 Om))<|zV (c_u8_u32 ti131.und ⟨_, ti5.und⟩ rfl)<|zV (r_shl32 (s := 24) rfl rfl Sd) ?_; refine zV (r_ixA (m := 1) (sz := 1) ti175.und ti5 rfl rfl Sd (Nat.zero_add _ |>.trans (Nat.mul_one _))) ?_; refine zV (r_loadB1 ti5.und rfl rfl (hS2.heap Z0) (map_gt b8 o 1 Om))<|zV (c_u8_u32 ti131.und ⟨_, ti5.und⟩ rfl)<|zV (r_shl32 (s := 16) rfl rfl Sd) ?_; refine zV (r_or32 rfl rfl)<|zV (r_ixA (m := 2) (sz := 1) ti175.und ti5 rfl rfl Sd (Nat.zero_add _ |>.trans (Nat.mul_one _))) ?_; refine zV (r_loadB1 ti5.und rfl rfl (hS2.heap Z0) (map_gt b8 o 2 Om))<|zV (c_u8_u32 ti131.und ⟨_, ti5.und⟩ rfl)<|zV (r_shl32 (s := 8) rfl rfl Sd) ?_; refine zV (r_or32 rfl rfl)<|zV (r_ixA (m := 3) (sz := 1) ti175.und ti5 rfl rfl Sd (Nat.zero_add _ |>.trans (Nat.mul_one _))) ?_; refine zV (r_loadB1 ti5.und rfl rfl (hS2.heap Z0) (map_gt b8 o 3 Om))<|zV (c_u8_u32 ti131.und ⟨_, ti5.und⟩ rfl)<|zV (r_or32 rfl rfl)<|zq 1 rfl<|zN<|zT<|zU<|ret1 Tryz.results163 ?_
  exact ⟨rfl, hS2.fin⟩

theorem octets_ok (n : UInt32) (w : World) :
    Ret Tryz.prog 142 [v32 n] w (fun v w' => v = .agg ((octs n).map b8).toArray ∧ St w [] w' []) := by
  refine enter Tryz.func142 rfl Tryz.ntmps142 rfl ?_
  have hS := St.refl w []
  refine zS<|zR<|zA (C := ((List.replicate 4 (0 : UInt8)).map b8)) hS ti175 rfl fun b2 w1 hS2=>zN<|zT<|zS<|zR<|zq 1 rfl<|zV (r_shr32 (s := 24) rfl rfl Sd) ?_; refine zV (c_u32_u8 ti5.und ⟨_, ti131.und⟩ rfl)<|zq 1 rfl<|zV (r_shr32 (s := 16) rfl rfl Sd) ?_; refine zV (c_u32_u8 ti5.und ⟨_, ti131.und⟩ rfl)<|zq 1 rfl<|zV (r_shr32 (s := 8) rfl rfl Sd) ?_; refine zV (c_u32_u8 ti5.und ⟨_, ti131.und⟩ rfl)<|zq 1 rfl<|zV (c_u32_u8 ti5.und ⟨_, ti131.und⟩ rfl)<|zV (r_buildA (vs := [.int .u8 _, .int .u8 _, .int .u8 _, .int .u8 _]) ti175 ti5 rfl rfl rfl (by intro c hc; simp only [List.mem_cons, List.not_mem_nil, or_false] at hc; rcases hc with rfl | rfl | rfl | rfl <;> rfl)) ?_; refine zY (x_storeW [] hS2 ti175 rfl rfl (by rfl) (by rfl) (one_b8 [_, _, _, _])) ?_; intro w3 hS4; simp only [ca, na] at hS4; refine zN<|zT<|zU<|retc Tryz.results142 ⟨_, rfl, run_loadVar_blk ti175 rfl (hS4.heap Z0) (by rfl)⟩ ?_
  exact ⟨rfl, hS4.fin⟩

theorem rotl_ok (x : UInt32) (k : Nat) (w : World) (h0 : 0 < k) (h : k < 32) :
    Ret Tryz.prog 155 [v32 x, vi k] w (fun v w' => v = v32 (rotl x k) ∧ St w [] w' []) := by
  have h1 := and31 k h
  have h2 := sub31 k h
  refine enter Tryz.func155 rfl Tryz.ntmps155 rfl ?_
  have hS := St.refl w []
  refine zS<|zR<|zq 1 rfl<|zN<|zT<|zS<|zR<|zq 1 rfl<|zV (c_i64_u64 ti66.und ⟨_, ti3.und⟩ rfl Om)<|zV (r_and64 (b := 31) rfl rfl)<|zq 1 rfl<|zN<|zT<|zS<|zR<|zq 2 rfl<|zV (r_shl32 rfl rfl (by rw [h1]; omega)) ?_; refine zq 2 rfl<|zV (r_sub64 (a := 32) rfl rfl)<|zV (r_shr32 rfl rfl (by rw [h2]; omega)) ?_; refine zV (r_or32 rfl rfl)<|zq 1 rfl<|zN<|zT<|zU<|ret1 Tryz.results155 ?_
  refine ⟨congrArg v32 ?_, hS.fin⟩
  rw [rotl, h1, h2]

theorem longOctets_ok (n : UInt64) (w : World) :
    Ret Tryz.prog 123 [v64 n] w (fun v w' => v = .agg ((octs8 n).map b8).toArray ∧ St w [] w' []) := by
  refine enter Tryz.func123 rfl Tryz.ntmps123 rfl ?_
  have hS := St.refl w []
  refine zS<|zR<|zA (C := ((List.replicate 8 (0 : UInt8)).map b8)) hS ti151 rfl fun b2 w1 hS2=>zN<|zT<|zS<|zR<|zq 1 rfl<|zV (r_shr64 (s := 32) rfl rfl Sd) ?_; refine zV (c_u64_u32 ti131.und ⟨_, ti153.und⟩ rfl)<|zE fn142 rfl hS2 (octets_ok _ _) fun w3 hS5=>zq 1 rfl<|zV (c_u64_u32 ti131.und ⟨_, ti153.und⟩ rfl)<|zE fn142 rfl hS5 (octets_ok _ _) fun w6 hS8=>zA (C := ((List.replicate 4 (0 : UInt8)).map b8)) hS8 ti175 rfl fun b3 w9 hS10=>zA (C := ((List.replicate 4 (0 : UInt8)).map b8)) hS10 ti175 rfl fun b4 w11 hS12=> ?_; refine wl_exs (x_storeW [_] hS12 ti175 rfl rfl Ln Ln On) rfl ?_; intro w13 hS14; simp only [ca, na] at hS14; refine wl_exs (x_storeW [] hS14 ti175 rfl rfl Ln Ln On) rfl ?_; intro w15 hS16; simp only [ca, na] at hS16; refine zN<|zT<|zS<|zR<|zV (r_ixA (m := 0) (sz := 1) ti175.und ti5 rfl rfl Sd (Nat.zero_add _ |>.trans (Nat.mul_one _))) ?_; refine zV (r_loadB1 ti5.und rfl rfl (hS16.heap Z1) rfl)<|zV (r_ixA (m := 1) (sz := 1) ti175.und ti5 rfl rfl Sd (Nat.zero_add _ |>.trans (Nat.mul_one _))) ?_; refine zV (r_loadB1 ti5.und rfl rfl (hS16.heap Z1) rfl)<|zV (r_ixA (m := 2) (sz := 1) ti175.und ti5 rfl rfl Sd (Nat.zero_add _ |>.trans (Nat.mul_one _))) ?_; refine zV (r_loadB1 ti5.und rfl rfl (hS16.heap Z1) rfl)<|zV (r_ixA (m := 3) (sz := 1) ti175.und ti5 rfl rfl Sd (Nat.zero_add _ |>.trans (Nat.mul_one _))) ?_; refine zV (r_loadB1 ti5.und rfl rfl (hS16.heap Z1) rfl)<|zV (r_ixA (m := 0) (sz := 1) ti175.und ti5 rfl rfl Sd (Nat.zero_add _ |>.trans (Nat.mul_one _))) ?_; refine zV (r_loadB1 ti5.und rfl rfl (hS16.heap Z0) rfl)<|zV (r_ixA (m := 1) (sz := 1) ti175.und ti5 rfl rfl Sd (Nat.zero_add _ |>.trans (Nat.mul_one _))) ?_
  refine zV (r_loadB1 ti5.und rfl rfl (hS16.heap Z0) rfl)<|zV (r_ixA (m := 2) (sz := 1) ti175.und ti5 rfl rfl Sd (Nat.zero_add _ |>.trans (Nat.mul_one _))) ?_; refine zV (r_loadB1 ti5.und rfl rfl (hS16.heap Z0) rfl)<|zV (r_ixA (m := 3) (sz := 1) ti175.und ti5 rfl rfl Sd (Nat.zero_add _ |>.trans (Nat.mul_one _))) ?_; refine zV (r_loadB1 ti5.und rfl rfl (hS16.heap Z0) rfl)<|zV (r_buildA (vs := [.int .u8 _, .int .u8 _, .int .u8 _, .int .u8 _, .int .u8 _, .int .u8 _, .int .u8 _, .int .u8 _]) ti151 ti5 rfl rfl rfl (by intro c hc; simp only [List.mem_cons, List.not_mem_nil, or_false] at hc; rcases hc with rfl | rfl | rfl | rfl | rfl | rfl | rfl | rfl <;> rfl)) ?_; refine zY (x_storeW [_, _] hS16 ti151 rfl rfl (by rfl) (by simp) (one_b8 [_, _, _, _, _, _, _, _])) ?_; intro w17 hS18; simp only [ca, na] at hS18; refine zN<|zT<|zU<|retc Tryz.results123 ⟨_, rfl, run_loadVar_blk ti151 rfl (hS18.heap Z2) (by rfl)⟩ ?_
  exact ⟨rfl, hS18.fin⟩

theorem turn_ok (ws : List UInt32) (b r i : Nat) (w : World) (hw : ws.length = 16) (hb : At w b 0 (ws.map v32)) (hr : r < 8) (hi : i < 16) :
    Ret Tryz.prog 154 [pt b 0, vi r, vi i] w (fun v w' => v = v32 (turnW ws r i) ∧ St w [] w' []) := by
  refine enter Tryz.func154 rfl Tryz.ntmps154 rfl ?_
  have hS := St.refl w []
  refine zS<|zR<|zq 1 rfl<|zN<|zT<|zS<|zR<|zq 2 rfl<|zV (r_addn (b := 1) rfl rfl Om)<|zq 1 rfl<|zV (r_addn rfl rfl Om)<|zV (r_remn (b := 16) rfl rfl Om)<|zV (r_nilCheck rfl)<|zV (r_ixA (sz := 1) ti132.und ti131 rfl rfl Sd (Nat.zero_add _ |>.trans (Nat.mul_one _))) ?_; refine zV (r_loadAt1 ti131.und rfl rfl (hb.st hS) (map_gt _ _ _ Sd) (Nat.zero_add _)) ?_; refine zq 1 rfl<|zV (r_addn (a := 5) rfl rfl Om)<|zE fn155 rfl hS (rotl_ok _ _ _ Sd Sd) fun w1 hS3=> ?_; refine zq 1 rfl<|zV (r_muln (a := 16) rfl rfl Om)<|zq 1 rfl<|zV (r_addn rfl rfl Om)<|zV (r_addn (b := 1) rfl rfl Om)<|zV (c_i64_u64 ti153.und ⟨_, ti3.und⟩ rfl Om)<|zV (r_mul64 (a := 2654435769) rfl rfl)<|zV (c_u64_u32 ti131.und ⟨_, ti153.und⟩ rfl)<|zV (r_xor32 rfl rfl)<|zq 1 rfl<|zN<|zT<|zU<|ret1 Tryz.results154 ?_
  exact ⟨rfl, hS3.fin⟩

theorem wordsOf_ok (s : List UInt8) (w : World) (hs : s.length = 64) :
    Ret Tryz.prog 153 [.agg (s.map b8).toArray] w (fun v w' => v = .agg ((wordsL s).map v32).toArray ∧ St w [] w' []) := by
  refine enter Tryz.func153 rfl Tryz.ntmps153 rfl ?_
  have hS := St.refl w []
  refine zS<|zR<|zB (v := .agg _) hS rfl rfl fun b1 w1 hS2=>zA (C := ((List.replicate 16 (0 : UInt32)).map v32)) hS2 ti132 rfl fun b2 w3 hS4=>zN<|zT<|zS<|zR<|zA (C := ((List.replicate 16 (0 : UInt32)).map v32)) hS4 ti132 rfl fun b3 w5 hS6=>zN<|zT<|zS<|zS<|zR<|zq 1 rfl<|zN<|zT<|zI ?_
  refine c_loopE [1, 2, 3] (fun d e w' => ∃ (k : Nat), Kw.look e 5 = vi k ∧ d = 16 - k ∧ St w [] w' [.blk b3 (cl ((upto 16 (wordsF s) 0 k).map v32) 132), .blk b2 (cl ((List.replicate 16 (0 : UInt32)).map v32) 132), .blk b1 (cl (s.map b8) 64)] ∧ (k ≤ 16)) (16) ?_ ?_
  · exact ⟨0, rfl, rfl, by rw [upto_zero]; exact hS6, by omega⟩
  · rintro d10 e7 w8 ⟨k, hc0_5, rfl, hS9, hI0_0⟩ -
    refine c_set (d := 5) hc0_5<|zS<|zR ?_
    refine wl_dec (r_lss rfl rfl) rfl (fun h3_0 => ?_) (fun h3_0 => ?_)
    · refine zN<|zT<|zS<|zt rfl<|zK<|zT<|zS<|zI<|zS<|zR<|zq 2 rfl<|zN<|zT<|zR<|zq 2 rfl<|zV (r_muln (a := 4) rfl rfl Om)<|zq 1 rfl<|zV (r_muln (a := 4) rfl rfl Om)<|zV (r_addn (b := 4) rfl rfl Om)<|zV (r_sa1_lh ti64.und ti5 rfl rfl rfl Om Om Om)<|zV (r_s2a ti175.und rfl Om)<|zV (r_loadBPm ti175 rfl rfl (hS9.heap Z2) Ln) ?_
      refine zE fn163 rfl hS9 (word_ok _ _ Ln) fun w11 hS13=> ?_; refine zV (r_ixA (sz := 1) ti132.und ti131 rfl rfl Sd (Nat.zero_add _ |>.trans (Nat.mul_one _))) ?_; refine zY (x_store1m [] hS13 ti131 rfl rfl rfl Sd) ?_; intro w14 hS15; simp only [ca, na] at hS15; refine zN<|zJ<|zT<|zR<|zV (r_addn (b := 1) rfl rfl Om)<|zq 1 rfl<|zN<|zT ?_
      refine ⟨16 - (k + 1), _, by omega, rfl, ⟨k + 1, rfl, rfl, ?_, by omega⟩, ⟨rfl, rfl, rfl, trivial⟩⟩
      rw [← upto_set _ _ _ _ Om]
      exact hS15
    refine zN<|zT<|zS<|zf rfl<|zO<|zM<|zM<|c_inE<|zT<|zS<|zR<|zV (r_loadB ti132 rfl rfl (hS9.heap Z0) Ln) ?_; refine wl_exs (x_storeW [_] hS9 ti132 rfl rfl Ln Ln On) rfl ?_; intro w16 hS17; simp only [ca, na] at hS17; refine zN<|zT<|zU<|retc Tryz.results153 ⟨_, rfl, run_loadVar_blk ti132 rfl (hS17.heap Z1) Ln⟩ ?_
    obtain rfl : k = 16 := by omega
    exact ⟨by rw [upto_full]; rfl, hS17.fin⟩

theorem stateOf_ok (ws : List UInt32) (w : World) (hw : ws.length = 16) :
    Ret Tryz.prog 156 [.agg (ws.map v32).toArray] w (fun v w' => v = .agg ((stateL ws).map b8).toArray ∧ St w [] w' []) := by
  refine enter Tryz.func156 rfl Tryz.ntmps156 rfl ?_
  have hS := St.refl w []
  refine zS<|zR<|zB (v := .agg _) hS rfl rfl fun b1 w1 hS2=>zA (C := ((List.replicate 64 (0 : UInt8)).map b8)) hS2 ti64 rfl fun b2 w3 hS4=>zN<|zT<|zS<|zR<|zA (C := ((List.replicate 64 (0 : UInt8)).map b8)) hS4 ti64 rfl fun b3 w5 hS6=>zN<|zT<|zS<|zS<|zR<|zV (r_loadB ti132 rfl rfl (hS6.heap Z2) Ln) ?_; refine zq 1 rfl<|zN<|zT<|zI ?_
  refine c_loopE [2, 3, 7] (fun d e w' => ∃ (k : Nat), Kw.look e 8 = vi k ∧ d = 16 - k ∧ St w [] w' [.blk b3 (cl ((stateTo ws k).map b8) 64), .blk b2 (cl ((List.replicate 64 (0 : UInt8)).map b8) 64), .blk b1 (cl (ws.map v32) 132)] ∧ (k ≤ 16)) (16) ?_ ?_
  · exact ⟨0, rfl, rfl, by rw [stateTo_zero]; exact hS6, by omega⟩
  · rintro d10 e7 w8 ⟨k, hc0_8, rfl, hS9, hI0_0⟩ -
    refine c_set (d := 8) hc0_8<|zS<|zR ?_
    refine wl_dec (r_lss rfl rfl) rfl (fun h3_0 => ?_) (fun h3_0 => ?_)
    · refine zN<|zT<|zS<|zt rfl<|zK<|zT<|zS<|zI<|zS<|zR<|zq 1 rfl<|zV (r_index1 ti132.und ti131 rfl rfl rfl Sd (map_gt _ _ _ Sd)) ?_
      refine zq 2 rfl<|zN<|zT<|zS<|zR<|zq 1 rfl<|zE fn142 rfl hS9 (octets_ok _ _) fun w11 hS13=>zA (C := ((List.replicate 4 (0 : UInt8)).map b8)) hS13 ti175 rfl fun b6 w14 hS15=> ?_; refine wl_exs (x_storeW [] hS15 ti175 rfl rfl Ln Ln On) rfl ?_; intro w16 hS17; simp only [ca, na] at hS17; refine zN<|zT<|c_drawS 4 hMixed hS17 ?_; intro w18 hS19; refine zG 0 rfl hS19 (fun wF hF => r_move (v := .int .i64 _) rfl) ?_; refine zG 1 rfl hS19 (fun wF hF => r_muln (a := 4) rfl rfl Om) ?_; refine zG 2 rfl hS19 (fun wF hF => r_sa1_l ti64.und ti5 rfl rfl Om) ?_; refine zG 3 rfl hS19 (fun wF hF => r_sa1_0 ti175.und ti5 rfl ) ?_; refine zGT rfl ?_; refine zX (x_copym [_] hS19 ti39.und ti5 rfl rfl (Row.of_at (at_all (hS19.heap Z0))) Ln Sd Ln (fun _ => rfl) _ rfl) ?_; rintro _ w20 ⟨rfl, hS21⟩; simp only [ca, na] at hS21; refine zN<|zJ<|zT<|zR<|zV (r_addn (b := 1) rfl rfl Om)<|zq 1 rfl<|zN<|zT ?_
      refine ⟨16 - (k + 1), _, by omega, rfl, ⟨k + 1, rfl, rfl, ?_, by omega⟩, ⟨rfl, rfl, rfl, trivial⟩⟩
      rw [← stateTo_step _ _ Om]
      exact hS21.sub (List.sublist_cons_self _ _)
    refine zN<|zT<|zS<|zf rfl<|zO<|zM<|zM<|c_inE<|zT<|zS<|zR<|zV (r_loadB ti64 rfl rfl (hS9.heap Z0) Ln) ?_; refine wl_exs (x_storeW [_] hS9 ti64 rfl rfl Ln Ln On) rfl ?_; intro w22 hS23; simp only [ca, na] at hS23; refine zN<|zT<|zU<|retc Tryz.results156 ⟨_, rfl, run_loadVar_blk ti64 rfl (hS23.heap Z1) Ln⟩ ?_
    obtain rfl : k = 16 := by omega
    exact ⟨by rw [stateTo_full], hS23.fin⟩

theorem hex_ok (bs : List UInt8) (a : Option Addr) (c : Nat) (w : World) (hb : Row w a (bs.map b8)) (hl : 2 * bs.length ≤ 140737488355328) :
    Ret Tryz.prog 15 [.slice a bs.length c] w (fun v w' => v = .string ⟨(hexL bs).toArray⟩ ∧ St w [] w' []) := by
  refine enter Tryz.func15 rfl Tryz.ntmps15 rfl ?_
  have hS := St.refl w []
  refine zS<|zR<|zq 1 rfl<|zN<|zT<|zS<|zR<|zq 1 rfl<|zV (r_len (T := 39) rfl ti39.und rfl _ rfl)<|zV (r_muln (a := 2) rfl rfl Om)<|zX (x_make_row hS ti39.und ti5 rfl rfl Sd Sd) ?_; rintro _ w1 ⟨a9, rfl, hS2⟩; refine zq 1 rfl<|zN<|zT<|zS<|zS<|zR<|zq 1 rfl<|zV (r_len (T := 39) rfl ti39.und rfl _ rfl)<|zq 1 rfl<|zN<|zT<|zI ?_
  refine c_loopE [2, 10, 11] (fun d e w' => ∃ (k : Nat) (a3 : Option Addr) (c3 : Nat), Kw.look e 12 = vi k ∧ Kw.look e 3 = .slice a3 (2 * k) c3 ∧ d = bs.length - k ∧ St w [] w' [.row (.slice a3 (2 * k) c3) 5 1 (2 * k) ((hexL (bs.take k)).map b8)] ∧ (k ≤ bs.length)) (bs.length - 0) ?_ ?_
  · exact ⟨0, _, _, rfl, rfl, rfl, by simpa [hexL] using hS2, by omega⟩
  · rintro d6 e3 w4 ⟨k, a3, c3, hc0_12, hc0_3, rfl, hS5, hI0_0⟩ -
    refine c_set (d := 12) hc0_12<|c_set (d := 3) hc0_3<|zS<|zR ?_
    refine wl_dec (r_lss rfl rfl) rfl (fun h3_0 => ?_) (fun h3_0 => ?_)
    · refine zN<|zT<|zS<|zt rfl<|zK<|zT<|zS<|zI<|zS<|zR<|zV (r_ixS ti39.und ti5 rfl rfl (hb.st hS5) Sd Ln) ?_
      refine zV (r_loadS1 ti5.und rfl rfl (hb.st hS5) (by rw [Nat.mul_one]; exact map_gt _ _ _ Sd)) ?_; refine zq 1 rfl<|zN<|zT<|c_drawS 8 hMixed hS5 ?_; intro w7 hS8; refine zG 0 rfl hS8 (fun wF hF => r_move (v := .slice _ _ _) rfl) ?_; refine zG 1 rfl hS8 (fun wF hF => r_move (v := .int .u8 _) rfl) ?_; refine zG 2 rfl hS8 (fun wF hF => r_shr8 (s := 4) rfl rfl Sd) ?_; refine zG 3 rfl hS8 (fun wF hF => r_indexStr (s := ⟨hexDs.toArray⟩) ti9.und rfl rfl (get_gt hexDs _ (shr4_lt _))) ?_; refine zG 4 rfl hS8 (fun wF hF => r_move (v := .int .u8 _) rfl) ?_; refine zG 5 rfl hS8 (fun wF hF => r_and8 (b := 15) rfl rfl) ?_; refine zG 6 rfl hS8 (fun wF hF => r_indexStr (s := ⟨hexDs.toArray⟩) ti9.und rfl rfl (get_gt hexDs _ (and15_lt _))) ?_; refine zG1 7 ?_; refine o_exv rfl (x_lit (vs := ((hexd (gt bs k)).map b8)) hS8 ti39.und ti5 rfl rfl rfl On (by decide)) rfl ?_; rintro _ w9 ⟨b23, rfl, hS10⟩
      refine ⟨hS10.drop1, ?_⟩
      refine zGT rfl ?_; refine zX (x_append [_] hS10 ti39.und ti5 rfl (by decide) rfl rfl (Row.of_at (at_all (hS10.heap Z0))) Ln Oc Sd Sd _ rfl) ?_; rintro _ w11 ⟨aq13, cq13, rfl, hcq13, hS12⟩; simp only [ca, na] at hS12; refine zq 1 rfl<|zN<|zJ<|zT<|zR<|zV (r_addn (b := 1) rfl rfl Om)<|zq 1 rfl<|zN<|zT ?_
      refine ⟨bs.length - (k + 1), _, by omega, rfl, ⟨k + 1, _, _, rfl, rfl, rfl, ?_, by omega⟩, ⟨rfl, rfl, rfl, trivial⟩⟩
      rw [hexL_step _ _ Om, List.map_append]
      exact hS12.drop1
    refine zN<|zT<|zS<|zf rfl<|zO<|zM<|zM<|c_inE<|zT<|zS<|zR<|zq 1 rfl<|zV (r_bytesToStr ti9.und ti39.und ti5.und rfl (St.rowAt hS5 Z0) Ln) ?_; refine zq 1 rfl<|zN<|zT<|zU<|ret1 Tryz.results15 ?_
    obtain rfl : k = bs.length := by omega
    exact ⟨by rw [List.take_length]; rfl, hS5.fin⟩

theorem landed_ok (w : World) :
    Ret Tryz.prog 5 [] w (fun v w' => v = .bool true ∧ St w [] w' []) := by
  refine enter Tryz.func5 rfl Tryz.ntmps5 rfl ?_
  have hS := St.refl w []
  refine zS<|zR<|zq 1 rfl<|zN<|zT<|zS<|zR ?_; refine wl_exv (x_lit (vs := (([1] : List UInt8).map b8)) hS ti39.und ti5 rfl rfl rfl On (by decide)) rfl ?_; rintro _ w1 ⟨b1, rfl, hS2⟩; refine zE fn15 rfl hS2 (hex_ok [1] _ _ _ (Row.of_at (at_all (hS2.heap Z0))) (by decide)) fun w3 hS5=>wl_dec_t (r_eqlStr rfl rfl) rfl (by decide)<|zq 1 rfl<|zN<|zT<|zU<|ret1 Tryz.results5 ?_
  exact ⟨rfl, hS5.fin⟩

end Go.Proofs.YtjnnhlbfgnopiaaGreatDoor
end
section
namespace Go.Proofs.YtjnnhlbfgnopiaaGreatDoor
open Go.Kw
set_option linter.unusedVariables false
set_option linter.unusedSimpArgs false
set_option maxRecDepth 100000
theorem stir_ok (s : List UInt8) (w : World) (hs : s.length = 64) :
    Ret Tryz.prog 143 [.agg (s.map b8).toArray] w (fun v w' => v = .agg ((stirL s).map b8).toArray ∧ St w [] w' []) := by
  refine enter Tryz.func143 rfl Tryz.ntmps143 rfl ?_
  have hS := St.refl w []
  refine zS<|zR<|zB (v := .agg _) hS rfl rfl fun b1 w1 hS2=>zA (C := ((List.replicate 64 (0 : UInt8)).map b8)) hS2 ti64 rfl fun b2 w3 hS4=>zN<|zT<|zS<|zR<|zV (r_loadB ti64 rfl rfl (hS4.heap Z1) Ln) ?_; refine zE fn153 rfl hS4 (wordsOf_ok _ _ Ln) fun w5 hS7=> ?_; refine zA (C := ((List.replicate 16 (0 : UInt32)).map v32)) hS7 ti132 rfl fun b3 w8 hS9=> ?_; refine wl_exs (x_storeW [] hS9 ti132 rfl rfl Ln Ln On) rfl ?_; intro w10 hS11; simp only [ca, na] at hS11; refine zN<|zT<|zS<|zS<|zR<|zq 1 rfl<|zN<|zT<|zI ?_
  refine c_loopE [2, 3] (fun d e w' => ∃ (r : Nat), Kw.look e 8 = vi r ∧ d = 8 - r ∧ St w [] w' [.blk b3 (cl ((stirOut (wordsL s) r).map v32) 132), .blk b2 (cl ((List.replicate 64 (0 : UInt8)).map b8) 64), .blk b1 (cl (s.map b8) 64)] ∧ (r ≤ 8)) (8) ?_ ?_
  · exact ⟨0, rfl, rfl, hS11, by omega⟩
  · rintro d15 e12 w13 ⟨r, hc0_8, rfl, hS14, hI0_0⟩ -
    refine c_set (d := 8) hc0_8<|zS<|zR ?_
    refine wl_dec (r_lss rfl rfl) rfl (fun h3_0 => ?_) (fun h3_0 => ?_)
    · refine zN<|zT<|zS<|zt rfl<|zK<|zT<|zS<|zI<|zS<|zR<|zq 2 rfl<|zN<|zT<|zS<|zR<|zq 1 rfl<|zN<|zT<|zI ?_
      refine c_loopE [2, 3, 4, 8] (fun d e w' => ∃ (i : Nat), Kw.look e 11 = vi i ∧ d = 16 - i ∧ St w [] w' [.blk b3 (cl ((stirIn (stirOut (wordsL s) r) r i).map v32) 132), .blk b2 (cl ((List.replicate 64 (0 : UInt8)).map b8) 64), .blk b1 (cl (s.map b8) 64)] ∧ (i ≤ 16)) (16) ?_ ?_
      · exact ⟨0, rfl, rfl, hS14, by omega⟩
      · rintro d19 e16 w17 ⟨i, hc1_11, rfl, hS18, hI1_0⟩ -
        refine c_set (d := 11) hc1_11<|zS<|zR ?_
        refine wl_dec (r_lss rfl rfl) rfl (fun h6_0 => ?_) (fun h6_0 => ?_)
        · refine zN<|zT<|zS<|zt rfl<|zK<|zT<|zS<|zI<|zS<|zR<|zq 2 rfl<|zN<|zT<|zS<|c_drawS 6 hMixed hS18 ?_
          intro w20 hS21; refine zG 0 rfl hS21 (fun wF hF => r_move (v := .int .i64 _) rfl) ?_; refine zG 1 rfl hS21 (fun wF hF => r_ixA (sz := 1) ti132.und ti131 rfl rfl Sd (Nat.zero_add _ |>.trans (Nat.mul_one _))) ?_; refine zG 2 rfl hS21 (fun wF hF => r_loadB1 ti131.und rfl rfl (hF.heap Z0) (map_gt _ _ _ Sd)) ?_; refine zG 3 rfl hS21 (fun wF hF => r_move (v := .int .i64 _) rfl) ?_; refine zG 4 rfl hS21 (fun wF hF => r_move (v := .int .i64 _) rfl) ?_; refine zG1 5 ?_; refine o_call rfl (r_call fn154 rfl rfl) rfl (turn_ok _ _ _ _ _ Ln (at_all (hS21.heap Z0)) Sd Sd) ?_; rintro _ w22 ⟨rfl, hx23⟩; have hS24 := hS21.ext hx23
          refine ⟨hS24, ?_⟩
          refine zGT rfl ?_; refine zV (r_add32 rfl rfl)<|zV (r_ixA (sz := 1) ti132.und ti131 rfl rfl Sd (Nat.zero_add _ |>.trans (Nat.mul_one _))) ?_; refine zY (x_store1m [] hS24 ti131 rfl rfl rfl Sd) ?_; intro w25 hS26; simp only [ca, na] at hS26; refine zN<|zT<|c_drawS 9 hMixed hS26 ?_; intro w27 hS28; refine zG 0 rfl hS28 (fun wF hF => r_move (v := .int .i64 _) rfl) ?_; refine zG 1 rfl hS28 (fun wF hF => r_addn (b := 9) rfl rfl Om) ?_; refine zG 2 rfl hS28 (fun wF hF => r_remn (b := 16) rfl rfl Om) ?_; refine zG 3 rfl hS28 (fun wF hF => r_ixA (sz := 1) ti132.und ti131 rfl rfl Sd (Nat.zero_add _ |>.trans (Nat.mul_one _))) ?_; refine zG 4 rfl hS28 (fun wF hF => r_loadB1 ti131.und rfl rfl (hF.heap Z0) (map_gt _ _ _ Sd)) ?_; refine zG 5 rfl hS28 (fun wF hF => r_move (v := .int .i64 _) rfl) ?_; refine zG 6 rfl hS28 (fun wF hF => r_ixA (sz := 1) ti132.und ti131 rfl rfl Sd (Nat.zero_add _ |>.trans (Nat.mul_one _))) ?_; refine zG 7 rfl hS28 (fun wF hF => r_loadB1 ti131.und rfl rfl (hF.heap Z0) (map_gt _ _ _ Sd)) ?_; refine zG1 8 ?_; refine o_call rfl (r_call fn155 rfl rfl) rfl (rotl_ok _ 11 _ Sd Sd) ?_; rintro _ w29 ⟨rfl, hx30⟩; have hS31 := hS28.ext hx30
          refine ⟨hS31, ?_⟩
          refine zGT rfl ?_; refine zV (r_xor32 rfl rfl)<|zV (r_ixA (sz := 1) ti132.und ti131 rfl rfl Sd (Nat.zero_add _ |>.trans (Nat.mul_one _))) ?_; refine zY (x_store1m [] hS31 ti131 rfl rfl rfl Sd) ?_; intro w32 hS33; simp only [ca, na] at hS33; refine zN<|zJ<|zT<|zR<|zV (r_addn (b := 1) rfl rfl Om)<|zq 1 rfl<|zN<|zT ?_
          exact ⟨16 - (i + 1), _, by omega, rfl, ⟨i + 1, rfl, rfl, hS33, by omega⟩, ⟨rfl, rfl, rfl, rfl, trivial⟩⟩
        refine zN<|zT<|zS<|zf rfl<|zO<|zM<|zM<|c_inE<|zJ<|zT ?_
        obtain rfl : i = 16 := by omega
        refine zR<|zV (r_addn (b := 1) rfl rfl Om)<|zq 1 rfl<|zN<|zT ?_
        exact ⟨8 - (r + 1), _, by omega, rfl, ⟨r + 1, rfl, rfl, hS18, by omega⟩, ⟨rfl, rfl, trivial⟩⟩
    refine zN<|zT<|zS<|zf rfl<|zO<|zM<|zM<|c_inE<|zT<|zS<|zR<|zV (r_loadB ti132 rfl rfl (hS14.heap Z0) Ln) ?_; refine zE fn156 rfl hS14 (stateOf_ok _ _ Ln) fun w34 hS36=> ?_; refine wl_exs (x_storeW [_] hS36 ti64 rfl rfl Ln Ln On) rfl ?_; intro w37 hS38; simp only [ca, na] at hS38; refine zN<|zT<|zU<|retc Tryz.results143 ⟨_, rfl, run_loadVar_blk ti64 rfl (hS38.heap Z1) Ln⟩ ?_
    obtain rfl : r = 8 := by omega
    exact ⟨rfl, hS38.fin⟩

theorem rwords_ok (s : List UInt8) (w : World) (hs : s.length = 64) :
    Ret Tryz.prog 101 [.agg (s.map b8).toArray] w (fun v w' => v = .agg ((wordsL s).map v32).toArray ∧ St w [] w' []) := by
  refine enter Tryz.func101 rfl Tryz.ntmps101 rfl ?_
  have hS := St.refl w []
  refine zS<|zR<|zB (v := .agg _) hS rfl rfl fun b1 w1 hS2=>zA (C := ((List.replicate 16 (0 : UInt32)).map v32)) hS2 ti132 rfl fun b2 w3 hS4=>zN<|zT<|zS<|zR<|zA (C := ((List.replicate 16 (0 : UInt32)).map v32)) hS4 ti132 rfl fun b3 w5 hS6=>zN<|zT<|zS<|zS<|zR<|zV (r_loadB ti64 rfl rfl (hS6.heap Z2) Ln) ?_; refine zq 1 rfl<|zN<|zT<|zI ?_
  refine c_loopE [2, 3, 6] (fun d e w' => ∃ (k : Nat), Kw.look e 7 = vi k ∧ d = 64 - k ∧ St w [] w' [.blk b3 (cl ((rwTo s k).map v32) 132), .blk b2 (cl ((List.replicate 16 (0 : UInt32)).map v32) 132), .blk b1 (cl (s.map b8) 64)] ∧ (k ≤ 64)) (64) ?_ ?_
  · exact ⟨0, rfl, rfl, hS6, by omega⟩
  · rintro d10 e7 w8 ⟨k, hc0_7, rfl, hS9, hI0_0⟩ -
    refine c_set (d := 7) hc0_7<|zS<|zR ?_
    refine wl_dec (r_lss rfl rfl) rfl (fun h3_0 => ?_) (fun h3_0 => ?_)
    · refine zN<|zT<|zS<|zt rfl<|zK<|zT<|zS<|zI<|zS<|zR<|zq 1 rfl<|zV (r_index1 ti64.und ti5 rfl rfl rfl Sd (map_gt _ _ _ Sd)) ?_
      refine zq 2 rfl<|zN<|zT<|zR<|zq 1 rfl<|zV (r_quon (b := 4) rfl rfl Om Om)<|zq 1 rfl<|zV (r_quon (b := 4) rfl rfl Om Om)<|zV (r_ixA (sz := 1) ti132.und ti131 rfl rfl Sd (Nat.zero_add _ |>.trans (Nat.mul_one _))) ?_; refine zV (r_loadB1 ti131.und rfl rfl (hS9.heap Z0) (map_gt _ _ _ Sd)) ?_; refine zV (r_shl32 (s := 8) rfl rfl Sd) ?_; refine zq 1 rfl<|zV (c_u8_u32 ti131.und ⟨_, ti5.und⟩ rfl)<|zV (r_or32 rfl rfl)<|zV (r_ixA (sz := 1) ti132.und ti131 rfl rfl Sd (Nat.zero_add _ |>.trans (Nat.mul_one _))) ?_; refine zY (x_store1m [] hS9 ti131 rfl rfl rfl Sd) ?_; intro w11 hS12; simp only [ca, na] at hS12; refine zN<|zJ<|zT<|zR<|zV (r_addn (b := 1) rfl rfl Om)<|zq 1 rfl<|zN<|zT ?_
      exact ⟨64 - (k + 1), _, by omega, rfl, ⟨k + 1, rfl, rfl, hS12, by omega⟩, ⟨rfl, rfl, rfl, trivial⟩⟩
    refine zN<|zT<|zS<|zf rfl<|zO<|zM<|zM<|c_inE<|zT<|zS<|zR<|zV (r_loadB ti132 rfl rfl (hS9.heap Z0) Ln) ?_; refine wl_exs (x_storeW [_] hS9 ti132 rfl rfl Ln Ln On) rfl ?_; intro w13 hS14; simp only [ca, na] at hS14; refine zN<|zT<|zU<|retc Tryz.results101 ⟨_, rfl, run_loadVar_blk ti132 rfl (hS14.heap Z1) Ln⟩ ?_
    obtain rfl : k = 64 := by omega
    exact ⟨by rw [rwTo_full s hs], hS14.fin⟩

theorem roctets_ok (ws : List UInt32) (w : World) (hw : ws.length = 16) :
    Ret Tryz.prog 103 [.agg (ws.map v32).toArray] w (fun v w' => v = .agg ((stateL ws).map b8).toArray ∧ St w [] w' []) := by
  refine enter Tryz.func103 rfl Tryz.ntmps103 rfl ?_
  have hS := St.refl w []
  refine zS<|zR<|zB (v := .agg _) hS rfl rfl fun b1 w1 hS2=>zA (C := ((List.replicate 64 (0 : UInt8)).map b8)) hS2 ti64 rfl fun b2 w3 hS4=>zN<|zT<|zS<|zR<|zA (C := ((List.replicate 64 (0 : UInt8)).map b8)) hS4 ti64 rfl fun b3 w5 hS6=>zN<|zT<|zS<|zS<|zR<|zq 1 rfl<|zN<|zT<|zI ?_
  refine c_loopE [1, 2, 3] (fun d e w' => ∃ (k : Nat), Kw.look e 5 = vi k ∧ d = 64 - k ∧ St w [] w' [.blk b3 (cl ((upto 64 (roF ws) 0 k).map b8) 64), .blk b2 (cl ((List.replicate 64 (0 : UInt8)).map b8) 64), .blk b1 (cl (ws.map v32) 132)] ∧ (k ≤ 64)) (64) ?_ ?_
  · exact ⟨0, rfl, rfl, by rw [upto_zero]; exact hS6, by omega⟩
  · rintro d10 e7 w8 ⟨k, hc0_5, rfl, hS9, hI0_0⟩ -
    refine c_set (d := 5) hc0_5<|zS<|zR ?_
    refine wl_dec (r_lss rfl rfl) rfl (fun h3_0 => ?_) (fun h3_0 => ?_)
    · refine zN<|zT<|zS<|zt rfl<|zK<|zT<|zS<|zI<|zS<|zR<|zq 2 rfl<|zN<|zT<|zR<|zq 2 rfl<|zV (r_quon (b := 4) rfl rfl Om Om)<|zV (r_ixA (sz := 1) ti132.und ti131 rfl rfl Sd (Nat.zero_add _ |>.trans (Nat.mul_one _))) ?_
      refine zV (r_loadB1 ti131.und rfl rfl (hS9.heap Z2) (map_gt _ _ _ Sd)) ?_; refine zq 1 rfl<|zV (r_remn (b := 4) rfl rfl Om)<|zV (r_muln (a := 8) rfl rfl Om)<|zV (r_subn (a := 24) rfl rfl Om Om)<|zV (r_shr32 rfl rfl Sd) ?_; refine zV (c_u32_u8 ti5.und ⟨_, ti131.und⟩ rfl)<|zV (r_ixA (sz := 1) ti64.und ti5 rfl rfl Sd (Nat.zero_add _ |>.trans (Nat.mul_one _))) ?_; refine zY (x_store1m [] hS9 ti5 rfl rfl rfl Sd) ?_; intro w11 hS12; simp only [ca, na] at hS12; refine zN<|zJ<|zT<|zR<|zV (r_addn (b := 1) rfl rfl Om)<|zq 1 rfl<|zN<|zT ?_
      refine ⟨64 - (k + 1), _, by omega, rfl, ⟨k + 1, rfl, rfl, ?_, by omega⟩, ⟨rfl, rfl, rfl, trivial⟩⟩
      rw [← upto_set _ _ _ _ Om]
      exact hS12
    refine zN<|zT<|zS<|zf rfl<|zO<|zM<|zM<|c_inE<|zT<|zS<|zR<|zV (r_loadB ti64 rfl rfl (hS9.heap Z0) Ln) ?_; refine wl_exs (x_storeW [_] hS9 ti64 rfl rfl Ln Ln On) rfl ?_; intro w13 hS14; simp only [ca, na] at hS14; refine zN<|zT<|zU<|retc Tryz.results103 ⟨_, rfl, run_loadVar_blk ti64 rfl (hS14.heap Z1) Ln⟩ ?_
    obtain rfl : k = 64 := by omega
    exact ⟨by rw [upto_full, ro_full], hS14.fin⟩

theorem rturn_ok (n : UInt32) (k : Nat) (w : World) (h0 : 0 < k) (h : k < 32) :
    Ret Tryz.prog 102 [v32 n, vi k] w (fun v w' => v = v32 (rotl n k) ∧ St w [] w' []) := by
  refine enter Tryz.func102 rfl Tryz.ntmps102 rfl ?_
  have hS := St.refl w []
  refine zS<|zR<|zq 1 rfl<|zN<|zT<|zS<|c_drawS 7 hMixed hS ?_; intro w1 hS2; refine zG 0 rfl hS2 (fun wF hF => r_move (v := .int .u32 _) rfl) ?_; refine zG 1 rfl hS2 (fun wF hF => r_move (v := .int .i64 _) rfl) ?_; refine zG 2 rfl hS2 (fun wF hF => r_shl32 rfl rfl Sd) ?_; refine zG 3 rfl hS2 (fun wF hF => r_move (v := .int .u32 _) rfl) ?_; refine zG 4 rfl hS2 (fun wF hF => r_move (v := .int .i64 _) rfl) ?_; refine zG 5 rfl hS2 (fun wF hF => r_subn (a := 32) rfl rfl Om Om) ?_; refine zG 6 rfl hS2 (fun wF hF => r_shr32 rfl rfl Sd) ?_; refine zGT rfl ?_; refine zV (r_or32 rfl rfl)<|zq 1 rfl<|zN<|zT<|zU<|ret1 Tryz.results102 ?_
  exact ⟨rfl, hS2.fin⟩

theorem rstir_ok (s : List UInt8) (w : World) (hs : s.length = 64) :
    Ret Tryz.prog 78 [.agg (s.map b8).toArray] w (fun v w' => v = .agg ((stirL s).map b8).toArray ∧ St w [] w' []) := by
  refine enter Tryz.func78 rfl Tryz.ntmps78 rfl ?_
  have hS := St.refl w []
  refine zS<|zR<|zB (v := .agg _) hS rfl rfl fun b1 w1 hS2=>zA (C := ((List.replicate 64 (0 : UInt8)).map b8)) hS2 ti64 rfl fun b2 w3 hS4=>zN<|zT<|zS<|zR<|zV (r_loadB ti64 rfl rfl (hS4.heap Z1) Ln) ?_; refine zE fn101 rfl hS4 (rwords_ok _ _ Ln) fun w5 hS7=> ?_; refine zA (C := ((List.replicate 16 (0 : UInt32)).map v32)) hS7 ti132 rfl fun b3 w8 hS9=> ?_; refine wl_exs (x_storeW [] hS9 ti132 rfl rfl Ln Ln On) rfl ?_; intro w10 hS11; simp only [ca, na] at hS11; refine zN<|zT<|zS<|zS<|zR<|zq 1 rfl<|zN<|zT<|zI ?_
  refine c_loopE [2, 3] (fun d e w' => ∃ (r : Nat), Kw.look e 10 = vi r ∧ d = 8 - r ∧ St w [] w' [.blk b3 (cl ((stirOut (wordsL s) r).map v32) 132), .blk b2 (cl ((List.replicate 64 (0 : UInt8)).map b8) 64), .blk b1 (cl (s.map b8) 64)] ∧ (r ≤ 8)) (8) ?_ ?_
  · exact ⟨0, rfl, rfl, hS11, by omega⟩
  · rintro d15 e12 w13 ⟨r, hc0_10, rfl, hS14, hI0_0⟩ -
    refine c_set (d := 10) hc0_10<|zS<|zR ?_
    refine wl_dec (r_lss rfl rfl) rfl (fun h3_0 => ?_) (fun h3_0 => ?_)
    · refine zN<|zT<|zS<|zt rfl<|zK<|zT<|zS<|zI<|zS<|zR<|zq 2 rfl<|zN<|zT<|zS<|zR<|zq 1 rfl<|zN<|zT<|zI ?_
      refine c_loopE [2, 3, 4, 10] (fun d e w' => ∃ (i : Nat), Kw.look e 13 = vi i ∧ d = 16 - i ∧ St w [] w' [.blk b3 (cl ((stirIn (stirOut (wordsL s) r) r i).map v32) 132), .blk b2 (cl ((List.replicate 64 (0 : UInt8)).map b8) 64), .blk b1 (cl (s.map b8) 64)] ∧ (i ≤ 16)) (16) ?_ ?_
      · exact ⟨0, rfl, rfl, hS14, by omega⟩
      · rintro d19 e16 w17 ⟨i, hc1_13, rfl, hS18, hI1_0⟩ -
        refine c_set (d := 13) hc1_13<|zS<|zR ?_
        refine wl_dec (r_lss rfl rfl) rfl (fun h6_0 => ?_) (fun h6_0 => ?_)
        · refine zN<|zT<|zS<|zt rfl<|zK<|zT<|zS<|zI<|zS<|zR<|zq 2 rfl<|zN<|zT<|zS<|zR<|zq 1 rfl<|zV (r_addn (b := 1) rfl rfl Om)<|zq 1 rfl<|zV (r_addn rfl rfl Om)<|zV (r_remn (b := 16) rfl rfl Om)<|zq 1 rfl<|zV (r_addn (b := 9) rfl rfl Om)<|zV (r_remn (b := 16) rfl rfl Om)<|zq 2 rfl<|zN ?_
          refine zT<|zS<|c_drawS 17 hMixed hS18 ?_; intro w20 hS21; refine zG 0 rfl hS21 (fun wF hF => r_move (v := .int .i64 _) rfl) ?_; refine zG 1 rfl hS21 (fun wF hF => r_ixA (sz := 1) ti132.und ti131 rfl rfl Sd (Nat.zero_add _ |>.trans (Nat.mul_one _))) ?_; refine zG 2 rfl hS21 (fun wF hF => r_loadB1 ti131.und rfl rfl (hF.heap Z0) (map_gt _ _ _ Sd)) ?_; refine zG 3 rfl hS21 (fun wF hF => r_move (v := .int .i64 _) rfl) ?_; refine zG 4 rfl hS21 (fun wF hF => r_ixA (sz := 1) ti132.und ti131 rfl rfl Sd (Nat.zero_add _ |>.trans (Nat.mul_one _))) ?_; refine zG 5 rfl hS21 (fun wF hF => r_loadB1 ti131.und rfl rfl (hF.heap Z0) (map_gt _ _ _ Sd)) ?_; refine zG 6 rfl hS21 (fun wF hF => r_move (v := .int .i64 _) rfl) ?_; refine zG 7 rfl hS21 (fun wF hF => r_addn (a := 5) rfl rfl Om) ?_; refine zG 9 rfl hS21 (fun wF hF => r_move (v := .int .i64 _) rfl) ?_; refine zG 10 rfl hS21 (fun wF hF => r_muln (a := 16) rfl rfl Om) ?_; refine zG 11 rfl hS21 (fun wF hF => r_move (v := .int .i64 _) rfl) ?_; refine zG 12 rfl hS21 (fun wF hF => r_addn rfl rfl Om) ?_; refine zG 13 rfl hS21 (fun wF hF => r_addn (b := 1) rfl rfl Om) ?_; refine zG 14 rfl hS21 (fun wF hF => c_i64_u32 ti131.und ⟨_, ti3.und⟩ rfl Om) ?_; refine zG 15 rfl hS21 (fun wF hF => r_mul32 (a := 2654435769) rfl rfl) ?_; refine zG1 8 ?_; refine o_call rfl (r_call fn102 rfl rfl) rfl (rturn_ok _ _ _ Sd Sd) ?_; rintro _ w22 ⟨rfl, hx23⟩; have hS24 := hS21.ext hx23
          refine ⟨hS24, ?_⟩
          refine zG 16 rfl hS24 (fun wF hF => r_xor32 rfl rfl) ?_; refine zGT rfl ?_; refine zV (r_add32 rfl rfl)<|zV (r_ixA (sz := 1) ti132.und ti131 rfl rfl Sd (Nat.zero_add _ |>.trans (Nat.mul_one _))) ?_; refine zY (x_store1m [] hS24 ti131 rfl rfl rfl Sd) ?_; intro w25 hS26; simp only [ca, na] at hS26; refine zN<|zT<|c_drawS 7 hMixed hS26 ?_; intro w27 hS28; refine zG 0 rfl hS28 (fun wF hF => r_move (v := .int .i64 _) rfl) ?_; refine zG 1 rfl hS28 (fun wF hF => r_ixA (sz := 1) ti132.und ti131 rfl rfl Sd (Nat.zero_add _ |>.trans (Nat.mul_one _))) ?_; refine zG 2 rfl hS28 (fun wF hF => r_loadB1 ti131.und rfl rfl (hF.heap Z0) (map_gt _ _ _ Sd)) ?_; refine zG 3 rfl hS28 (fun wF hF => r_move (v := .int .i64 _) rfl) ?_; refine zG 4 rfl hS28 (fun wF hF => r_ixA (sz := 1) ti132.und ti131 rfl rfl Sd (Nat.zero_add _ |>.trans (Nat.mul_one _))) ?_; refine zG 5 rfl hS28 (fun wF hF => r_loadB1 ti131.und rfl rfl (hF.heap Z0) (map_gt _ _ _ Sd)) ?_; refine zG1 6 ?_; refine o_call rfl (r_call fn102 rfl rfl) rfl (rturn_ok _ 11 _ Sd Sd) ?_; rintro _ w29 ⟨rfl, hx30⟩; have hS31 := hS28.ext hx30
          refine ⟨hS31, ?_⟩
          refine zGT rfl ?_; refine zV (r_xor32 rfl rfl)<|zV (r_ixA (sz := 1) ti132.und ti131 rfl rfl Sd (Nat.zero_add _ |>.trans (Nat.mul_one _))) ?_; refine zY (x_store1m [] hS31 ti131 rfl rfl rfl Sd) ?_; intro w32 hS33; simp only [ca, na] at hS33; refine zN<|zJ<|zT<|zR<|zV (r_addn (b := 1) rfl rfl Om)<|zq 1 rfl<|zN<|zT ?_
          refine ⟨16 - (i + 1), _, by omega, rfl, ⟨i + 1, rfl, rfl, ?_, by omega⟩, ⟨rfl, rfl, rfl, rfl, trivial⟩⟩
          simp only [stirIn, stirStep, unIn, unStep, ← rTurnW_eq]
          exact hS33
        refine zN<|zT<|zS<|zf rfl<|zO<|zM<|zM<|c_inE<|zJ<|zT ?_
        obtain rfl : i = 16 := by omega
        refine zR<|zV (r_addn (b := 1) rfl rfl Om)<|zq 1 rfl<|zN<|zT ?_
        exact ⟨8 - (r + 1), _, by omega, rfl, ⟨r + 1, rfl, rfl, hS18, by omega⟩, ⟨rfl, rfl, trivial⟩⟩
    refine zN<|zT<|zS<|zf rfl<|zO<|zM<|zM<|c_inE<|zT<|zS<|zR<|zV (r_loadB ti132 rfl rfl (hS14.heap Z0) Ln) ?_; refine zE fn103 rfl hS14 (roctets_ok _ _ Ln) fun w34 hS36=> ?_; refine wl_exs (x_storeW [_] hS36 ti64 rfl rfl Ln Ln On) rfl ?_; intro w37 hS38; simp only [ca, na] at hS38; refine zN<|zT<|zU<|retc Tryz.results78 ⟨_, rfl, run_loadVar_blk ti64 rfl (hS38.heap Z1) Ln⟩ ?_
    obtain rfl : r = 8 := by omega
    exact ⟨rfl, hS38.fin⟩

end Go.Proofs.YtjnnhlbfgnopiaaGreatDoor
end
section
namespace Go.Proofs.YtjnnhlbfgnopiaaGreatDoor
open Go.Kw
set_option linter.unusedVariables false
set_option linter.unusedSimpArgs false
set_option maxRecDepth 100000
theorem clone_ok (l : List UInt8) (a : Option Addr) (c : Nat) (w : World) (hb : Row w a (l.map b8)) (hn : l.length ≤ 140737488351232) :
    Ret Tryz.prog 76 [.slice a l.length c] w (fun v w' => ∃ a' c', v = .slice a' (l).length c' ∧ (l).length ≤ c' ∧ St w [] w' [.row (.slice a' (l).length c') 5 1 (l).length ((l).map b8)]) := by
  refine enter Tryz.func76 rfl Tryz.ntmps76 rfl ?_
  have hS := St.refl w []
  refine zS<|zR<|zq 1 rfl<|zN<|zT<|zS<|zS<|zR<|zq 1 rfl ?_
  refine wl_dec (r_eqlSn ti39.und rfl rfl) rfl (fun h1_1 => ?_) (fun h1_1 => ?_)
  · refine zN<|zT<|zt rfl<|zS<|zR<|zq 1 rfl<|zN<|zT<|zU<|zL<|ret1 Tryz.results76 ?_
    first | (obtain rfl := nil_of_none hb (by assumption); exact ⟨none, 0, rfl, Nat.le_refl _, hS.nilRow⟩) | (rw [Nat.zero_add] at *; exact ⟨_, _, rfl, by assumption, hS⟩)
  refine zN<|zT<|zf rfl<|zK<|zT<|zS<|zR<|zX (x_lit (vs := []) hS ti39.und ti5 rfl rfl rfl one_nil (by decide)) ?_; rintro _ w1 ⟨b5, rfl, hS2⟩
  have hS3 := St.toRow (l1 := []) (sz := 1) (n := 0) (cap := 0) hS2 (Nat.le_refl _) (by decide) rfl
  simp only [List.nil_append, Nat.zero_mul, List.take_zero] at hS3
  refine zq 1 rfl<|zX (x_append [] hS3 ti39.und ti5 rfl (by decide) rfl rfl (hb.st hS3) Ln Oc Om Om _ rfl) ?_; rintro _ w4 ⟨aq6, cq6, rfl, hcq6, hS5⟩; simp only [ca, na] at hS5; refine zq 1 rfl<|zN<|zT<|zU<|ret1 Tryz.results76 ?_
  first | (obtain rfl := nil_of_none hb (by assumption); exact ⟨none, 0, rfl, Nat.le_refl _, hS5.nilRow⟩) | (rw [Nat.zero_add] at *; exact ⟨_, _, rfl, by assumption, hS5⟩)

end Go.Proofs.YtjnnhlbfgnopiaaGreatDoor
end
section
namespace Go.Proofs.YtjnnhlbfgnopiaaGreatDoor
open Go.Kw
set_option linter.unusedVariables false
set_option linter.unusedSimpArgs false
set_option maxRecDepth 100000
theorem rlong_ok (n : Nat) (w : World) (hn : n ≤ 9223372036854775807) :
    Ret Tryz.prog 77 [vi n] w (fun v w' => ∃ b, v = .slice (some ⟨b, 0, none⟩) 8 8 ∧ St w [] w' [.blk b (cl ((octs8 (UInt64.ofNat n)).map b8) 5)]) := by
  refine enter Tryz.func77 rfl Tryz.ntmps77 rfl ?_
  have hS := St.refl w []
  refine zS<|zR<|zq 1 rfl<|zN<|zT<|zS<|zR<|zX (x_make (l := 8) (c := 8) (zs := ((List.replicate 8 (0 : UInt8)).map b8)) hS ti39.und ti5 rfl rfl Sd Sd Sd (by first | exact made_b8 _ | rfl | simp [madeCells])) ?_; rintro _ w1 ⟨b5, rfl, hS2⟩; refine zq 1 rfl<|zN<|zT<|zS<|zS<|zR<|zq 1 rfl<|zV (r_len (T := 39) rfl ti39.und rfl _ rfl)<|zq 1 rfl<|zN<|zT<|zI ?_
  refine c_loopE [0, 2, 3, 7] (fun d e w' => ∃ (k : Nat), Kw.look e 8 = vi k ∧ d = 8 - k ∧ St w [] w' [.blk b5 (cl ((upto 8 (fun i => UInt8.ofNat (n / 2 ^ (56 - 8 * i))) 0 k).map b8) 5)] ∧ (k ≤ 8)) (8) ?_ ?_
  · exact ⟨0, rfl, rfl, by rw [upto_zero]; exact hS2, by omega⟩
  · rintro d6 e3 w4 ⟨k, hc0_8, rfl, hS5, hI0_0⟩ -
    refine c_set (d := 8) hc0_8<|zS<|zR ?_
    refine wl_dec (r_lss rfl rfl) rfl (fun h3_0 => ?_) (fun h3_0 => ?_)
    · refine zN<|zT<|zS<|zt rfl<|zK<|zT<|zS<|zI<|zS<|zR<|zq 2 rfl<|zN<|zT<|zR<|zq 4 rfl<|zV (r_muln (a := 8) rfl rfl Om)<|zV (r_subn (a := 56) rfl rfl Om Om)<|zV (r_shri rfl rfl Om)<|zV (c_i64_u8 ti5.und ⟨_, ti3.und⟩ rfl)<|zV (r_ixB ti39.und ti5 rfl rfl Sd) ?_
      refine zY (x_store1m [] hS5 ti5 rfl rfl rfl Sd) ?_; intro w7 hS8; simp only [ca, na] at hS8; refine zN<|zJ<|zT<|zR<|zV (r_addn (b := 1) rfl rfl Om)<|zq 1 rfl<|zN<|zT ?_
      refine ⟨8 - (k + 1), _, by omega, rfl, ⟨k + 1, rfl, rfl, ?_, by omega⟩, ⟨rfl, rfl, rfl, rfl, trivial⟩⟩
      rw [← upto_set _ _ _ _ Om]
      exact hS8
    refine zN<|zT<|zS<|zf rfl<|zO<|zM<|zM<|c_inE<|zT<|zS<|zR<|zq 2 rfl<|zN<|zT<|zU<|ret1 Tryz.results77 ?_
    obtain rfl : k = 8 := by omega
    rw [upto_full] at hS5
    refine ⟨_, rfl, ?_⟩
    rw [← longR_eq n Om]
    exact hS5

end Go.Proofs.YtjnnhlbfgnopiaaGreatDoor
end
