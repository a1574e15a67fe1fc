/- What the law's proof leans on. No condition. -/
import Derived.Test.YtbanoknkplcedaaPEMAG
import Derived.Test.YtbanoknkplcedaaProg
import Derived.KernelRfl
namespace Go.Proofs.Ytbanoknkplcedaa
open Go.Kw
set_option linter.unusedVariables false
set_option maxRecDepth 100000
theorem TImk {P : Program} {t : TypeId} {d : TypeDesc} {sz bts : Nat} {z : Value} (h : P.underlying t = some d) (h2 : (P.info? t).map (fun i => (i.size, i.bytes, i.zero)) = some (sz, bts, some z)) : TI P t d sz bts z := by
  obtain ⟨i, hi, hz⟩ := Option.map_eq_some_iff.1 h2
  simp only [Prod.mk.injEq] at hz
  exact ⟨h, i, hi, hz.1, hz.2.1, hz.2.2⟩
theorem FAmk {P : Program} {S : TypeId} {i off k : Nat} {fs : Array Field} {f : Field} (h1 : P.underlying S = some (.struct fs)) (h2 : fs[i]? = some f) (h3 : f.offset = off) (h4 : (P.info? f.type).map (·.size) = some (k + 1)) : FA P S i off := by
  obtain ⟨t, ht, hs⟩ := Option.map_eq_some_iff.1 h4
  exact ⟨fs, f, h1, h2, h3, t, ht, by omega⟩
theorem ti3 : TI Try.prog 3 (.int .i64) 1 8 (.int .i64 0) := TImk Try.underlying3 (by kernel_rfl)
theorem ti4 : TI Try.prog 4 (.bool) 1 1 (.bool false) := TImk Try.underlying4 (by kernel_rfl)
theorem ti5 : TI Try.prog 5 (.int .u8) 1 1 (.int .u8 0) := TImk Try.underlying5 (by kernel_rfl)
theorem ti9 : TI Try.prog 9 (.string) 1 16 (.string ⟨#[]⟩) := TImk Try.underlying9 (by kernel_rfl)
theorem ti23 : TI Try.prog 23 (.array 16 5) 16 16 (.agg ((List.replicate 16 (0 : UInt8)).map b8).toArray) := TImk Try.underlying23 (by kernel_rfl)
theorem ti24 : TI Try.prog 24 (.slice 9) 1 24 (.slice none 0 0) := TImk Try.underlying24 (by kernel_rfl)
theorem ti25 : TI Try.prog 25 (.array 32 5) 32 32 (.agg ((List.replicate 32 (0 : UInt8)).map b8).toArray) := TImk Try.underlying25 (by kernel_rfl)
theorem ti26 : TI Try.prog 26 (.array 32 5) 32 32 (.agg ((List.replicate 32 (0 : UInt8)).map b8).toArray) := TImk Try.underlying26 (by kernel_rfl)
theorem ti27 : TI Try.prog 27 (.slice 23) 1 24 (.slice none 0 0) := TImk Try.underlying27 (by kernel_rfl)
noncomputable def sd29 : TypeDesc := (Try.prog.underlying 29).getD .bool
theorem ti29 : TI Try.prog 29 sd29 58 176 (.agg #[.string ⟨#[]⟩, .int .u8 0, .int .u8 0, .int .u8 0, .int .u8 0, .int .u8 0, .int .u8 0, .int .u8 0, .int .u8 0, .int .u8 0, .int .u8 0, .int .u8 0, .int .u8 0, .int .u8 0, .int .u8 0, .int .u8 0, .int .u8 0, .slice none 0 0, .string ⟨#[]⟩, .int .u8 0, .int .u8 0, .int .u8 0, .int .u8 0, .int .u8 0, .int .u8 0, .int .u8 0, .int .u8 0, .int .u8 0, .int .u8 0, .int .u8 0, .int .u8 0, .int .u8 0, .int .u8 0, .int .u8 0, .int .u8 0, .int .u8 0, .int .u8 0, .int .u8 0, .int .u8 0, .int .u8 0, .int .u8 0, .int .u8 0, .int .u8 0, .int .u8 0, .int .u8 0, .int .u8 0, .int .u8 0, .int .u8 0, .int .u8 0, .int .u8 0, .int .u8 0, .int .i64 0, .int .i64 0, .int .i64 0, .int .i64 0, .int .i64 0, .int .i64 0, .slice none 0 0]) := TImk (by unfold sd29; rw [Try.underlying29]; rfl) (by kernel_rfl)
theorem ag29 : aggD sd29 = true := by unfold sd29; rw [Try.underlying29]; rfl
theorem ti30 : TI Try.prog 30 (.slice 5) 1 24 (.slice none 0 0) := TImk Try.underlying30 (by kernel_rfl)
noncomputable def sd41 : TypeDesc := (Try.prog.underlying 41).getD .bool
theorem ti41 : TI Try.prog 41 sd41 68 112 (.agg #[.int .i64 0, .int .i64 0, .int .i64 0, .int .u8 0, .int .u8 0, .int .u8 0, .int .u8 0, .int .u8 0, .int .u8 0, .int .u8 0, .int .u8 0, .int .u8 0, .int .u8 0, .int .u8 0, .int .u8 0, .int .u8 0, .int .u8 0, .int .u8 0, .int .u8 0, .int .u8 0, .int .u8 0, .int .u8 0, .int .u8 0, .int .u8 0, .int .u8 0, .int .u8 0, .int .u8 0, .int .u8 0, .int .u8 0, .int .u8 0, .int .u8 0, .int .u8 0, .int .u8 0, .int .u8 0, .int .u8 0, .int .u8 0, .int .u8 0, .int .u8 0, .int .u8 0, .int .u8 0, .int .u8 0, .int .u8 0, .int .u8 0, .int .u8 0, .int .u8 0, .int .u8 0, .int .u8 0, .int .u8 0, .int .u8 0, .int .u8 0, .int .u8 0, .int .u8 0, .int .u8 0, .int .u8 0, .int .u8 0, .int .u8 0, .int .u8 0, .int .u8 0, .int .u8 0, .int .u8 0, .int .u8 0, .int .u8 0, .int .u8 0, .int .u8 0, .int .u8 0, .int .u8 0, .int .u8 0, .slice none 0 0]) := TImk (by unfold sd41; rw [Try.underlying41]; rfl) (by kernel_rfl)
theorem ag41 : aggD sd41 = true := by unfold sd41; rw [Try.underlying41]; rfl
noncomputable def sd56 : TypeDesc := (Try.prog.underlying 56).getD .bool
theorem ti56 : TI Try.prog 56 sd56 12 12 (.agg (List.replicate 12 (.bool false : Value)).toArray) := TImk (by unfold sd56; rw [Try.underlying56]; rfl) (by kernel_rfl)
theorem ag56 : aggD sd56 = true := by unfold sd56; rw [Try.underlying56]; rfl
theorem ti62 : TI Try.prog 62 (.int .u32) 1 4 (.int .u32 0) := TImk Try.underlying62 (by kernel_rfl)
noncomputable def sd71 : TypeDesc := (Try.prog.underlying 71).getD .bool
theorem ti71 : TI Try.prog 71 sd71 2 32 (.agg #[.slice none 0 0, .bool false]) := TImk (by unfold sd71; rw [Try.underlying71]; rfl) (by kernel_rfl)
noncomputable def sd77 : TypeDesc := (Try.prog.underlying 77).getD .bool
theorem ti77 : TI Try.prog 77 sd77 2 32 (.agg #[.slice none 0 0, .bool false]) := TImk (by unfold sd77; rw [Try.underlying77]; rfl) (by kernel_rfl)
theorem ti82 : TI Try.prog 82 (.array 64 5) 64 64 (.agg ((List.replicate 64 (0 : UInt8)).map b8).toArray) := TImk Try.underlying82 (by kernel_rfl)
theorem ti90 : TI Try.prog 90 (.slice 30) 1 24 (.slice none 0 0) := TImk Try.underlying90 (by kernel_rfl)
theorem ti91 : TI Try.prog 91 (.int .u64) 1 8 (.int .u64 0) := TImk Try.underlying91 (by kernel_rfl)
theorem ti97 : TI Try.prog 97 (.array 4 5) 4 4 (.agg ((List.replicate 4 (0 : UInt8)).map b8).toArray) := TImk Try.underlying97 (by kernel_rfl)
theorem ti99 : TI Try.prog 99 (.array 8 5) 8 8 (.agg ((List.replicate 8 (0 : UInt8)).map b8).toArray) := TImk Try.underlying99 (by kernel_rfl)
theorem ti101 : TI Try.prog 101 (.int .u64) 1 8 (.int .u64 0) := TImk Try.underlying101 (by kernel_rfl)
noncomputable def sd115 : TypeDesc := (Try.prog.underlying 115).getD .bool
theorem ti115 : TI Try.prog 115 sd115 2 24 (.agg #[.string ⟨#[]⟩, .bool false]) := TImk (by unfold sd115; rw [Try.underlying115]; rfl) (by kernel_rfl)
theorem ag115 : aggD sd115 = true := by unfold sd115; rw [Try.underlying115]; rfl
theorem ti116 : TI Try.prog 116 (.slice 115) 1 24 (.slice none 0 0) := TImk Try.underlying116 (by kernel_rfl)
theorem ti121 : TI Try.prog 121 (.array 16 62) 16 64 (.agg ((List.replicate 16 (0 : UInt32)).map v32).toArray) := TImk Try.underlying121 (by kernel_rfl)
noncomputable def sd131 : TypeDesc := (Try.prog.underlying 131).getD .bool
theorem ti131 : TI Try.prog 131 sd131 98 112 (.agg #[.int .u8 0, .int .u8 0, .int .u8 0, .int .u8 0, .int .u8 0, .int .u8 0, .int .u8 0, .int .u8 0, .int .u8 0, .int .u8 0, .int .u8 0, .int .u8 0, .int .u8 0, .int .u8 0, .int .u8 0, .int .u8 0, .int .u8 0, .int .u8 0, .int .u8 0, .int .u8 0, .int .u8 0, .int .u8 0, .int .u8 0, .int .u8 0, .int .u8 0, .int .u8 0, .int .u8 0, .int .u8 0, .int .u8 0, .int .u8 0, .int .u8 0, .int .u8 0, .int .u8 0, .int .u8 0, .int .u8 0, .int .u8 0, .int .u8 0, .int .u8 0, .int .u8 0, .int .u8 0, .int .u8 0, .int .u8 0, .int .u8 0, .int .u8 0, .int .u8 0, .int .u8 0, .int .u8 0, .int .u8 0, .int .u8 0, .int .u8 0, .int .u8 0, .int .u8 0, .int .u8 0, .int .u8 0, .int .u8 0, .int .u8 0, .int .u8 0, .int .u8 0, .int .u8 0, .int .u8 0, .int .u8 0, .int .u8 0, .int .u8 0, .int .u8 0, .int .u8 0, .int .u8 0, .int .u8 0, .int .u8 0, .int .u8 0, .int .u8 0, .int .u8 0, .int .u8 0, .int .u8 0, .int .u8 0, .int .u8 0, .int .u8 0, .int .u8 0, .int .u8 0, .int .u8 0, .int .u8 0, .int .u8 0, .int .u8 0, .int .u8 0, .int .u8 0, .int .u8 0, .int .u8 0, .int .u8 0, .int .u8 0, .int .u8 0, .int .u8 0, .int .u8 0, .int .u8 0, .int .u8 0, .int .u8 0, .int .u8 0, .int .u8 0, .int .i64 0, .int .i64 0]) := TImk (by unfold sd131; rw [Try.underlying131]; rfl) (by kernel_rfl)
theorem ag131 : aggD sd131 = true := by unfold sd131; rw [Try.underlying131]; rfl
theorem pl29 : placesOf Try.prog 29 = some [(0, 1), (1, 16), (17, 1), (18, 1), (19, 32), (51, 1), (52, 1), (53, 1), (54, 1), (55, 1), (56, 1), (57, 1)] := by kernel_rfl
theorem pl41 : placesOf Try.prog 41 = some [(0, 1), (1, 1), (2, 1), (3, 16), (19, 16), (35, 32), (67, 1)] := by kernel_rfl
theorem pl56 : placesOf Try.prog 56 = some [(0, 1), (1, 1), (2, 1), (3, 1), (4, 1), (5, 1), (6, 1), (7, 1), (8, 1), (9, 1), (10, 1), (11, 1)] := by kernel_rfl
theorem pl71 : placesOf Try.prog 71 = some [(0, 1), (1, 1)] := by kernel_rfl
theorem pl77 : placesOf Try.prog 77 = some [(0, 1), (1, 1)] := by kernel_rfl
theorem pl115 : placesOf Try.prog 115 = some [(0, 1), (1, 1)] := by kernel_rfl
theorem fn6 : FnOk Try.prog 6 := ⟨_, Try.func6, by kernel_rfl, by kernel_rfl⟩
theorem fn9 : FnOk Try.prog 9 := ⟨_, Try.func9, by kernel_rfl, by kernel_rfl⟩
theorem fn10 : FnOk Try.prog 10 := ⟨_, Try.func10, by kernel_rfl, by kernel_rfl⟩
theorem fn12 : FnOk Try.prog 12 := ⟨_, Try.func12, by kernel_rfl, by kernel_rfl⟩
theorem fn13 : FnOk Try.prog 13 := ⟨_, Try.func13, by kernel_rfl, by kernel_rfl⟩
theorem fn14 : FnOk Try.prog 14 := ⟨_, Try.func14, by kernel_rfl, by kernel_rfl⟩
theorem fn15 : FnOk Try.prog 15 := ⟨_, Try.func15, by kernel_rfl, by kernel_rfl⟩
theorem fn17 : FnOk Try.prog 17 := ⟨_, Try.func17, by kernel_rfl, by kernel_rfl⟩
theorem fn18 : FnOk Try.prog 18 := ⟨_, Try.func18, by kernel_rfl, by kernel_rfl⟩
theorem fn19 : FnOk Try.prog 19 := ⟨_, Try.func19, by kernel_rfl, by kernel_rfl⟩
theorem fn20 : FnOk Try.prog 20 := ⟨_, Try.func20, by kernel_rfl, by kernel_rfl⟩
theorem fn21 : FnOk Try.prog 21 := ⟨_, Try.func21, by kernel_rfl, by kernel_rfl⟩
theorem fn22 : FnOk Try.prog 22 := ⟨_, Try.func22, by kernel_rfl, by kernel_rfl⟩
theorem fn23 : FnOk Try.prog 23 := ⟨_, Try.func23, by kernel_rfl, by kernel_rfl⟩
theorem fn24 : FnOk Try.prog 24 := ⟨_, Try.func24, by kernel_rfl, by kernel_rfl⟩
theorem fn26 : FnOk Try.prog 26 := ⟨_, Try.func26, by kernel_rfl, by kernel_rfl⟩
theorem fn27 : FnOk Try.prog 27 := ⟨_, Try.func27, by kernel_rfl, by kernel_rfl⟩
theorem fn28 : FnOk Try.prog 28 := ⟨_, Try.func28, by kernel_rfl, by kernel_rfl⟩
theorem fn30 : FnOk Try.prog 30 := ⟨_, Try.func30, by kernel_rfl, by kernel_rfl⟩
theorem fn31 : FnOk Try.prog 31 := ⟨_, Try.func31, by kernel_rfl, by kernel_rfl⟩
theorem fn33 : FnOk Try.prog 33 := ⟨_, Try.func33, by kernel_rfl, by kernel_rfl⟩
theorem fn34 : FnOk Try.prog 34 := ⟨_, Try.func34, by kernel_rfl, by kernel_rfl⟩
theorem fn35 : FnOk Try.prog 35 := ⟨_, Try.func35, by kernel_rfl, by kernel_rfl⟩
theorem fn38 : FnOk Try.prog 38 := ⟨_, Try.func38, by kernel_rfl, by kernel_rfl⟩
theorem fn39 : FnOk Try.prog 39 := ⟨_, Try.func39, by kernel_rfl, by kernel_rfl⟩
theorem fn40 : FnOk Try.prog 40 := ⟨_, Try.func40, by kernel_rfl, by kernel_rfl⟩
theorem fn41 : FnOk Try.prog 41 := ⟨_, Try.func41, by kernel_rfl, by kernel_rfl⟩
theorem fn42 : FnOk Try.prog 42 := ⟨_, Try.func42, by kernel_rfl, by kernel_rfl⟩
theorem fn43 : FnOk Try.prog 43 := ⟨_, Try.func43, by kernel_rfl, by kernel_rfl⟩
theorem fn44 : FnOk Try.prog 44 := ⟨_, Try.func44, by kernel_rfl, by kernel_rfl⟩
theorem fn45 : FnOk Try.prog 45 := ⟨_, Try.func45, by kernel_rfl, by kernel_rfl⟩
theorem fn46 : FnOk Try.prog 46 := ⟨_, Try.func46, by kernel_rfl, by kernel_rfl⟩
theorem fn47 : FnOk Try.prog 47 := ⟨_, Try.func47, by kernel_rfl, by kernel_rfl⟩
theorem fn48 : FnOk Try.prog 48 := ⟨_, Try.func48, by kernel_rfl, by kernel_rfl⟩
theorem fn51 : FnOk Try.prog 51 := ⟨_, Try.func51, by kernel_rfl, by kernel_rfl⟩
theorem fn52 : FnOk Try.prog 52 := ⟨_, Try.func52, by kernel_rfl, by kernel_rfl⟩
theorem fn53 : FnOk Try.prog 53 := ⟨_, Try.func53, by kernel_rfl, by kernel_rfl⟩
theorem fn54 : FnOk Try.prog 54 := ⟨_, Try.func54, by kernel_rfl, by kernel_rfl⟩
theorem fn55 : FnOk Try.prog 55 := ⟨_, Try.func55, by kernel_rfl, by kernel_rfl⟩
theorem fn56 : FnOk Try.prog 56 := ⟨_, Try.func56, by kernel_rfl, by kernel_rfl⟩
theorem fn57 : FnOk Try.prog 57 := ⟨_, Try.func57, by kernel_rfl, by kernel_rfl⟩
theorem fn58 : FnOk Try.prog 58 := ⟨_, Try.func58, by kernel_rfl, by kernel_rfl⟩
theorem fn59 : FnOk Try.prog 59 := ⟨_, Try.func59, by kernel_rfl, by kernel_rfl⟩
theorem fn60 : FnOk Try.prog 60 := ⟨_, Try.func60, by kernel_rfl, by kernel_rfl⟩
theorem fn61 : FnOk Try.prog 61 := ⟨_, Try.func61, by kernel_rfl, by kernel_rfl⟩
theorem fn62 : FnOk Try.prog 62 := ⟨_, Try.func62, by kernel_rfl, by kernel_rfl⟩
theorem fn63 : FnOk Try.prog 63 := ⟨_, Try.func63, by kernel_rfl, by kernel_rfl⟩
theorem fn64 : FnOk Try.prog 64 := ⟨_, Try.func64, by kernel_rfl, by kernel_rfl⟩
theorem fn65 : FnOk Try.prog 65 := ⟨_, Try.func65, by kernel_rfl, by kernel_rfl⟩
theorem fn66 : FnOk Try.prog 66 := ⟨_, Try.func66, by kernel_rfl, by kernel_rfl⟩
theorem fn67 : FnOk Try.prog 67 := ⟨_, Try.func67, by kernel_rfl, by kernel_rfl⟩
theorem fn68 : FnOk Try.prog 68 := ⟨_, Try.func68, by kernel_rfl, by kernel_rfl⟩
theorem fn69 : FnOk Try.prog 69 := ⟨_, Try.func69, by kernel_rfl, by kernel_rfl⟩
theorem fn70 : FnOk Try.prog 70 := ⟨_, Try.func70, by kernel_rfl, by kernel_rfl⟩
theorem fn71 : FnOk Try.prog 71 := ⟨_, Try.func71, by kernel_rfl, by kernel_rfl⟩
theorem fn72 : FnOk Try.prog 72 := ⟨_, Try.func72, by kernel_rfl, by kernel_rfl⟩
theorem fn73 : FnOk Try.prog 73 := ⟨_, Try.func73, by kernel_rfl, by kernel_rfl⟩
theorem fn74 : FnOk Try.prog 74 := ⟨_, Try.func74, by kernel_rfl, by kernel_rfl⟩
theorem fn75 : FnOk Try.prog 75 := ⟨_, Try.func75, by kernel_rfl, by kernel_rfl⟩
theorem fn76 : FnOk Try.prog 76 := ⟨_, Try.func76, by kernel_rfl, by kernel_rfl⟩
theorem fn77 : FnOk Try.prog 77 := ⟨_, Try.func77, by kernel_rfl, by kernel_rfl⟩
theorem fn79 : FnOk Try.prog 79 := ⟨_, Try.func79, by kernel_rfl, by kernel_rfl⟩
theorem fn82 : FnOk Try.prog 82 := ⟨_, Try.func82, by kernel_rfl, by kernel_rfl⟩
theorem fn83 : FnOk Try.prog 83 := ⟨_, Try.func83, by kernel_rfl, by kernel_rfl⟩
theorem fn84 : FnOk Try.prog 84 := ⟨_, Try.func84, by kernel_rfl, by kernel_rfl⟩
theorem fn85 : FnOk Try.prog 85 := ⟨_, Try.func85, by kernel_rfl, by kernel_rfl⟩
theorem fn86 : FnOk Try.prog 86 := ⟨_, Try.func86, by kernel_rfl, by kernel_rfl⟩
theorem fn87 : FnOk Try.prog 87 := ⟨_, Try.func87, by kernel_rfl, by kernel_rfl⟩
theorem fn92 : FnOk Try.prog 92 := ⟨_, Try.func92, by kernel_rfl, by kernel_rfl⟩
theorem fn93 : FnOk Try.prog 93 := ⟨_, Try.func93, by kernel_rfl, by kernel_rfl⟩
theorem fn94 : FnOk Try.prog 94 := ⟨_, Try.func94, by kernel_rfl, by kernel_rfl⟩
theorem fn102 : FnOk Try.prog 102 := ⟨_, Try.func102, by kernel_rfl, by kernel_rfl⟩
theorem fn105 : FnOk Try.prog 105 := ⟨_, Try.func105, by kernel_rfl, by kernel_rfl⟩
theorem fn106 : FnOk Try.prog 106 := ⟨_, Try.func106, by kernel_rfl, by kernel_rfl⟩
theorem fn107 : FnOk Try.prog 107 := ⟨_, Try.func107, by kernel_rfl, by kernel_rfl⟩
theorem fn108 : FnOk Try.prog 108 := ⟨_, Try.func108, by kernel_rfl, by kernel_rfl⟩
theorem fa29_0 : FA Try.prog 29 0 0 := FAmk (k := 0) Try.underlying29 rfl rfl (by kernel_rfl)
theorem fa29_1 : FA Try.prog 29 1 1 := FAmk (k := 15) Try.underlying29 rfl rfl (by kernel_rfl)
theorem fa29_2 : FA Try.prog 29 2 17 := FAmk (k := 0) Try.underlying29 rfl rfl (by kernel_rfl)
theorem fa29_3 : FA Try.prog 29 3 18 := FAmk (k := 0) Try.underlying29 rfl rfl (by kernel_rfl)
theorem fa29_4 : FA Try.prog 29 4 19 := FAmk (k := 31) Try.underlying29 rfl rfl (by kernel_rfl)
theorem fa29_5 : FA Try.prog 29 5 51 := FAmk (k := 0) Try.underlying29 rfl rfl (by kernel_rfl)
theorem fa29_6 : FA Try.prog 29 6 52 := FAmk (k := 0) Try.underlying29 rfl rfl (by kernel_rfl)
theorem fa29_7 : FA Try.prog 29 7 53 := FAmk (k := 0) Try.underlying29 rfl rfl (by kernel_rfl)
theorem fa29_8 : FA Try.prog 29 8 54 := FAmk (k := 0) Try.underlying29 rfl rfl (by kernel_rfl)
theorem fa29_9 : FA Try.prog 29 9 55 := FAmk (k := 0) Try.underlying29 rfl rfl (by kernel_rfl)
theorem fa29_10 : FA Try.prog 29 10 56 := FAmk (k := 0) Try.underlying29 rfl rfl (by kernel_rfl)
theorem fa29_11 : FA Try.prog 29 11 57 := FAmk (k := 0) Try.underlying29 rfl rfl (by kernel_rfl)
theorem fa41_0 : FA Try.prog 41 0 0 := FAmk (k := 0) Try.underlying41 rfl rfl (by kernel_rfl)
theorem fa41_1 : FA Try.prog 41 1 1 := FAmk (k := 0) Try.underlying41 rfl rfl (by kernel_rfl)
theorem fa41_2 : FA Try.prog 41 2 2 := FAmk (k := 0) Try.underlying41 rfl rfl (by kernel_rfl)
theorem fa41_3 : FA Try.prog 41 3 3 := FAmk (k := 15) Try.underlying41 rfl rfl (by kernel_rfl)
theorem fa41_4 : FA Try.prog 41 4 19 := FAmk (k := 15) Try.underlying41 rfl rfl (by kernel_rfl)
theorem fa41_5 : FA Try.prog 41 5 35 := FAmk (k := 31) Try.underlying41 rfl rfl (by kernel_rfl)
theorem fa41_6 : FA Try.prog 41 6 67 := FAmk (k := 0) Try.underlying41 rfl rfl (by kernel_rfl)
theorem fa56_0 : FA Try.prog 56 0 0 := FAmk (k := 0) Try.underlying56 rfl rfl (by kernel_rfl)
theorem fa56_1 : FA Try.prog 56 1 1 := FAmk (k := 0) Try.underlying56 rfl rfl (by kernel_rfl)
theorem fa56_2 : FA Try.prog 56 2 2 := FAmk (k := 0) Try.underlying56 rfl rfl (by kernel_rfl)
theorem fa56_3 : FA Try.prog 56 3 3 := FAmk (k := 0) Try.underlying56 rfl rfl (by kernel_rfl)
theorem fa56_4 : FA Try.prog 56 4 4 := FAmk (k := 0) Try.underlying56 rfl rfl (by kernel_rfl)
theorem fa56_5 : FA Try.prog 56 5 5 := FAmk (k := 0) Try.underlying56 rfl rfl (by kernel_rfl)
theorem fa56_6 : FA Try.prog 56 6 6 := FAmk (k := 0) Try.underlying56 rfl rfl (by kernel_rfl)
theorem fa56_7 : FA Try.prog 56 7 7 := FAmk (k := 0) Try.underlying56 rfl rfl (by kernel_rfl)
theorem fa56_8 : FA Try.prog 56 8 8 := FAmk (k := 0) Try.underlying56 rfl rfl (by kernel_rfl)
theorem fa56_9 : FA Try.prog 56 9 9 := FAmk (k := 0) Try.underlying56 rfl rfl (by kernel_rfl)
theorem fa56_10 : FA Try.prog 56 10 10 := FAmk (k := 0) Try.underlying56 rfl rfl (by kernel_rfl)
theorem fa56_11 : FA Try.prog 56 11 11 := FAmk (k := 0) Try.underlying56 rfl rfl (by kernel_rfl)
theorem fa71_0 : FA Try.prog 71 0 0 := FAmk (k := 0) Try.underlying71 rfl rfl (by kernel_rfl)
theorem fa71_1 : FA Try.prog 71 1 1 := FAmk (k := 0) Try.underlying71 rfl rfl (by kernel_rfl)
theorem fa77_0 : FA Try.prog 77 0 0 := FAmk (k := 0) Try.underlying77 rfl rfl (by kernel_rfl)
theorem fa77_1 : FA Try.prog 77 1 1 := FAmk (k := 0) Try.underlying77 rfl rfl (by kernel_rfl)
theorem fa115_0 : FA Try.prog 115 0 0 := FAmk (k := 0) Try.underlying115 rfl rfl (by kernel_rfl)
theorem fa115_1 : FA Try.prog 115 1 1 := FAmk (k := 0) Try.underlying115 rfl rfl (by kernel_rfl)
theorem fa131_0 : FA Try.prog 131 0 0 := FAmk (k := 63) Try.underlying131 rfl rfl (by kernel_rfl)
theorem fa131_1 : FA Try.prog 131 1 64 := FAmk (k := 31) Try.underlying131 rfl rfl (by kernel_rfl)
theorem fa131_2 : FA Try.prog 131 2 96 := FAmk (k := 0) Try.underlying131 rfl rfl (by kernel_rfl)
theorem fa131_3 : FA Try.prog 131 3 97 := FAmk (k := 0) Try.underlying131 rfl rfl (by kernel_rfl)
theorem eg23 : Try.prog.eqGuardType Try.prog.depth 23 = false := by kernel_rfl
theorem eg26 : Try.prog.eqGuardType Try.prog.depth 26 = false := by kernel_rfl
theorem hMixed : Try.prog.follows .mixedOrders = true := by kernel_rfl
end Go.Proofs.Ytbanoknkplcedaa
