/- What the translation says of its types and functions, as closed facts. No condition. -/
import Derived.Test.YtafdmlpfgpaicaaMem5
import Derived.Test.YtafdmlpfgpaicaaProg
import Derived.KernelRfl
namespace Go.Proofs.Ytafdmlpfgpaicaa
open Go.Kw
set_option linter.unusedVariables false
set_option maxRecDepth 100000
theorem TImk {P : Program} {t : TypeId} {d : TypeDesc} {sz bts : Nat} {z : Value} (h : P.underlying t = some d) (h2 : (P.info? t).map (fun i => (i.size, i.bytes, i.zero)) = some (sz, bts, some z)) : TI P t d sz bts z := by
  obtain ⟨i, hi, hz⟩ := Option.map_eq_some_iff.1 h2
  simp only [Prod.mk.injEq] at hz
  exact ⟨h, i, hi, hz.1, hz.2.1, hz.2.2⟩
theorem FAmk {P : Program} {S : TypeId} {i off k : Nat} {fs : Array Field} {f : Field} (h1 : P.underlying S = some (.struct fs)) (h2 : fs[i]? = some f) (h3 : f.offset = off) (h4 : (P.info? f.type).map (·.size) = some (k + 1)) : FA P S i off := by
  obtain ⟨t, ht, hs⟩ := Option.map_eq_some_iff.1 h4
  exact ⟨fs, f, h1, h2, h3, t, ht, by omega⟩
theorem ti2 : TI Try.prog 2 (.int .i64) 1 8 (.int .i64 0) := TImk Try.underlying2 (by kernel_rfl)
theorem ti3 : TI Try.prog 3 (.int .i64) 1 8 (.int .i64 0) := TImk Try.underlying3 (by kernel_rfl)
theorem ti4 : TI Try.prog 4 (.bool) 1 1 (.bool false) := TImk Try.underlying4 (by kernel_rfl)
theorem ti5 : TI Try.prog 5 (.int .u8) 1 1 (.int .u8 0) := TImk Try.underlying5 (by kernel_rfl)
theorem ti9 : TI Try.prog 9 (.string) 1 16 (.string ⟨#[]⟩) := TImk Try.underlying9 (by kernel_rfl)
theorem ti12 : TI Try.prog 12 (.int .u64) 1 8 (.int .u64 0) := TImk Try.underlying12 (by kernel_rfl)
noncomputable def sd13 : TypeDesc := (Try.prog.underlying 13).getD .bool
theorem ti13 : TI Try.prog 13 sd13 2 24 (.agg #[.string ⟨#[]⟩, .int .u64 0]) := TImk (by unfold sd13; rw [Try.underlying13]; rfl) (by kernel_rfl)
theorem ag13 : aggD sd13 = true := by unfold sd13; rw [Try.underlying13]; rfl
noncomputable def sd19 : TypeDesc := (Try.prog.underlying 19).getD .bool
theorem ti19 : TI Try.prog 19 sd19 1 8 (.agg #[.pointer none]) := TImk (by unfold sd19; rw [Try.underlying19]; rfl) (by kernel_rfl)
theorem ag19 : aggD sd19 = true := by unfold sd19; rw [Try.underlying19]; rfl
theorem ti21 : TI Try.prog 21 (.int .i32) 1 4 (.int .i32 0) := TImk Try.underlying21 (by kernel_rfl)
theorem ti23 : TI Try.prog 23 (.int .i64) 1 8 (.int .i64 0) := TImk Try.underlying23 (by kernel_rfl)
theorem ti28 : TI Try.prog 28 (.array 16 5) 16 16 (.agg ((List.replicate 16 (0 : UInt8)).map b8).toArray) := TImk Try.underlying28 (by kernel_rfl)
theorem ti29 : TI Try.prog 29 (.array 16 5) 16 16 (.agg ((List.replicate 16 (0 : UInt8)).map b8).toArray) := TImk Try.underlying29 (by kernel_rfl)
theorem ti30 : TI Try.prog 30 (.slice 9) 1 24 (.slice none 0 0) := TImk Try.underlying30 (by kernel_rfl)
theorem ti31 : TI Try.prog 31 (.array 32 5) 32 32 (.agg ((List.replicate 32 (0 : UInt8)).map b8).toArray) := TImk Try.underlying31 (by kernel_rfl)
theorem ti32 : TI Try.prog 32 (.array 32 5) 32 32 (.agg ((List.replicate 32 (0 : UInt8)).map b8).toArray) := TImk Try.underlying32 (by kernel_rfl)
noncomputable def sd33 : TypeDesc := (Try.prog.underlying 33).getD .bool
theorem ti33 : TI Try.prog 33 sd33 68 120 (.agg #[.int .u8 0, .int .u8 0, .int .u8 0, .int .u8 0, .int .u8 0, .int .u8 0, .int .u8 0, .int .u8 0, .int .u8 0, .int .u8 0, .int .u8 0, .int .u8 0, .int .u8 0, .int .u8 0, .int .u8 0, .int .u8 0, .slice none 0 0, .int .i64 0, .string ⟨#[]⟩, .int .u8 0, .int .u8 0, .int .u8 0, .int .u8 0, .int .u8 0, .int .u8 0, .int .u8 0, .int .u8 0, .int .u8 0, .int .u8 0, .int .u8 0, .int .u8 0, .int .u8 0, .int .u8 0, .int .u8 0, .int .u8 0, .int .i64 0, .int .u8 0, .int .u8 0, .int .u8 0, .int .u8 0, .int .u8 0, .int .u8 0, .int .u8 0, .int .u8 0, .int .u8 0, .int .u8 0, .int .u8 0, .int .u8 0, .int .u8 0, .int .u8 0, .int .u8 0, .int .u8 0, .int .u8 0, .int .u8 0, .int .u8 0, .int .u8 0, .int .u8 0, .int .u8 0, .int .u8 0, .int .u8 0, .int .u8 0, .int .u8 0, .int .u8 0, .int .u8 0, .int .u8 0, .int .u8 0, .int .u8 0, .int .u8 0]) := TImk (by unfold sd33; rw [Try.underlying33]; rfl) (by kernel_rfl)
theorem ag33 : aggD sd33 = true := by unfold sd33; rw [Try.underlying33]; rfl
noncomputable def sd34 : TypeDesc := (Try.prog.underlying 34).getD .bool
theorem ti34 : TI Try.prog 34 sd34 68 120 (.agg #[.int .u8 0, .int .u8 0, .int .u8 0, .int .u8 0, .int .u8 0, .int .u8 0, .int .u8 0, .int .u8 0, .int .u8 0, .int .u8 0, .int .u8 0, .int .u8 0, .int .u8 0, .int .u8 0, .int .u8 0, .int .u8 0, .slice none 0 0, .int .i64 0, .string ⟨#[]⟩, .int .u8 0, .int .u8 0, .int .u8 0, .int .u8 0, .int .u8 0, .int .u8 0, .int .u8 0, .int .u8 0, .int .u8 0, .int .u8 0, .int .u8 0, .int .u8 0, .int .u8 0, .int .u8 0, .int .u8 0, .int .u8 0, .int .i64 0, .int .u8 0, .int .u8 0, .int .u8 0, .int .u8 0, .int .u8 0, .int .u8 0, .int .u8 0, .int .u8 0, .int .u8 0, .int .u8 0, .int .u8 0, .int .u8 0, .int .u8 0, .int .u8 0, .int .u8 0, .int .u8 0, .int .u8 0, .int .u8 0, .int .u8 0, .int .u8 0, .int .u8 0, .int .u8 0, .int .u8 0, .int .u8 0, .int .u8 0, .int .u8 0, .int .u8 0, .int .u8 0, .int .u8 0, .int .u8 0, .int .u8 0, .int .u8 0]) := TImk (by unfold sd34; rw [Try.underlying34]; rfl) (by kernel_rfl)
theorem ag34 : aggD sd34 = true := by unfold sd34; rw [Try.underlying34]; rfl
theorem ti35 : TI Try.prog 35 (.slice 3) 1 24 (.slice none 0 0) := TImk Try.underlying35 (by kernel_rfl)
noncomputable def sd36 : TypeDesc := (Try.prog.underlying 36).getD .bool
theorem ti36 : TI Try.prog 36 sd36 8 120 (.agg #[.bool false, .slice none 0 0, .slice none 0 0, .slice none 0 0, .int .i64 0, .int .i64 0, .int .i64 0, .string ⟨#[]⟩]) := TImk (by unfold sd36; rw [Try.underlying36]; rfl) (by kernel_rfl)
theorem ag36 : aggD sd36 = true := by unfold sd36; rw [Try.underlying36]; rfl
noncomputable def sd37 : TypeDesc := (Try.prog.underlying 37).getD .bool
theorem ti37 : TI Try.prog 37 sd37 8 120 (.agg #[.bool false, .slice none 0 0, .slice none 0 0, .slice none 0 0, .int .i64 0, .int .i64 0, .int .i64 0, .string ⟨#[]⟩]) := TImk (by unfold sd37; rw [Try.underlying37]; rfl) (by kernel_rfl)
theorem ag37 : aggD sd37 = true := by unfold sd37; rw [Try.underlying37]; rfl
theorem ti46 : TI Try.prog 46 (.slice 37) 1 24 (.slice none 0 0) := TImk Try.underlying46 (by kernel_rfl)
noncomputable def sd47 : TypeDesc := (Try.prog.underlying 47).getD .bool
theorem ti47 : TI Try.prog 47 sd47 1 24 (.agg #[.slice none 0 0]) := TImk (by unfold sd47; rw [Try.underlying47]; rfl) (by kernel_rfl)
theorem ag47 : aggD sd47 = true := by unfold sd47; rw [Try.underlying47]; rfl
noncomputable def sd48 : TypeDesc := (Try.prog.underlying 48).getD .bool
theorem ti48 : TI Try.prog 48 sd48 1 24 (.agg #[.slice none 0 0]) := TImk (by unfold sd48; rw [Try.underlying48]; rfl) (by kernel_rfl)
theorem ag48 : aggD sd48 = true := by unfold sd48; rw [Try.underlying48]; rfl
noncomputable def sd49 : TypeDesc := (Try.prog.underlying 49).getD .bool
theorem ti49 : TI Try.prog 49 sd49 4 40 (.agg #[.bool false, .int .i64 0, .int .i64 0, .string ⟨#[]⟩]) := TImk (by unfold sd49; rw [Try.underlying49]; rfl) (by kernel_rfl)
theorem ag49 : aggD sd49 = true := by unfold sd49; rw [Try.underlying49]; rfl
noncomputable def sd50 : TypeDesc := (Try.prog.underlying 50).getD .bool
theorem ti50 : TI Try.prog 50 sd50 4 40 (.agg #[.bool false, .int .i64 0, .int .i64 0, .string ⟨#[]⟩]) := TImk (by unfold sd50; rw [Try.underlying50]; rfl) (by kernel_rfl)
theorem ag50 : aggD sd50 = true := by unfold sd50; rw [Try.underlying50]; rfl
theorem ti56 : TI Try.prog 56 (.slice 61) 1 24 (.slice none 0 0) := TImk Try.underlying56 (by kernel_rfl)
noncomputable def sd60 : TypeDesc := (Try.prog.underlying 60).getD .bool
theorem ti60 : TI Try.prog 60 sd60 17 40 (.agg #[.int .u8 0, .int .u8 0, .int .u8 0, .int .u8 0, .int .u8 0, .int .u8 0, .int .u8 0, .int .u8 0, .int .u8 0, .int .u8 0, .int .u8 0, .int .u8 0, .int .u8 0, .int .u8 0, .int .u8 0, .int .u8 0, .slice none 0 0]) := TImk (by unfold sd60; rw [Try.underlying60]; rfl) (by kernel_rfl)
theorem ag60 : aggD sd60 = true := by unfold sd60; rw [Try.underlying60]; rfl
noncomputable def sd61 : TypeDesc := (Try.prog.underlying 61).getD .bool
theorem ti61 : TI Try.prog 61 sd61 17 40 (.agg #[.int .u8 0, .int .u8 0, .int .u8 0, .int .u8 0, .int .u8 0, .int .u8 0, .int .u8 0, .int .u8 0, .int .u8 0, .int .u8 0, .int .u8 0, .int .u8 0, .int .u8 0, .int .u8 0, .int .u8 0, .int .u8 0, .slice none 0 0]) := TImk (by unfold sd61; rw [Try.underlying61]; rfl) (by kernel_rfl)
theorem ag61 : aggD sd61 = true := by unfold sd61; rw [Try.underlying61]; rfl
theorem ti65 : TI Try.prog 65 (.slice 5) 1 24 (.slice none 0 0) := TImk Try.underlying65 (by kernel_rfl)
theorem ti85 : TI Try.prog 85 (.slice 46) 1 24 (.slice none 0 0) := TImk Try.underlying85 (by kernel_rfl)
theorem ti87 : TI Try.prog 87 (.map 29 4) 1 8 (.map none) := TImk Try.underlying87 (by kernel_rfl)
theorem ti88 : TI Try.prog 88 (.int .u64) 1 8 (.int .u64 0) := TImk Try.underlying88 (by kernel_rfl)
theorem ti94 : TI Try.prog 94 (.pointer 117) 1 8 (.pointer none) := TImk Try.underlying94 (by kernel_rfl)
theorem ti98 : TI Try.prog 98 (.array 64 5) 64 64 (.agg ((List.replicate 64 (0 : UInt8)).map b8).toArray) := TImk Try.underlying98 (by kernel_rfl)
theorem ti100 : TI Try.prog 100 (.slice 65) 1 24 (.slice none 0 0) := TImk Try.underlying100 (by kernel_rfl)
theorem ti114 : TI Try.prog 114 (.map 9 4) 1 8 (.map none) := TImk Try.underlying114 (by kernel_rfl)
theorem ti115 : TI Try.prog 115 (.map 3 4) 1 8 (.map none) := TImk Try.underlying115 (by kernel_rfl)
noncomputable def sd116 : TypeDesc := (Try.prog.underlying 116).getD .bool
theorem ti116 : TI Try.prog 116 sd116 98 112 (.agg #[.int .u8 0, .int .u8 0, .int .u8 0, .int .u8 0, .int .u8 0, .int .u8 0, .int .u8 0, .int .u8 0, .int .u8 0, .int .u8 0, .int .u8 0, .int .u8 0, .int .u8 0, .int .u8 0, .int .u8 0, .int .u8 0, .int .u8 0, .int .u8 0, .int .u8 0, .int .u8 0, .int .u8 0, .int .u8 0, .int .u8 0, .int .u8 0, .int .u8 0, .int .u8 0, .int .u8 0, .int .u8 0, .int .u8 0, .int .u8 0, .int .u8 0, .int .u8 0, .int .u8 0, .int .u8 0, .int .u8 0, .int .u8 0, .int .u8 0, .int .u8 0, .int .u8 0, .int .u8 0, .int .u8 0, .int .u8 0, .int .u8 0, .int .u8 0, .int .u8 0, .int .u8 0, .int .u8 0, .int .u8 0, .int .u8 0, .int .u8 0, .int .u8 0, .int .u8 0, .int .u8 0, .int .u8 0, .int .u8 0, .int .u8 0, .int .u8 0, .int .u8 0, .int .u8 0, .int .u8 0, .int .u8 0, .int .u8 0, .int .u8 0, .int .u8 0, .int .u8 0, .int .u8 0, .int .u8 0, .int .u8 0, .int .u8 0, .int .u8 0, .int .u8 0, .int .u8 0, .int .u8 0, .int .u8 0, .int .u8 0, .int .u8 0, .int .u8 0, .int .u8 0, .int .u8 0, .int .u8 0, .int .u8 0, .int .u8 0, .int .u8 0, .int .u8 0, .int .u8 0, .int .u8 0, .int .u8 0, .int .u8 0, .int .u8 0, .int .u8 0, .int .u8 0, .int .u8 0, .int .u8 0, .int .u8 0, .int .u8 0, .int .u8 0, .int .i64 0, .int .i64 0]) := TImk (by unfold sd116; rw [Try.underlying116]; rfl) (by kernel_rfl)
theorem ag116 : aggD sd116 = true := by unfold sd116; rw [Try.underlying116]; rfl
noncomputable def sd117 : TypeDesc := (Try.prog.underlying 117).getD .bool
theorem ti117 : TI Try.prog 117 sd117 98 112 (.agg #[.int .u8 0, .int .u8 0, .int .u8 0, .int .u8 0, .int .u8 0, .int .u8 0, .int .u8 0, .int .u8 0, .int .u8 0, .int .u8 0, .int .u8 0, .int .u8 0, .int .u8 0, .int .u8 0, .int .u8 0, .int .u8 0, .int .u8 0, .int .u8 0, .int .u8 0, .int .u8 0, .int .u8 0, .int .u8 0, .int .u8 0, .int .u8 0, .int .u8 0, .int .u8 0, .int .u8 0, .int .u8 0, .int .u8 0, .int .u8 0, .int .u8 0, .int .u8 0, .int .u8 0, .int .u8 0, .int .u8 0, .int .u8 0, .int .u8 0, .int .u8 0, .int .u8 0, .int .u8 0, .int .u8 0, .int .u8 0, .int .u8 0, .int .u8 0, .int .u8 0, .int .u8 0, .int .u8 0, .int .u8 0, .int .u8 0, .int .u8 0, .int .u8 0, .int .u8 0, .int .u8 0, .int .u8 0, .int .u8 0, .int .u8 0, .int .u8 0, .int .u8 0, .int .u8 0, .int .u8 0, .int .u8 0, .int .u8 0, .int .u8 0, .int .u8 0, .int .u8 0, .int .u8 0, .int .u8 0, .int .u8 0, .int .u8 0, .int .u8 0, .int .u8 0, .int .u8 0, .int .u8 0, .int .u8 0, .int .u8 0, .int .u8 0, .int .u8 0, .int .u8 0, .int .u8 0, .int .u8 0, .int .u8 0, .int .u8 0, .int .u8 0, .int .u8 0, .int .u8 0, .int .u8 0, .int .u8 0, .int .u8 0, .int .u8 0, .int .u8 0, .int .u8 0, .int .u8 0, .int .u8 0, .int .u8 0, .int .u8 0, .int .u8 0, .int .i64 0, .int .i64 0]) := TImk (by unfold sd117; rw [Try.underlying117]; rfl) (by kernel_rfl)
theorem ag117 : aggD sd117 = true := by unfold sd117; rw [Try.underlying117]; rfl
theorem ti120 : TI Try.prog 120 (.array 8 5) 8 8 (.agg ((List.replicate 8 (0 : UInt8)).map b8).toArray) := TImk Try.underlying120 (by kernel_rfl)
theorem ti122 : TI Try.prog 122 (.int .u64) 1 8 (.int .u64 0) := TImk Try.underlying122 (by kernel_rfl)
theorem ti124 : TI Try.prog 124 (.pointer 31) 1 8 (.pointer none) := TImk Try.underlying124 (by kernel_rfl)
theorem ti125 : TI Try.prog 125 (.int .u32) 1 4 (.int .u32 0) := TImk Try.underlying125 (by kernel_rfl)
theorem ti126 : TI Try.prog 126 (.array 16 125) 16 64 (.agg ((List.replicate 16 (0 : UInt32)).map v32).toArray) := TImk Try.underlying126 (by kernel_rfl)
theorem ti132 : TI Try.prog 132 (.array 4 5) 4 4 (.agg ((List.replicate 4 (0 : UInt8)).map b8).toArray) := TImk Try.underlying132 (by kernel_rfl)
theorem ti135 : TI Try.prog 135 (.pointer 126) 1 8 (.pointer none) := TImk Try.underlying135 (by kernel_rfl)
theorem ti147 : TI Try.prog 147 (.pointer 5) 1 8 (.pointer none) := TImk Try.underlying147 (by kernel_rfl)
theorem pl13 : placesOf Try.prog 13 = some [(0, 1), (1, 1)] := by kernel_rfl
theorem pl19 : placesOf Try.prog 19 = some [(0, 1)] := by kernel_rfl
theorem pl33 : placesOf Try.prog 33 = some [(0, 16), (16, 1), (17, 1), (18, 1), (19, 16), (35, 1), (36, 32)] := by kernel_rfl
theorem pl34 : placesOf Try.prog 34 = some [(0, 16), (16, 1), (17, 1), (18, 1), (19, 16), (35, 1), (36, 32)] := by kernel_rfl
theorem pl36 : placesOf Try.prog 36 = some [(0, 1), (1, 1), (2, 1), (3, 1), (4, 1), (5, 1), (6, 1), (7, 1)] := by kernel_rfl
theorem pl37 : placesOf Try.prog 37 = some [(0, 1), (1, 1), (2, 1), (3, 1), (4, 1), (5, 1), (6, 1), (7, 1)] := by kernel_rfl
theorem pl47 : placesOf Try.prog 47 = some [(0, 1)] := by kernel_rfl
theorem pl48 : placesOf Try.prog 48 = some [(0, 1)] := by kernel_rfl
theorem pl49 : placesOf Try.prog 49 = some [(0, 1), (1, 1), (2, 1), (3, 1)] := by kernel_rfl
theorem pl50 : placesOf Try.prog 50 = some [(0, 1), (1, 1), (2, 1), (3, 1)] := by kernel_rfl
theorem pl60 : placesOf Try.prog 60 = some [(0, 16), (16, 1)] := by kernel_rfl
theorem pl61 : placesOf Try.prog 61 = some [(0, 16), (16, 1)] := by kernel_rfl
theorem pl116 : placesOf Try.prog 116 = some [(0, 64), (64, 32), (96, 1), (97, 1)] := by kernel_rfl
theorem pl117 : placesOf Try.prog 117 = some [(0, 64), (64, 32), (96, 1), (97, 1)] := by kernel_rfl
theorem fn3 : FnOk Try.prog 3 := ⟨_, Try.func3, by kernel_rfl, by kernel_rfl⟩
theorem fn4 : FnOk Try.prog 4 := ⟨_, Try.func4, by kernel_rfl, by kernel_rfl⟩
theorem fn5 : FnOk Try.prog 5 := ⟨_, Try.func5, by kernel_rfl, by kernel_rfl⟩
theorem fn6 : FnOk Try.prog 6 := ⟨_, Try.func6, by kernel_rfl, by kernel_rfl⟩
theorem fn7 : FnOk Try.prog 7 := ⟨_, Try.func7, by kernel_rfl, by kernel_rfl⟩
theorem fn8 : FnOk Try.prog 8 := ⟨_, Try.func8, by kernel_rfl, by kernel_rfl⟩
theorem fn9 : FnOk Try.prog 9 := ⟨_, Try.func9, by kernel_rfl, by kernel_rfl⟩
theorem fn10 : FnOk Try.prog 10 := ⟨_, Try.func10, by kernel_rfl, by kernel_rfl⟩
theorem fn11 : FnOk Try.prog 11 := ⟨_, Try.func11, by kernel_rfl, by kernel_rfl⟩
theorem fn12 : FnOk Try.prog 12 := ⟨_, Try.func12, by kernel_rfl, by kernel_rfl⟩
theorem fn13 : FnOk Try.prog 13 := ⟨_, Try.func13, by kernel_rfl, by kernel_rfl⟩
theorem fn14 : FnOk Try.prog 14 := ⟨_, Try.func14, by kernel_rfl, by kernel_rfl⟩
theorem fn15 : FnOk Try.prog 15 := ⟨_, Try.func15, by kernel_rfl, by kernel_rfl⟩
theorem fn16 : FnOk Try.prog 16 := ⟨_, Try.func16, by kernel_rfl, by kernel_rfl⟩
theorem fn17 : FnOk Try.prog 17 := ⟨_, Try.func17, by kernel_rfl, by kernel_rfl⟩
theorem fn18 : FnOk Try.prog 18 := ⟨_, Try.func18, by kernel_rfl, by kernel_rfl⟩
theorem fn19 : FnOk Try.prog 19 := ⟨_, Try.func19, by kernel_rfl, by kernel_rfl⟩
theorem fn20 : FnOk Try.prog 20 := ⟨_, Try.func20, by kernel_rfl, by kernel_rfl⟩
theorem fn21 : FnOk Try.prog 21 := ⟨_, Try.func21, by kernel_rfl, by kernel_rfl⟩
theorem fn22 : FnOk Try.prog 22 := ⟨_, Try.func22, by kernel_rfl, by kernel_rfl⟩
theorem fn23 : FnOk Try.prog 23 := ⟨_, Try.func23, by kernel_rfl, by kernel_rfl⟩
theorem fn24 : FnOk Try.prog 24 := ⟨_, Try.func24, by kernel_rfl, by kernel_rfl⟩
theorem fn25 : FnOk Try.prog 25 := ⟨_, Try.func25, by kernel_rfl, by kernel_rfl⟩
theorem fn26 : FnOk Try.prog 26 := ⟨_, Try.func26, by kernel_rfl, by kernel_rfl⟩
theorem fn27 : FnOk Try.prog 27 := ⟨_, Try.func27, by kernel_rfl, by kernel_rfl⟩
theorem fn28 : FnOk Try.prog 28 := ⟨_, Try.func28, by kernel_rfl, by kernel_rfl⟩
theorem fn29 : FnOk Try.prog 29 := ⟨_, Try.func29, by kernel_rfl, by kernel_rfl⟩
theorem fn30 : FnOk Try.prog 30 := ⟨_, Try.func30, by kernel_rfl, by kernel_rfl⟩
theorem fn31 : FnOk Try.prog 31 := ⟨_, Try.func31, by kernel_rfl, by kernel_rfl⟩
theorem fn32 : FnOk Try.prog 32 := ⟨_, Try.func32, by kernel_rfl, by kernel_rfl⟩
theorem fn33 : FnOk Try.prog 33 := ⟨_, Try.func33, by kernel_rfl, by kernel_rfl⟩
theorem fn34 : FnOk Try.prog 34 := ⟨_, Try.func34, by kernel_rfl, by kernel_rfl⟩
theorem fn35 : FnOk Try.prog 35 := ⟨_, Try.func35, by kernel_rfl, by kernel_rfl⟩
theorem fn36 : FnOk Try.prog 36 := ⟨_, Try.func36, by kernel_rfl, by kernel_rfl⟩
theorem fn37 : FnOk Try.prog 37 := ⟨_, Try.func37, by kernel_rfl, by kernel_rfl⟩
theorem fn38 : FnOk Try.prog 38 := ⟨_, Try.func38, by kernel_rfl, by kernel_rfl⟩
theorem fn39 : FnOk Try.prog 39 := ⟨_, Try.func39, by kernel_rfl, by kernel_rfl⟩
theorem fn40 : FnOk Try.prog 40 := ⟨_, Try.func40, by kernel_rfl, by kernel_rfl⟩
theorem fn41 : FnOk Try.prog 41 := ⟨_, Try.func41, by kernel_rfl, by kernel_rfl⟩
theorem fn42 : FnOk Try.prog 42 := ⟨_, Try.func42, by kernel_rfl, by kernel_rfl⟩
theorem fn43 : FnOk Try.prog 43 := ⟨_, Try.func43, by kernel_rfl, by kernel_rfl⟩
theorem fn44 : FnOk Try.prog 44 := ⟨_, Try.func44, by kernel_rfl, by kernel_rfl⟩
theorem fn45 : FnOk Try.prog 45 := ⟨_, Try.func45, by kernel_rfl, by kernel_rfl⟩
theorem fn46 : FnOk Try.prog 46 := ⟨_, Try.func46, by kernel_rfl, by kernel_rfl⟩
theorem fn47 : FnOk Try.prog 47 := ⟨_, Try.func47, by kernel_rfl, by kernel_rfl⟩
theorem fn48 : FnOk Try.prog 48 := ⟨_, Try.func48, by kernel_rfl, by kernel_rfl⟩
theorem fn49 : FnOk Try.prog 49 := ⟨_, Try.func49, by kernel_rfl, by kernel_rfl⟩
theorem fn50 : FnOk Try.prog 50 := ⟨_, Try.func50, by kernel_rfl, by kernel_rfl⟩
theorem fn51 : FnOk Try.prog 51 := ⟨_, Try.func51, by kernel_rfl, by kernel_rfl⟩
theorem fn52 : FnOk Try.prog 52 := ⟨_, Try.func52, by kernel_rfl, by kernel_rfl⟩
theorem fn53 : FnOk Try.prog 53 := ⟨_, Try.func53, by kernel_rfl, by kernel_rfl⟩
theorem fn54 : FnOk Try.prog 54 := ⟨_, Try.func54, by kernel_rfl, by kernel_rfl⟩
theorem fn55 : FnOk Try.prog 55 := ⟨_, Try.func55, by kernel_rfl, by kernel_rfl⟩
theorem fn56 : FnOk Try.prog 56 := ⟨_, Try.func56, by kernel_rfl, by kernel_rfl⟩
theorem fn57 : FnOk Try.prog 57 := ⟨_, Try.func57, by kernel_rfl, by kernel_rfl⟩
theorem fn58 : FnOk Try.prog 58 := ⟨_, Try.func58, by kernel_rfl, by kernel_rfl⟩
theorem fn59 : FnOk Try.prog 59 := ⟨_, Try.func59, by kernel_rfl, by kernel_rfl⟩
theorem fn60 : FnOk Try.prog 60 := ⟨_, Try.func60, by kernel_rfl, by kernel_rfl⟩
theorem fn61 : FnOk Try.prog 61 := ⟨_, Try.func61, by kernel_rfl, by kernel_rfl⟩
theorem fn62 : FnOk Try.prog 62 := ⟨_, Try.func62, by kernel_rfl, by kernel_rfl⟩
theorem fn63 : FnOk Try.prog 63 := ⟨_, Try.func63, by kernel_rfl, by kernel_rfl⟩
theorem fn64 : FnOk Try.prog 64 := ⟨_, Try.func64, by kernel_rfl, by kernel_rfl⟩
theorem fn65 : FnOk Try.prog 65 := ⟨_, Try.func65, by kernel_rfl, by kernel_rfl⟩
theorem fn67 : FnOk Try.prog 67 := ⟨_, Try.func67, by kernel_rfl, by kernel_rfl⟩
theorem fn68 : FnOk Try.prog 68 := ⟨_, Try.func68, by kernel_rfl, by kernel_rfl⟩
theorem fn69 : FnOk Try.prog 69 := ⟨_, Try.func69, by kernel_rfl, by kernel_rfl⟩
theorem fn70 : FnOk Try.prog 70 := ⟨_, Try.func70, by kernel_rfl, by kernel_rfl⟩
theorem fn71 : FnOk Try.prog 71 := ⟨_, Try.func71, by kernel_rfl, by kernel_rfl⟩
theorem fn72 : FnOk Try.prog 72 := ⟨_, Try.func72, by kernel_rfl, by kernel_rfl⟩
theorem fn73 : FnOk Try.prog 73 := ⟨_, Try.func73, by kernel_rfl, by kernel_rfl⟩
theorem fn74 : FnOk Try.prog 74 := ⟨_, Try.func74, by kernel_rfl, by kernel_rfl⟩
theorem fn75 : FnOk Try.prog 75 := ⟨_, Try.func75, by kernel_rfl, by kernel_rfl⟩
theorem fn76 : FnOk Try.prog 76 := ⟨_, Try.func76, by kernel_rfl, by kernel_rfl⟩
theorem fn77 : FnOk Try.prog 77 := ⟨_, Try.func77, by kernel_rfl, by kernel_rfl⟩
theorem fn78 : FnOk Try.prog 78 := ⟨_, Try.func78, by kernel_rfl, by kernel_rfl⟩
theorem fn79 : FnOk Try.prog 79 := ⟨_, Try.func79, by kernel_rfl, by kernel_rfl⟩
theorem fn80 : FnOk Try.prog 80 := ⟨_, Try.func80, by kernel_rfl, by kernel_rfl⟩
theorem fn81 : FnOk Try.prog 81 := ⟨_, Try.func81, by kernel_rfl, by kernel_rfl⟩
theorem fn82 : FnOk Try.prog 82 := ⟨_, Try.func82, by kernel_rfl, by kernel_rfl⟩
theorem fn83 : FnOk Try.prog 83 := ⟨_, Try.func83, by kernel_rfl, by kernel_rfl⟩
theorem fn84 : FnOk Try.prog 84 := ⟨_, Try.func84, by kernel_rfl, by kernel_rfl⟩
theorem fn85 : FnOk Try.prog 85 := ⟨_, Try.func85, by kernel_rfl, by kernel_rfl⟩
theorem fn86 : FnOk Try.prog 86 := ⟨_, Try.func86, by kernel_rfl, by kernel_rfl⟩
theorem fn87 : FnOk Try.prog 87 := ⟨_, Try.func87, by kernel_rfl, by kernel_rfl⟩
theorem fn88 : FnOk Try.prog 88 := ⟨_, Try.func88, by kernel_rfl, by kernel_rfl⟩
theorem fn89 : FnOk Try.prog 89 := ⟨_, Try.func89, by kernel_rfl, by kernel_rfl⟩
theorem fn90 : FnOk Try.prog 90 := ⟨_, Try.func90, by kernel_rfl, by kernel_rfl⟩
theorem fn91 : FnOk Try.prog 91 := ⟨_, Try.func91, by kernel_rfl, by kernel_rfl⟩
theorem fn92 : FnOk Try.prog 92 := ⟨_, Try.func92, by kernel_rfl, by kernel_rfl⟩
theorem fn94 : FnOk Try.prog 94 := ⟨_, Try.func94, by kernel_rfl, by kernel_rfl⟩
theorem fn95 : FnOk Try.prog 95 := ⟨_, Try.func95, by kernel_rfl, by kernel_rfl⟩
theorem fn96 : FnOk Try.prog 96 := ⟨_, Try.func96, by kernel_rfl, by kernel_rfl⟩
theorem fn97 : FnOk Try.prog 97 := ⟨_, Try.func97, by kernel_rfl, by kernel_rfl⟩
theorem fn98 : FnOk Try.prog 98 := ⟨_, Try.func98, by kernel_rfl, by kernel_rfl⟩
theorem fn99 : FnOk Try.prog 99 := ⟨_, Try.func99, by kernel_rfl, by kernel_rfl⟩
theorem fn100 : FnOk Try.prog 100 := ⟨_, Try.func100, by kernel_rfl, by kernel_rfl⟩
theorem fn101 : FnOk Try.prog 101 := ⟨_, Try.func101, by kernel_rfl, by kernel_rfl⟩
theorem fn102 : FnOk Try.prog 102 := ⟨_, Try.func102, by kernel_rfl, by kernel_rfl⟩
theorem fn103 : FnOk Try.prog 103 := ⟨_, Try.func103, by kernel_rfl, by kernel_rfl⟩
theorem fn104 : FnOk Try.prog 104 := ⟨_, Try.func104, by kernel_rfl, by kernel_rfl⟩
theorem fn105 : FnOk Try.prog 105 := ⟨_, Try.func105, by kernel_rfl, by kernel_rfl⟩
theorem fn106 : FnOk Try.prog 106 := ⟨_, Try.func106, by kernel_rfl, by kernel_rfl⟩
theorem fn107 : FnOk Try.prog 107 := ⟨_, Try.func107, by kernel_rfl, by kernel_rfl⟩
theorem fn108 : FnOk Try.prog 108 := ⟨_, Try.func108, by kernel_rfl, by kernel_rfl⟩
theorem fn110 : FnOk Try.prog 110 := ⟨_, Try.func110, by kernel_rfl, by kernel_rfl⟩
theorem fn111 : FnOk Try.prog 111 := ⟨_, Try.func111, by kernel_rfl, by kernel_rfl⟩
theorem fn112 : FnOk Try.prog 112 := ⟨_, Try.func112, by kernel_rfl, by kernel_rfl⟩
theorem fn113 : FnOk Try.prog 113 := ⟨_, Try.func113, by kernel_rfl, by kernel_rfl⟩
theorem fn114 : FnOk Try.prog 114 := ⟨_, Try.func114, by kernel_rfl, by kernel_rfl⟩
theorem fn115 : FnOk Try.prog 115 := ⟨_, Try.func115, by kernel_rfl, by kernel_rfl⟩
theorem fn116 : FnOk Try.prog 116 := ⟨_, Try.func116, by kernel_rfl, by kernel_rfl⟩
theorem fn117 : FnOk Try.prog 117 := ⟨_, Try.func117, by kernel_rfl, by kernel_rfl⟩
theorem fa13_0 : FA Try.prog 13 0 0 := FAmk (k := 0) Try.underlying13 rfl rfl (by kernel_rfl)
theorem fa13_1 : FA Try.prog 13 1 1 := FAmk (k := 0) Try.underlying13 rfl rfl (by kernel_rfl)
theorem fa19_0 : FA Try.prog 19 0 0 := FAmk (k := 0) Try.underlying19 rfl rfl (by kernel_rfl)
theorem fa33_0 : FA Try.prog 33 0 0 := FAmk (k := 15) Try.underlying33 rfl rfl (by kernel_rfl)
theorem fa33_1 : FA Try.prog 33 1 16 := FAmk (k := 0) Try.underlying33 rfl rfl (by kernel_rfl)
theorem fa33_2 : FA Try.prog 33 2 17 := FAmk (k := 0) Try.underlying33 rfl rfl (by kernel_rfl)
theorem fa33_3 : FA Try.prog 33 3 18 := FAmk (k := 0) Try.underlying33 rfl rfl (by kernel_rfl)
theorem fa33_4 : FA Try.prog 33 4 19 := FAmk (k := 15) Try.underlying33 rfl rfl (by kernel_rfl)
theorem fa33_5 : FA Try.prog 33 5 35 := FAmk (k := 0) Try.underlying33 rfl rfl (by kernel_rfl)
theorem fa33_6 : FA Try.prog 33 6 36 := FAmk (k := 31) Try.underlying33 rfl rfl (by kernel_rfl)
theorem fa34_0 : FA Try.prog 34 0 0 := FAmk (k := 15) Try.underlying34 rfl rfl (by kernel_rfl)
theorem fa34_1 : FA Try.prog 34 1 16 := FAmk (k := 0) Try.underlying34 rfl rfl (by kernel_rfl)
theorem fa34_2 : FA Try.prog 34 2 17 := FAmk (k := 0) Try.underlying34 rfl rfl (by kernel_rfl)
theorem fa34_3 : FA Try.prog 34 3 18 := FAmk (k := 0) Try.underlying34 rfl rfl (by kernel_rfl)
theorem fa34_4 : FA Try.prog 34 4 19 := FAmk (k := 15) Try.underlying34 rfl rfl (by kernel_rfl)
theorem fa34_5 : FA Try.prog 34 5 35 := FAmk (k := 0) Try.underlying34 rfl rfl (by kernel_rfl)
theorem fa34_6 : FA Try.prog 34 6 36 := FAmk (k := 31) Try.underlying34 rfl rfl (by kernel_rfl)
theorem fa36_0 : FA Try.prog 36 0 0 := FAmk (k := 0) Try.underlying36 rfl rfl (by kernel_rfl)
theorem fa36_1 : FA Try.prog 36 1 1 := FAmk (k := 0) Try.underlying36 rfl rfl (by kernel_rfl)
theorem fa36_2 : FA Try.prog 36 2 2 := FAmk (k := 0) Try.underlying36 rfl rfl (by kernel_rfl)
theorem fa36_3 : FA Try.prog 36 3 3 := FAmk (k := 0) Try.underlying36 rfl rfl (by kernel_rfl)
theorem fa36_4 : FA Try.prog 36 4 4 := FAmk (k := 0) Try.underlying36 rfl rfl (by kernel_rfl)
theorem fa36_5 : FA Try.prog 36 5 5 := FAmk (k := 0) Try.underlying36 rfl rfl (by kernel_rfl)
theorem fa36_6 : FA Try.prog 36 6 6 := FAmk (k := 0) Try.underlying36 rfl rfl (by kernel_rfl)
theorem fa36_7 : FA Try.prog 36 7 7 := FAmk (k := 0) Try.underlying36 rfl rfl (by kernel_rfl)
theorem fa37_0 : FA Try.prog 37 0 0 := FAmk (k := 0) Try.underlying37 rfl rfl (by kernel_rfl)
theorem fa37_1 : FA Try.prog 37 1 1 := FAmk (k := 0) Try.underlying37 rfl rfl (by kernel_rfl)
theorem fa37_2 : FA Try.prog 37 2 2 := FAmk (k := 0) Try.underlying37 rfl rfl (by kernel_rfl)
theorem fa37_3 : FA Try.prog 37 3 3 := FAmk (k := 0) Try.underlying37 rfl rfl (by kernel_rfl)
theorem fa37_4 : FA Try.prog 37 4 4 := FAmk (k := 0) Try.underlying37 rfl rfl (by kernel_rfl)
theorem fa37_5 : FA Try.prog 37 5 5 := FAmk (k := 0) Try.underlying37 rfl rfl (by kernel_rfl)
theorem fa37_6 : FA Try.prog 37 6 6 := FAmk (k := 0) Try.underlying37 rfl rfl (by kernel_rfl)
theorem fa37_7 : FA Try.prog 37 7 7 := FAmk (k := 0) Try.underlying37 rfl rfl (by kernel_rfl)
theorem fa47_0 : FA Try.prog 47 0 0 := FAmk (k := 0) Try.underlying47 rfl rfl (by kernel_rfl)
theorem fa48_0 : FA Try.prog 48 0 0 := FAmk (k := 0) Try.underlying48 rfl rfl (by kernel_rfl)
theorem fa49_0 : FA Try.prog 49 0 0 := FAmk (k := 0) Try.underlying49 rfl rfl (by kernel_rfl)
theorem fa49_1 : FA Try.prog 49 1 1 := FAmk (k := 0) Try.underlying49 rfl rfl (by kernel_rfl)
theorem fa49_2 : FA Try.prog 49 2 2 := FAmk (k := 0) Try.underlying49 rfl rfl (by kernel_rfl)
theorem fa49_3 : FA Try.prog 49 3 3 := FAmk (k := 0) Try.underlying49 rfl rfl (by kernel_rfl)
theorem fa50_0 : FA Try.prog 50 0 0 := FAmk (k := 0) Try.underlying50 rfl rfl (by kernel_rfl)
theorem fa50_1 : FA Try.prog 50 1 1 := FAmk (k := 0) Try.underlying50 rfl rfl (by kernel_rfl)
theorem fa50_2 : FA Try.prog 50 2 2 := FAmk (k := 0) Try.underlying50 rfl rfl (by kernel_rfl)
theorem fa50_3 : FA Try.prog 50 3 3 := FAmk (k := 0) Try.underlying50 rfl rfl (by kernel_rfl)
theorem fa60_0 : FA Try.prog 60 0 0 := FAmk (k := 15) Try.underlying60 rfl rfl (by kernel_rfl)
theorem fa60_1 : FA Try.prog 60 1 16 := FAmk (k := 0) Try.underlying60 rfl rfl (by kernel_rfl)
theorem fa61_0 : FA Try.prog 61 0 0 := FAmk (k := 15) Try.underlying61 rfl rfl (by kernel_rfl)
theorem fa61_1 : FA Try.prog 61 1 16 := FAmk (k := 0) Try.underlying61 rfl rfl (by kernel_rfl)
theorem fa116_0 : FA Try.prog 116 0 0 := FAmk (k := 63) Try.underlying116 rfl rfl (by kernel_rfl)
theorem fa116_1 : FA Try.prog 116 1 64 := FAmk (k := 31) Try.underlying116 rfl rfl (by kernel_rfl)
theorem fa116_2 : FA Try.prog 116 2 96 := FAmk (k := 0) Try.underlying116 rfl rfl (by kernel_rfl)
theorem fa116_3 : FA Try.prog 116 3 97 := FAmk (k := 0) Try.underlying116 rfl rfl (by kernel_rfl)
theorem fa117_0 : FA Try.prog 117 0 0 := FAmk (k := 63) Try.underlying117 rfl rfl (by kernel_rfl)
theorem fa117_1 : FA Try.prog 117 1 64 := FAmk (k := 31) Try.underlying117 rfl rfl (by kernel_rfl)
theorem fa117_2 : FA Try.prog 117 2 96 := FAmk (k := 0) Try.underlying117 rfl rfl (by kernel_rfl)
theorem fa117_3 : FA Try.prog 117 3 97 := FAmk (k := 0) Try.underlying117 rfl rfl (by kernel_rfl)
theorem fv13_0 : FV Try.prog 13 0 0 9 := ⟨_, _, Try.underlying13, rfl, rfl, rfl⟩
theorem fv13_1 : FV Try.prog 13 1 1 12 := ⟨_, _, Try.underlying13, rfl, rfl, rfl⟩
theorem fv19_0 : FV Try.prog 19 0 0 17 := ⟨_, _, Try.underlying19, rfl, rfl, rfl⟩
theorem fv33_0 : FV Try.prog 33 0 0 29 := ⟨_, _, Try.underlying33, rfl, rfl, rfl⟩
theorem fv33_1 : FV Try.prog 33 1 16 30 := ⟨_, _, Try.underlying33, rfl, rfl, rfl⟩
theorem fv33_2 : FV Try.prog 33 2 17 3 := ⟨_, _, Try.underlying33, rfl, rfl, rfl⟩
theorem fv33_3 : FV Try.prog 33 3 18 9 := ⟨_, _, Try.underlying33, rfl, rfl, rfl⟩
theorem fv33_4 : FV Try.prog 33 4 19 29 := ⟨_, _, Try.underlying33, rfl, rfl, rfl⟩
theorem fv33_5 : FV Try.prog 33 5 35 3 := ⟨_, _, Try.underlying33, rfl, rfl, rfl⟩
theorem fv33_6 : FV Try.prog 33 6 36 32 := ⟨_, _, Try.underlying33, rfl, rfl, rfl⟩
theorem fv34_0 : FV Try.prog 34 0 0 29 := ⟨_, _, Try.underlying34, rfl, rfl, rfl⟩
theorem fv34_1 : FV Try.prog 34 1 16 30 := ⟨_, _, Try.underlying34, rfl, rfl, rfl⟩
theorem fv34_2 : FV Try.prog 34 2 17 3 := ⟨_, _, Try.underlying34, rfl, rfl, rfl⟩
theorem fv34_3 : FV Try.prog 34 3 18 9 := ⟨_, _, Try.underlying34, rfl, rfl, rfl⟩
theorem fv34_4 : FV Try.prog 34 4 19 29 := ⟨_, _, Try.underlying34, rfl, rfl, rfl⟩
theorem fv34_5 : FV Try.prog 34 5 35 3 := ⟨_, _, Try.underlying34, rfl, rfl, rfl⟩
theorem fv34_6 : FV Try.prog 34 6 36 32 := ⟨_, _, Try.underlying34, rfl, rfl, rfl⟩
theorem fv36_0 : FV Try.prog 36 0 0 4 := ⟨_, _, Try.underlying36, rfl, rfl, rfl⟩
theorem fv36_1 : FV Try.prog 36 1 1 30 := ⟨_, _, Try.underlying36, rfl, rfl, rfl⟩
theorem fv36_2 : FV Try.prog 36 2 2 35 := ⟨_, _, Try.underlying36, rfl, rfl, rfl⟩
theorem fv36_3 : FV Try.prog 36 3 3 30 := ⟨_, _, Try.underlying36, rfl, rfl, rfl⟩
theorem fv36_4 : FV Try.prog 36 4 4 3 := ⟨_, _, Try.underlying36, rfl, rfl, rfl⟩
theorem fv36_5 : FV Try.prog 36 5 5 3 := ⟨_, _, Try.underlying36, rfl, rfl, rfl⟩
theorem fv36_6 : FV Try.prog 36 6 6 3 := ⟨_, _, Try.underlying36, rfl, rfl, rfl⟩
theorem fv36_7 : FV Try.prog 36 7 7 9 := ⟨_, _, Try.underlying36, rfl, rfl, rfl⟩
theorem fv37_0 : FV Try.prog 37 0 0 4 := ⟨_, _, Try.underlying37, rfl, rfl, rfl⟩
theorem fv37_1 : FV Try.prog 37 1 1 30 := ⟨_, _, Try.underlying37, rfl, rfl, rfl⟩
theorem fv37_2 : FV Try.prog 37 2 2 35 := ⟨_, _, Try.underlying37, rfl, rfl, rfl⟩
theorem fv37_3 : FV Try.prog 37 3 3 30 := ⟨_, _, Try.underlying37, rfl, rfl, rfl⟩
theorem fv37_4 : FV Try.prog 37 4 4 3 := ⟨_, _, Try.underlying37, rfl, rfl, rfl⟩
theorem fv37_5 : FV Try.prog 37 5 5 3 := ⟨_, _, Try.underlying37, rfl, rfl, rfl⟩
theorem fv37_6 : FV Try.prog 37 6 6 3 := ⟨_, _, Try.underlying37, rfl, rfl, rfl⟩
theorem fv37_7 : FV Try.prog 37 7 7 9 := ⟨_, _, Try.underlying37, rfl, rfl, rfl⟩
theorem fv47_0 : FV Try.prog 47 0 0 46 := ⟨_, _, Try.underlying47, rfl, rfl, rfl⟩
theorem fv48_0 : FV Try.prog 48 0 0 46 := ⟨_, _, Try.underlying48, rfl, rfl, rfl⟩
theorem fv49_0 : FV Try.prog 49 0 0 4 := ⟨_, _, Try.underlying49, rfl, rfl, rfl⟩
theorem fv49_1 : FV Try.prog 49 1 1 3 := ⟨_, _, Try.underlying49, rfl, rfl, rfl⟩
theorem fv49_2 : FV Try.prog 49 2 2 3 := ⟨_, _, Try.underlying49, rfl, rfl, rfl⟩
theorem fv49_3 : FV Try.prog 49 3 3 9 := ⟨_, _, Try.underlying49, rfl, rfl, rfl⟩
theorem fv50_0 : FV Try.prog 50 0 0 4 := ⟨_, _, Try.underlying50, rfl, rfl, rfl⟩
theorem fv50_1 : FV Try.prog 50 1 1 3 := ⟨_, _, Try.underlying50, rfl, rfl, rfl⟩
theorem fv50_2 : FV Try.prog 50 2 2 3 := ⟨_, _, Try.underlying50, rfl, rfl, rfl⟩
theorem fv50_3 : FV Try.prog 50 3 3 9 := ⟨_, _, Try.underlying50, rfl, rfl, rfl⟩
theorem fv60_0 : FV Try.prog 60 0 0 29 := ⟨_, _, Try.underlying60, rfl, rfl, rfl⟩
theorem fv60_1 : FV Try.prog 60 1 16 30 := ⟨_, _, Try.underlying60, rfl, rfl, rfl⟩
theorem fv61_0 : FV Try.prog 61 0 0 29 := ⟨_, _, Try.underlying61, rfl, rfl, rfl⟩
theorem fv61_1 : FV Try.prog 61 1 16 30 := ⟨_, _, Try.underlying61, rfl, rfl, rfl⟩
theorem fv116_0 : FV Try.prog 116 0 0 98 := ⟨_, _, Try.underlying116, rfl, rfl, rfl⟩
theorem fv116_1 : FV Try.prog 116 1 64 31 := ⟨_, _, Try.underlying116, rfl, rfl, rfl⟩
theorem fv116_2 : FV Try.prog 116 2 96 3 := ⟨_, _, Try.underlying116, rfl, rfl, rfl⟩
theorem fv116_3 : FV Try.prog 116 3 97 3 := ⟨_, _, Try.underlying116, rfl, rfl, rfl⟩
theorem fv117_0 : FV Try.prog 117 0 0 98 := ⟨_, _, Try.underlying117, rfl, rfl, rfl⟩
theorem fv117_1 : FV Try.prog 117 1 64 31 := ⟨_, _, Try.underlying117, rfl, rfl, rfl⟩
theorem fv117_2 : FV Try.prog 117 2 96 3 := ⟨_, _, Try.underlying117, rfl, rfl, rfl⟩
theorem fv117_3 : FV Try.prog 117 3 97 3 := ⟨_, _, Try.underlying117, rfl, rfl, rfl⟩
theorem eg13 : Try.prog.eqGuardType Try.prog.depth 13 = false := by kernel_rfl
theorem eg28 : Try.prog.eqGuardType Try.prog.depth 28 = false := by kernel_rfl
theorem eg29 : Try.prog.eqGuardType Try.prog.depth 29 = false := by kernel_rfl
theorem eg31 : Try.prog.eqGuardType Try.prog.depth 31 = false := by kernel_rfl
theorem eg32 : Try.prog.eqGuardType Try.prog.depth 32 = false := by kernel_rfl
theorem eg49 : Try.prog.eqGuardType Try.prog.depth 49 = false := by kernel_rfl
theorem eg50 : Try.prog.eqGuardType Try.prog.depth 50 = false := by kernel_rfl
theorem eg98 : Try.prog.eqGuardType Try.prog.depth 98 = false := by kernel_rfl
theorem eg116 : Try.prog.eqGuardType Try.prog.depth 116 = false := by kernel_rfl
theorem eg117 : Try.prog.eqGuardType Try.prog.depth 117 = false := by kernel_rfl
theorem eg120 : Try.prog.eqGuardType Try.prog.depth 120 = false := by kernel_rfl
theorem eg126 : Try.prog.eqGuardType Try.prog.depth 126 = false := by kernel_rfl
theorem eg132 : Try.prog.eqGuardType Try.prog.depth 132 = false := by kernel_rfl
theorem hMixed : Try.prog.follows .mixedOrders = true := by kernel_rfl
end Go.Proofs.Ytafdmlpfgpaicaa
