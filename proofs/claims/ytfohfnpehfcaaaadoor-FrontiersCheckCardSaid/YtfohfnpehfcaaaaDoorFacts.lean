/- What the translation says of its types and functions, as closed facts. No condition. -/
import Derived.Test.YtfohfnpehfcaaaaDoorMem5
import Derived.Test.YtfohfnpehfcaaaaDoorProg
import Derived.KernelRfl
namespace Go.Proofs.YtfohfnpehfcaaaaDoor
open Go.Kw
set_option linter.unusedVariables false
set_option maxRecDepth 100000
theorem TImk {P : Program} {t : TypeId} {d : TypeDesc} {sz bts : Nat} {z : Value} (h : P.underlying t = some d) (h2 : (P.info? t).map (fun i => (i.size, i.bytes, i.zero)) = some (sz, bts, some z)) : TI P t d sz bts z := by
  obtain ⟨i, hi, hz⟩ := Option.map_eq_some_iff.1 h2
  simp only [Prod.mk.injEq] at hz
  exact ⟨h, i, hi, hz.1, hz.2.1, hz.2.2⟩
theorem FAmk {P : Program} {S : TypeId} {i off k : Nat} {fs : Array Field} {f : Field} (h1 : P.underlying S = some (.struct fs)) (h2 : fs[i]? = some f) (h3 : f.offset = off) (h4 : (P.info? f.type).map (·.size) = some (k + 1)) : FA P S i off := by
  obtain ⟨t, ht, hs⟩ := Option.map_eq_some_iff.1 h4
  exact ⟨fs, f, h1, h2, h3, t, ht, by omega⟩
theorem ti2 : TI Tryd.prog 2 (.int .i64) 1 8 (.int .i64 0) := TImk Tryd.underlying2 (by kernel_rfl)
theorem ti3 : TI Tryd.prog 3 (.int .i64) 1 8 (.int .i64 0) := TImk Tryd.underlying3 (by kernel_rfl)
theorem ti4 : TI Tryd.prog 4 (.bool) 1 1 (.bool false) := TImk Tryd.underlying4 (by kernel_rfl)
theorem ti5 : TI Tryd.prog 5 (.int .u8) 1 1 (.int .u8 0) := TImk Tryd.underlying5 (by kernel_rfl)
theorem ti9 : TI Tryd.prog 9 (.string) 1 16 (.string ⟨#[]⟩) := TImk Tryd.underlying9 (by kernel_rfl)
theorem ti12 : TI Tryd.prog 12 (.int .u64) 1 8 (.int .u64 0) := TImk Tryd.underlying12 (by kernel_rfl)
noncomputable def sd13 : TypeDesc := (Tryd.prog.underlying 13).getD .bool
theorem ti13 : TI Tryd.prog 13 sd13 2 24 (.agg #[.string ⟨#[]⟩, .int .u64 0]) := TImk (by unfold sd13; rw [Tryd.underlying13]; rfl) (by kernel_rfl)
theorem ag13 : aggD sd13 = true := by unfold sd13; rw [Tryd.underlying13]; rfl
noncomputable def sd19 : TypeDesc := (Tryd.prog.underlying 19).getD .bool
theorem ti19 : TI Tryd.prog 19 sd19 1 8 (.agg #[.pointer none]) := TImk (by unfold sd19; rw [Tryd.underlying19]; rfl) (by kernel_rfl)
theorem ag19 : aggD sd19 = true := by unfold sd19; rw [Tryd.underlying19]; rfl
theorem ti21 : TI Tryd.prog 21 (.int .i32) 1 4 (.int .i32 0) := TImk Tryd.underlying21 (by kernel_rfl)
theorem ti22 : TI Tryd.prog 22 (.slice 31) 1 24 (.slice none 0 0) := TImk Tryd.underlying22 (by kernel_rfl)
theorem ti24 : TI Tryd.prog 24 (.pointer 48) 1 8 (.pointer none) := TImk Tryd.underlying24 (by kernel_rfl)
theorem ti25 : TI Tryd.prog 25 (.int .i64) 1 8 (.int .i64 0) := TImk Tryd.underlying25 (by kernel_rfl)
theorem ti30 : TI Tryd.prog 30 (.array 32 5) 32 32 (.agg ((List.replicate 32 (0 : UInt8)).map b8).toArray) := TImk Tryd.underlying30 (by kernel_rfl)
theorem ti31 : TI Tryd.prog 31 (.array 32 5) 32 32 (.agg ((List.replicate 32 (0 : UInt8)).map b8).toArray) := TImk Tryd.underlying31 (by kernel_rfl)
theorem ti35 : TI Tryd.prog 35 (.slice 44) 1 24 (.slice none 0 0) := TImk Tryd.underlying35 (by kernel_rfl)
theorem ti44 : TI Tryd.prog 44 (.slice 5) 1 24 (.slice none 0 0) := TImk Tryd.underlying44 (by kernel_rfl)
theorem ti46 : TI Tryd.prog 46 (.int .u64) 1 8 (.int .u64 0) := TImk Tryd.underlying46 (by kernel_rfl)
noncomputable def sd47 : TypeDesc := (Tryd.prog.underlying 47).getD .bool
theorem ti47 : TI Tryd.prog 47 sd47 2 32 (.agg #[.int .i64 0, .slice none 0 0]) := TImk (by unfold sd47; rw [Tryd.underlying47]; rfl) (by kernel_rfl)
theorem ag47 : aggD sd47 = true := by unfold sd47; rw [Tryd.underlying47]; rfl
noncomputable def sd48 : TypeDesc := (Tryd.prog.underlying 48).getD .bool
theorem ti48 : TI Tryd.prog 48 sd48 2 32 (.agg #[.int .i64 0, .slice none 0 0]) := TImk (by unfold sd48; rw [Tryd.underlying48]; rfl) (by kernel_rfl)
theorem ag48 : aggD sd48 = true := by unfold sd48; rw [Tryd.underlying48]; rfl
theorem ti57 : TI Tryd.prog 57 (.int .u32) 1 4 (.int .u32 0) := TImk Tryd.underlying57 (by kernel_rfl)
theorem ti59 : TI Tryd.prog 59 (.int .u64) 1 8 (.int .u64 0) := TImk Tryd.underlying59 (by kernel_rfl)
theorem ti64 : TI Tryd.prog 64 (.array 64 5) 64 64 (.agg ((List.replicate 64 (0 : UInt8)).map b8).toArray) := TImk Tryd.underlying64 (by kernel_rfl)
theorem ti65 : TI Tryd.prog 65 (.pointer 77) 1 8 (.pointer none) := TImk Tryd.underlying65 (by kernel_rfl)
noncomputable def sd76 : TypeDesc := (Tryd.prog.underlying 76).getD .bool
theorem ti76 : TI Tryd.prog 76 sd76 98 112 (.agg #[.int .u8 0, .int .u8 0, .int .u8 0, .int .u8 0, .int .u8 0, .int .u8 0, .int .u8 0, .int .u8 0, .int .u8 0, .int .u8 0, .int .u8 0, .int .u8 0, .int .u8 0, .int .u8 0, .int .u8 0, .int .u8 0, .int .u8 0, .int .u8 0, .int .u8 0, .int .u8 0, .int .u8 0, .int .u8 0, .int .u8 0, .int .u8 0, .int .u8 0, .int .u8 0, .int .u8 0, .int .u8 0, .int .u8 0, .int .u8 0, .int .u8 0, .int .u8 0, .int .u8 0, .int .u8 0, .int .u8 0, .int .u8 0, .int .u8 0, .int .u8 0, .int .u8 0, .int .u8 0, .int .u8 0, .int .u8 0, .int .u8 0, .int .u8 0, .int .u8 0, .int .u8 0, .int .u8 0, .int .u8 0, .int .u8 0, .int .u8 0, .int .u8 0, .int .u8 0, .int .u8 0, .int .u8 0, .int .u8 0, .int .u8 0, .int .u8 0, .int .u8 0, .int .u8 0, .int .u8 0, .int .u8 0, .int .u8 0, .int .u8 0, .int .u8 0, .int .u8 0, .int .u8 0, .int .u8 0, .int .u8 0, .int .u8 0, .int .u8 0, .int .u8 0, .int .u8 0, .int .u8 0, .int .u8 0, .int .u8 0, .int .u8 0, .int .u8 0, .int .u8 0, .int .u8 0, .int .u8 0, .int .u8 0, .int .u8 0, .int .u8 0, .int .u8 0, .int .u8 0, .int .u8 0, .int .u8 0, .int .u8 0, .int .u8 0, .int .u8 0, .int .u8 0, .int .u8 0, .int .u8 0, .int .u8 0, .int .u8 0, .int .u8 0, .int .i64 0, .int .i64 0]) := TImk (by unfold sd76; rw [Tryd.underlying76]; rfl) (by kernel_rfl)
theorem ag76 : aggD sd76 = true := by unfold sd76; rw [Tryd.underlying76]; rfl
noncomputable def sd77 : TypeDesc := (Tryd.prog.underlying 77).getD .bool
theorem ti77 : TI Tryd.prog 77 sd77 98 112 (.agg #[.int .u8 0, .int .u8 0, .int .u8 0, .int .u8 0, .int .u8 0, .int .u8 0, .int .u8 0, .int .u8 0, .int .u8 0, .int .u8 0, .int .u8 0, .int .u8 0, .int .u8 0, .int .u8 0, .int .u8 0, .int .u8 0, .int .u8 0, .int .u8 0, .int .u8 0, .int .u8 0, .int .u8 0, .int .u8 0, .int .u8 0, .int .u8 0, .int .u8 0, .int .u8 0, .int .u8 0, .int .u8 0, .int .u8 0, .int .u8 0, .int .u8 0, .int .u8 0, .int .u8 0, .int .u8 0, .int .u8 0, .int .u8 0, .int .u8 0, .int .u8 0, .int .u8 0, .int .u8 0, .int .u8 0, .int .u8 0, .int .u8 0, .int .u8 0, .int .u8 0, .int .u8 0, .int .u8 0, .int .u8 0, .int .u8 0, .int .u8 0, .int .u8 0, .int .u8 0, .int .u8 0, .int .u8 0, .int .u8 0, .int .u8 0, .int .u8 0, .int .u8 0, .int .u8 0, .int .u8 0, .int .u8 0, .int .u8 0, .int .u8 0, .int .u8 0, .int .u8 0, .int .u8 0, .int .u8 0, .int .u8 0, .int .u8 0, .int .u8 0, .int .u8 0, .int .u8 0, .int .u8 0, .int .u8 0, .int .u8 0, .int .u8 0, .int .u8 0, .int .u8 0, .int .u8 0, .int .u8 0, .int .u8 0, .int .u8 0, .int .u8 0, .int .u8 0, .int .u8 0, .int .u8 0, .int .u8 0, .int .u8 0, .int .u8 0, .int .u8 0, .int .u8 0, .int .u8 0, .int .u8 0, .int .u8 0, .int .u8 0, .int .u8 0, .int .i64 0, .int .i64 0]) := TImk (by unfold sd77; rw [Tryd.underlying77]; rfl) (by kernel_rfl)
theorem ag77 : aggD sd77 = true := by unfold sd77; rw [Tryd.underlying77]; rfl
theorem ti80 : TI Tryd.prog 80 (.array 8 5) 8 8 (.agg ((List.replicate 8 (0 : UInt8)).map b8).toArray) := TImk Tryd.underlying80 (by kernel_rfl)
theorem ti83 : TI Tryd.prog 83 (.pointer 30) 1 8 (.pointer none) := TImk Tryd.underlying83 (by kernel_rfl)
theorem ti84 : TI Tryd.prog 84 (.array 16 57) 16 64 (.agg ((List.replicate 16 (0 : UInt32)).map v32).toArray) := TImk Tryd.underlying84 (by kernel_rfl)
theorem ti88 : TI Tryd.prog 88 (.array 4 5) 4 4 (.agg ((List.replicate 4 (0 : UInt8)).map b8).toArray) := TImk Tryd.underlying88 (by kernel_rfl)
theorem ti91 : TI Tryd.prog 91 (.pointer 84) 1 8 (.pointer none) := TImk Tryd.underlying91 (by kernel_rfl)
theorem ti102 : TI Tryd.prog 102 (.pointer 5) 1 8 (.pointer none) := TImk Tryd.underlying102 (by kernel_rfl)
theorem pl13 : placesOf Tryd.prog 13 = some [(0, 1), (1, 1)] := by kernel_rfl
theorem pl19 : placesOf Tryd.prog 19 = some [(0, 1)] := by kernel_rfl
theorem pl47 : placesOf Tryd.prog 47 = some [(0, 1), (1, 1)] := by kernel_rfl
theorem pl48 : placesOf Tryd.prog 48 = some [(0, 1), (1, 1)] := by kernel_rfl
theorem pl76 : placesOf Tryd.prog 76 = some [(0, 64), (64, 32), (96, 1), (97, 1)] := by kernel_rfl
theorem pl77 : placesOf Tryd.prog 77 = some [(0, 64), (64, 32), (96, 1), (97, 1)] := by kernel_rfl
theorem fn3 : FnOk Tryd.prog 3 := ⟨_, Tryd.func3, by kernel_rfl, by kernel_rfl⟩
theorem fn4 : FnOk Tryd.prog 4 := ⟨_, Tryd.func4, by kernel_rfl, by kernel_rfl⟩
theorem fn5 : FnOk Tryd.prog 5 := ⟨_, Tryd.func5, by kernel_rfl, by kernel_rfl⟩
theorem fn6 : FnOk Tryd.prog 6 := ⟨_, Tryd.func6, by kernel_rfl, by kernel_rfl⟩
theorem fn7 : FnOk Tryd.prog 7 := ⟨_, Tryd.func7, by kernel_rfl, by kernel_rfl⟩
theorem fn8 : FnOk Tryd.prog 8 := ⟨_, Tryd.func8, by kernel_rfl, by kernel_rfl⟩
theorem fn9 : FnOk Tryd.prog 9 := ⟨_, Tryd.func9, by kernel_rfl, by kernel_rfl⟩
theorem fn10 : FnOk Tryd.prog 10 := ⟨_, Tryd.func10, by kernel_rfl, by kernel_rfl⟩
theorem fn11 : FnOk Tryd.prog 11 := ⟨_, Tryd.func11, by kernel_rfl, by kernel_rfl⟩
theorem fn12 : FnOk Tryd.prog 12 := ⟨_, Tryd.func12, by kernel_rfl, by kernel_rfl⟩
theorem fn13 : FnOk Tryd.prog 13 := ⟨_, Tryd.func13, by kernel_rfl, by kernel_rfl⟩
theorem fn14 : FnOk Tryd.prog 14 := ⟨_, Tryd.func14, by kernel_rfl, by kernel_rfl⟩
theorem fn15 : FnOk Tryd.prog 15 := ⟨_, Tryd.func15, by kernel_rfl, by kernel_rfl⟩
theorem fn16 : FnOk Tryd.prog 16 := ⟨_, Tryd.func16, by kernel_rfl, by kernel_rfl⟩
theorem fn17 : FnOk Tryd.prog 17 := ⟨_, Tryd.func17, by kernel_rfl, by kernel_rfl⟩
theorem fn18 : FnOk Tryd.prog 18 := ⟨_, Tryd.func18, by kernel_rfl, by kernel_rfl⟩
theorem fn19 : FnOk Tryd.prog 19 := ⟨_, Tryd.func19, by kernel_rfl, by kernel_rfl⟩
theorem fn20 : FnOk Tryd.prog 20 := ⟨_, Tryd.func20, by kernel_rfl, by kernel_rfl⟩
theorem fn21 : FnOk Tryd.prog 21 := ⟨_, Tryd.func21, by kernel_rfl, by kernel_rfl⟩
theorem fn22 : FnOk Tryd.prog 22 := ⟨_, Tryd.func22, by kernel_rfl, by kernel_rfl⟩
theorem fn23 : FnOk Tryd.prog 23 := ⟨_, Tryd.func23, by kernel_rfl, by kernel_rfl⟩
theorem fn24 : FnOk Tryd.prog 24 := ⟨_, Tryd.func24, by kernel_rfl, by kernel_rfl⟩
theorem fn25 : FnOk Tryd.prog 25 := ⟨_, Tryd.func25, by kernel_rfl, by kernel_rfl⟩
theorem fn26 : FnOk Tryd.prog 26 := ⟨_, Tryd.func26, by kernel_rfl, by kernel_rfl⟩
theorem fn27 : FnOk Tryd.prog 27 := ⟨_, Tryd.func27, by kernel_rfl, by kernel_rfl⟩
theorem fn28 : FnOk Tryd.prog 28 := ⟨_, Tryd.func28, by kernel_rfl, by kernel_rfl⟩
theorem fn29 : FnOk Tryd.prog 29 := ⟨_, Tryd.func29, by kernel_rfl, by kernel_rfl⟩
theorem fn30 : FnOk Tryd.prog 30 := ⟨_, Tryd.func30, by kernel_rfl, by kernel_rfl⟩
theorem fn31 : FnOk Tryd.prog 31 := ⟨_, Tryd.func31, by kernel_rfl, by kernel_rfl⟩
theorem fn32 : FnOk Tryd.prog 32 := ⟨_, Tryd.func32, by kernel_rfl, by kernel_rfl⟩
theorem fn33 : FnOk Tryd.prog 33 := ⟨_, Tryd.func33, by kernel_rfl, by kernel_rfl⟩
theorem fn34 : FnOk Tryd.prog 34 := ⟨_, Tryd.func34, by kernel_rfl, by kernel_rfl⟩
theorem fn35 : FnOk Tryd.prog 35 := ⟨_, Tryd.func35, by kernel_rfl, by kernel_rfl⟩
theorem fn36 : FnOk Tryd.prog 36 := ⟨_, Tryd.func36, by kernel_rfl, by kernel_rfl⟩
theorem fn37 : FnOk Tryd.prog 37 := ⟨_, Tryd.func37, by kernel_rfl, by kernel_rfl⟩
theorem fn38 : FnOk Tryd.prog 38 := ⟨_, Tryd.func38, by kernel_rfl, by kernel_rfl⟩
theorem fn39 : FnOk Tryd.prog 39 := ⟨_, Tryd.func39, by kernel_rfl, by kernel_rfl⟩
theorem fn40 : FnOk Tryd.prog 40 := ⟨_, Tryd.func40, by kernel_rfl, by kernel_rfl⟩
theorem fn41 : FnOk Tryd.prog 41 := ⟨_, Tryd.func41, by kernel_rfl, by kernel_rfl⟩
theorem fn42 : FnOk Tryd.prog 42 := ⟨_, Tryd.func42, by kernel_rfl, by kernel_rfl⟩
theorem fn43 : FnOk Tryd.prog 43 := ⟨_, Tryd.func43, by kernel_rfl, by kernel_rfl⟩
theorem fn44 : FnOk Tryd.prog 44 := ⟨_, Tryd.func44, by kernel_rfl, by kernel_rfl⟩
theorem fn45 : FnOk Tryd.prog 45 := ⟨_, Tryd.func45, by kernel_rfl, by kernel_rfl⟩
theorem fn46 : FnOk Tryd.prog 46 := ⟨_, Tryd.func46, by kernel_rfl, by kernel_rfl⟩
theorem fn47 : FnOk Tryd.prog 47 := ⟨_, Tryd.func47, by kernel_rfl, by kernel_rfl⟩
theorem fn48 : FnOk Tryd.prog 48 := ⟨_, Tryd.func48, by kernel_rfl, by kernel_rfl⟩
theorem fn49 : FnOk Tryd.prog 49 := ⟨_, Tryd.func49, by kernel_rfl, by kernel_rfl⟩
theorem fn50 : FnOk Tryd.prog 50 := ⟨_, Tryd.func50, by kernel_rfl, by kernel_rfl⟩
theorem fn51 : FnOk Tryd.prog 51 := ⟨_, Tryd.func51, by kernel_rfl, by kernel_rfl⟩
theorem fn52 : FnOk Tryd.prog 52 := ⟨_, Tryd.func52, by kernel_rfl, by kernel_rfl⟩
theorem fn53 : FnOk Tryd.prog 53 := ⟨_, Tryd.func53, by kernel_rfl, by kernel_rfl⟩
theorem fn54 : FnOk Tryd.prog 54 := ⟨_, Tryd.func54, by kernel_rfl, by kernel_rfl⟩
theorem fn55 : FnOk Tryd.prog 55 := ⟨_, Tryd.func55, by kernel_rfl, by kernel_rfl⟩
theorem fn56 : FnOk Tryd.prog 56 := ⟨_, Tryd.func56, by kernel_rfl, by kernel_rfl⟩
theorem fn57 : FnOk Tryd.prog 57 := ⟨_, Tryd.func57, by kernel_rfl, by kernel_rfl⟩
theorem fn58 : FnOk Tryd.prog 58 := ⟨_, Tryd.func58, by kernel_rfl, by kernel_rfl⟩
theorem fa13_0 : FA Tryd.prog 13 0 0 := FAmk (k := 0) Tryd.underlying13 rfl rfl (by kernel_rfl)
theorem fa13_1 : FA Tryd.prog 13 1 1 := FAmk (k := 0) Tryd.underlying13 rfl rfl (by kernel_rfl)
theorem fa19_0 : FA Tryd.prog 19 0 0 := FAmk (k := 0) Tryd.underlying19 rfl rfl (by kernel_rfl)
theorem fa47_0 : FA Tryd.prog 47 0 0 := FAmk (k := 0) Tryd.underlying47 rfl rfl (by kernel_rfl)
theorem fa47_1 : FA Tryd.prog 47 1 1 := FAmk (k := 0) Tryd.underlying47 rfl rfl (by kernel_rfl)
theorem fa48_0 : FA Tryd.prog 48 0 0 := FAmk (k := 0) Tryd.underlying48 rfl rfl (by kernel_rfl)
theorem fa48_1 : FA Tryd.prog 48 1 1 := FAmk (k := 0) Tryd.underlying48 rfl rfl (by kernel_rfl)
theorem fa76_0 : FA Tryd.prog 76 0 0 := FAmk (k := 63) Tryd.underlying76 rfl rfl (by kernel_rfl)
theorem fa76_1 : FA Tryd.prog 76 1 64 := FAmk (k := 31) Tryd.underlying76 rfl rfl (by kernel_rfl)
theorem fa76_2 : FA Tryd.prog 76 2 96 := FAmk (k := 0) Tryd.underlying76 rfl rfl (by kernel_rfl)
theorem fa76_3 : FA Tryd.prog 76 3 97 := FAmk (k := 0) Tryd.underlying76 rfl rfl (by kernel_rfl)
theorem fa77_0 : FA Tryd.prog 77 0 0 := FAmk (k := 63) Tryd.underlying77 rfl rfl (by kernel_rfl)
theorem fa77_1 : FA Tryd.prog 77 1 64 := FAmk (k := 31) Tryd.underlying77 rfl rfl (by kernel_rfl)
theorem fa77_2 : FA Tryd.prog 77 2 96 := FAmk (k := 0) Tryd.underlying77 rfl rfl (by kernel_rfl)
theorem fa77_3 : FA Tryd.prog 77 3 97 := FAmk (k := 0) Tryd.underlying77 rfl rfl (by kernel_rfl)
theorem fv13_0 : FV Tryd.prog 13 0 0 9 := ⟨_, _, Tryd.underlying13, rfl, rfl, rfl⟩
theorem fv13_1 : FV Tryd.prog 13 1 1 12 := ⟨_, _, Tryd.underlying13, rfl, rfl, rfl⟩
theorem fv19_0 : FV Tryd.prog 19 0 0 17 := ⟨_, _, Tryd.underlying19, rfl, rfl, rfl⟩
theorem fv47_0 : FV Tryd.prog 47 0 0 3 := ⟨_, _, Tryd.underlying47, rfl, rfl, rfl⟩
theorem fv47_1 : FV Tryd.prog 47 1 1 22 := ⟨_, _, Tryd.underlying47, rfl, rfl, rfl⟩
theorem fv48_0 : FV Tryd.prog 48 0 0 3 := ⟨_, _, Tryd.underlying48, rfl, rfl, rfl⟩
theorem fv48_1 : FV Tryd.prog 48 1 1 22 := ⟨_, _, Tryd.underlying48, rfl, rfl, rfl⟩
theorem fv76_0 : FV Tryd.prog 76 0 0 64 := ⟨_, _, Tryd.underlying76, rfl, rfl, rfl⟩
theorem fv76_1 : FV Tryd.prog 76 1 64 30 := ⟨_, _, Tryd.underlying76, rfl, rfl, rfl⟩
theorem fv76_2 : FV Tryd.prog 76 2 96 3 := ⟨_, _, Tryd.underlying76, rfl, rfl, rfl⟩
theorem fv76_3 : FV Tryd.prog 76 3 97 3 := ⟨_, _, Tryd.underlying76, rfl, rfl, rfl⟩
theorem fv77_0 : FV Tryd.prog 77 0 0 64 := ⟨_, _, Tryd.underlying77, rfl, rfl, rfl⟩
theorem fv77_1 : FV Tryd.prog 77 1 64 30 := ⟨_, _, Tryd.underlying77, rfl, rfl, rfl⟩
theorem fv77_2 : FV Tryd.prog 77 2 96 3 := ⟨_, _, Tryd.underlying77, rfl, rfl, rfl⟩
theorem fv77_3 : FV Tryd.prog 77 3 97 3 := ⟨_, _, Tryd.underlying77, rfl, rfl, rfl⟩
theorem eg13 : Tryd.prog.eqGuardType Tryd.prog.depth 13 = false := by kernel_rfl
theorem eg30 : Tryd.prog.eqGuardType Tryd.prog.depth 30 = false := by kernel_rfl
theorem eg31 : Tryd.prog.eqGuardType Tryd.prog.depth 31 = false := by kernel_rfl
theorem eg64 : Tryd.prog.eqGuardType Tryd.prog.depth 64 = false := by kernel_rfl
theorem eg76 : Tryd.prog.eqGuardType Tryd.prog.depth 76 = false := by kernel_rfl
theorem eg77 : Tryd.prog.eqGuardType Tryd.prog.depth 77 = false := by kernel_rfl
theorem eg80 : Tryd.prog.eqGuardType Tryd.prog.depth 80 = false := by kernel_rfl
theorem eg84 : Tryd.prog.eqGuardType Tryd.prog.depth 84 = false := by kernel_rfl
theorem eg88 : Tryd.prog.eqGuardType Tryd.prog.depth 88 = false := by kernel_rfl
theorem hMixed : Tryd.prog.follows .mixedOrders = true := by kernel_rfl
end Go.Proofs.YtfohfnpehfcaaaaDoor
