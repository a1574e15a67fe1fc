/- What the law's proof leans on. No condition. -/
import Derived.Test.YtbjjfpaiffckiaaDoorPFGAG
import Derived.Test.YtbjjfpaiffckiaaDoorProg
import Derived.KernelRfl
namespace Go.Proofs.YtbjjfpaiffckiaaDoor
open Go.Kw
set_option linter.unusedVariables false
set_option maxRecDepth 100000
theorem TImk {P : Program} {t : TypeId} {d : TypeDesc} {sz bts : Nat} {z : Value} (h : P.underlying t = some d) (h2 : (P.info? t).map (fun i => (i.size, i.bytes, i.zero)) = some (sz, bts, some z)) : TI P t d sz bts z := by
  obtain ⟨i, hi, hz⟩ := Option.map_eq_some_iff.1 h2
  simp only [Prod.mk.injEq] at hz
  exact ⟨h, i, hi, hz.1, hz.2.1, hz.2.2⟩
theorem FAmk {P : Program} {S : TypeId} {i off k : Nat} {fs : Array Field} {f : Field} (h1 : P.underlying S = some (.struct fs)) (h2 : fs[i]? = some f) (h3 : f.offset = off) (h4 : (P.info? f.type).map (·.size) = some (k + 1)) : FA P S i off := by
  obtain ⟨t, ht, hs⟩ := Option.map_eq_some_iff.1 h4
  exact ⟨fs, f, h1, h2, h3, t, ht, by omega⟩
theorem ti3 : TI Tryd.prog 3 (.int .i64) 1 8 (.int .i64 0) := TImk Tryd.underlying3 (by kernel_rfl)
theorem ti5 : TI Tryd.prog 5 (.int .u8) 1 1 (.int .u8 0) := TImk Tryd.underlying5 (by kernel_rfl)
theorem ti9 : TI Tryd.prog 9 (.string) 1 16 (.string ⟨#[]⟩) := TImk Tryd.underlying9 (by kernel_rfl)
theorem ti22 : TI Tryd.prog 22 (.slice 43) 1 24 (.slice none 0 0) := TImk Tryd.underlying22 (by kernel_rfl)
theorem ti24 : TI Tryd.prog 24 (.slice 29) 1 24 (.slice none 0 0) := TImk Tryd.underlying24 (by kernel_rfl)
theorem ti26 : TI Tryd.prog 26 (.pointer 47) 1 8 (.pointer none) := TImk Tryd.underlying26 (by kernel_rfl)
theorem ti28 : TI Tryd.prog 28 (.array 32 5) 32 32 (.agg ((List.replicate 32 (0 : UInt8)).map b8).toArray) := TImk Tryd.underlying28 (by kernel_rfl)
theorem ti29 : TI Tryd.prog 29 (.array 32 5) 32 32 (.agg ((List.replicate 32 (0 : UInt8)).map b8).toArray) := TImk Tryd.underlying29 (by kernel_rfl)
theorem ti43 : TI Tryd.prog 43 (.slice 5) 1 24 (.slice none 0 0) := TImk Tryd.underlying43 (by kernel_rfl)
noncomputable def sd47 : TypeDesc := (Tryd.prog.underlying 47).getD .bool
theorem ti47 : TI Tryd.prog 47 sd47 2 32 (.agg #[.int .i64 0, .slice none 0 0]) := TImk (by unfold sd47; rw [Tryd.underlying47]; rfl) (by kernel_rfl)
theorem ti50 : TI Tryd.prog 50 (.int .u64) 1 8 (.int .u64 0) := TImk Tryd.underlying50 (by kernel_rfl)
theorem ti59 : TI Tryd.prog 59 (.int .u32) 1 4 (.int .u32 0) := TImk Tryd.underlying59 (by kernel_rfl)
theorem ti61 : TI Tryd.prog 61 (.int .u64) 1 8 (.int .u64 0) := TImk Tryd.underlying61 (by kernel_rfl)
theorem ti63 : TI Tryd.prog 63 (.array 64 5) 64 64 (.agg ((List.replicate 64 (0 : UInt8)).map b8).toArray) := TImk Tryd.underlying63 (by kernel_rfl)
theorem ti75 : TI Tryd.prog 75 (.array 16 59) 16 64 (.agg ((List.replicate 16 (0 : UInt32)).map v32).toArray) := TImk Tryd.underlying75 (by kernel_rfl)
noncomputable def sd80 : TypeDesc := (Tryd.prog.underlying 80).getD .bool
theorem ti80 : TI Tryd.prog 80 sd80 98 112 (.agg #[.int .u8 0, .int .u8 0, .int .u8 0, .int .u8 0, .int .u8 0, .int .u8 0, .int .u8 0, .int .u8 0, .int .u8 0, .int .u8 0, .int .u8 0, .int .u8 0, .int .u8 0, .int .u8 0, .int .u8 0, .int .u8 0, .int .u8 0, .int .u8 0, .int .u8 0, .int .u8 0, .int .u8 0, .int .u8 0, .int .u8 0, .int .u8 0, .int .u8 0, .int .u8 0, .int .u8 0, .int .u8 0, .int .u8 0, .int .u8 0, .int .u8 0, .int .u8 0, .int .u8 0, .int .u8 0, .int .u8 0, .int .u8 0, .int .u8 0, .int .u8 0, .int .u8 0, .int .u8 0, .int .u8 0, .int .u8 0, .int .u8 0, .int .u8 0, .int .u8 0, .int .u8 0, .int .u8 0, .int .u8 0, .int .u8 0, .int .u8 0, .int .u8 0, .int .u8 0, .int .u8 0, .int .u8 0, .int .u8 0, .int .u8 0, .int .u8 0, .int .u8 0, .int .u8 0, .int .u8 0, .int .u8 0, .int .u8 0, .int .u8 0, .int .u8 0, .int .u8 0, .int .u8 0, .int .u8 0, .int .u8 0, .int .u8 0, .int .u8 0, .int .u8 0, .int .u8 0, .int .u8 0, .int .u8 0, .int .u8 0, .int .u8 0, .int .u8 0, .int .u8 0, .int .u8 0, .int .u8 0, .int .u8 0, .int .u8 0, .int .u8 0, .int .u8 0, .int .u8 0, .int .u8 0, .int .u8 0, .int .u8 0, .int .u8 0, .int .u8 0, .int .u8 0, .int .u8 0, .int .u8 0, .int .u8 0, .int .u8 0, .int .u8 0, .int .i64 0, .int .i64 0]) := TImk (by unfold sd80; rw [Tryd.underlying80]; rfl) (by kernel_rfl)
theorem ag80 : aggD sd80 = true := by unfold sd80; rw [Tryd.underlying80]; rfl
theorem ti83 : TI Tryd.prog 83 (.array 8 5) 8 8 (.agg ((List.replicate 8 (0 : UInt8)).map b8).toArray) := TImk Tryd.underlying83 (by kernel_rfl)
theorem ti87 : TI Tryd.prog 87 (.array 4 5) 4 4 (.agg ((List.replicate 4 (0 : UInt8)).map b8).toArray) := TImk Tryd.underlying87 (by kernel_rfl)
theorem pl47 : placesOf Tryd.prog 47 = some [(0, 1), (1, 1)] := by kernel_rfl
theorem fn4 : FnOk Tryd.prog 4 := ⟨_, Tryd.func4, by kernel_rfl, by kernel_rfl⟩
theorem fn5 : FnOk Tryd.prog 5 := ⟨_, Tryd.func5, by kernel_rfl, by kernel_rfl⟩
theorem fn6 : FnOk Tryd.prog 6 := ⟨_, Tryd.func6, by kernel_rfl, by kernel_rfl⟩
theorem fn7 : FnOk Tryd.prog 7 := ⟨_, Tryd.func7, by kernel_rfl, by kernel_rfl⟩
theorem fn8 : FnOk Tryd.prog 8 := ⟨_, Tryd.func8, by kernel_rfl, by kernel_rfl⟩
theorem fn9 : FnOk Tryd.prog 9 := ⟨_, Tryd.func9, by kernel_rfl, by kernel_rfl⟩
theorem fn10 : FnOk Tryd.prog 10 := ⟨_, Tryd.func10, by kernel_rfl, by kernel_rfl⟩
theorem fn11 : FnOk Tryd.prog 11 := ⟨_, Tryd.func11, by kernel_rfl, by kernel_rfl⟩
theorem fn12 : FnOk Tryd.prog 12 := ⟨_, Tryd.func12, by kernel_rfl, by kernel_rfl⟩
theorem fn13 : FnOk Tryd.prog 13 := ⟨_, Tryd.func13, by kernel_rfl, by kernel_rfl⟩
theorem fn14 : FnOk Tryd.prog 14 := ⟨_, Tryd.func14, by kernel_rfl, by kernel_rfl⟩
theorem fn15 : FnOk Tryd.prog 15 := ⟨_, Tryd.func15, by kernel_rfl, by kernel_rfl⟩
theorem fn16 : FnOk Tryd.prog 16 := ⟨_, Tryd.func16, by kernel_rfl, by kernel_rfl⟩
theorem fn17 : FnOk Tryd.prog 17 := ⟨_, Tryd.func17, by kernel_rfl, by kernel_rfl⟩
theorem fn18 : FnOk Tryd.prog 18 := ⟨_, Tryd.func18, by kernel_rfl, by kernel_rfl⟩
theorem fn19 : FnOk Tryd.prog 19 := ⟨_, Tryd.func19, by kernel_rfl, by kernel_rfl⟩
theorem fn20 : FnOk Tryd.prog 20 := ⟨_, Tryd.func20, by kernel_rfl, by kernel_rfl⟩
theorem fn21 : FnOk Tryd.prog 21 := ⟨_, Tryd.func21, by kernel_rfl, by kernel_rfl⟩
theorem fn22 : FnOk Tryd.prog 22 := ⟨_, Tryd.func22, by kernel_rfl, by kernel_rfl⟩
theorem fn23 : FnOk Tryd.prog 23 := ⟨_, Tryd.func23, by kernel_rfl, by kernel_rfl⟩
theorem fn24 : FnOk Tryd.prog 24 := ⟨_, Tryd.func24, by kernel_rfl, by kernel_rfl⟩
theorem fn25 : FnOk Tryd.prog 25 := ⟨_, Tryd.func25, by kernel_rfl, by kernel_rfl⟩
theorem fn26 : FnOk Tryd.prog 26 := ⟨_, Tryd.func26, by kernel_rfl, by kernel_rfl⟩
theorem fn27 : FnOk Tryd.prog 27 := ⟨_, Tryd.func27, by kernel_rfl, by kernel_rfl⟩
theorem fn28 : FnOk Tryd.prog 28 := ⟨_, Tryd.func28, by kernel_rfl, by kernel_rfl⟩
theorem fn30 : FnOk Tryd.prog 30 := ⟨_, Tryd.func30, by kernel_rfl, by kernel_rfl⟩
theorem fn32 : FnOk Tryd.prog 32 := ⟨_, Tryd.func32, by kernel_rfl, by kernel_rfl⟩
theorem fn33 : FnOk Tryd.prog 33 := ⟨_, Tryd.func33, by kernel_rfl, by kernel_rfl⟩
theorem fn34 : FnOk Tryd.prog 34 := ⟨_, Tryd.func34, by kernel_rfl, by kernel_rfl⟩
theorem fn35 : FnOk Tryd.prog 35 := ⟨_, Tryd.func35, by kernel_rfl, by kernel_rfl⟩
theorem fn36 : FnOk Tryd.prog 36 := ⟨_, Tryd.func36, by kernel_rfl, by kernel_rfl⟩
theorem fn37 : FnOk Tryd.prog 37 := ⟨_, Tryd.func37, by kernel_rfl, by kernel_rfl⟩
theorem fn38 : FnOk Tryd.prog 38 := ⟨_, Tryd.func38, by kernel_rfl, by kernel_rfl⟩
theorem fn39 : FnOk Tryd.prog 39 := ⟨_, Tryd.func39, by kernel_rfl, by kernel_rfl⟩
theorem fn40 : FnOk Tryd.prog 40 := ⟨_, Tryd.func40, by kernel_rfl, by kernel_rfl⟩
theorem fn41 : FnOk Tryd.prog 41 := ⟨_, Tryd.func41, by kernel_rfl, by kernel_rfl⟩
theorem fn42 : FnOk Tryd.prog 42 := ⟨_, Tryd.func42, by kernel_rfl, by kernel_rfl⟩
theorem fn43 : FnOk Tryd.prog 43 := ⟨_, Tryd.func43, by kernel_rfl, by kernel_rfl⟩
theorem fn44 : FnOk Tryd.prog 44 := ⟨_, Tryd.func44, by kernel_rfl, by kernel_rfl⟩
theorem fn45 : FnOk Tryd.prog 45 := ⟨_, Tryd.func45, by kernel_rfl, by kernel_rfl⟩
theorem fn46 : FnOk Tryd.prog 46 := ⟨_, Tryd.func46, by kernel_rfl, by kernel_rfl⟩
theorem fn47 : FnOk Tryd.prog 47 := ⟨_, Tryd.func47, by kernel_rfl, by kernel_rfl⟩
theorem fn48 : FnOk Tryd.prog 48 := ⟨_, Tryd.func48, by kernel_rfl, by kernel_rfl⟩
theorem fn49 : FnOk Tryd.prog 49 := ⟨_, Tryd.func49, by kernel_rfl, by kernel_rfl⟩
theorem fn50 : FnOk Tryd.prog 50 := ⟨_, Tryd.func50, by kernel_rfl, by kernel_rfl⟩
theorem fn51 : FnOk Tryd.prog 51 := ⟨_, Tryd.func51, by kernel_rfl, by kernel_rfl⟩
theorem fn52 : FnOk Tryd.prog 52 := ⟨_, Tryd.func52, by kernel_rfl, by kernel_rfl⟩
theorem fn53 : FnOk Tryd.prog 53 := ⟨_, Tryd.func53, by kernel_rfl, by kernel_rfl⟩
theorem fn54 : FnOk Tryd.prog 54 := ⟨_, Tryd.func54, by kernel_rfl, by kernel_rfl⟩
theorem fn55 : FnOk Tryd.prog 55 := ⟨_, Tryd.func55, by kernel_rfl, by kernel_rfl⟩
theorem fn56 : FnOk Tryd.prog 56 := ⟨_, Tryd.func56, by kernel_rfl, by kernel_rfl⟩
theorem fn57 : FnOk Tryd.prog 57 := ⟨_, Tryd.func57, by kernel_rfl, by kernel_rfl⟩
theorem fa47_0 : FA Tryd.prog 47 0 0 := FAmk (k := 0) Tryd.underlying47 rfl rfl (by kernel_rfl)
theorem fa47_1 : FA Tryd.prog 47 1 1 := FAmk (k := 0) Tryd.underlying47 rfl rfl (by kernel_rfl)
theorem fa80_0 : FA Tryd.prog 80 0 0 := FAmk (k := 63) Tryd.underlying80 rfl rfl (by kernel_rfl)
theorem fa80_1 : FA Tryd.prog 80 1 64 := FAmk (k := 31) Tryd.underlying80 rfl rfl (by kernel_rfl)
theorem fa80_2 : FA Tryd.prog 80 2 96 := FAmk (k := 0) Tryd.underlying80 rfl rfl (by kernel_rfl)
theorem fa80_3 : FA Tryd.prog 80 3 97 := FAmk (k := 0) Tryd.underlying80 rfl rfl (by kernel_rfl)
theorem eg29 : Tryd.prog.eqGuardType Tryd.prog.depth 29 = false := by kernel_rfl
theorem hMixed : Tryd.prog.follows .mixedOrders = true := by kernel_rfl
end Go.Proofs.YtbjjfpaiffckiaaDoor
