/- What the law's proof leans on. No condition. -/
import Derived.Test.YtflfocmfdlmjiaaPTcAG
import Derived.Test.YtflfocmfdlmjiaaProg
import Derived.KernelRfl
namespace Go.Proofs.Ytflfocmfdlmjiaa
open Go.Kw
set_option linter.unusedVariables false
set_option maxRecDepth 100000
theorem TImk {P : Program} {t : TypeId} {d : TypeDesc} {sz bts : Nat} {z : Value} (h : P.underlying t = some d) (h2 : (P.info? t).map (fun i => (i.size, i.bytes, i.zero)) = some (sz, bts, some z)) : TI P t d sz bts z := by
  obtain ⟨i, hi, hz⟩ := Option.map_eq_some_iff.1 h2
  simp only [Prod.mk.injEq] at hz
  exact ⟨h, i, hi, hz.1, hz.2.1, hz.2.2⟩
theorem FAmk {P : Program} {S : TypeId} {i off k : Nat} {fs : Array Field} {f : Field} (h1 : P.underlying S = some (.struct fs)) (h2 : fs[i]? = some f) (h3 : f.offset = off) (h4 : (P.info? f.type).map (·.size) = some (k + 1)) : FA P S i off := by
  obtain ⟨t, ht, hs⟩ := Option.map_eq_some_iff.1 h4
  exact ⟨fs, f, h1, h2, h3, t, ht, by omega⟩
theorem ti3 : TI Try.prog 3 (.int .i64) 1 8 (.int .i64 0) := TImk Try.underlying3 (by kernel_rfl)
theorem ti4 : TI Try.prog 4 (.bool) 1 1 (.bool false) := TImk Try.underlying4 (by kernel_rfl)
theorem ti5 : TI Try.prog 5 (.int .u8) 1 1 (.int .u8 0) := TImk Try.underlying5 (by kernel_rfl)
theorem ti9 : TI Try.prog 9 (.string) 1 16 (.string ⟨#[]⟩) := TImk Try.underlying9 (by kernel_rfl)
theorem ti22 : TI Try.prog 22 (.slice 5) 1 24 (.slice none 0 0) := TImk Try.underlying22 (by kernel_rfl)
theorem ti23 : TI Try.prog 23 (.slice 3) 1 24 (.slice none 0 0) := TImk Try.underlying23 (by kernel_rfl)
theorem ti25 : TI Try.prog 25 (.array 32 5) 32 32 (.agg ((List.replicate 32 (0 : UInt8)).map b8).toArray) := TImk Try.underlying25 (by kernel_rfl)
theorem ti26 : TI Try.prog 26 (.array 32 5) 32 32 (.agg ((List.replicate 32 (0 : UInt8)).map b8).toArray) := TImk Try.underlying26 (by kernel_rfl)
theorem ti30 : TI Try.prog 30 (.slice 22) 1 24 (.slice none 0 0) := TImk Try.underlying30 (by kernel_rfl)
theorem ti31 : TI Try.prog 31 (.slice 37) 1 24 (.slice none 0 0) := TImk Try.underlying31 (by kernel_rfl)
theorem ti34 : TI Try.prog 34 (.int .u64) 1 8 (.int .u64 0) := TImk Try.underlying34 (by kernel_rfl)
theorem ti35 : TI Try.prog 35 (.slice 26) 1 24 (.slice none 0 0) := TImk Try.underlying35 (by kernel_rfl)
noncomputable def sd37 : TypeDesc := (Try.prog.underlying 37).getD .bool
theorem ti37 : TI Try.prog 37 sd37 3 40 (.agg #[.int .i64 0, .int .i64 0, .slice none 0 0]) := TImk (by unfold sd37; rw [Try.underlying37]; rfl) (by kernel_rfl)
theorem ag37 : aggD sd37 = true := by unfold sd37; rw [Try.underlying37]; rfl
theorem ti56 : TI Try.prog 56 (.map 3 22) 1 8 (.map none) := TImk Try.underlying56 (by kernel_rfl)
theorem ti58 : TI Try.prog 58 (.slice 4) 1 24 (.slice none 0 0) := TImk Try.underlying58 (by kernel_rfl)
theorem ti72 : TI Try.prog 72 (.array 64 5) 64 64 (.agg ((List.replicate 64 (0 : UInt8)).map b8).toArray) := TImk Try.underlying72 (by kernel_rfl)
theorem ti87 : TI Try.prog 87 (.int .u32) 1 4 (.int .u32 0) := TImk Try.underlying87 (by kernel_rfl)
theorem ti88 : TI Try.prog 88 (.array 16 87) 16 64 (.agg ((List.replicate 16 (0 : UInt32)).map v32).toArray) := TImk Try.underlying88 (by kernel_rfl)
theorem ti97 : TI Try.prog 97 (.int .u64) 1 8 (.int .u64 0) := TImk Try.underlying97 (by kernel_rfl)
noncomputable def sd100 : TypeDesc := (Try.prog.underlying 100).getD .bool
theorem ti100 : TI Try.prog 100 sd100 98 112 (.agg #[.int .u8 0, .int .u8 0, .int .u8 0, .int .u8 0, .int .u8 0, .int .u8 0, .int .u8 0, .int .u8 0, .int .u8 0, .int .u8 0, .int .u8 0, .int .u8 0, .int .u8 0, .int .u8 0, .int .u8 0, .int .u8 0, .int .u8 0, .int .u8 0, .int .u8 0, .int .u8 0, .int .u8 0, .int .u8 0, .int .u8 0, .int .u8 0, .int .u8 0, .int .u8 0, .int .u8 0, .int .u8 0, .int .u8 0, .int .u8 0, .int .u8 0, .int .u8 0, .int .u8 0, .int .u8 0, .int .u8 0, .int .u8 0, .int .u8 0, .int .u8 0, .int .u8 0, .int .u8 0, .int .u8 0, .int .u8 0, .int .u8 0, .int .u8 0, .int .u8 0, .int .u8 0, .int .u8 0, .int .u8 0, .int .u8 0, .int .u8 0, .int .u8 0, .int .u8 0, .int .u8 0, .int .u8 0, .int .u8 0, .int .u8 0, .int .u8 0, .int .u8 0, .int .u8 0, .int .u8 0, .int .u8 0, .int .u8 0, .int .u8 0, .int .u8 0, .int .u8 0, .int .u8 0, .int .u8 0, .int .u8 0, .int .u8 0, .int .u8 0, .int .u8 0, .int .u8 0, .int .u8 0, .int .u8 0, .int .u8 0, .int .u8 0, .int .u8 0, .int .u8 0, .int .u8 0, .int .u8 0, .int .u8 0, .int .u8 0, .int .u8 0, .int .u8 0, .int .u8 0, .int .u8 0, .int .u8 0, .int .u8 0, .int .u8 0, .int .u8 0, .int .u8 0, .int .u8 0, .int .u8 0, .int .u8 0, .int .u8 0, .int .u8 0, .int .i64 0, .int .i64 0]) := TImk (by unfold sd100; rw [Try.underlying100]; rfl) (by kernel_rfl)
theorem ag100 : aggD sd100 = true := by unfold sd100; rw [Try.underlying100]; rfl
theorem ti103 : TI Try.prog 103 (.array 8 5) 8 8 (.agg ((List.replicate 8 (0 : UInt8)).map b8).toArray) := TImk Try.underlying103 (by kernel_rfl)
theorem ti107 : TI Try.prog 107 (.array 4 5) 4 4 (.agg ((List.replicate 4 (0 : UInt8)).map b8).toArray) := TImk Try.underlying107 (by kernel_rfl)
theorem pl37 : placesOf Try.prog 37 = some [(0, 1), (1, 1), (2, 1)] := by kernel_rfl
theorem fn4 : FnOk Try.prog 4 := ⟨_, Try.func4, by kernel_rfl, by kernel_rfl⟩
theorem fn5 : FnOk Try.prog 5 := ⟨_, Try.func5, by kernel_rfl, by kernel_rfl⟩
theorem fn6 : FnOk Try.prog 6 := ⟨_, Try.func6, by kernel_rfl, by kernel_rfl⟩
theorem fn7 : FnOk Try.prog 7 := ⟨_, Try.func7, by kernel_rfl, by kernel_rfl⟩
theorem fn8 : FnOk Try.prog 8 := ⟨_, Try.func8, by kernel_rfl, by kernel_rfl⟩
theorem fn9 : FnOk Try.prog 9 := ⟨_, Try.func9, by kernel_rfl, by kernel_rfl⟩
theorem fn10 : FnOk Try.prog 10 := ⟨_, Try.func10, by kernel_rfl, by kernel_rfl⟩
theorem fn11 : FnOk Try.prog 11 := ⟨_, Try.func11, by kernel_rfl, by kernel_rfl⟩
theorem fn12 : FnOk Try.prog 12 := ⟨_, Try.func12, by kernel_rfl, by kernel_rfl⟩
theorem fn13 : FnOk Try.prog 13 := ⟨_, Try.func13, by kernel_rfl, by kernel_rfl⟩
theorem fn14 : FnOk Try.prog 14 := ⟨_, Try.func14, by kernel_rfl, by kernel_rfl⟩
theorem fn15 : FnOk Try.prog 15 := ⟨_, Try.func15, by kernel_rfl, by kernel_rfl⟩
theorem fn16 : FnOk Try.prog 16 := ⟨_, Try.func16, by kernel_rfl, by kernel_rfl⟩
theorem fn17 : FnOk Try.prog 17 := ⟨_, Try.func17, by kernel_rfl, by kernel_rfl⟩
theorem fn18 : FnOk Try.prog 18 := ⟨_, Try.func18, by kernel_rfl, by kernel_rfl⟩
theorem fn19 : FnOk Try.prog 19 := ⟨_, Try.func19, by kernel_rfl, by kernel_rfl⟩
theorem fn20 : FnOk Try.prog 20 := ⟨_, Try.func20, by kernel_rfl, by kernel_rfl⟩
theorem fn21 : FnOk Try.prog 21 := ⟨_, Try.func21, by kernel_rfl, by kernel_rfl⟩
theorem fn22 : FnOk Try.prog 22 := ⟨_, Try.func22, by kernel_rfl, by kernel_rfl⟩
theorem fn23 : FnOk Try.prog 23 := ⟨_, Try.func23, by kernel_rfl, by kernel_rfl⟩
theorem fn24 : FnOk Try.prog 24 := ⟨_, Try.func24, by kernel_rfl, by kernel_rfl⟩
theorem fn25 : FnOk Try.prog 25 := ⟨_, Try.func25, by kernel_rfl, by kernel_rfl⟩
theorem fn26 : FnOk Try.prog 26 := ⟨_, Try.func26, by kernel_rfl, by kernel_rfl⟩
theorem fn27 : FnOk Try.prog 27 := ⟨_, Try.func27, by kernel_rfl, by kernel_rfl⟩
theorem fn28 : FnOk Try.prog 28 := ⟨_, Try.func28, by kernel_rfl, by kernel_rfl⟩
theorem fn29 : FnOk Try.prog 29 := ⟨_, Try.func29, by kernel_rfl, by kernel_rfl⟩
theorem fn30 : FnOk Try.prog 30 := ⟨_, Try.func30, by kernel_rfl, by kernel_rfl⟩
theorem fn31 : FnOk Try.prog 31 := ⟨_, Try.func31, by kernel_rfl, by kernel_rfl⟩
theorem fn32 : FnOk Try.prog 32 := ⟨_, Try.func32, by kernel_rfl, by kernel_rfl⟩
theorem fn33 : FnOk Try.prog 33 := ⟨_, Try.func33, by kernel_rfl, by kernel_rfl⟩
theorem fn34 : FnOk Try.prog 34 := ⟨_, Try.func34, by kernel_rfl, by kernel_rfl⟩
theorem fn35 : FnOk Try.prog 35 := ⟨_, Try.func35, by kernel_rfl, by kernel_rfl⟩
theorem fn36 : FnOk Try.prog 36 := ⟨_, Try.func36, by kernel_rfl, by kernel_rfl⟩
theorem fn37 : FnOk Try.prog 37 := ⟨_, Try.func37, by kernel_rfl, by kernel_rfl⟩
theorem fn38 : FnOk Try.prog 38 := ⟨_, Try.func38, by kernel_rfl, by kernel_rfl⟩
theorem fn39 : FnOk Try.prog 39 := ⟨_, Try.func39, by kernel_rfl, by kernel_rfl⟩
theorem fn40 : FnOk Try.prog 40 := ⟨_, Try.func40, by kernel_rfl, by kernel_rfl⟩
theorem fn41 : FnOk Try.prog 41 := ⟨_, Try.func41, by kernel_rfl, by kernel_rfl⟩
theorem fn42 : FnOk Try.prog 42 := ⟨_, Try.func42, by kernel_rfl, by kernel_rfl⟩
theorem fn43 : FnOk Try.prog 43 := ⟨_, Try.func43, by kernel_rfl, by kernel_rfl⟩
theorem fn44 : FnOk Try.prog 44 := ⟨_, Try.func44, by kernel_rfl, by kernel_rfl⟩
theorem fn45 : FnOk Try.prog 45 := ⟨_, Try.func45, by kernel_rfl, by kernel_rfl⟩
theorem fn46 : FnOk Try.prog 46 := ⟨_, Try.func46, by kernel_rfl, by kernel_rfl⟩
theorem fn47 : FnOk Try.prog 47 := ⟨_, Try.func47, by kernel_rfl, by kernel_rfl⟩
theorem fn48 : FnOk Try.prog 48 := ⟨_, Try.func48, by kernel_rfl, by kernel_rfl⟩
theorem fn49 : FnOk Try.prog 49 := ⟨_, Try.func49, by kernel_rfl, by kernel_rfl⟩
theorem fn50 : FnOk Try.prog 50 := ⟨_, Try.func50, by kernel_rfl, by kernel_rfl⟩
theorem fn51 : FnOk Try.prog 51 := ⟨_, Try.func51, by kernel_rfl, by kernel_rfl⟩
theorem fn53 : FnOk Try.prog 53 := ⟨_, Try.func53, by kernel_rfl, by kernel_rfl⟩
theorem fn54 : FnOk Try.prog 54 := ⟨_, Try.func54, by kernel_rfl, by kernel_rfl⟩
theorem fn55 : FnOk Try.prog 55 := ⟨_, Try.func55, by kernel_rfl, by kernel_rfl⟩
theorem fn56 : FnOk Try.prog 56 := ⟨_, Try.func56, by kernel_rfl, by kernel_rfl⟩
theorem fn57 : FnOk Try.prog 57 := ⟨_, Try.func57, by kernel_rfl, by kernel_rfl⟩
theorem fn58 : FnOk Try.prog 58 := ⟨_, Try.func58, by kernel_rfl, by kernel_rfl⟩
theorem fn59 : FnOk Try.prog 59 := ⟨_, Try.func59, by kernel_rfl, by kernel_rfl⟩
theorem fn60 : FnOk Try.prog 60 := ⟨_, Try.func60, by kernel_rfl, by kernel_rfl⟩
theorem fn61 : FnOk Try.prog 61 := ⟨_, Try.func61, by kernel_rfl, by kernel_rfl⟩
theorem fn62 : FnOk Try.prog 62 := ⟨_, Try.func62, by kernel_rfl, by kernel_rfl⟩
theorem fn63 : FnOk Try.prog 63 := ⟨_, Try.func63, by kernel_rfl, by kernel_rfl⟩
theorem fn64 : FnOk Try.prog 64 := ⟨_, Try.func64, by kernel_rfl, by kernel_rfl⟩
theorem fn65 : FnOk Try.prog 65 := ⟨_, Try.func65, by kernel_rfl, by kernel_rfl⟩
theorem fa37_0 : FA Try.prog 37 0 0 := FAmk (k := 0) Try.underlying37 rfl rfl (by kernel_rfl)
theorem fa37_1 : FA Try.prog 37 1 1 := FAmk (k := 0) Try.underlying37 rfl rfl (by kernel_rfl)
theorem fa37_2 : FA Try.prog 37 2 2 := FAmk (k := 0) Try.underlying37 rfl rfl (by kernel_rfl)
theorem fa100_0 : FA Try.prog 100 0 0 := FAmk (k := 63) Try.underlying100 rfl rfl (by kernel_rfl)
theorem fa100_1 : FA Try.prog 100 1 64 := FAmk (k := 31) Try.underlying100 rfl rfl (by kernel_rfl)
theorem fa100_2 : FA Try.prog 100 2 96 := FAmk (k := 0) Try.underlying100 rfl rfl (by kernel_rfl)
theorem fa100_3 : FA Try.prog 100 3 97 := FAmk (k := 0) Try.underlying100 rfl rfl (by kernel_rfl)
theorem eg26 : Try.prog.eqGuardType Try.prog.depth 26 = false := by kernel_rfl
theorem hMixed : Try.prog.follows .mixedOrders = true := by kernel_rfl
end Go.Proofs.Ytflfocmfdlmjiaa
