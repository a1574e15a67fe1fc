/- What the law's proof leans on. No condition. -/
import Derived.Test.YtfohfnpehfcaaaaPMcAG
import Derived.Test.YtfohfnpehfcaaaaProg
import Derived.KernelRfl
namespace Go.Proofs.Ytfohfnpehfcaaaa
open Go.Kw
set_option linter.unusedVariables false
set_option maxRecDepth 100000
theorem TImk {P : Program} {t : TypeId} {d : TypeDesc} {sz bts : Nat} {z : Value} (h : P.underlying t = some d) (h2 : (P.info? t).map (fun i => (i.size, i.bytes, i.zero)) = some (sz, bts, some z)) : TI P t d sz bts z := by
  obtain ⟨i, hi, hz⟩ := Option.map_eq_some_iff.1 h2
  simp only [Prod.mk.injEq] at hz
  exact ⟨h, i, hi, hz.1, hz.2.1, hz.2.2⟩
theorem FAmk {P : Program} {S : TypeId} {i off k : Nat} {fs : Array Field} {f : Field} (h1 : P.underlying S = some (.struct fs)) (h2 : fs[i]? = some f) (h3 : f.offset = off) (h4 : (P.info? f.type).map (·.size) = some (k + 1)) : FA P S i off := by
  obtain ⟨t, ht, hs⟩ := Option.map_eq_some_iff.1 h4
  exact ⟨fs, f, h1, h2, h3, t, ht, by omega⟩
theorem ti3 : TI Try.prog 3 (.int .i64) 1 8 (.int .i64 0) := TImk Try.underlying3 (by kernel_rfl)
theorem ti4 : TI Try.prog 4 (.bool) 1 1 (.bool false) := TImk Try.underlying4 (by kernel_rfl)
theorem ti5 : TI Try.prog 5 (.int .u8) 1 1 (.int .u8 0) := TImk Try.underlying5 (by kernel_rfl)
theorem ti9 : TI Try.prog 9 (.string) 1 16 (.string ⟨#[]⟩) := TImk Try.underlying9 (by kernel_rfl)
theorem ti22 : TI Try.prog 22 (.slice 5) 1 24 (.slice none 0 0) := TImk Try.underlying22 (by kernel_rfl)
theorem ti31 : TI Try.prog 31 (.array 32 5) 32 32 (.agg ((List.replicate 32 (0 : UInt8)).map b8).toArray) := TImk Try.underlying31 (by kernel_rfl)
theorem ti34 : TI Try.prog 34 (.array 64 5) 64 64 (.agg ((List.replicate 64 (0 : UInt8)).map b8).toArray) := TImk Try.underlying34 (by kernel_rfl)
theorem ti43 : TI Try.prog 43 (.slice 22) 1 24 (.slice none 0 0) := TImk Try.underlying43 (by kernel_rfl)
theorem ti49 : TI Try.prog 49 (.array 32 5) 32 32 (.agg ((List.replicate 32 (0 : UInt8)).map b8).toArray) := TImk Try.underlying49 (by kernel_rfl)
theorem ti53 : TI Try.prog 53 (.slice 49) 1 24 (.slice none 0 0) := TImk Try.underlying53 (by kernel_rfl)
noncomputable def sd95 : TypeDesc := (Try.prog.underlying 95).getD .bool
theorem ti95 : TI Try.prog 95 sd95 33 56 (.agg #[.int .u8 0, .int .u8 0, .int .u8 0, .int .u8 0, .int .u8 0, .int .u8 0, .int .u8 0, .int .u8 0, .int .u8 0, .int .u8 0, .int .u8 0, .int .u8 0, .int .u8 0, .int .u8 0, .int .u8 0, .int .u8 0, .int .u8 0, .int .u8 0, .int .u8 0, .int .u8 0, .int .u8 0, .int .u8 0, .int .u8 0, .int .u8 0, .int .u8 0, .int .u8 0, .int .u8 0, .int .u8 0, .int .u8 0, .int .u8 0, .int .u8 0, .int .u8 0, .slice none 0 0]) := TImk (by unfold sd95; rw [Try.underlying95]; rfl) (by kernel_rfl)
theorem ag95 : aggD sd95 = true := by unfold sd95; rw [Try.underlying95]; rfl
theorem ti110 : TI Try.prog 110 (.int .u64) 1 8 (.int .u64 0) := TImk Try.underlying110 (by kernel_rfl)
theorem ti122 : TI Try.prog 122 (.slice 190) 1 24 (.slice none 0 0) := TImk Try.underlying122 (by kernel_rfl)
theorem ti124 : TI Try.prog 124 (.slice 131) 1 24 (.slice none 0 0) := TImk Try.underlying124 (by kernel_rfl)
noncomputable def sd131 : TypeDesc := (Try.prog.underlying 131).getD .bool
theorem ti131 : TI Try.prog 131 sd131 64 64 (.agg ((List.replicate 64 (0 : UInt8)).map b8).toArray) := TImk (by unfold sd131; rw [Try.underlying131]; rfl) (by kernel_rfl)
theorem ag131 : aggD sd131 = true := by unfold sd131; rw [Try.underlying131]; rfl
noncomputable def sd148 : TypeDesc := (Try.prog.underlying 148).getD .bool
theorem ti148 : TI Try.prog 148 sd148 98 112 (.agg #[.int .u8 0, .int .u8 0, .int .u8 0, .int .u8 0, .int .u8 0, .int .u8 0, .int .u8 0, .int .u8 0, .int .u8 0, .int .u8 0, .int .u8 0, .int .u8 0, .int .u8 0, .int .u8 0, .int .u8 0, .int .u8 0, .int .u8 0, .int .u8 0, .int .u8 0, .int .u8 0, .int .u8 0, .int .u8 0, .int .u8 0, .int .u8 0, .int .u8 0, .int .u8 0, .int .u8 0, .int .u8 0, .int .u8 0, .int .u8 0, .int .u8 0, .int .u8 0, .int .u8 0, .int .u8 0, .int .u8 0, .int .u8 0, .int .u8 0, .int .u8 0, .int .u8 0, .int .u8 0, .int .u8 0, .int .u8 0, .int .u8 0, .int .u8 0, .int .u8 0, .int .u8 0, .int .u8 0, .int .u8 0, .int .u8 0, .int .u8 0, .int .u8 0, .int .u8 0, .int .u8 0, .int .u8 0, .int .u8 0, .int .u8 0, .int .u8 0, .int .u8 0, .int .u8 0, .int .u8 0, .int .u8 0, .int .u8 0, .int .u8 0, .int .u8 0, .int .u8 0, .int .u8 0, .int .u8 0, .int .u8 0, .int .u8 0, .int .u8 0, .int .u8 0, .int .u8 0, .int .u8 0, .int .u8 0, .int .u8 0, .int .u8 0, .int .u8 0, .int .u8 0, .int .u8 0, .int .u8 0, .int .u8 0, .int .u8 0, .int .u8 0, .int .u8 0, .int .u8 0, .int .u8 0, .int .u8 0, .int .u8 0, .int .u8 0, .int .u8 0, .int .u8 0, .int .u8 0, .int .u8 0, .int .u8 0, .int .u8 0, .int .u8 0, .int .i64 0, .int .i64 0]) := TImk (by unfold sd148; rw [Try.underlying148]; rfl) (by kernel_rfl)
theorem ag148 : aggD sd148 = true := by unfold sd148; rw [Try.underlying148]; rfl
theorem ti155 : TI Try.prog 155 (.int .u32) 1 4 (.int .u32 0) := TImk Try.underlying155 (by kernel_rfl)
theorem ti164 : TI Try.prog 164 (.array 4 5) 4 4 (.agg ((List.replicate 4 (0 : UInt8)).map b8).toArray) := TImk Try.underlying164 (by kernel_rfl)
theorem ti185 : TI Try.prog 185 (.array 8 5) 8 8 (.agg ((List.replicate 8 (0 : UInt8)).map b8).toArray) := TImk Try.underlying185 (by kernel_rfl)
theorem ti187 : TI Try.prog 187 (.int .u64) 1 8 (.int .u64 0) := TImk Try.underlying187 (by kernel_rfl)
noncomputable def sd190 : TypeDesc := (Try.prog.underlying 190).getD .bool
theorem ti190 : TI Try.prog 190 sd190 3 24 (.agg #[.int .i64 0, .int .i64 0, .int .i64 0]) := TImk (by unfold sd190; rw [Try.underlying190]; rfl) (by kernel_rfl)
theorem ag190 : aggD sd190 = true := by unfold sd190; rw [Try.underlying190]; rfl
theorem ti196 : TI Try.prog 196 (.map 49 49) 1 8 (.map none) := TImk Try.underlying196 (by kernel_rfl)
noncomputable def sd198 : TypeDesc := (Try.prog.underlying 198).getD .bool
theorem ti198 : TI Try.prog 198 sd198 1 8 (.agg #[.map none]) := TImk (by unfold sd198; rw [Try.underlying198]; rfl) (by kernel_rfl)
theorem ti207 : TI Try.prog 207 (.array 16 155) 16 64 (.agg ((List.replicate 16 (0 : UInt32)).map v32).toArray) := TImk Try.underlying207 (by kernel_rfl)
theorem pl95 : placesOf Try.prog 95 = some [(0, 32), (32, 1)] := by kernel_rfl
theorem pl131 : placesOf Try.prog 131 = some [(0, 32), (32, 32)] := by kernel_rfl
theorem pl198 : placesOf Try.prog 198 = some [(0, 1)] := by kernel_rfl
theorem fn20 : FnOk Try.prog 20 := ⟨_, Try.func20, by kernel_rfl, by kernel_rfl⟩
theorem fn21 : FnOk Try.prog 21 := ⟨_, Try.func21, by kernel_rfl, by kernel_rfl⟩
theorem fn29 : FnOk Try.prog 29 := ⟨_, Try.func29, by kernel_rfl, by kernel_rfl⟩
theorem fn30 : FnOk Try.prog 30 := ⟨_, Try.func30, by kernel_rfl, by kernel_rfl⟩
theorem fn31 : FnOk Try.prog 31 := ⟨_, Try.func31, by kernel_rfl, by kernel_rfl⟩
theorem fn32 : FnOk Try.prog 32 := ⟨_, Try.func32, by kernel_rfl, by kernel_rfl⟩
theorem fn33 : FnOk Try.prog 33 := ⟨_, Try.func33, by kernel_rfl, by kernel_rfl⟩
theorem fn44 : FnOk Try.prog 44 := ⟨_, Try.func44, by kernel_rfl, by kernel_rfl⟩
theorem fn52 : FnOk Try.prog 52 := ⟨_, Try.func52, by kernel_rfl, by kernel_rfl⟩
theorem fn53 : FnOk Try.prog 53 := ⟨_, Try.func53, by kernel_rfl, by kernel_rfl⟩
theorem fn65 : FnOk Try.prog 65 := ⟨_, Try.func65, by kernel_rfl, by kernel_rfl⟩
theorem fn67 : FnOk Try.prog 67 := ⟨_, Try.func67, by kernel_rfl, by kernel_rfl⟩
theorem fn69 : FnOk Try.prog 69 := ⟨_, Try.func69, by kernel_rfl, by kernel_rfl⟩
theorem fn83 : FnOk Try.prog 83 := ⟨_, Try.func83, by kernel_rfl, by kernel_rfl⟩
theorem fn86 : FnOk Try.prog 86 := ⟨_, Try.func86, by kernel_rfl, by kernel_rfl⟩
theorem fn90 : FnOk Try.prog 90 := ⟨_, Try.func90, by kernel_rfl, by kernel_rfl⟩
theorem fn91 : FnOk Try.prog 91 := ⟨_, Try.func91, by kernel_rfl, by kernel_rfl⟩
theorem fn92 : FnOk Try.prog 92 := ⟨_, Try.func92, by kernel_rfl, by kernel_rfl⟩
theorem fn93 : FnOk Try.prog 93 := ⟨_, Try.func93, by kernel_rfl, by kernel_rfl⟩
theorem fn95 : FnOk Try.prog 95 := ⟨_, Try.func95, by kernel_rfl, by kernel_rfl⟩
theorem fn96 : FnOk Try.prog 96 := ⟨_, Try.func96, by kernel_rfl, by kernel_rfl⟩
theorem fn99 : FnOk Try.prog 99 := ⟨_, Try.func99, by kernel_rfl, by kernel_rfl⟩
theorem fn100 : FnOk Try.prog 100 := ⟨_, Try.func100, by kernel_rfl, by kernel_rfl⟩
theorem fn101 : FnOk Try.prog 101 := ⟨_, Try.func101, by kernel_rfl, by kernel_rfl⟩
theorem fn103 : FnOk Try.prog 103 := ⟨_, Try.func103, by kernel_rfl, by kernel_rfl⟩
theorem fn105 : FnOk Try.prog 105 := ⟨_, Try.func105, by kernel_rfl, by kernel_rfl⟩
theorem fn106 : FnOk Try.prog 106 := ⟨_, Try.func106, by kernel_rfl, by kernel_rfl⟩
theorem fn107 : FnOk Try.prog 107 := ⟨_, Try.func107, by kernel_rfl, by kernel_rfl⟩
theorem fn111 : FnOk Try.prog 111 := ⟨_, Try.func111, by kernel_rfl, by kernel_rfl⟩
theorem fn112 : FnOk Try.prog 112 := ⟨_, Try.func112, by kernel_rfl, by kernel_rfl⟩
theorem fn113 : FnOk Try.prog 113 := ⟨_, Try.func113, by kernel_rfl, by kernel_rfl⟩
theorem fn117 : FnOk Try.prog 117 := ⟨_, Try.func117, by kernel_rfl, by kernel_rfl⟩
theorem fn122 : FnOk Try.prog 122 := ⟨_, Try.func122, by kernel_rfl, by kernel_rfl⟩
theorem fn123 : FnOk Try.prog 123 := ⟨_, Try.func123, by kernel_rfl, by kernel_rfl⟩
theorem fn124 : FnOk Try.prog 124 := ⟨_, Try.func124, by kernel_rfl, by kernel_rfl⟩
theorem fn125 : FnOk Try.prog 125 := ⟨_, Try.func125, by kernel_rfl, by kernel_rfl⟩
theorem fn130 : FnOk Try.prog 130 := ⟨_, Try.func130, by kernel_rfl, by kernel_rfl⟩
theorem fn138 : FnOk Try.prog 138 := ⟨_, Try.func138, by kernel_rfl, by kernel_rfl⟩
theorem fn139 : FnOk Try.prog 139 := ⟨_, Try.func139, by kernel_rfl, by kernel_rfl⟩
theorem fn140 : FnOk Try.prog 140 := ⟨_, Try.func140, by kernel_rfl, by kernel_rfl⟩
theorem fn143 : FnOk Try.prog 143 := ⟨_, Try.func143, by kernel_rfl, by kernel_rfl⟩
theorem fn144 : FnOk Try.prog 144 := ⟨_, Try.func144, by kernel_rfl, by kernel_rfl⟩
theorem fn146 : FnOk Try.prog 146 := ⟨_, Try.func146, by kernel_rfl, by kernel_rfl⟩
theorem fn148 : FnOk Try.prog 148 := ⟨_, Try.func148, by kernel_rfl, by kernel_rfl⟩
theorem fn156 : FnOk Try.prog 156 := ⟨_, Try.func156, by kernel_rfl, by kernel_rfl⟩
theorem fn157 : FnOk Try.prog 157 := ⟨_, Try.func157, by kernel_rfl, by kernel_rfl⟩
theorem fn158 : FnOk Try.prog 158 := ⟨_, Try.func158, by kernel_rfl, by kernel_rfl⟩
theorem fn159 : FnOk Try.prog 159 := ⟨_, Try.func159, by kernel_rfl, by kernel_rfl⟩
theorem fn160 : FnOk Try.prog 160 := ⟨_, Try.func160, by kernel_rfl, by kernel_rfl⟩
theorem fn164 : FnOk Try.prog 164 := ⟨_, Try.func164, by kernel_rfl, by kernel_rfl⟩
theorem fn165 : FnOk Try.prog 165 := ⟨_, Try.func165, by kernel_rfl, by kernel_rfl⟩
theorem fn166 : FnOk Try.prog 166 := ⟨_, Try.func166, by kernel_rfl, by kernel_rfl⟩
theorem fn167 : FnOk Try.prog 167 := ⟨_, Try.func167, by kernel_rfl, by kernel_rfl⟩
theorem fn168 : FnOk Try.prog 168 := ⟨_, Try.func168, by kernel_rfl, by kernel_rfl⟩
theorem fn169 : FnOk Try.prog 169 := ⟨_, Try.func169, by kernel_rfl, by kernel_rfl⟩
theorem fn170 : FnOk Try.prog 170 := ⟨_, Try.func170, by kernel_rfl, by kernel_rfl⟩
theorem fn171 : FnOk Try.prog 171 := ⟨_, Try.func171, by kernel_rfl, by kernel_rfl⟩
theorem fn172 : FnOk Try.prog 172 := ⟨_, Try.func172, by kernel_rfl, by kernel_rfl⟩
theorem fn173 : FnOk Try.prog 173 := ⟨_, Try.func173, by kernel_rfl, by kernel_rfl⟩
theorem fn174 : FnOk Try.prog 174 := ⟨_, Try.func174, by kernel_rfl, by kernel_rfl⟩
theorem fn175 : FnOk Try.prog 175 := ⟨_, Try.func175, by kernel_rfl, by kernel_rfl⟩
theorem fn177 : FnOk Try.prog 177 := ⟨_, Try.func177, by kernel_rfl, by kernel_rfl⟩
theorem fn178 : FnOk Try.prog 178 := ⟨_, Try.func178, by kernel_rfl, by kernel_rfl⟩
theorem fn179 : FnOk Try.prog 179 := ⟨_, Try.func179, by kernel_rfl, by kernel_rfl⟩
theorem fa95_0 : FA Try.prog 95 0 0 := FAmk (k := 31) Try.underlying95 rfl rfl (by kernel_rfl)
theorem fa95_1 : FA Try.prog 95 1 32 := FAmk (k := 0) Try.underlying95 rfl rfl (by kernel_rfl)
theorem fa131_0 : FA Try.prog 131 0 0 := FAmk (k := 31) Try.underlying131 rfl rfl (by kernel_rfl)
theorem fa131_1 : FA Try.prog 131 1 32 := FAmk (k := 31) Try.underlying131 rfl rfl (by kernel_rfl)
theorem fa148_0 : FA Try.prog 148 0 0 := FAmk (k := 63) Try.underlying148 rfl rfl (by kernel_rfl)
theorem fa148_1 : FA Try.prog 148 1 64 := FAmk (k := 31) Try.underlying148 rfl rfl (by kernel_rfl)
theorem fa148_2 : FA Try.prog 148 2 96 := FAmk (k := 0) Try.underlying148 rfl rfl (by kernel_rfl)
theorem fa148_3 : FA Try.prog 148 3 97 := FAmk (k := 0) Try.underlying148 rfl rfl (by kernel_rfl)
theorem fa190_0 : FA Try.prog 190 0 0 := FAmk (k := 0) Try.underlying190 rfl rfl (by kernel_rfl)
theorem fa190_1 : FA Try.prog 190 1 1 := FAmk (k := 0) Try.underlying190 rfl rfl (by kernel_rfl)
theorem fa190_2 : FA Try.prog 190 2 2 := FAmk (k := 0) Try.underlying190 rfl rfl (by kernel_rfl)
theorem fa198_0 : FA Try.prog 198 0 0 := FAmk (k := 0) Try.underlying198 rfl rfl (by kernel_rfl)
theorem eg49 : Try.prog.eqGuardType Try.prog.depth 49 = false := by kernel_rfl
theorem hMixed : Try.prog.follows .mixedOrders = true := by kernel_rfl
end Go.Proofs.Ytfohfnpehfcaaaa
