/- What the translation says of its types and functions, as closed facts. No condition. -/
import Derived.Test.YtfohfnpehfcaaaaMem5
import Derived.Test.YtfohfnpehfcaaaaProg
import Derived.KernelRfl
namespace Go.Proofs.Ytfohfnpehfcaaaa
open Go.Kw
set_option linter.unusedVariables false
set_option maxRecDepth 100000
theorem TImk {P : Program} {t : TypeId} {d : TypeDesc} {sz bts : Nat} {z : Value} (h : P.underlying t = some d) (h2 : (P.info? t).map (fun i => (i.size, i.bytes, i.zero)) = some (sz, bts, some z)) : TI P t d sz bts z := by
  obtain ⟨i, hi, hz⟩ := Option.map_eq_some_iff.1 h2
  simp only [Prod.mk.injEq] at hz
  exact ⟨h, i, hi, hz.1, hz.2.1, hz.2.2⟩
theorem FAmk {P : Program} {S : TypeId} {i off k : Nat} {fs : Array Field} {f : Field} (h1 : P.underlying S = some (.struct fs)) (h2 : fs[i]? = some f) (h3 : f.offset = off) (h4 : (P.info? f.type).map (·.size) = some (k + 1)) : FA P S i off := by
  obtain ⟨t, ht, hs⟩ := Option.map_eq_some_iff.1 h4
  exact ⟨fs, f, h1, h2, h3, t, ht, by omega⟩
theorem ti2 : TI Try.prog 2 (.int .i64) 1 8 (.int .i64 0) := TImk Try.underlying2 (by kernel_rfl)
theorem ti3 : TI Try.prog 3 (.int .i64) 1 8 (.int .i64 0) := TImk Try.underlying3 (by kernel_rfl)
theorem ti4 : TI Try.prog 4 (.bool) 1 1 (.bool false) := TImk Try.underlying4 (by kernel_rfl)
theorem ti5 : TI Try.prog 5 (.int .u8) 1 1 (.int .u8 0) := TImk Try.underlying5 (by kernel_rfl)
theorem ti9 : TI Try.prog 9 (.string) 1 16 (.string ⟨#[]⟩) := TImk Try.underlying9 (by kernel_rfl)
theorem ti12 : TI Try.prog 12 (.int .u64) 1 8 (.int .u64 0) := TImk Try.underlying12 (by kernel_rfl)
noncomputable def sd13 : TypeDesc := (Try.prog.underlying 13).getD .bool
theorem ti13 : TI Try.prog 13 sd13 2 24 (.agg #[.string ⟨#[]⟩, .int .u64 0]) := TImk (by unfold sd13; rw [Try.underlying13]; rfl) (by kernel_rfl)
theorem ag13 : aggD sd13 = true := by unfold sd13; rw [Try.underlying13]; rfl
noncomputable def sd19 : TypeDesc := (Try.prog.underlying 19).getD .bool
theorem ti19 : TI Try.prog 19 sd19 1 8 (.agg #[.pointer none]) := TImk (by unfold sd19; rw [Try.underlying19]; rfl) (by kernel_rfl)
theorem ag19 : aggD sd19 = true := by unfold sd19; rw [Try.underlying19]; rfl
theorem ti21 : TI Try.prog 21 (.int .i32) 1 4 (.int .i32 0) := TImk Try.underlying21 (by kernel_rfl)
theorem ti22 : TI Try.prog 22 (.slice 5) 1 24 (.slice none 0 0) := TImk Try.underlying22 (by kernel_rfl)
theorem ti25 : TI Try.prog 25 (.int .i64) 1 8 (.int .i64 0) := TImk Try.underlying25 (by kernel_rfl)
theorem ti28 : TI Try.prog 28 (.array 16 5) 16 16 (.agg ((List.replicate 16 (0 : UInt8)).map b8).toArray) := TImk Try.underlying28 (by kernel_rfl)
theorem ti31 : TI Try.prog 31 (.array 32 5) 32 32 (.agg ((List.replicate 32 (0 : UInt8)).map b8).toArray) := TImk Try.underlying31 (by kernel_rfl)
theorem ti34 : TI Try.prog 34 (.array 64 5) 64 64 (.agg ((List.replicate 64 (0 : UInt8)).map b8).toArray) := TImk Try.underlying34 (by kernel_rfl)
theorem ti38 : TI Try.prog 38 (.pointer 31) 1 8 (.pointer none) := TImk Try.underlying38 (by kernel_rfl)
theorem ti43 : TI Try.prog 43 (.slice 22) 1 24 (.slice none 0 0) := TImk Try.underlying43 (by kernel_rfl)
theorem ti44 : TI Try.prog 44 (.pointer 148) 1 8 (.pointer none) := TImk Try.underlying44 (by kernel_rfl)
theorem ti49 : TI Try.prog 49 (.array 32 5) 32 32 (.agg ((List.replicate 32 (0 : UInt8)).map b8).toArray) := TImk Try.underlying49 (by kernel_rfl)
theorem ti53 : TI Try.prog 53 (.slice 49) 1 24 (.slice none 0 0) := TImk Try.underlying53 (by kernel_rfl)
noncomputable def sd54 : TypeDesc := (Try.prog.underlying 54).getD .bool
theorem ti54 : TI Try.prog 54 sd54 3 40 (.agg #[.int .i64 0, .int .i64 0, .slice none 0 0]) := TImk (by unfold sd54; rw [Try.underlying54]; rfl) (by kernel_rfl)
theorem ag54 : aggD sd54 = true := by unfold sd54; rw [Try.underlying54]; rfl
noncomputable def sd55 : TypeDesc := (Try.prog.underlying 55).getD .bool
theorem ti55 : TI Try.prog 55 sd55 3 40 (.agg #[.int .i64 0, .int .i64 0, .slice none 0 0]) := TImk (by unfold sd55; rw [Try.underlying55]; rfl) (by kernel_rfl)
theorem ag55 : aggD sd55 = true := by unfold sd55; rw [Try.underlying55]; rfl
theorem ti61 : TI Try.prog 61 (.array 32 5) 32 32 (.agg ((List.replicate 32 (0 : UInt8)).map b8).toArray) := TImk Try.underlying61 (by kernel_rfl)
theorem ti62 : TI Try.prog 62 (.array 16 5) 16 16 (.agg ((List.replicate 16 (0 : UInt8)).map b8).toArray) := TImk Try.underlying62 (by kernel_rfl)
theorem ti65 : TI Try.prog 65 (.array 64 5) 64 64 (.agg ((List.replicate 64 (0 : UInt8)).map b8).toArray) := TImk Try.underlying65 (by kernel_rfl)
noncomputable def sd82 : TypeDesc := (Try.prog.underlying 82).getD .bool
theorem ti82 : TI Try.prog 82 sd82 66 80 (.agg #[.int .i64 0, .int .i64 0, .int .u8 0, .int .u8 0, .int .u8 0, .int .u8 0, .int .u8 0, .int .u8 0, .int .u8 0, .int .u8 0, .int .u8 0, .int .u8 0, .int .u8 0, .int .u8 0, .int .u8 0, .int .u8 0, .int .u8 0, .int .u8 0, .int .u8 0, .int .u8 0, .int .u8 0, .int .u8 0, .int .u8 0, .int .u8 0, .int .u8 0, .int .u8 0, .int .u8 0, .int .u8 0, .int .u8 0, .int .u8 0, .int .u8 0, .int .u8 0, .int .u8 0, .int .u8 0, .int .u8 0, .int .u8 0, .int .u8 0, .int .u8 0, .int .u8 0, .int .u8 0, .int .u8 0, .int .u8 0, .int .u8 0, .int .u8 0, .int .u8 0, .int .u8 0, .int .u8 0, .int .u8 0, .int .u8 0, .int .u8 0, .int .u8 0, .int .u8 0, .int .u8 0, .int .u8 0, .int .u8 0, .int .u8 0, .int .u8 0, .int .u8 0, .int .u8 0, .int .u8 0, .int .u8 0, .int .u8 0, .int .u8 0, .int .u8 0, .int .u8 0, .int .u8 0]) := TImk (by unfold sd82; rw [Try.underlying82]; rfl) (by kernel_rfl)
theorem ag82 : aggD sd82 = true := by unfold sd82; rw [Try.underlying82]; rfl
noncomputable def sd83 : TypeDesc := (Try.prog.underlying 83).getD .bool
theorem ti83 : TI Try.prog 83 sd83 66 80 (.agg #[.int .i64 0, .int .i64 0, .int .u8 0, .int .u8 0, .int .u8 0, .int .u8 0, .int .u8 0, .int .u8 0, .int .u8 0, .int .u8 0, .int .u8 0, .int .u8 0, .int .u8 0, .int .u8 0, .int .u8 0, .int .u8 0, .int .u8 0, .int .u8 0, .int .u8 0, .int .u8 0, .int .u8 0, .int .u8 0, .int .u8 0, .int .u8 0, .int .u8 0, .int .u8 0, .int .u8 0, .int .u8 0, .int .u8 0, .int .u8 0, .int .u8 0, .int .u8 0, .int .u8 0, .int .u8 0, .int .u8 0, .int .u8 0, .int .u8 0, .int .u8 0, .int .u8 0, .int .u8 0, .int .u8 0, .int .u8 0, .int .u8 0, .int .u8 0, .int .u8 0, .int .u8 0, .int .u8 0, .int .u8 0, .int .u8 0, .int .u8 0, .int .u8 0, .int .u8 0, .int .u8 0, .int .u8 0, .int .u8 0, .int .u8 0, .int .u8 0, .int .u8 0, .int .u8 0, .int .u8 0, .int .u8 0, .int .u8 0, .int .u8 0, .int .u8 0, .int .u8 0, .int .u8 0]) := TImk (by unfold sd83; rw [Try.underlying83]; rfl) (by kernel_rfl)
theorem ag83 : aggD sd83 = true := by unfold sd83; rw [Try.underlying83]; rfl
noncomputable def sd94 : TypeDesc := (Try.prog.underlying 94).getD .bool
theorem ti94 : TI Try.prog 94 sd94 33 56 (.agg #[.int .u8 0, .int .u8 0, .int .u8 0, .int .u8 0, .int .u8 0, .int .u8 0, .int .u8 0, .int .u8 0, .int .u8 0, .int .u8 0, .int .u8 0, .int .u8 0, .int .u8 0, .int .u8 0, .int .u8 0, .int .u8 0, .int .u8 0, .int .u8 0, .int .u8 0, .int .u8 0, .int .u8 0, .int .u8 0, .int .u8 0, .int .u8 0, .int .u8 0, .int .u8 0, .int .u8 0, .int .u8 0, .int .u8 0, .int .u8 0, .int .u8 0, .int .u8 0, .slice none 0 0]) := TImk (by unfold sd94; rw [Try.underlying94]; rfl) (by kernel_rfl)
theorem ag94 : aggD sd94 = true := by unfold sd94; rw [Try.underlying94]; rfl
noncomputable def sd95 : TypeDesc := (Try.prog.underlying 95).getD .bool
theorem ti95 : TI Try.prog 95 sd95 33 56 (.agg #[.int .u8 0, .int .u8 0, .int .u8 0, .int .u8 0, .int .u8 0, .int .u8 0, .int .u8 0, .int .u8 0, .int .u8 0, .int .u8 0, .int .u8 0, .int .u8 0, .int .u8 0, .int .u8 0, .int .u8 0, .int .u8 0, .int .u8 0, .int .u8 0, .int .u8 0, .int .u8 0, .int .u8 0, .int .u8 0, .int .u8 0, .int .u8 0, .int .u8 0, .int .u8 0, .int .u8 0, .int .u8 0, .int .u8 0, .int .u8 0, .int .u8 0, .int .u8 0, .slice none 0 0]) := TImk (by unfold sd95; rw [Try.underlying95]; rfl) (by kernel_rfl)
theorem ag95 : aggD sd95 = true := by unfold sd95; rw [Try.underlying95]; rfl
theorem ti102 : TI Try.prog 102 (.array 16 5) 16 16 (.agg ((List.replicate 16 (0 : UInt8)).map b8).toArray) := TImk Try.underlying102 (by kernel_rfl)
theorem ti110 : TI Try.prog 110 (.int .u64) 1 8 (.int .u64 0) := TImk Try.underlying110 (by kernel_rfl)
theorem ti113 : TI Try.prog 113 (.slice 31) 1 24 (.slice none 0 0) := TImk Try.underlying113 (by kernel_rfl)
theorem ti117 : TI Try.prog 117 (.map 49 4) 1 8 (.map none) := TImk Try.underlying117 (by kernel_rfl)
theorem ti122 : TI Try.prog 122 (.slice 190) 1 24 (.slice none 0 0) := TImk Try.underlying122 (by kernel_rfl)
theorem ti123 : TI Try.prog 123 (.pointer 198) 1 8 (.pointer none) := TImk Try.underlying123 (by kernel_rfl)
theorem ti124 : TI Try.prog 124 (.slice 131) 1 24 (.slice none 0 0) := TImk Try.underlying124 (by kernel_rfl)
noncomputable def sd130 : TypeDesc := (Try.prog.underlying 130).getD .bool
theorem ti130 : TI Try.prog 130 sd130 64 64 (.agg ((List.replicate 64 (0 : UInt8)).map b8).toArray) := TImk (by unfold sd130; rw [Try.underlying130]; rfl) (by kernel_rfl)
theorem ag130 : aggD sd130 = true := by unfold sd130; rw [Try.underlying130]; rfl
noncomputable def sd131 : TypeDesc := (Try.prog.underlying 131).getD .bool
theorem ti131 : TI Try.prog 131 sd131 64 64 (.agg ((List.replicate 64 (0 : UInt8)).map b8).toArray) := TImk (by unfold sd131; rw [Try.underlying131]; rfl) (by kernel_rfl)
theorem ag131 : aggD sd131 = true := by unfold sd131; rw [Try.underlying131]; rfl
noncomputable def sd147 : TypeDesc := (Try.prog.underlying 147).getD .bool
theorem ti147 : TI Try.prog 147 sd147 98 112 (.agg #[.int .u8 0, .int .u8 0, .int .u8 0, .int .u8 0, .int .u8 0, .int .u8 0, .int .u8 0, .int .u8 0, .int .u8 0, .int .u8 0, .int .u8 0, .int .u8 0, .int .u8 0, .int .u8 0, .int .u8 0, .int .u8 0, .int .u8 0, .int .u8 0, .int .u8 0, .int .u8 0, .int .u8 0, .int .u8 0, .int .u8 0, .int .u8 0, .int .u8 0, .int .u8 0, .int .u8 0, .int .u8 0, .int .u8 0, .int .u8 0, .int .u8 0, .int .u8 0, .int .u8 0, .int .u8 0, .int .u8 0, .int .u8 0, .int .u8 0, .int .u8 0, .int .u8 0, .int .u8 0, .int .u8 0, .int .u8 0, .int .u8 0, .int .u8 0, .int .u8 0, .int .u8 0, .int .u8 0, .int .u8 0, .int .u8 0, .int .u8 0, .int .u8 0, .int .u8 0, .int .u8 0, .int .u8 0, .int .u8 0, .int .u8 0, .int .u8 0, .int .u8 0, .int .u8 0, .int .u8 0, .int .u8 0, .int .u8 0, .int .u8 0, .int .u8 0, .int .u8 0, .int .u8 0, .int .u8 0, .int .u8 0, .int .u8 0, .int .u8 0, .int .u8 0, .int .u8 0, .int .u8 0, .int .u8 0, .int .u8 0, .int .u8 0, .int .u8 0, .int .u8 0, .int .u8 0, .int .u8 0, .int .u8 0, .int .u8 0, .int .u8 0, .int .u8 0, .int .u8 0, .int .u8 0, .int .u8 0, .int .u8 0, .int .u8 0, .int .u8 0, .int .u8 0, .int .u8 0, .int .u8 0, .int .u8 0, .int .u8 0, .int .u8 0, .int .i64 0, .int .i64 0]) := TImk (by unfold sd147; rw [Try.underlying147]; rfl) (by kernel_rfl)
theorem ag147 : aggD sd147 = true := by unfold sd147; rw [Try.underlying147]; rfl
noncomputable def sd148 : TypeDesc := (Try.prog.underlying 148).getD .bool
theorem ti148 : TI Try.prog 148 sd148 98 112 (.agg #[.int .u8 0, .int .u8 0, .int .u8 0, .int .u8 0, .int .u8 0, .int .u8 0, .int .u8 0, .int .u8 0, .int .u8 0, .int .u8 0, .int .u8 0, .int .u8 0, .int .u8 0, .int .u8 0, .int .u8 0, .int .u8 0, .int .u8 0, .int .u8 0, .int .u8 0, .int .u8 0, .int .u8 0, .int .u8 0, .int .u8 0, .int .u8 0, .int .u8 0, .int .u8 0, .int .u8 0, .int .u8 0, .int .u8 0, .int .u8 0, .int .u8 0, .int .u8 0, .int .u8 0, .int .u8 0, .int .u8 0, .int .u8 0, .int .u8 0, .int .u8 0, .int .u8 0, .int .u8 0, .int .u8 0, .int .u8 0, .int .u8 0, .int .u8 0, .int .u8 0, .int .u8 0, .int .u8 0, .int .u8 0, .int .u8 0, .int .u8 0, .int .u8 0, .int .u8 0, .int .u8 0, .int .u8 0, .int .u8 0, .int .u8 0, .int .u8 0, .int .u8 0, .int .u8 0, .int .u8 0, .int .u8 0, .int .u8 0, .int .u8 0, .int .u8 0, .int .u8 0, .int .u8 0, .int .u8 0, .int .u8 0, .int .u8 0, .int .u8 0, .int .u8 0, .int .u8 0, .int .u8 0, .int .u8 0, .int .u8 0, .int .u8 0, .int .u8 0, .int .u8 0, .int .u8 0, .int .u8 0, .int .u8 0, .int .u8 0, .int .u8 0, .int .u8 0, .int .u8 0, .int .u8 0, .int .u8 0, .int .u8 0, .int .u8 0, .int .u8 0, .int .u8 0, .int .u8 0, .int .u8 0, .int .u8 0, .int .u8 0, .int .u8 0, .int .i64 0, .int .i64 0]) := TImk (by unfold sd148; rw [Try.underlying148]; rfl) (by kernel_rfl)
theorem ag148 : aggD sd148 = true := by unfold sd148; rw [Try.underlying148]; rfl
theorem ti155 : TI Try.prog 155 (.int .u32) 1 4 (.int .u32 0) := TImk Try.underlying155 (by kernel_rfl)
theorem ti164 : TI Try.prog 164 (.array 4 5) 4 4 (.agg ((List.replicate 4 (0 : UInt8)).map b8).toArray) := TImk Try.underlying164 (by kernel_rfl)
theorem ti173 : TI Try.prog 173 (.slice 4) 1 24 (.slice none 0 0) := TImk Try.underlying173 (by kernel_rfl)
theorem ti185 : TI Try.prog 185 (.array 8 5) 8 8 (.agg ((List.replicate 8 (0 : UInt8)).map b8).toArray) := TImk Try.underlying185 (by kernel_rfl)
theorem ti187 : TI Try.prog 187 (.int .u64) 1 8 (.int .u64 0) := TImk Try.underlying187 (by kernel_rfl)
noncomputable def sd189 : TypeDesc := (Try.prog.underlying 189).getD .bool
theorem ti189 : TI Try.prog 189 sd189 3 24 (.agg #[.int .i64 0, .int .i64 0, .int .i64 0]) := TImk (by unfold sd189; rw [Try.underlying189]; rfl) (by kernel_rfl)
theorem ag189 : aggD sd189 = true := by unfold sd189; rw [Try.underlying189]; rfl
noncomputable def sd190 : TypeDesc := (Try.prog.underlying 190).getD .bool
theorem ti190 : TI Try.prog 190 sd190 3 24 (.agg #[.int .i64 0, .int .i64 0, .int .i64 0]) := TImk (by unfold sd190; rw [Try.underlying190]; rfl) (by kernel_rfl)
theorem ag190 : aggD sd190 = true := by unfold sd190; rw [Try.underlying190]; rfl
theorem ti196 : TI Try.prog 196 (.map 49 49) 1 8 (.map none) := TImk Try.underlying196 (by kernel_rfl)
noncomputable def sd197 : TypeDesc := (Try.prog.underlying 197).getD .bool
theorem ti197 : TI Try.prog 197 sd197 1 8 (.agg #[.map none]) := TImk (by unfold sd197; rw [Try.underlying197]; rfl) (by kernel_rfl)
theorem ag197 : aggD sd197 = true := by unfold sd197; rw [Try.underlying197]; rfl
noncomputable def sd198 : TypeDesc := (Try.prog.underlying 198).getD .bool
theorem ti198 : TI Try.prog 198 sd198 1 8 (.agg #[.map none]) := TImk (by unfold sd198; rw [Try.underlying198]; rfl) (by kernel_rfl)
theorem ag198 : aggD sd198 = true := by unfold sd198; rw [Try.underlying198]; rfl
theorem ti207 : TI Try.prog 207 (.array 16 155) 16 64 (.agg ((List.replicate 16 (0 : UInt32)).map v32).toArray) := TImk Try.underlying207 (by kernel_rfl)
theorem ti210 : TI Try.prog 210 (.pointer 207) 1 8 (.pointer none) := TImk Try.underlying210 (by kernel_rfl)
theorem ti217 : TI Try.prog 217 (.int .i64) 1 8 (.int .i64 0) := TImk Try.underlying217 (by kernel_rfl)
theorem ti228 : TI Try.prog 228 (.int .u64) 1 8 (.int .u64 0) := TImk Try.underlying228 (by kernel_rfl)
theorem ti232 : TI Try.prog 232 (.pointer 3) 1 8 (.pointer none) := TImk Try.underlying232 (by kernel_rfl)
theorem ti237 : TI Try.prog 237 (.pointer 228) 1 8 (.pointer none) := TImk Try.underlying237 (by kernel_rfl)
theorem ti249 : TI Try.prog 249 (.pointer 5) 1 8 (.pointer none) := TImk Try.underlying249 (by kernel_rfl)
theorem pl13 : placesOf Try.prog 13 = some [(0, 1), (1, 1)] := by kernel_rfl
theorem pl19 : placesOf Try.prog 19 = some [(0, 1)] := by kernel_rfl
theorem pl54 : placesOf Try.prog 54 = some [(0, 1), (1, 1), (2, 1)] := by kernel_rfl
theorem pl55 : placesOf Try.prog 55 = some [(0, 1), (1, 1), (2, 1)] := by kernel_rfl
theorem pl82 : placesOf Try.prog 82 = some [(0, 1), (1, 1), (2, 32), (34, 32)] := by kernel_rfl
theorem pl83 : placesOf Try.prog 83 = some [(0, 1), (1, 1), (2, 32), (34, 32)] := by kernel_rfl
theorem pl94 : placesOf Try.prog 94 = some [(0, 32), (32, 1)] := by kernel_rfl
theorem pl95 : placesOf Try.prog 95 = some [(0, 32), (32, 1)] := by kernel_rfl
theorem pl130 : placesOf Try.prog 130 = some [(0, 32), (32, 32)] := by kernel_rfl
theorem pl131 : placesOf Try.prog 131 = some [(0, 32), (32, 32)] := by kernel_rfl
theorem pl147 : placesOf Try.prog 147 = some [(0, 64), (64, 32), (96, 1), (97, 1)] := by kernel_rfl
theorem pl148 : placesOf Try.prog 148 = some [(0, 64), (64, 32), (96, 1), (97, 1)] := by kernel_rfl
theorem pl189 : placesOf Try.prog 189 = some [(0, 1), (1, 1), (2, 1)] := by kernel_rfl
theorem pl190 : placesOf Try.prog 190 = some [(0, 1), (1, 1), (2, 1)] := by kernel_rfl
theorem pl197 : placesOf Try.prog 197 = some [(0, 1)] := by kernel_rfl
theorem pl198 : placesOf Try.prog 198 = some [(0, 1)] := by kernel_rfl
theorem fn3 : FnOk Try.prog 3 := ⟨_, Try.func3, by kernel_rfl, by kernel_rfl⟩
theorem fn4 : FnOk Try.prog 4 := ⟨_, Try.func4, by kernel_rfl, by kernel_rfl⟩
theorem fn5 : FnOk Try.prog 5 := ⟨_, Try.func5, by kernel_rfl, by kernel_rfl⟩
theorem fn6 : FnOk Try.prog 6 := ⟨_, Try.func6, by kernel_rfl, by kernel_rfl⟩
theorem fn7 : FnOk Try.prog 7 := ⟨_, Try.func7, by kernel_rfl, by kernel_rfl⟩
theorem fn8 : FnOk Try.prog 8 := ⟨_, Try.func8, by kernel_rfl, by kernel_rfl⟩
theorem fn9 : FnOk Try.prog 9 := ⟨_, Try.func9, by kernel_rfl, by kernel_rfl⟩
theorem fn10 : FnOk Try.prog 10 := ⟨_, Try.func10, by kernel_rfl, by kernel_rfl⟩
theorem fn11 : FnOk Try.prog 11 := ⟨_, Try.func11, by kernel_rfl, by kernel_rfl⟩
theorem fn12 : FnOk Try.prog 12 := ⟨_, Try.func12, by kernel_rfl, by kernel_rfl⟩
theorem fn13 : FnOk Try.prog 13 := ⟨_, Try.func13, by kernel_rfl, by kernel_rfl⟩
theorem fn14 : FnOk Try.prog 14 := ⟨_, Try.func14, by kernel_rfl, by kernel_rfl⟩
theorem fn15 : FnOk Try.prog 15 := ⟨_, Try.func15, by kernel_rfl, by kernel_rfl⟩
theorem fn16 : FnOk Try.prog 16 := ⟨_, Try.func16, by kernel_rfl, by kernel_rfl⟩
theorem fn17 : FnOk Try.prog 17 := ⟨_, Try.func17, by kernel_rfl, by kernel_rfl⟩
theorem fn18 : FnOk Try.prog 18 := ⟨_, Try.func18, by kernel_rfl, by kernel_rfl⟩
theorem fn19 : FnOk Try.prog 19 := ⟨_, Try.func19, by kernel_rfl, by kernel_rfl⟩
theorem fn20 : FnOk Try.prog 20 := ⟨_, Try.func20, by kernel_rfl, by kernel_rfl⟩
theorem fn21 : FnOk Try.prog 21 := ⟨_, Try.func21, by kernel_rfl, by kernel_rfl⟩
theorem fn22 : FnOk Try.prog 22 := ⟨_, Try.func22, by kernel_rfl, by kernel_rfl⟩
theorem fn23 : FnOk Try.prog 23 := ⟨_, Try.func23, by kernel_rfl, by kernel_rfl⟩
theorem fn24 : FnOk Try.prog 24 := ⟨_, Try.func24, by kernel_rfl, by kernel_rfl⟩
theorem fn25 : FnOk Try.prog 25 := ⟨_, Try.func25, by kernel_rfl, by kernel_rfl⟩
theorem fn26 : FnOk Try.prog 26 := ⟨_, Try.func26, by kernel_rfl, by kernel_rfl⟩
theorem fn27 : FnOk Try.prog 27 := ⟨_, Try.func27, by kernel_rfl, by kernel_rfl⟩
theorem fn28 : FnOk Try.prog 28 := ⟨_, Try.func28, by kernel_rfl, by kernel_rfl⟩
theorem fn29 : FnOk Try.prog 29 := ⟨_, Try.func29, by kernel_rfl, by kernel_rfl⟩
theorem fn30 : FnOk Try.prog 30 := ⟨_, Try.func30, by kernel_rfl, by kernel_rfl⟩
theorem fn31 : FnOk Try.prog 31 := ⟨_, Try.func31, by kernel_rfl, by kernel_rfl⟩
theorem fn32 : FnOk Try.prog 32 := ⟨_, Try.func32, by kernel_rfl, by kernel_rfl⟩
theorem fn33 : FnOk Try.prog 33 := ⟨_, Try.func33, by kernel_rfl, by kernel_rfl⟩
theorem fn34 : FnOk Try.prog 34 := ⟨_, Try.func34, by kernel_rfl, by kernel_rfl⟩
theorem fn35 : FnOk Try.prog 35 := ⟨_, Try.func35, by kernel_rfl, by kernel_rfl⟩
theorem fn36 : FnOk Try.prog 36 := ⟨_, Try.func36, by kernel_rfl, by kernel_rfl⟩
theorem fn37 : FnOk Try.prog 37 := ⟨_, Try.func37, by kernel_rfl, by kernel_rfl⟩
theorem fn38 : FnOk Try.prog 38 := ⟨_, Try.func38, by kernel_rfl, by kernel_rfl⟩
theorem fn39 : FnOk Try.prog 39 := ⟨_, Try.func39, by kernel_rfl, by kernel_rfl⟩
theorem fn40 : FnOk Try.prog 40 := ⟨_, Try.func40, by kernel_rfl, by kernel_rfl⟩
theorem fn41 : FnOk Try.prog 41 := ⟨_, Try.func41, by kernel_rfl, by kernel_rfl⟩
theorem fn42 : FnOk Try.prog 42 := ⟨_, Try.func42, by kernel_rfl, by kernel_rfl⟩
theorem fn43 : FnOk Try.prog 43 := ⟨_, Try.func43, by kernel_rfl, by kernel_rfl⟩
theorem fn44 : FnOk Try.prog 44 := ⟨_, Try.func44, by kernel_rfl, by kernel_rfl⟩
theorem fn45 : FnOk Try.prog 45 := ⟨_, Try.func45, by kernel_rfl, by kernel_rfl⟩
theorem fn46 : FnOk Try.prog 46 := ⟨_, Try.func46, by kernel_rfl, by kernel_rfl⟩
theorem fn47 : FnOk Try.prog 47 := ⟨_, Try.func47, by kernel_rfl, by kernel_rfl⟩
theorem fn48 : FnOk Try.prog 48 := ⟨_, Try.func48, by kernel_rfl, by kernel_rfl⟩
theorem fn49 : FnOk Try.prog 49 := ⟨_, Try.func49, by kernel_rfl, by kernel_rfl⟩
theorem fn50 : FnOk Try.prog 50 := ⟨_, Try.func50, by kernel_rfl, by kernel_rfl⟩
theorem fn51 : FnOk Try.prog 51 := ⟨_, Try.func51, by kernel_rfl, by kernel_rfl⟩
theorem fn52 : FnOk Try.prog 52 := ⟨_, Try.func52, by kernel_rfl, by kernel_rfl⟩
theorem fn53 : FnOk Try.prog 53 := ⟨_, Try.func53, by kernel_rfl, by kernel_rfl⟩
theorem fn54 : FnOk Try.prog 54 := ⟨_, Try.func54, by kernel_rfl, by kernel_rfl⟩
theorem fn55 : FnOk Try.prog 55 := ⟨_, Try.func55, by kernel_rfl, by kernel_rfl⟩
theorem fn56 : FnOk Try.prog 56 := ⟨_, Try.func56, by kernel_rfl, by kernel_rfl⟩
theorem fn57 : FnOk Try.prog 57 := ⟨_, Try.func57, by kernel_rfl, by kernel_rfl⟩
theorem fn58 : FnOk Try.prog 58 := ⟨_, Try.func58, by kernel_rfl, by kernel_rfl⟩
theorem fn59 : FnOk Try.prog 59 := ⟨_, Try.func59, by kernel_rfl, by kernel_rfl⟩
theorem fn60 : FnOk Try.prog 60 := ⟨_, Try.func60, by kernel_rfl, by kernel_rfl⟩
theorem fn61 : FnOk Try.prog 61 := ⟨_, Try.func61, by kernel_rfl, by kernel_rfl⟩
theorem fn62 : FnOk Try.prog 62 := ⟨_, Try.func62, by kernel_rfl, by kernel_rfl⟩
theorem fn63 : FnOk Try.prog 63 := ⟨_, Try.func63, by kernel_rfl, by kernel_rfl⟩
theorem fn64 : FnOk Try.prog 64 := ⟨_, Try.func64, by kernel_rfl, by kernel_rfl⟩
theorem fn65 : FnOk Try.prog 65 := ⟨_, Try.func65, by kernel_rfl, by kernel_rfl⟩
theorem fn66 : FnOk Try.prog 66 := ⟨_, Try.func66, by kernel_rfl, by kernel_rfl⟩
theorem fn67 : FnOk Try.prog 67 := ⟨_, Try.func67, by kernel_rfl, by kernel_rfl⟩
theorem fn68 : FnOk Try.prog 68 := ⟨_, Try.func68, by kernel_rfl, by kernel_rfl⟩
theorem fn69 : FnOk Try.prog 69 := ⟨_, Try.func69, by kernel_rfl, by kernel_rfl⟩
theorem fn70 : FnOk Try.prog 70 := ⟨_, Try.func70, by kernel_rfl, by kernel_rfl⟩
theorem fn71 : FnOk Try.prog 71 := ⟨_, Try.func71, by kernel_rfl, by kernel_rfl⟩
theorem fn72 : FnOk Try.prog 72 := ⟨_, Try.func72, by kernel_rfl, by kernel_rfl⟩
theorem fn73 : FnOk Try.prog 73 := ⟨_, Try.func73, by kernel_rfl, by kernel_rfl⟩
theorem fn74 : FnOk Try.prog 74 := ⟨_, Try.func74, by kernel_rfl, by kernel_rfl⟩
theorem fn75 : FnOk Try.prog 75 := ⟨_, Try.func75, by kernel_rfl, by kernel_rfl⟩
theorem fn76 : FnOk Try.prog 76 := ⟨_, Try.func76, by kernel_rfl, by kernel_rfl⟩
theorem fn77 : FnOk Try.prog 77 := ⟨_, Try.func77, by kernel_rfl, by kernel_rfl⟩
theorem fn78 : FnOk Try.prog 78 := ⟨_, Try.func78, by kernel_rfl, by kernel_rfl⟩
theorem fn79 : FnOk Try.prog 79 := ⟨_, Try.func79, by kernel_rfl, by kernel_rfl⟩
theorem fn80 : FnOk Try.prog 80 := ⟨_, Try.func80, by kernel_rfl, by kernel_rfl⟩
theorem fn81 : FnOk Try.prog 81 := ⟨_, Try.func81, by kernel_rfl, by kernel_rfl⟩
theorem fn82 : FnOk Try.prog 82 := ⟨_, Try.func82, by kernel_rfl, by kernel_rfl⟩
theorem fn83 : FnOk Try.prog 83 := ⟨_, Try.func83, by kernel_rfl, by kernel_rfl⟩
theorem fn84 : FnOk Try.prog 84 := ⟨_, Try.func84, by kernel_rfl, by kernel_rfl⟩
theorem fn85 : FnOk Try.prog 85 := ⟨_, Try.func85, by kernel_rfl, by kernel_rfl⟩
theorem fn86 : FnOk Try.prog 86 := ⟨_, Try.func86, by kernel_rfl, by kernel_rfl⟩
theorem fn87 : FnOk Try.prog 87 := ⟨_, Try.func87, by kernel_rfl, by kernel_rfl⟩
theorem fn88 : FnOk Try.prog 88 := ⟨_, Try.func88, by kernel_rfl, by kernel_rfl⟩
theorem fn89 : FnOk Try.prog 89 := ⟨_, Try.func89, by kernel_rfl, by kernel_rfl⟩
theorem fn90 : FnOk Try.prog 90 := ⟨_, Try.func90, by kernel_rfl, by kernel_rfl⟩
theorem fn91 : FnOk Try.prog 91 := ⟨_, Try.func91, by kernel_rfl, by kernel_rfl⟩
theorem fn92 : FnOk Try.prog 92 := ⟨_, Try.func92, by kernel_rfl, by kernel_rfl⟩
theorem fn93 : FnOk Try.prog 93 := ⟨_, Try.func93, by kernel_rfl, by kernel_rfl⟩
theorem fn94 : FnOk Try.prog 94 := ⟨_, Try.func94, by kernel_rfl, by kernel_rfl⟩
theorem fn95 : FnOk Try.prog 95 := ⟨_, Try.func95, by kernel_rfl, by kernel_rfl⟩
theorem fn96 : FnOk Try.prog 96 := ⟨_, Try.func96, by kernel_rfl, by kernel_rfl⟩
theorem fn97 : FnOk Try.prog 97 := ⟨_, Try.func97, by kernel_rfl, by kernel_rfl⟩
theorem fn98 : FnOk Try.prog 98 := ⟨_, Try.func98, by kernel_rfl, by kernel_rfl⟩
theorem fn99 : FnOk Try.prog 99 := ⟨_, Try.func99, by kernel_rfl, by kernel_rfl⟩
theorem fn100 : FnOk Try.prog 100 := ⟨_, Try.func100, by kernel_rfl, by kernel_rfl⟩
theorem fn101 : FnOk Try.prog 101 := ⟨_, Try.func101, by kernel_rfl, by kernel_rfl⟩
theorem fn102 : FnOk Try.prog 102 := ⟨_, Try.func102, by kernel_rfl, by kernel_rfl⟩
theorem fn103 : FnOk Try.prog 103 := ⟨_, Try.func103, by kernel_rfl, by kernel_rfl⟩
theorem fn104 : FnOk Try.prog 104 := ⟨_, Try.func104, by kernel_rfl, by kernel_rfl⟩
theorem fn105 : FnOk Try.prog 105 := ⟨_, Try.func105, by kernel_rfl, by kernel_rfl⟩
theorem fn106 : FnOk Try.prog 106 := ⟨_, Try.func106, by kernel_rfl, by kernel_rfl⟩
theorem fn107 : FnOk Try.prog 107 := ⟨_, Try.func107, by kernel_rfl, by kernel_rfl⟩
theorem fn108 : FnOk Try.prog 108 := ⟨_, Try.func108, by kernel_rfl, by kernel_rfl⟩
theorem fn109 : FnOk Try.prog 109 := ⟨_, Try.func109, by kernel_rfl, by kernel_rfl⟩
theorem fn110 : FnOk Try.prog 110 := ⟨_, Try.func110, by kernel_rfl, by kernel_rfl⟩
theorem fn111 : FnOk Try.prog 111 := ⟨_, Try.func111, by kernel_rfl, by kernel_rfl⟩
theorem fn112 : FnOk Try.prog 112 := ⟨_, Try.func112, by kernel_rfl, by kernel_rfl⟩
theorem fn113 : FnOk Try.prog 113 := ⟨_, Try.func113, by kernel_rfl, by kernel_rfl⟩
theorem fn114 : FnOk Try.prog 114 := ⟨_, Try.func114, by kernel_rfl, by kernel_rfl⟩
theorem fn115 : FnOk Try.prog 115 := ⟨_, Try.func115, by kernel_rfl, by kernel_rfl⟩
theorem fn116 : FnOk Try.prog 116 := ⟨_, Try.func116, by kernel_rfl, by kernel_rfl⟩
theorem fn117 : FnOk Try.prog 117 := ⟨_, Try.func117, by kernel_rfl, by kernel_rfl⟩
theorem fn118 : FnOk Try.prog 118 := ⟨_, Try.func118, by kernel_rfl, by kernel_rfl⟩
theorem fn119 : FnOk Try.prog 119 := ⟨_, Try.func119, by kernel_rfl, by kernel_rfl⟩
theorem fn120 : FnOk Try.prog 120 := ⟨_, Try.func120, by kernel_rfl, by kernel_rfl⟩
theorem fn121 : FnOk Try.prog 121 := ⟨_, Try.func121, by kernel_rfl, by kernel_rfl⟩
theorem fn122 : FnOk Try.prog 122 := ⟨_, Try.func122, by kernel_rfl, by kernel_rfl⟩
theorem fn123 : FnOk Try.prog 123 := ⟨_, Try.func123, by kernel_rfl, by kernel_rfl⟩
theorem fn124 : FnOk Try.prog 124 := ⟨_, Try.func124, by kernel_rfl, by kernel_rfl⟩
theorem fn125 : FnOk Try.prog 125 := ⟨_, Try.func125, by kernel_rfl, by kernel_rfl⟩
theorem fn126 : FnOk Try.prog 126 := ⟨_, Try.func126, by kernel_rfl, by kernel_rfl⟩
theorem fn127 : FnOk Try.prog 127 := ⟨_, Try.func127, by kernel_rfl, by kernel_rfl⟩
theorem fn128 : FnOk Try.prog 128 := ⟨_, Try.func128, by kernel_rfl, by kernel_rfl⟩
theorem fn129 : FnOk Try.prog 129 := ⟨_, Try.func129, by kernel_rfl, by kernel_rfl⟩
theorem fn130 : FnOk Try.prog 130 := ⟨_, Try.func130, by kernel_rfl, by kernel_rfl⟩
theorem fn131 : FnOk Try.prog 131 := ⟨_, Try.func131, by kernel_rfl, by kernel_rfl⟩
theorem fn132 : FnOk Try.prog 132 := ⟨_, Try.func132, by kernel_rfl, by kernel_rfl⟩
theorem fn133 : FnOk Try.prog 133 := ⟨_, Try.func133, by kernel_rfl, by kernel_rfl⟩
theorem fn134 : FnOk Try.prog 134 := ⟨_, Try.func134, by kernel_rfl, by kernel_rfl⟩
theorem fn135 : FnOk Try.prog 135 := ⟨_, Try.func135, by kernel_rfl, by kernel_rfl⟩
theorem fn136 : FnOk Try.prog 136 := ⟨_, Try.func136, by kernel_rfl, by kernel_rfl⟩
theorem fn137 : FnOk Try.prog 137 := ⟨_, Try.func137, by kernel_rfl, by kernel_rfl⟩
theorem fn138 : FnOk Try.prog 138 := ⟨_, Try.func138, by kernel_rfl, by kernel_rfl⟩
theorem fn139 : FnOk Try.prog 139 := ⟨_, Try.func139, by kernel_rfl, by kernel_rfl⟩
theorem fn140 : FnOk Try.prog 140 := ⟨_, Try.func140, by kernel_rfl, by kernel_rfl⟩
theorem fn141 : FnOk Try.prog 141 := ⟨_, Try.func141, by kernel_rfl, by kernel_rfl⟩
theorem fn142 : FnOk Try.prog 142 := ⟨_, Try.func142, by kernel_rfl, by kernel_rfl⟩
theorem fn143 : FnOk Try.prog 143 := ⟨_, Try.func143, by kernel_rfl, by kernel_rfl⟩
theorem fn144 : FnOk Try.prog 144 := ⟨_, Try.func144, by kernel_rfl, by kernel_rfl⟩
theorem fn145 : FnOk Try.prog 145 := ⟨_, Try.func145, by kernel_rfl, by kernel_rfl⟩
theorem fn146 : FnOk Try.prog 146 := ⟨_, Try.func146, by kernel_rfl, by kernel_rfl⟩
theorem fn147 : FnOk Try.prog 147 := ⟨_, Try.func147, by kernel_rfl, by kernel_rfl⟩
theorem fn148 : FnOk Try.prog 148 := ⟨_, Try.func148, by kernel_rfl, by kernel_rfl⟩
theorem fn149 : FnOk Try.prog 149 := ⟨_, Try.func149, by kernel_rfl, by kernel_rfl⟩
theorem fn150 : FnOk Try.prog 150 := ⟨_, Try.func150, by kernel_rfl, by kernel_rfl⟩
theorem fn151 : FnOk Try.prog 151 := ⟨_, Try.func151, by kernel_rfl, by kernel_rfl⟩
theorem fn153 : FnOk Try.prog 153 := ⟨_, Try.func153, by kernel_rfl, by kernel_rfl⟩
theorem fn154 : FnOk Try.prog 154 := ⟨_, Try.func154, by kernel_rfl, by kernel_rfl⟩
theorem fn155 : FnOk Try.prog 155 := ⟨_, Try.func155, by kernel_rfl, by kernel_rfl⟩
theorem fn156 : FnOk Try.prog 156 := ⟨_, Try.func156, by kernel_rfl, by kernel_rfl⟩
theorem fn157 : FnOk Try.prog 157 := ⟨_, Try.func157, by kernel_rfl, by kernel_rfl⟩
theorem fn158 : FnOk Try.prog 158 := ⟨_, Try.func158, by kernel_rfl, by kernel_rfl⟩
theorem fn159 : FnOk Try.prog 159 := ⟨_, Try.func159, by kernel_rfl, by kernel_rfl⟩
theorem fn160 : FnOk Try.prog 160 := ⟨_, Try.func160, by kernel_rfl, by kernel_rfl⟩
theorem fn161 : FnOk Try.prog 161 := ⟨_, Try.func161, by kernel_rfl, by kernel_rfl⟩
theorem fn162 : FnOk Try.prog 162 := ⟨_, Try.func162, by kernel_rfl, by kernel_rfl⟩
theorem fn163 : FnOk Try.prog 163 := ⟨_, Try.func163, by kernel_rfl, by kernel_rfl⟩
theorem fn164 : FnOk Try.prog 164 := ⟨_, Try.func164, by kernel_rfl, by kernel_rfl⟩
theorem fn165 : FnOk Try.prog 165 := ⟨_, Try.func165, by kernel_rfl, by kernel_rfl⟩
theorem fn166 : FnOk Try.prog 166 := ⟨_, Try.func166, by kernel_rfl, by kernel_rfl⟩
theorem fn167 : FnOk Try.prog 167 := ⟨_, Try.func167, by kernel_rfl, by kernel_rfl⟩
theorem fn168 : FnOk Try.prog 168 := ⟨_, Try.func168, by kernel_rfl, by kernel_rfl⟩
theorem fn169 : FnOk Try.prog 169 := ⟨_, Try.func169, by kernel_rfl, by kernel_rfl⟩
theorem fn170 : FnOk Try.prog 170 := ⟨_, Try.func170, by kernel_rfl, by kernel_rfl⟩
theorem fn171 : FnOk Try.prog 171 := ⟨_, Try.func171, by kernel_rfl, by kernel_rfl⟩
theorem fn172 : FnOk Try.prog 172 := ⟨_, Try.func172, by kernel_rfl, by kernel_rfl⟩
theorem fn173 : FnOk Try.prog 173 := ⟨_, Try.func173, by kernel_rfl, by kernel_rfl⟩
theorem fn174 : FnOk Try.prog 174 := ⟨_, Try.func174, by kernel_rfl, by kernel_rfl⟩
theorem fn175 : FnOk Try.prog 175 := ⟨_, Try.func175, by kernel_rfl, by kernel_rfl⟩
theorem fn176 : FnOk Try.prog 176 := ⟨_, Try.func176, by kernel_rfl, by kernel_rfl⟩
theorem fn177 : FnOk Try.prog 177 := ⟨_, Try.func177, by kernel_rfl, by kernel_rfl⟩
theorem fn178 : FnOk Try.prog 178 := ⟨_, Try.func178, by kernel_rfl, by kernel_rfl⟩
theorem fn179 : FnOk Try.prog 179 := ⟨_, Try.func179, by kernel_rfl, by kernel_rfl⟩
theorem fn180 : FnOk Try.prog 180 := ⟨_, Try.func180, by kernel_rfl, by kernel_rfl⟩
theorem fn181 : FnOk Try.prog 181 := ⟨_, Try.func181, by kernel_rfl, by kernel_rfl⟩
theorem fn182 : FnOk Try.prog 182 := ⟨_, Try.func182, by kernel_rfl, by kernel_rfl⟩
theorem fn183 : FnOk Try.prog 183 := ⟨_, Try.func183, by kernel_rfl, by kernel_rfl⟩
theorem fn184 : FnOk Try.prog 184 := ⟨_, Try.func184, by kernel_rfl, by kernel_rfl⟩
theorem fn185 : FnOk Try.prog 185 := ⟨_, Try.func185, by kernel_rfl, by kernel_rfl⟩
theorem fn186 : FnOk Try.prog 186 := ⟨_, Try.func186, by kernel_rfl, by kernel_rfl⟩
theorem fn187 : FnOk Try.prog 187 := ⟨_, Try.func187, by kernel_rfl, by kernel_rfl⟩
theorem fn188 : FnOk Try.prog 188 := ⟨_, Try.func188, by kernel_rfl, by kernel_rfl⟩
theorem fn189 : FnOk Try.prog 189 := ⟨_, Try.func189, by kernel_rfl, by kernel_rfl⟩
theorem fn190 : FnOk Try.prog 190 := ⟨_, Try.func190, by kernel_rfl, by kernel_rfl⟩
theorem fn191 : FnOk Try.prog 191 := ⟨_, Try.func191, by kernel_rfl, by kernel_rfl⟩
theorem fn192 : FnOk Try.prog 192 := ⟨_, Try.func192, by kernel_rfl, by kernel_rfl⟩
theorem fn193 : FnOk Try.prog 193 := ⟨_, Try.func193, by kernel_rfl, by kernel_rfl⟩
theorem fn194 : FnOk Try.prog 194 := ⟨_, Try.func194, by kernel_rfl, by kernel_rfl⟩
theorem fn195 : FnOk Try.prog 195 := ⟨_, Try.func195, by kernel_rfl, by kernel_rfl⟩
theorem fn196 : FnOk Try.prog 196 := ⟨_, Try.func196, by kernel_rfl, by kernel_rfl⟩
theorem fn197 : FnOk Try.prog 197 := ⟨_, Try.func197, by kernel_rfl, by kernel_rfl⟩
theorem fn198 : FnOk Try.prog 198 := ⟨_, Try.func198, by kernel_rfl, by kernel_rfl⟩
theorem fn199 : FnOk Try.prog 199 := ⟨_, Try.func199, by kernel_rfl, by kernel_rfl⟩
theorem fn200 : FnOk Try.prog 200 := ⟨_, Try.func200, by kernel_rfl, by kernel_rfl⟩
theorem fn201 : FnOk Try.prog 201 := ⟨_, Try.func201, by kernel_rfl, by kernel_rfl⟩
theorem fn202 : FnOk Try.prog 202 := ⟨_, Try.func202, by kernel_rfl, by kernel_rfl⟩
theorem fn203 : FnOk Try.prog 203 := ⟨_, Try.func203, by kernel_rfl, by kernel_rfl⟩
theorem fn205 : FnOk Try.prog 205 := ⟨_, Try.func205, by kernel_rfl, by kernel_rfl⟩
theorem fn206 : FnOk Try.prog 206 := ⟨_, Try.func206, by kernel_rfl, by kernel_rfl⟩
theorem fa13_0 : FA Try.prog 13 0 0 := FAmk (k := 0) Try.underlying13 rfl rfl (by kernel_rfl)
theorem fa13_1 : FA Try.prog 13 1 1 := FAmk (k := 0) Try.underlying13 rfl rfl (by kernel_rfl)
theorem fa19_0 : FA Try.prog 19 0 0 := FAmk (k := 0) Try.underlying19 rfl rfl (by kernel_rfl)
theorem fa54_0 : FA Try.prog 54 0 0 := FAmk (k := 0) Try.underlying54 rfl rfl (by kernel_rfl)
theorem fa54_1 : FA Try.prog 54 1 1 := FAmk (k := 0) Try.underlying54 rfl rfl (by kernel_rfl)
theorem fa54_2 : FA Try.prog 54 2 2 := FAmk (k := 0) Try.underlying54 rfl rfl (by kernel_rfl)
theorem fa55_0 : FA Try.prog 55 0 0 := FAmk (k := 0) Try.underlying55 rfl rfl (by kernel_rfl)
theorem fa55_1 : FA Try.prog 55 1 1 := FAmk (k := 0) Try.underlying55 rfl rfl (by kernel_rfl)
theorem fa55_2 : FA Try.prog 55 2 2 := FAmk (k := 0) Try.underlying55 rfl rfl (by kernel_rfl)
theorem fa82_0 : FA Try.prog 82 0 0 := FAmk (k := 0) Try.underlying82 rfl rfl (by kernel_rfl)
theorem fa82_1 : FA Try.prog 82 1 1 := FAmk (k := 0) Try.underlying82 rfl rfl (by kernel_rfl)
theorem fa82_2 : FA Try.prog 82 2 2 := FAmk (k := 31) Try.underlying82 rfl rfl (by kernel_rfl)
theorem fa82_3 : FA Try.prog 82 3 34 := FAmk (k := 31) Try.underlying82 rfl rfl (by kernel_rfl)
theorem fa83_0 : FA Try.prog 83 0 0 := FAmk (k := 0) Try.underlying83 rfl rfl (by kernel_rfl)
theorem fa83_1 : FA Try.prog 83 1 1 := FAmk (k := 0) Try.underlying83 rfl rfl (by kernel_rfl)
theorem fa83_2 : FA Try.prog 83 2 2 := FAmk (k := 31) Try.underlying83 rfl rfl (by kernel_rfl)
theorem fa83_3 : FA Try.prog 83 3 34 := FAmk (k := 31) Try.underlying83 rfl rfl (by kernel_rfl)
theorem fa94_0 : FA Try.prog 94 0 0 := FAmk (k := 31) Try.underlying94 rfl rfl (by kernel_rfl)
theorem fa94_1 : FA Try.prog 94 1 32 := FAmk (k := 0) Try.underlying94 rfl rfl (by kernel_rfl)
theorem fa95_0 : FA Try.prog 95 0 0 := FAmk (k := 31) Try.underlying95 rfl rfl (by kernel_rfl)
theorem fa95_1 : FA Try.prog 95 1 32 := FAmk (k := 0) Try.underlying95 rfl rfl (by kernel_rfl)
theorem fa130_0 : FA Try.prog 130 0 0 := FAmk (k := 31) Try.underlying130 rfl rfl (by kernel_rfl)
theorem fa130_1 : FA Try.prog 130 1 32 := FAmk (k := 31) Try.underlying130 rfl rfl (by kernel_rfl)
theorem fa131_0 : FA Try.prog 131 0 0 := FAmk (k := 31) Try.underlying131 rfl rfl (by kernel_rfl)
theorem fa131_1 : FA Try.prog 131 1 32 := FAmk (k := 31) Try.underlying131 rfl rfl (by kernel_rfl)
theorem fa147_0 : FA Try.prog 147 0 0 := FAmk (k := 63) Try.underlying147 rfl rfl (by kernel_rfl)
theorem fa147_1 : FA Try.prog 147 1 64 := FAmk (k := 31) Try.underlying147 rfl rfl (by kernel_rfl)
theorem fa147_2 : FA Try.prog 147 2 96 := FAmk (k := 0) Try.underlying147 rfl rfl (by kernel_rfl)
theorem fa147_3 : FA Try.prog 147 3 97 := FAmk (k := 0) Try.underlying147 rfl rfl (by kernel_rfl)
theorem fa148_0 : FA Try.prog 148 0 0 := FAmk (k := 63) Try.underlying148 rfl rfl (by kernel_rfl)
theorem fa148_1 : FA Try.prog 148 1 64 := FAmk (k := 31) Try.underlying148 rfl rfl (by kernel_rfl)
theorem fa148_2 : FA Try.prog 148 2 96 := FAmk (k := 0) Try.underlying148 rfl rfl (by kernel_rfl)
theorem fa148_3 : FA Try.prog 148 3 97 := FAmk (k := 0) Try.underlying148 rfl rfl (by kernel_rfl)
theorem fa189_0 : FA Try.prog 189 0 0 := FAmk (k := 0) Try.underlying189 rfl rfl (by kernel_rfl)
theorem fa189_1 : FA Try.prog 189 1 1 := FAmk (k := 0) Try.underlying189 rfl rfl (by kernel_rfl)
theorem fa189_2 : FA Try.prog 189 2 2 := FAmk (k := 0) Try.underlying189 rfl rfl (by kernel_rfl)
theorem fa190_0 : FA Try.prog 190 0 0 := FAmk (k := 0) Try.underlying190 rfl rfl (by kernel_rfl)
theorem fa190_1 : FA Try.prog 190 1 1 := FAmk (k := 0) Try.underlying190 rfl rfl (by kernel_rfl)
theorem fa190_2 : FA Try.prog 190 2 2 := FAmk (k := 0) Try.underlying190 rfl rfl (by kernel_rfl)
theorem fa197_0 : FA Try.prog 197 0 0 := FAmk (k := 0) Try.underlying197 rfl rfl (by kernel_rfl)
theorem fa198_0 : FA Try.prog 198 0 0 := FAmk (k := 0) Try.underlying198 rfl rfl (by kernel_rfl)
theorem fv13_0 : FV Try.prog 13 0 0 9 := ⟨_, _, Try.underlying13, rfl, rfl, rfl⟩
theorem fv13_1 : FV Try.prog 13 1 1 12 := ⟨_, _, Try.underlying13, rfl, rfl, rfl⟩
theorem fv19_0 : FV Try.prog 19 0 0 17 := ⟨_, _, Try.underlying19, rfl, rfl, rfl⟩
theorem fv54_0 : FV Try.prog 54 0 0 3 := ⟨_, _, Try.underlying54, rfl, rfl, rfl⟩
theorem fv54_1 : FV Try.prog 54 1 1 3 := ⟨_, _, Try.underlying54, rfl, rfl, rfl⟩
theorem fv54_2 : FV Try.prog 54 2 2 53 := ⟨_, _, Try.underlying54, rfl, rfl, rfl⟩
theorem fv55_0 : FV Try.prog 55 0 0 3 := ⟨_, _, Try.underlying55, rfl, rfl, rfl⟩
theorem fv55_1 : FV Try.prog 55 1 1 3 := ⟨_, _, Try.underlying55, rfl, rfl, rfl⟩
theorem fv55_2 : FV Try.prog 55 2 2 53 := ⟨_, _, Try.underlying55, rfl, rfl, rfl⟩
theorem fv82_0 : FV Try.prog 82 0 0 3 := ⟨_, _, Try.underlying82, rfl, rfl, rfl⟩
theorem fv82_1 : FV Try.prog 82 1 1 3 := ⟨_, _, Try.underlying82, rfl, rfl, rfl⟩
theorem fv82_2 : FV Try.prog 82 2 2 49 := ⟨_, _, Try.underlying82, rfl, rfl, rfl⟩
theorem fv82_3 : FV Try.prog 82 3 34 49 := ⟨_, _, Try.underlying82, rfl, rfl, rfl⟩
theorem fv83_0 : FV Try.prog 83 0 0 3 := ⟨_, _, Try.underlying83, rfl, rfl, rfl⟩
theorem fv83_1 : FV Try.prog 83 1 1 3 := ⟨_, _, Try.underlying83, rfl, rfl, rfl⟩
theorem fv83_2 : FV Try.prog 83 2 2 49 := ⟨_, _, Try.underlying83, rfl, rfl, rfl⟩
theorem fv83_3 : FV Try.prog 83 3 34 49 := ⟨_, _, Try.underlying83, rfl, rfl, rfl⟩
theorem fv94_0 : FV Try.prog 94 0 0 31 := ⟨_, _, Try.underlying94, rfl, rfl, rfl⟩
theorem fv94_1 : FV Try.prog 94 1 32 53 := ⟨_, _, Try.underlying94, rfl, rfl, rfl⟩
theorem fv95_0 : FV Try.prog 95 0 0 31 := ⟨_, _, Try.underlying95, rfl, rfl, rfl⟩
theorem fv95_1 : FV Try.prog 95 1 32 53 := ⟨_, _, Try.underlying95, rfl, rfl, rfl⟩
theorem fv130_0 : FV Try.prog 130 0 0 49 := ⟨_, _, Try.underlying130, rfl, rfl, rfl⟩
theorem fv130_1 : FV Try.prog 130 1 32 49 := ⟨_, _, Try.underlying130, rfl, rfl, rfl⟩
theorem fv131_0 : FV Try.prog 131 0 0 49 := ⟨_, _, Try.underlying131, rfl, rfl, rfl⟩
theorem fv131_1 : FV Try.prog 131 1 32 49 := ⟨_, _, Try.underlying131, rfl, rfl, rfl⟩
theorem fv147_0 : FV Try.prog 147 0 0 34 := ⟨_, _, Try.underlying147, rfl, rfl, rfl⟩
theorem fv147_1 : FV Try.prog 147 1 64 31 := ⟨_, _, Try.underlying147, rfl, rfl, rfl⟩
theorem fv147_2 : FV Try.prog 147 2 96 3 := ⟨_, _, Try.underlying147, rfl, rfl, rfl⟩
theorem fv147_3 : FV Try.prog 147 3 97 3 := ⟨_, _, Try.underlying147, rfl, rfl, rfl⟩
theorem fv148_0 : FV Try.prog 148 0 0 34 := ⟨_, _, Try.underlying148, rfl, rfl, rfl⟩
theorem fv148_1 : FV Try.prog 148 1 64 31 := ⟨_, _, Try.underlying148, rfl, rfl, rfl⟩
theorem fv148_2 : FV Try.prog 148 2 96 3 := ⟨_, _, Try.underlying148, rfl, rfl, rfl⟩
theorem fv148_3 : FV Try.prog 148 3 97 3 := ⟨_, _, Try.underlying148, rfl, rfl, rfl⟩
theorem fv189_0 : FV Try.prog 189 0 0 3 := ⟨_, _, Try.underlying189, rfl, rfl, rfl⟩
theorem fv189_1 : FV Try.prog 189 1 1 3 := ⟨_, _, Try.underlying189, rfl, rfl, rfl⟩
theorem fv189_2 : FV Try.prog 189 2 2 3 := ⟨_, _, Try.underlying189, rfl, rfl, rfl⟩
theorem fv190_0 : FV Try.prog 190 0 0 3 := ⟨_, _, Try.underlying190, rfl, rfl, rfl⟩
theorem fv190_1 : FV Try.prog 190 1 1 3 := ⟨_, _, Try.underlying190, rfl, rfl, rfl⟩
theorem fv190_2 : FV Try.prog 190 2 2 3 := ⟨_, _, Try.underlying190, rfl, rfl, rfl⟩
theorem fv197_0 : FV Try.prog 197 0 0 196 := ⟨_, _, Try.underlying197, rfl, rfl, rfl⟩
theorem fv198_0 : FV Try.prog 198 0 0 196 := ⟨_, _, Try.underlying198, rfl, rfl, rfl⟩
theorem eg13 : Try.prog.eqGuardType Try.prog.depth 13 = false := by kernel_rfl
theorem eg28 : Try.prog.eqGuardType Try.prog.depth 28 = false := by kernel_rfl
theorem eg31 : Try.prog.eqGuardType Try.prog.depth 31 = false := by kernel_rfl
theorem eg34 : Try.prog.eqGuardType Try.prog.depth 34 = false := by kernel_rfl
theorem eg49 : Try.prog.eqGuardType Try.prog.depth 49 = false := by kernel_rfl
theorem eg61 : Try.prog.eqGuardType Try.prog.depth 61 = false := by kernel_rfl
theorem eg62 : Try.prog.eqGuardType Try.prog.depth 62 = false := by kernel_rfl
theorem eg65 : Try.prog.eqGuardType Try.prog.depth 65 = false := by kernel_rfl
theorem eg82 : Try.prog.eqGuardType Try.prog.depth 82 = false := by kernel_rfl
theorem eg83 : Try.prog.eqGuardType Try.prog.depth 83 = false := by kernel_rfl
theorem eg102 : Try.prog.eqGuardType Try.prog.depth 102 = false := by kernel_rfl
theorem eg130 : Try.prog.eqGuardType Try.prog.depth 130 = false := by kernel_rfl
theorem eg131 : Try.prog.eqGuardType Try.prog.depth 131 = false := by kernel_rfl
theorem eg147 : Try.prog.eqGuardType Try.prog.depth 147 = false := by kernel_rfl
theorem eg148 : Try.prog.eqGuardType Try.prog.depth 148 = false := by kernel_rfl
theorem eg164 : Try.prog.eqGuardType Try.prog.depth 164 = false := by kernel_rfl
theorem eg185 : Try.prog.eqGuardType Try.prog.depth 185 = false := by kernel_rfl
theorem eg189 : Try.prog.eqGuardType Try.prog.depth 189 = false := by kernel_rfl
theorem eg190 : Try.prog.eqGuardType Try.prog.depth 190 = false := by kernel_rfl
theorem eg207 : Try.prog.eqGuardType Try.prog.depth 207 = false := by kernel_rfl
theorem hMixed : Try.prog.follows .mixedOrders = true := by kernel_rfl
end Go.Proofs.Ytfohfnpehfcaaaa
