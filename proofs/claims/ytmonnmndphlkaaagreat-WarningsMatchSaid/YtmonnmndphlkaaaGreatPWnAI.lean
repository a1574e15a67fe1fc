/- What the law's proof leans on. No condition. -/
import Derived.Test.YtmonnmndphlkaaaGreatPWnAH
import Derived.Test.YtmonnmndphlkaaaGreatProg
import Derived.KernelRfl
namespace Go.Proofs.YtmonnmndphlkaaaGreat
open Go.Kw
set_option linter.unusedVariables false
set_option maxRecDepth 100000
theorem TImk {P : Program} {t : TypeId} {d : TypeDesc} {sz bts : Nat} {z : Value} (h : P.underlying t = some d) (h2 : (P.info? t).map (fun i => (i.size, i.bytes, i.zero)) = some (sz, bts, some z)) : TI P t d sz bts z := by
  obtain ⟨i, hi, hz⟩ := Option.map_eq_some_iff.1 h2
  simp only [Prod.mk.injEq] at hz
  exact ⟨h, i, hi, hz.1, hz.2.1, hz.2.2⟩
theorem FAmk {P : Program} {S : TypeId} {i off k : Nat} {fs : Array Field} {f : Field} (h1 : P.underlying S = some (.struct fs)) (h2 : fs[i]? = some f) (h3 : f.offset = off) (h4 : (P.info? f.type).map (·.size) = some (k + 1)) : FA P S i off := by
  obtain ⟨t, ht, hs⟩ := Option.map_eq_some_iff.1 h4
  exact ⟨fs, f, h1, h2, h3, t, ht, by omega⟩
theorem ti3 : TI Tryz.prog 3 (.int .i64) 1 8 (.int .i64 0) := TImk Tryz.underlying3 (by kernel_rfl)
theorem ti4 : TI Tryz.prog 4 (.bool) 1 1 (.bool false) := TImk Tryz.underlying4 (by kernel_rfl)
theorem ti5 : TI Tryz.prog 5 (.int .u8) 1 1 (.int .u8 0) := TImk Tryz.underlying5 (by kernel_rfl)
theorem ti9 : TI Tryz.prog 9 (.string) 1 16 (.string ⟨#[]⟩) := TImk Tryz.underlying9 (by kernel_rfl)
theorem ti22 : TI Tryz.prog 22 (.slice 50) 1 24 (.slice none 0 0) := TImk Tryz.underlying22 (by kernel_rfl)
noncomputable def sd24 : TypeDesc := (Tryz.prog.underlying 24).getD .bool
theorem ti24 : TI Tryz.prog 24 sd24 1 24 (.agg #[.slice none 0 0]) := TImk (by unfold sd24; rw [Tryz.underlying24]; rfl) (by kernel_rfl)
theorem ag24 : aggD sd24 = true := by unfold sd24; rw [Tryz.underlying24]; rfl
theorem ti26 : TI Tryz.prog 26 (.slice 40) 1 24 (.slice none 0 0) := TImk Tryz.underlying26 (by kernel_rfl)
theorem ti36 : TI Tryz.prog 36 (.slice 9) 1 24 (.slice none 0 0) := TImk Tryz.underlying36 (by kernel_rfl)
noncomputable def sd40 : TypeDesc := (Tryz.prog.underlying 40).getD .bool
theorem ti40 : TI Tryz.prog 40 sd40 68 120 (.agg #[.int .u8 0, .int .u8 0, .int .u8 0, .int .u8 0, .int .u8 0, .int .u8 0, .int .u8 0, .int .u8 0, .int .u8 0, .int .u8 0, .int .u8 0, .int .u8 0, .int .u8 0, .int .u8 0, .int .u8 0, .int .u8 0, .slice none 0 0, .int .i64 0, .string ⟨#[]⟩, .int .u8 0, .int .u8 0, .int .u8 0, .int .u8 0, .int .u8 0, .int .u8 0, .int .u8 0, .int .u8 0, .int .u8 0, .int .u8 0, .int .u8 0, .int .u8 0, .int .u8 0, .int .u8 0, .int .u8 0, .int .u8 0, .int .i64 0, .int .u8 0, .int .u8 0, .int .u8 0, .int .u8 0, .int .u8 0, .int .u8 0, .int .u8 0, .int .u8 0, .int .u8 0, .int .u8 0, .int .u8 0, .int .u8 0, .int .u8 0, .int .u8 0, .int .u8 0, .int .u8 0, .int .u8 0, .int .u8 0, .int .u8 0, .int .u8 0, .int .u8 0, .int .u8 0, .int .u8 0, .int .u8 0, .int .u8 0, .int .u8 0, .int .u8 0, .int .u8 0, .int .u8 0, .int .u8 0, .int .u8 0, .int .u8 0]) := TImk (by unfold sd40; rw [Tryz.underlying40]; rfl) (by kernel_rfl)
theorem ag40 : aggD sd40 = true := by unfold sd40; rw [Tryz.underlying40]; rfl
theorem ti48 : TI Tryz.prog 48 (.slice 3) 1 24 (.slice none 0 0) := TImk Tryz.underlying48 (by kernel_rfl)
noncomputable def sd50 : TypeDesc := (Tryz.prog.underlying 50).getD .bool
theorem ti50 : TI Tryz.prog 50 sd50 8 120 (.agg #[.bool false, .slice none 0 0, .slice none 0 0, .slice none 0 0, .int .i64 0, .int .i64 0, .int .i64 0, .string ⟨#[]⟩]) := TImk (by unfold sd50; rw [Tryz.underlying50]; rfl) (by kernel_rfl)
theorem ag50 : aggD sd50 = true := by unfold sd50; rw [Tryz.underlying50]; rfl
noncomputable def sd52 : TypeDesc := (Tryz.prog.underlying 52).getD .bool
theorem ti52 : TI Tryz.prog 52 sd52 4 40 (.agg #[.bool false, .int .i64 0, .int .i64 0, .string ⟨#[]⟩]) := TImk (by unfold sd52; rw [Tryz.underlying52]; rfl) (by kernel_rfl)
theorem ag52 : aggD sd52 = true := by unfold sd52; rw [Tryz.underlying52]; rfl
theorem ti55 : TI Tryz.prog 55 (.slice 62) 1 24 (.slice none 0 0) := TImk Tryz.underlying55 (by kernel_rfl)
noncomputable def sd62 : TypeDesc := (Tryz.prog.underlying 62).getD .bool
theorem ti62 : TI Tryz.prog 62 sd62 3 24 (.agg #[.int .i64 0, .int .i64 0, .int .i64 0]) := TImk (by unfold sd62; rw [Tryz.underlying62]; rfl) (by kernel_rfl)
theorem ag62 : aggD sd62 = true := by unfold sd62; rw [Tryz.underlying62]; rfl
theorem ti66 : TI Tryz.prog 66 (.slice 5) 1 24 (.slice none 0 0) := TImk Tryz.underlying66 (by kernel_rfl)
theorem ti75 : TI Tryz.prog 75 (.slice 36) 1 24 (.slice none 0 0) := TImk Tryz.underlying75 (by kernel_rfl)
theorem ti115 : TI Tryz.prog 115 (.array 3 3) 3 24 (.agg #[.int .i64 0, .int .i64 0, .int .i64 0]) := TImk Tryz.underlying115 (by kernel_rfl)
theorem ti142 : TI Tryz.prog 142 (.map 9 4) 1 8 (.map none) := TImk Tryz.underlying142 (by kernel_rfl)
theorem ti149 : TI Tryz.prog 149 (.map 3 4) 1 8 (.map none) := TImk Tryz.underlying149 (by kernel_rfl)
theorem ti150 : TI Tryz.prog 150 (.array 2 3) 2 16 (.agg #[.int .i64 0, .int .i64 0]) := TImk Tryz.underlying150 (by kernel_rfl)
theorem pl24 : placesOf Tryz.prog 24 = some [(0, 1)] := by kernel_rfl
theorem pl40 : placesOf Tryz.prog 40 = some [(0, 16), (16, 1), (17, 1), (18, 1), (19, 16), (35, 1), (36, 32)] := by kernel_rfl
theorem pl52 : placesOf Tryz.prog 52 = some [(0, 1), (1, 1), (2, 1), (3, 1)] := by kernel_rfl
theorem pl62 : placesOf Tryz.prog 62 = some [(0, 1), (1, 1), (2, 1)] := by kernel_rfl
theorem fn6 : FnOk Tryz.prog 6 := ⟨_, Tryz.func6, by kernel_rfl, by kernel_rfl⟩
theorem fn8 : FnOk Tryz.prog 8 := ⟨_, Tryz.func8, by kernel_rfl, by kernel_rfl⟩
theorem fn9 : FnOk Tryz.prog 9 := ⟨_, Tryz.func9, by kernel_rfl, by kernel_rfl⟩
theorem fn15 : FnOk Tryz.prog 15 := ⟨_, Tryz.func15, by kernel_rfl, by kernel_rfl⟩
theorem fn16 : FnOk Tryz.prog 16 := ⟨_, Tryz.func16, by kernel_rfl, by kernel_rfl⟩
theorem fn17 : FnOk Tryz.prog 17 := ⟨_, Tryz.func17, by kernel_rfl, by kernel_rfl⟩
theorem fn18 : FnOk Tryz.prog 18 := ⟨_, Tryz.func18, by kernel_rfl, by kernel_rfl⟩
theorem fn19 : FnOk Tryz.prog 19 := ⟨_, Tryz.func19, by kernel_rfl, by kernel_rfl⟩
theorem fn20 : FnOk Tryz.prog 20 := ⟨_, Tryz.func20, by kernel_rfl, by kernel_rfl⟩
theorem fn21 : FnOk Tryz.prog 21 := ⟨_, Tryz.func21, by kernel_rfl, by kernel_rfl⟩
theorem fn22 : FnOk Tryz.prog 22 := ⟨_, Tryz.func22, by kernel_rfl, by kernel_rfl⟩
theorem fn23 : FnOk Tryz.prog 23 := ⟨_, Tryz.func23, by kernel_rfl, by kernel_rfl⟩
theorem fn24 : FnOk Tryz.prog 24 := ⟨_, Tryz.func24, by kernel_rfl, by kernel_rfl⟩
theorem fn25 : FnOk Tryz.prog 25 := ⟨_, Tryz.func25, by kernel_rfl, by kernel_rfl⟩
theorem fn26 : FnOk Tryz.prog 26 := ⟨_, Tryz.func26, by kernel_rfl, by kernel_rfl⟩
theorem fn27 : FnOk Tryz.prog 27 := ⟨_, Tryz.func27, by kernel_rfl, by kernel_rfl⟩
theorem fn28 : FnOk Tryz.prog 28 := ⟨_, Tryz.func28, by kernel_rfl, by kernel_rfl⟩
theorem fn29 : FnOk Tryz.prog 29 := ⟨_, Tryz.func29, by kernel_rfl, by kernel_rfl⟩
theorem fn30 : FnOk Tryz.prog 30 := ⟨_, Tryz.func30, by kernel_rfl, by kernel_rfl⟩
theorem fn31 : FnOk Tryz.prog 31 := ⟨_, Tryz.func31, by kernel_rfl, by kernel_rfl⟩
theorem fn32 : FnOk Tryz.prog 32 := ⟨_, Tryz.func32, by kernel_rfl, by kernel_rfl⟩
theorem fn33 : FnOk Tryz.prog 33 := ⟨_, Tryz.func33, by kernel_rfl, by kernel_rfl⟩
theorem fn35 : FnOk Tryz.prog 35 := ⟨_, Tryz.func35, by kernel_rfl, by kernel_rfl⟩
theorem fn36 : FnOk Tryz.prog 36 := ⟨_, Tryz.func36, by kernel_rfl, by kernel_rfl⟩
theorem fn37 : FnOk Tryz.prog 37 := ⟨_, Tryz.func37, by kernel_rfl, by kernel_rfl⟩
theorem fn39 : FnOk Tryz.prog 39 := ⟨_, Tryz.func39, by kernel_rfl, by kernel_rfl⟩
theorem fn40 : FnOk Tryz.prog 40 := ⟨_, Tryz.func40, by kernel_rfl, by kernel_rfl⟩
theorem fn41 : FnOk Tryz.prog 41 := ⟨_, Tryz.func41, by kernel_rfl, by kernel_rfl⟩
theorem fn42 : FnOk Tryz.prog 42 := ⟨_, Tryz.func42, by kernel_rfl, by kernel_rfl⟩
theorem fn43 : FnOk Tryz.prog 43 := ⟨_, Tryz.func43, by kernel_rfl, by kernel_rfl⟩
theorem fn44 : FnOk Tryz.prog 44 := ⟨_, Tryz.func44, by kernel_rfl, by kernel_rfl⟩
theorem fn45 : FnOk Tryz.prog 45 := ⟨_, Tryz.func45, by kernel_rfl, by kernel_rfl⟩
theorem fn46 : FnOk Tryz.prog 46 := ⟨_, Tryz.func46, by kernel_rfl, by kernel_rfl⟩
theorem fn47 : FnOk Tryz.prog 47 := ⟨_, Tryz.func47, by kernel_rfl, by kernel_rfl⟩
theorem fn48 : FnOk Tryz.prog 48 := ⟨_, Tryz.func48, by kernel_rfl, by kernel_rfl⟩
theorem fn49 : FnOk Tryz.prog 49 := ⟨_, Tryz.func49, by kernel_rfl, by kernel_rfl⟩
theorem fn50 : FnOk Tryz.prog 50 := ⟨_, Tryz.func50, by kernel_rfl, by kernel_rfl⟩
theorem fn51 : FnOk Tryz.prog 51 := ⟨_, Tryz.func51, by kernel_rfl, by kernel_rfl⟩
theorem fn52 : FnOk Tryz.prog 52 := ⟨_, Tryz.func52, by kernel_rfl, by kernel_rfl⟩
theorem fn53 : FnOk Tryz.prog 53 := ⟨_, Tryz.func53, by kernel_rfl, by kernel_rfl⟩
theorem fn54 : FnOk Tryz.prog 54 := ⟨_, Tryz.func54, by kernel_rfl, by kernel_rfl⟩
theorem fn55 : FnOk Tryz.prog 55 := ⟨_, Tryz.func55, by kernel_rfl, by kernel_rfl⟩
theorem fn56 : FnOk Tryz.prog 56 := ⟨_, Tryz.func56, by kernel_rfl, by kernel_rfl⟩
theorem fn57 : FnOk Tryz.prog 57 := ⟨_, Tryz.func57, by kernel_rfl, by kernel_rfl⟩
theorem fn58 : FnOk Tryz.prog 58 := ⟨_, Tryz.func58, by kernel_rfl, by kernel_rfl⟩
theorem fn59 : FnOk Tryz.prog 59 := ⟨_, Tryz.func59, by kernel_rfl, by kernel_rfl⟩
theorem fn60 : FnOk Tryz.prog 60 := ⟨_, Tryz.func60, by kernel_rfl, by kernel_rfl⟩
theorem fn61 : FnOk Tryz.prog 61 := ⟨_, Tryz.func61, by kernel_rfl, by kernel_rfl⟩
theorem fn62 : FnOk Tryz.prog 62 := ⟨_, Tryz.func62, by kernel_rfl, by kernel_rfl⟩
theorem fn68 : FnOk Tryz.prog 68 := ⟨_, Tryz.func68, by kernel_rfl, by kernel_rfl⟩
theorem fn69 : FnOk Tryz.prog 69 := ⟨_, Tryz.func69, by kernel_rfl, by kernel_rfl⟩
theorem fn70 : FnOk Tryz.prog 70 := ⟨_, Tryz.func70, by kernel_rfl, by kernel_rfl⟩
theorem fn71 : FnOk Tryz.prog 71 := ⟨_, Tryz.func71, by kernel_rfl, by kernel_rfl⟩
theorem fn72 : FnOk Tryz.prog 72 := ⟨_, Tryz.func72, by kernel_rfl, by kernel_rfl⟩
theorem fn73 : FnOk Tryz.prog 73 := ⟨_, Tryz.func73, by kernel_rfl, by kernel_rfl⟩
theorem fn74 : FnOk Tryz.prog 74 := ⟨_, Tryz.func74, by kernel_rfl, by kernel_rfl⟩
theorem fn75 : FnOk Tryz.prog 75 := ⟨_, Tryz.func75, by kernel_rfl, by kernel_rfl⟩
theorem fn76 : FnOk Tryz.prog 76 := ⟨_, Tryz.func76, by kernel_rfl, by kernel_rfl⟩
theorem fn77 : FnOk Tryz.prog 77 := ⟨_, Tryz.func77, by kernel_rfl, by kernel_rfl⟩
theorem fn78 : FnOk Tryz.prog 78 := ⟨_, Tryz.func78, by kernel_rfl, by kernel_rfl⟩
theorem fn79 : FnOk Tryz.prog 79 := ⟨_, Tryz.func79, by kernel_rfl, by kernel_rfl⟩
theorem fn80 : FnOk Tryz.prog 80 := ⟨_, Tryz.func80, by kernel_rfl, by kernel_rfl⟩
theorem fn81 : FnOk Tryz.prog 81 := ⟨_, Tryz.func81, by kernel_rfl, by kernel_rfl⟩
theorem fn82 : FnOk Tryz.prog 82 := ⟨_, Tryz.func82, by kernel_rfl, by kernel_rfl⟩
theorem fn83 : FnOk Tryz.prog 83 := ⟨_, Tryz.func83, by kernel_rfl, by kernel_rfl⟩
theorem fn84 : FnOk Tryz.prog 84 := ⟨_, Tryz.func84, by kernel_rfl, by kernel_rfl⟩
theorem fn107 : FnOk Tryz.prog 107 := ⟨_, Tryz.func107, by kernel_rfl, by kernel_rfl⟩
theorem fn108 : FnOk Tryz.prog 108 := ⟨_, Tryz.func108, by kernel_rfl, by kernel_rfl⟩
theorem fn109 : FnOk Tryz.prog 109 := ⟨_, Tryz.func109, by kernel_rfl, by kernel_rfl⟩
theorem fn110 : FnOk Tryz.prog 110 := ⟨_, Tryz.func110, by kernel_rfl, by kernel_rfl⟩
theorem fn111 : FnOk Tryz.prog 111 := ⟨_, Tryz.func111, by kernel_rfl, by kernel_rfl⟩
theorem fn112 : FnOk Tryz.prog 112 := ⟨_, Tryz.func112, by kernel_rfl, by kernel_rfl⟩
theorem fn113 : FnOk Tryz.prog 113 := ⟨_, Tryz.func113, by kernel_rfl, by kernel_rfl⟩
theorem fn114 : FnOk Tryz.prog 114 := ⟨_, Tryz.func114, by kernel_rfl, by kernel_rfl⟩
theorem fn115 : FnOk Tryz.prog 115 := ⟨_, Tryz.func115, by kernel_rfl, by kernel_rfl⟩
theorem fn116 : FnOk Tryz.prog 116 := ⟨_, Tryz.func116, by kernel_rfl, by kernel_rfl⟩
theorem fn117 : FnOk Tryz.prog 117 := ⟨_, Tryz.func117, by kernel_rfl, by kernel_rfl⟩
theorem fn118 : FnOk Tryz.prog 118 := ⟨_, Tryz.func118, by kernel_rfl, by kernel_rfl⟩
theorem fn119 : FnOk Tryz.prog 119 := ⟨_, Tryz.func119, by kernel_rfl, by kernel_rfl⟩
theorem fn120 : FnOk Tryz.prog 120 := ⟨_, Tryz.func120, by kernel_rfl, by kernel_rfl⟩
theorem fn121 : FnOk Tryz.prog 121 := ⟨_, Tryz.func121, by kernel_rfl, by kernel_rfl⟩
theorem fn122 : FnOk Tryz.prog 122 := ⟨_, Tryz.func122, by kernel_rfl, by kernel_rfl⟩
theorem fn123 : FnOk Tryz.prog 123 := ⟨_, Tryz.func123, by kernel_rfl, by kernel_rfl⟩
theorem fn124 : FnOk Tryz.prog 124 := ⟨_, Tryz.func124, by kernel_rfl, by kernel_rfl⟩
theorem fn125 : FnOk Tryz.prog 125 := ⟨_, Tryz.func125, by kernel_rfl, by kernel_rfl⟩
theorem fn126 : FnOk Tryz.prog 126 := ⟨_, Tryz.func126, by kernel_rfl, by kernel_rfl⟩
theorem fn127 : FnOk Tryz.prog 127 := ⟨_, Tryz.func127, by kernel_rfl, by kernel_rfl⟩
theorem fn128 : FnOk Tryz.prog 128 := ⟨_, Tryz.func128, by kernel_rfl, by kernel_rfl⟩
theorem fn144 : FnOk Tryz.prog 144 := ⟨_, Tryz.func144, by kernel_rfl, by kernel_rfl⟩
theorem fn145 : FnOk Tryz.prog 145 := ⟨_, Tryz.func145, by kernel_rfl, by kernel_rfl⟩
theorem fn146 : FnOk Tryz.prog 146 := ⟨_, Tryz.func146, by kernel_rfl, by kernel_rfl⟩
theorem fn147 : FnOk Tryz.prog 147 := ⟨_, Tryz.func147, by kernel_rfl, by kernel_rfl⟩
theorem fn148 : FnOk Tryz.prog 148 := ⟨_, Tryz.func148, by kernel_rfl, by kernel_rfl⟩
theorem fn152 : FnOk Tryz.prog 152 := ⟨_, Tryz.func152, by kernel_rfl, by kernel_rfl⟩
theorem fn153 : FnOk Tryz.prog 153 := ⟨_, Tryz.func153, by kernel_rfl, by kernel_rfl⟩
theorem fa24_0 : FA Tryz.prog 24 0 0 := FAmk (k := 0) Tryz.underlying24 rfl rfl (by kernel_rfl)
theorem fa40_1 : FA Tryz.prog 40 1 16 := FAmk (k := 0) Tryz.underlying40 rfl rfl (by kernel_rfl)
theorem fa40_2 : FA Tryz.prog 40 2 17 := FAmk (k := 0) Tryz.underlying40 rfl rfl (by kernel_rfl)
theorem fa40_3 : FA Tryz.prog 40 3 18 := FAmk (k := 0) Tryz.underlying40 rfl rfl (by kernel_rfl)
theorem fa40_5 : FA Tryz.prog 40 5 35 := FAmk (k := 0) Tryz.underlying40 rfl rfl (by kernel_rfl)
theorem fa50_0 : FA Tryz.prog 50 0 0 := FAmk (k := 0) Tryz.underlying50 rfl rfl (by kernel_rfl)
theorem fa50_1 : FA Tryz.prog 50 1 1 := FAmk (k := 0) Tryz.underlying50 rfl rfl (by kernel_rfl)
theorem fa50_2 : FA Tryz.prog 50 2 2 := FAmk (k := 0) Tryz.underlying50 rfl rfl (by kernel_rfl)
theorem fa50_3 : FA Tryz.prog 50 3 3 := FAmk (k := 0) Tryz.underlying50 rfl rfl (by kernel_rfl)
theorem fa50_4 : FA Tryz.prog 50 4 4 := FAmk (k := 0) Tryz.underlying50 rfl rfl (by kernel_rfl)
theorem fa50_5 : FA Tryz.prog 50 5 5 := FAmk (k := 0) Tryz.underlying50 rfl rfl (by kernel_rfl)
theorem fa50_6 : FA Tryz.prog 50 6 6 := FAmk (k := 0) Tryz.underlying50 rfl rfl (by kernel_rfl)
theorem fa50_7 : FA Tryz.prog 50 7 7 := FAmk (k := 0) Tryz.underlying50 rfl rfl (by kernel_rfl)
theorem fa52_0 : FA Tryz.prog 52 0 0 := FAmk (k := 0) Tryz.underlying52 rfl rfl (by kernel_rfl)
theorem fa52_1 : FA Tryz.prog 52 1 1 := FAmk (k := 0) Tryz.underlying52 rfl rfl (by kernel_rfl)
theorem fa52_2 : FA Tryz.prog 52 2 2 := FAmk (k := 0) Tryz.underlying52 rfl rfl (by kernel_rfl)
theorem fa52_3 : FA Tryz.prog 52 3 3 := FAmk (k := 0) Tryz.underlying52 rfl rfl (by kernel_rfl)
theorem fa62_0 : FA Tryz.prog 62 0 0 := FAmk (k := 0) Tryz.underlying62 rfl rfl (by kernel_rfl)
theorem fa62_1 : FA Tryz.prog 62 1 1 := FAmk (k := 0) Tryz.underlying62 rfl rfl (by kernel_rfl)
theorem eg62 : Tryz.prog.eqGuardType Tryz.prog.depth 62 = false := by kernel_rfl
theorem hMixed : Tryz.prog.follows .mixedOrders = true := by kernel_rfl
end Go.Proofs.YtmonnmndphlkaaaGreat
