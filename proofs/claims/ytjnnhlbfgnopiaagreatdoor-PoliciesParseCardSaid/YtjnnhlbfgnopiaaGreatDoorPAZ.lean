/- For every text: Parse of the program reads it to what the reference's ParsePolicy reads it to, rules, line and error; the law's function returns true and turns nothing. No condition but the card's. -/
import Derived.Test.YtjnnhlbfgnopiaaGreatDoorPAAE
import Derived.Test.YtjnnhlbfgnopiaaGreatDoorPABW
import Derived.Test.YtjnnhlbfgnopiaaGreatDoorPABX
import Derived.Test.YtjnnhlbfgnopiaaGreatDoorPABI
import Derived.Test.YtjnnhlbfgnopiaaGreatDoorRows
import Derived.Test.YtjnnhlbfgnopiaaGreatDoorCards
import Derived.Test.YtjnnhlbfgnopiaaGreatDoorTie
import Derived.Deep.DeepHandedRow
import Derived.Lib.LaidTab
import Derived.Deep.DeepWitnessRowRef
import Derived.Lib.LaidU8
import Derived.Deep.DeepLaidRun
import Derived.Stop.LaidErr
import Derived.Shelf.Vars
import Derived.ChangeMaps5
import Derived.ProofKit
import Derived.OpenShut
import Derived.SizedLaws
namespace Go.Proofs.YtjnnhlbfgnopiaaGreatDoor.lawPoliciesParse
open Go.Kw Go.Proofs.YtjnnhlbfgnopiaaGreatDoor
open Go.ChangeShapes Go.WideShapes Go.ChangeAt Go.RowKit
set_option linter.unusedVariables false
set_option linter.unusedSimpArgs false
set_option maxRecDepth 100000
set_option maxHeartbeats 20000000

set_option maxHeartbeats 4000000 in
theorem walk (l : List UInt8) (w : World) (hv : VF w) :
    Ret Tryz.prog 3 [.string ⟨(l).toArray⟩] w (fun v w' => v = .bool true ∧ St w [] w' []) := by
  refine enter Tryz.func3 rfl Tryz.ntmps3 rfl ?_
  have hS := St.refl w []
  refine zS<|zR<|zq 1 rfl<|zN<|zT<|zS<|zS<|zR<|zE fn5 rfl hS (landed_ok _) fun w1 hS3=>zq 1 rfl<|zN<|zT<|zf rfl<|zK<|zT<|zS<|zR<|zq 1 rfl<|zC fn6 rfl (parse_ok l _ (hv.st hS3)) ?_
  rintro _ w4 (⟨n1, e1, hp1, hne1, rfl, hx5⟩ | ⟨rs1, a1, c1, LT1, hp1, hT1, hc1, rfl, hx5⟩)
  · have hS6 := hS3.ext hx5
    refine zq 4 rfl<|zA (C := [.slice none 0 0]) hS6 ti25 rfl fun b3 w7 hS8=> ?_; refine wl_exs (x_storeW [] hS8 ti25 rfl rfl Ln Ln On) rfl ?_; intro w9 hS10; simp only [ca, na] at hS10; refine zq 2 rfl<|zN<|zT<|zS<|zR<|zq 1 rfl<|zC fn7 rfl (rparse_ok l _ (hv.st hS10)) ?_
    rintro _ w11 (⟨n2, e2, hp2, hne2, rfl, hx12⟩ | ⟨rs2, a2, c2, LT2, hp2, hT2, hc2, rfl, hx12⟩)
    · have hS13 := hS10.ext hx12
      refine zq 4 rfl<|zA (C := [.slice none 0 0]) hS13 ti25 rfl fun b6 w14 hS15=> ?_; refine wl_exs (x_storeW [] hS15 ti25 rfl rfl Ln Ln On) rfl ?_; intro w16 hS17; simp only [ca, na] at hS17; refine zq 2 rfl<|zN<|zT<|zS ?_
      obtain ⟨hre, hnn, hee⟩ := polT_uniq hp1 hp2
      refine zR<|zq 2 rfl<|wl_dec_t (r_eql rfl rfl) rfl Om<|zq 3 rfl<|wl_dec_t (r_eql rfl rfl) rfl Om<|zq 2 rfl<|wl_val (r_loadB ti25 ag25 rfl (hS17.heap Z1) Ln) rfl ?_; refine wl_val (r_loadB ti25 ag25 rfl (hS17.heap Z0) Ln) rfl ?_; refine zE fn8 rfl hS17 (samePolicyY_t [] [] _ _ _ _ _ Row.nil Row.nil (fun q hq => by cases hq) (fun q hq => by cases hq) hre (Nat.zero_le _)) fun w18 hS20=> ?_; refine zq 2 rfl<|zN<|zT<|zU<|ret1 Tryz.results3 ?_
      exact ⟨rfl, hS20.fin⟩
    have hS13 := St.callT (X := [_]) (LT := LT2) hS10 hx12
    simp only [ca, na] at hS13; refine zq 4 rfl<|zA (C := [.slice none 0 0]) hS13 ti25 rfl fun b6 w21 hS22=> ?_; refine wl_exs (x_storeW [] hS22 ti25 rfl rfl Ln Ln On) rfl ?_; intro w23 hS24; simp only [ca, na] at hS24; refine zq 2 rfl<|zN<|zT<|zS ?_
    obtain ⟨hre, hnn, hee⟩ := polT_uniq hp1 hp2
    refine zR<|zq 2 rfl<|wl_dec_t (r_eql rfl rfl) rfl Om<|zq 3 rfl<|wl_dec_t (r_eql rfl rfl) rfl Om<|zq 2 rfl<|wl_val (r_loadB ti25 ag25 rfl (hS24.heap Z2) Ln) rfl ?_; refine wl_val (r_loadB ti25 ag25 rfl (hS24.heap Z0) Ln) rfl ?_; refine zE fn8 rfl hS24 (samePolicyY_t [] rs2 _ _ _ _ _ Row.nil (St.rowAt hS24 Z1) (fun q hq => by cases hq) (hT2 _ (hS24.hold fun x hx => by simp [hx])) hre (Nat.zero_le _)) fun w25 hS27=> ?_; refine zq 2 rfl<|zN<|zT<|zU<|ret1 Tryz.results3 ?_
    exact ⟨rfl, hS27.fin⟩
  have hS6 := St.callT (X := [_]) (LT := LT1) hS3 hx5
  simp only [ca, na] at hS6; refine zq 4 rfl<|zA (C := [.slice none 0 0]) hS6 ti25 rfl fun b3 w28 hS29=> ?_; refine wl_exs (x_storeW [] hS29 ti25 rfl rfl Ln Ln On) rfl ?_; intro w30 hS31; simp only [ca, na] at hS31; refine zq 2 rfl<|zN<|zT<|zS<|zR<|zq 1 rfl<|zC fn7 rfl (rparse_ok l _ (hv.st hS31)) ?_
  rintro _ w32 (⟨n2, e2, hp2, hne2, rfl, hx33⟩ | ⟨rs2, a2, c2, LT2, hp2, hT2, hc2, rfl, hx33⟩)
  · have hS34 := hS31.ext hx33
    refine zq 4 rfl<|zA (C := [.slice none 0 0]) hS34 ti25 rfl fun b6 w35 hS36=> ?_; refine wl_exs (x_storeW [] hS36 ti25 rfl rfl Ln Ln On) rfl ?_; intro w37 hS38; simp only [ca, na] at hS38; refine zq 2 rfl<|zN<|zT<|zS ?_
    obtain ⟨hre, hnn, hee⟩ := polT_uniq hp1 hp2
    refine zR<|zq 2 rfl<|wl_dec_t (r_eql rfl rfl) rfl Om<|zq 3 rfl<|wl_dec_t (r_eql rfl rfl) rfl Om<|zq 2 rfl<|wl_val (r_loadB ti25 ag25 rfl (hS38.heap Z1) Ln) rfl ?_; refine wl_val (r_loadB ti25 ag25 rfl (hS38.heap Z0) Ln) rfl ?_; refine zE fn8 rfl hS38 (samePolicyY_t rs1 [] _ _ _ _ _ (St.rowAt hS38 Z2) Row.nil (hT1 _ (hS38.hold fun x hx => by simp [hx])) (fun q hq => by cases hq) hre (by have := polT_len hp1; rw [List.length_map] at this; omega)) fun w39 hS41=> ?_; refine zq 2 rfl<|zN<|zT<|zU<|ret1 Tryz.results3 ?_
    exact ⟨rfl, hS41.fin⟩
  have hS34 := St.callT (X := [_]) (LT := LT2) hS31 hx33
  simp only [ca, na] at hS34; refine zq 4 rfl<|zA (C := [.slice none 0 0]) hS34 ti25 rfl fun b6 w42 hS43=> ?_; refine wl_exs (x_storeW [] hS43 ti25 rfl rfl Ln Ln On) rfl ?_; intro w44 hS45; simp only [ca, na] at hS45; refine zq 2 rfl<|zN<|zT<|zS ?_
  obtain ⟨hre, hnn, hee⟩ := polT_uniq hp1 hp2
  refine zR<|zq 2 rfl<|wl_dec_t (r_eql rfl rfl) rfl Om<|zq 3 rfl<|wl_dec_t (r_eql rfl rfl) rfl Om<|zq 2 rfl<|wl_val (r_loadB ti25 ag25 rfl (hS45.heap Z2) Ln) rfl ?_; refine wl_val (r_loadB ti25 ag25 rfl (hS45.heap Z0) Ln) rfl ?_; refine zE fn8 rfl hS45 (samePolicyY_t rs1 rs2 _ _ _ _ _ (St.rowAt hS45 Z3) (St.rowAt hS45 Z1) (hT1 _ (hS45.hold fun x hx => by simp [hx])) (hT2 _ (hS45.hold fun x hx => by simp [hx])) hre (by have := polT_len hp1; rw [List.length_map] at this; omega)) fun w46 hS48=> ?_; refine zq 2 rfl<|zN<|zT<|zU<|ret1 Tryz.results3 ?_
  exact ⟨rfl, hS48.fin⟩

theorem star : "*" ++ "errors.errorString" = "*errors.errorString" := by decide
theorem esRow (u : TypeId) (h : Tryz.prog.typeName? 3 u = some "*errors.errorString") : u = 203 :=
  typeName_ptr_named (nm := "errors.errorString") (by rw [star]; kernel_rfl) (by kernel_rfl) (by decide) u (by rw [star]; exact h)
theorem gl5 : Tryz.prog.globalNamed "strconv.ErrSyntax" = some 5 := by kernel_rfl
theorem gt5 : (Tryz.prog.globals[5]?).map (·.type) = some 94 := by kernel_rfl
theorem gl6 : Tryz.prog.globalNamed "strconv.ErrRange" = some 6 := by kernel_rfl
theorem gt6 : (Tryz.prog.globals[6]?).map (·.type) = some 94 := by kernel_rfl

theorem own : ownKnob Tryz.prog.godebug = none := by kernel_rfl
theorem laidOut : laidOutB Tryz.prog = true := by kernel_rfl
theorem readable9 : Tryz.prog.readableRec 9 = true := by kernel_rfl
theorem inside9 : decide (9 < Tryz.prog.types.size) = true := by kernel_rfl
noncomputable def low : Nat := (World.holding Tryz.prog default ⟨#[], #[], []⟩).heap.size
/-- A world for the witness: the settled one, the variables holding what their initialisers lay. -/
noncomputable def laidWorld (os : Os) : World :=
  { World.holding Tryz.prog os ⟨#[.cells #[.string ⟨#[118, 97, 108, 117, 101, 32, 111, 117, 116, 32, 111, 102, 32, 114, 97, 110, 103, 101]⟩] 205, .cells #[.string ⟨#[105, 110, 118, 97, 108, 105, 100, 32, 115, 121, 110, 116, 97, 120]⟩] 205, .cells #[.int .u16 9, .int .u16 13, .int .u16 1, .int .u16 32, .int .u16 133, .int .u16 101, .int .u16 160, .int .u16 5760, .int .u16 5600, .int .u16 8192, .int .u16 8202, .int .u16 1, .int .u16 8232, .int .u16 8233, .int .u16 1, .int .u16 8239, .int .u16 8287, .int .u16 48, .int .u16 12288, .int .u16 12288, .int .u16 1] 197, .cells #[.slice (some ⟨low + 2, 0, none⟩) 7 7, .slice none 0 0, .int .i64 2] 194], #[], []⟩ with heap := ((((((((((World.holding Tryz.prog os ⟨#[.cells #[.string ⟨#[118, 97, 108, 117, 101, 32, 111, 117, 116, 32, 111, 102, 32, 114, 97, 110, 103, 101]⟩] 205, .cells #[.string ⟨#[105, 110, 118, 97, 108, 105, 100, 32, 115, 121, 110, 116, 97, 120]⟩] 205, .cells #[.int .u16 9, .int .u16 13, .int .u16 1, .int .u16 32, .int .u16 133, .int .u16 101, .int .u16 160, .int .u16 5760, .int .u16 5600, .int .u16 8192, .int .u16 8202, .int .u16 1, .int .u16 8232, .int .u16 8233, .int .u16 1, .int .u16 8239, .int .u16 8287, .int .u16 48, .int .u16 12288, .int .u16 12288, .int .u16 1] 197, .cells #[.slice (some ⟨low + 2, 0, none⟩) 7 7, .slice none 0 0, .int .i64 2] 194], #[], []⟩).heap.modify 8 fun
      | .cells _ t frozen => .cells #[.int .u8 0, .int .u8 1, .int .u8 28, .int .u8 2, .int .u8 29, .int .u8 14, .int .u8 24, .int .u8 3, .int .u8 30, .int .u8 22, .int .u8 20, .int .u8 15, .int .u8 25, .int .u8 17, .int .u8 4, .int .u8 8, .int .u8 31, .int .u8 27, .int .u8 13, .int .u8 23, .int .u8 21, .int .u8 19, .int .u8 16, .int .u8 7, .int .u8 26, .int .u8 12, .int .u8 18, .int .u8 6, .int .u8 11, .int .u8 5, .int .u8 10, .int .u8 9] t frozen
      | o => o).modify 9 fun
      | .cells _ t frozen => .cells #[.int .u8 0, .int .u8 1, .int .u8 56, .int .u8 2, .int .u8 57, .int .u8 49, .int .u8 28, .int .u8 3, .int .u8 61, .int .u8 58, .int .u8 42, .int .u8 50, .int .u8 38, .int .u8 29, .int .u8 17, .int .u8 4, .int .u8 62, .int .u8 47, .int .u8 59, .int .u8 36, .int .u8 45, .int .u8 43, .int .u8 51, .int .u8 22, .int .u8 53, .int .u8 39, .int .u8 33, .int .u8 30, .int .u8 24, .int .u8 18, .int .u8 12, .int .u8 5, .int .u8 63, .int .u8 55, .int .u8 48, .int .u8 27, .int .u8 60, .int .u8 41, .int .u8 37, .int .u8 16, .int .u8 46, .int .u8 35, .int .u8 44, .int .u8 21, .int .u8 52, .int .u8 32, .int .u8 23, .int .u8 11, .int .u8 54, .int .u8 26, .int .u8 40, .int .u8 15, .int .u8 34, .int .u8 20, .int .u8 31, .int .u8 10, .int .u8 25, .int .u8 14, .int .u8 19, .int .u8 9, .int .u8 13, .int .u8 8, .int .u8 7, .int .u8 6] t frozen
      | o => o).modify 7 fun
      | .cells _ t frozen => .cells #[.int .u64 1, .int .u64 10, .int .u64 100, .int .u64 1000, .int .u64 10000, .int .u64 100000, .int .u64 1000000, .int .u64 10000000, .int .u64 100000000, .int .u64 1000000000, .int .u64 10000000000, .int .u64 100000000000, .int .u64 1000000000000, .int .u64 10000000000000, .int .u64 100000000000000, .int .u64 1000000000000000, .int .u64 10000000000000000, .int .u64 100000000000000000, .int .u64 1000000000000000000, .int .u64 10000000000000000000] t frozen
      | o => o).modify 2 fun
      | .cells _ t frozen => .cells #[.int .u8 128, .int .u8 191, .int .u8 160, .int .u8 191, .int .u8 128, .int .u8 159, .int .u8 144, .int .u8 191, .int .u8 128, .int .u8 143, .int .u8 0, .int .u8 0, .int .u8 0, .int .u8 0, .int .u8 0, .int .u8 0, .int .u8 0, .int .u8 0, .int .u8 0, .int .u8 0, .int .u8 0, .int .u8 0, .int .u8 0, .int .u8 0, .int .u8 0, .int .u8 0, .int .u8 0, .int .u8 0, .int .u8 0, .int .u8 0, .int .u8 0, .int .u8 0] t frozen
      | o => o).modify 3 fun
      | .cells _ t frozen => .cells #[.int .u8 0, .int .u8 0, .int .u8 0, .int .u8 0, .int .u8 0, .int .u8 0, .int .u8 0, .int .u8 0, .int .u8 0, .int .u8 1, .int .u8 1, .int .u8 1, .int .u8 1, .int .u8 1, .int .u8 0, .int .u8 0, .int .u8 0, .int .u8 0, .int .u8 0, .int .u8 0, .int .u8 0, .int .u8 0, .int .u8 0, .int .u8 0, .int .u8 0, .int .u8 0, .int .u8 0, .int .u8 0, .int .u8 0, .int .u8 0, .int .u8 0, .int .u8 0, .int .u8 1, .int .u8 0, .int .u8 0, .int .u8 0, .int .u8 0, .int .u8 0, .int .u8 0, .int .u8 0, .int .u8 0, .int .u8 0, .int .u8 0, .int .u8 0, .int .u8 0, .int .u8 0, .int .u8 0, .int .u8 0, .int .u8 0, .int .u8 0, .int .u8 0, .int .u8 0, .int .u8 0, .int .u8 0, .int .u8 0, .int .u8 0, .int .u8 0, .int .u8 0, .int .u8 0, .int .u8 0, .int .u8 0, .int .u8 0, .int .u8 0, .int .u8 0, .int .u8 0, .int .u8 0, .int .u8 0, .int .u8 0, .int .u8 0, .int .u8 0, .int .u8 0, .int .u8 0, .int .u8 0, .int .u8 0, .int .u8 0, .int .u8 0, .int .u8 0, .int .u8 0, .int .u8 0, .int .u8 0, .int .u8 0, .int .u8 0, .int .u8 0, .int .u8 0, .int .u8 0, .int .u8 0, .int .u8 0, .int .u8 0, .int .u8 0, .int .u8 0, .int .u8 0, .int .u8 0, .int .u8 0, .int .u8 0, .int .u8 0, .int .u8 0, .int .u8 0, .int .u8 0, .int .u8 0, .int .u8 0, .int .u8 0, .int .u8 0, .int .u8 0, .int .u8 0, .int .u8 0, .int .u8 0, .int .u8 0, .int .u8 0, .int .u8 0, .int .u8 0, .int .u8 0, .int .u8 0, .int .u8 0, .int .u8 0, .int .u8 0, .int .u8 0, .int .u8 0, .int .u8 0, .int .u8 0, .int .u8 0, .int .u8 0, .int .u8 0, .int .u8 0, .int .u8 0, .int .u8 0, .int .u8 0, .int .u8 0, .int .u8 0, .int .u8 0, .int .u8 0, .int .u8 0, .int .u8 0, .int .u8 0, .int .u8 0, .int .u8 0, .int .u8 0, .int .u8 0, .int .u8 0, .int .u8 0, .int .u8 0, .int .u8 0, .int .u8 0, .int .u8 0, .int .u8 0, .int .u8 0, .int .u8 0, .int .u8 0, .int .u8 0, .int .u8 0, .int .u8 0, .int .u8 0, .int .u8 0, .int .u8 0, .int .u8 0, .int .u8 0, .int .u8 0, .int .u8 0, .int .u8 0, .int .u8 0, .int .u8 0, .int .u8 0, .int .u8 0, .int .u8 0, .int .u8 0, .int .u8 0, .int .u8 0, .int .u8 0, .int .u8 0, .int .u8 0, .int .u8 0, .int .u8 0, .int .u8 0, .int .u8 0, .int .u8 0, .int .u8 0, .int .u8 0, .int .u8 0, .int .u8 0, .int .u8 0, .int .u8 0, .int .u8 0, .int .u8 0, .int .u8 0, .int .u8 0, .int .u8 0, .int .u8 0, .int .u8 0, .int .u8 0, .int .u8 0, .int .u8 0, .int .u8 0, .int .u8 0, .int .u8 0, .int .u8 0, .int .u8 0, .int .u8 0, .int .u8 0, .int .u8 0, .int .u8 0, .int .u8 0, .int .u8 0, .int .u8 0, .int .u8 0, .int .u8 0, .int .u8 0, .int .u8 0, .int .u8 0, .int .u8 0, .int .u8 0, .int .u8 0, .int .u8 0, .int .u8 0, .int .u8 0, .int .u8 0, .int .u8 0, .int .u8 0, .int .u8 0, .int .u8 0, .int .u8 0, .int .u8 0, .int .u8 0, .int .u8 0, .int .u8 0, .int .u8 0, .int .u8 0, .int .u8 0, .int .u8 0, .int .u8 0, .int .u8 0, .int .u8 0, .int .u8 0, .int .u8 0, .int .u8 0, .int .u8 0, .int .u8 0, .int .u8 0, .int .u8 0, .int .u8 0, .int .u8 0, .int .u8 0, .int .u8 0, .int .u8 0, .int .u8 0, .int .u8 0, .int .u8 0, .int .u8 0, .int .u8 0, .int .u8 0, .int .u8 0, .int .u8 0, .int .u8 0, .int .u8 0, .int .u8 0, .int .u8 0, .int .u8 0, .int .u8 0] t frozen
      | o => o).modify 1 fun
      | .cells _ t frozen => .cells (Lib.firstTab.map fun z => Value.int .u8 z).toArray t frozen
      | o => o).modify 4 fun
      | .cells _ t frozen => .cells #[.pointer (some ⟨low + 3, 0, none⟩)] t frozen
      | o => o).modify 6 fun
      | .cells _ t frozen => .cells #[.iface 203 (.pointer (some ⟨low + 0, 0, none⟩))] t frozen
      | o => o).modify 5 fun
      | .cells _ t frozen => .cells #[.iface 203 (.pointer (some ⟨low + 1, 0, none⟩))] t frozen
      | o => o) }
theorem laid_met (os : Os) : laidMet Tryz.prog Rows.policiesParseRow.laid ((laidWorld os).forCall (fun _ _ => 0) ⟨#[], #[.string ⟨#[]⟩], []⟩).memory := laidMet_of_run3 10 (by kernel_rfl) (by kernel_rfl) (by kernel_rfl)
theorem reads (os : Os) {H : Type} (enc : TypeId × Value → H) : ∃ places, DataW.whole enc Tryz.prog ((laidWorld os).forCall (fun _ _ => 0) ⟨#[], #[.string ⟨#[]⟩], []⟩).memory Tryz.f3.params.toList Rows.policiesParseSpec.vars false (#[.string ⟨#[]⟩] : Array Value).toList 8 = some ([.lit (.string [])], [], places) := ⟨[], by kernel_rfl⟩
theorem lifted (os : Os) (started : os.Started) (H : Type) (enc : TypeId × Value → H) (F : Stop.Interp) :
    ReturnsInHanded {} Tryz.checked os 3 .any ((OpenSpec.ofChange Rows.policiesParseSpec).preRow enc Tryz.prog Tryz.f3 Rows.policiesParseRow.domain false Rows.policiesParseRow.laid) (((OpenSpec.ofChange Rows.policiesParseSpec).at F).post enc Tryz.prog Tryz.f3 false true false false) := by
  obtain ⟨places, hx⟩ := reads os enc
  refine returnsInHanded_of_row (C := Tryz.checked) (s := (OpenSpec.ofChange Rows.policiesParseSpec)) own started (by kernel_rfl) Tryz.func3
    (witness_row_atRef (enc := enc) (C := Tryz.checked) false (laidWorld os) #[.string ⟨#[]⟩] rfl (by kernel_rfl) (by kernel_rfl) (by kernel_rfl)
      (OpenSpec.preRow_of_cond 8 hx (by kernel_rfl) (fun k hk => by cases hk) (by kernel_rfl) (laid_met os))) ?_
  intro W base args ds gs before hval0 hW hcnd hk0 hsz0 hL hSh _
  have hval : ∀ (j : Nat) t v, Tryz.f3.params[j]? = some t → args[j]? = some v → Value.okWide Tryz.prog W .any base t v := hval0
  have hW' := hW
  obtain ⟨p, q, hA0, hV, rfl, hfz, hnd⟩ := hW
  have hA : DataW.TrodAll enc Tryz.prog W 0 (fun _ => true) true Tryz.f3.params.toList args.toList ds p := hA0
  have hsz : (DataW.weightsEach Tryz.prog (Tryz.f3.params.toList ++ Rows.policiesParseSpec.plain.varTypes Tryz.prog) (ds ++ gs)).all (· ≤ reachBytes) = true := hsz0
  rw [Tryz.params3] at hA hval hsz
  obtain ⟨v0, vs0, d0, ds0, p0, q0, hargs, rfl, rfl, h0, r0⟩ := trodAll_cons hA
  obtain ⟨rfl, rfl, rfl⟩ := trodAll_nil r0
  obtain rfl : args = #[v0] := by cases args; simp_all
  obtain ⟨rfl, rfl⟩ := trodVars_none hV
  have lt0 : ∀ x ∈ p0, x.block < W.heap.size := by obtain ⟨m, hm⟩ := h0; exact DataW.trod_lt m _ _ _ hm
  have ok0 := hval 0 9 v0 rfl rfl
  obtain ⟨s, rfl, rfl, -, -⟩ := Go.ChangeMaps.open_string Tryz.underlying9 ok0 h0
  obtain ⟨l, rfl⟩ : ∃ l : List UInt8, s = ⟨l.toArray⟩ := ⟨s.data.toList, by cases s; simp⟩
  have hL0 : laidMet Tryz.prog [("math/bits.deBruijn32tab", Rows.laid_math_bits_deBruijn32tab), ("math/bits.deBruijn64tab", Rows.laid_math_bits_deBruijn64tab), ("internal/strconv.uint64pow10", Rows.laid_internal_strconv_uint64pow10), ("unicode/utf8.acceptRanges", Rows.laid_unicode_utf8_acceptRanges), ("strconv.ErrRange", Rows.laid_strconv_ErrRange), ("strconv.ErrSyntax", Rows.laid_strconv_ErrSyntax), ("unicode.White_Space", Rows.laid_unicode_White_Space), ("strings.asciiSpace", Rows.laid_strings_asciiSpace), ("unicode/utf8.first", Rows.laid_unicode_utf8_first)] W := hL
  have hP : (Rows.laid_internal_strconv_uint64pow10 : DataW Unit) = Lib.tabData .u64 Lib.pow10Tab := by kernel_rfl
  have hP2 : (Rows.laid_strings_asciiSpace : DataW Unit) = Lib.tabData .u8 Lib.asciiSpaceTab := by kernel_rfl
  rw [hP, hP2] at hL0
  have hL2 := laidMet.tail (laidMet.tail hL0)
  have hTab : Lib.TabIs Tryz.prog W "internal/strconv.uint64pow10" .u64 Lib.pow10Tab := Lib.tabIs_of_head (g := 7) (t := 186) (e := 153) (n := 20) (by kernel_rfl) (by kernel_rfl) (by kernel_rfl) (by kernel_rfl) (by kernel_rfl) (by kernel_rfl) hL2
  have hL4 := laidMet.tail (laidMet.tail hL2)
  have hL7 := laidMet.tail (laidMet.tail (laidMet.tail hL4))
  have hAsc : Lib.TabIs Tryz.prog W "strings.asciiSpace" .u8 Lib.asciiSpaceTab := Lib.tabIs_of_head (g := 3) (t := 158) (e := 5) (n := 256) (by kernel_rfl) (by kernel_rfl) (by kernel_rfl) (by kernel_rfl) (by kernel_rfl) (by kernel_rfl) hL7
  have hMx := Go.Proofs.cell_of_shapedOpen_int (P := Tryz.prog) (g := 0) (t := 3) (zero := #[.int .i64 0]) hSh (of_decide_eq_true (by kernel_rfl)) (by kernel_rfl) rfl (by kernel_rfl) (by kernel_rfl) Tryz.underlying3
  have hRg : ∃ te pe, W.cell? ⟨6, 0, none⟩ = some (.iface te pe) := by
    obtain ⟨a, s', hv, _⟩ := Go.laid_sentinel hL4 gl6 gt6 ti94.und esRow ti203.und ti205.und rfl rfl ti9.und (by kernel_rfl) (by kernel_rfl)
    exact ⟨_, _, by simpa using World.var?_cell gl6 hv 0⟩
  have hSy : ∃ te pe, W.cell? ⟨5, 0, none⟩ = some (.iface te pe) := by
    obtain ⟨a, s', hv, _⟩ := Go.laid_sentinel (laidMet.tail hL4) gl5 gt5 ti94.und esRow ti203.und ti205.und rfl rfl ti9.und (by kernel_rfl) (by kernel_rfl)
    exact ⟨_, _, by simpa using World.var?_cell gl5 hv 0⟩
  have hv : VF W := ⟨hTab, hAsc, hMx, hSy, hRg⟩
  refine Calls.mono (walk l W hv) fun e W' ⟨v, he, hv, hs⟩ => ?_
  subst hv; subst he
  have bel := hs.below
  exact ⟨_, rfl, _, _, _, [], _, [], hW', trodAll_mk1 (shut_bool Tryz.underlying4 _), (trodAll_cons_mk (Below.trod laidOut readable9 (of_decide_eq_true inside9) h0 bel lt0) trodAll_mk0), rfl, bel.frame _, fun h => by cases h⟩
theorem over : Rows.policiesParseRow.holds Tryz.pinned (OpenSpec.ofChange Rows.policiesParseSpec) :=
  OpenClaim.holds_of_cond 3 Tryz.f3 rfl rfl rfl rfl rfl rfl rfl ⟨rfl, rfl, rfl, rfl, rfl⟩ rfl rfl rfl rfl rfl (by kernel_rfl) Tryz.func3 (by kernel_rfl)
    (of_decide_eq_true (by kernel_rfl)) (by unfold Func.isWrapper; first | (rw [if_pos (by decide +kernel)]; kernel_rfl) | (rw [if_neg (by decide +kernel)]; exact ⟨rfl, rfl⟩))
    (fun os started H enc _ F => by rw [OpenClaim.pre_eq_preRow]; exact lifted os started H enc F)
theorem plain (f : FuncId) (fn : Func) (hf : Tryz.pinned.checked.prog.funcNamed "keywarden/keylaw1.PoliciesParse" = some f) (hfn : Tryz.pinned.checked.prog.funcs[f]? = some fn) :
    true = Tryz.pinned.checked.prog.looks [] ∧ ∀ (j : Nat) t, fn.params[j]? = some t → Tryz.pinned.checked.prog.wantsStandIn t = false := by
  obtain rfl : f = 3 := Option.some.inj ((show Tryz.prog.funcNamed "keywarden/keylaw1.PoliciesParse" = some 3 by kernel_rfl).symm.trans hf) |>.symm
  obtain rfl : fn = Tryz.f3 := (Option.some.inj (Tryz.func3.symm.trans hfn)).symm
  refine ⟨by kernel_rfl, fun j t ht => ?_⟩
  rw [Tryz.params3] at ht
  have w9 : Tryz.prog.wantsStandIn 9 = false := by kernel_rfl
  have hm : t ∈ [9] := by have := Array.mem_of_getElem? ht; simpa using this
  simp only [List.mem_cons, List.not_mem_nil, or_false] at hm
  rcases hm with rfl
  · exact w9
theorem proved : Rows.PoliciesParseCardSaid :=
  Claim7.holds_tied_plain_at .later [] _ _ _ _ over (fun _ h => by cases h) (by kernel_rfl) (fun _ h => by cases h) policiesParse_row_tie rfl ⟨rfl, rfl⟩ (by kernel_rfl) rfl plain (by kernel_rfl)
#print axioms proved
end Go.Proofs.YtjnnhlbfgnopiaaGreatDoor.lawPoliciesParse
