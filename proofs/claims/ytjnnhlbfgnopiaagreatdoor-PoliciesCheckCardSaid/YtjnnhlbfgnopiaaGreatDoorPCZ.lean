/- For every policy: Check, Print and SumOf of the program are the reference's, and what is printed is read again as the same rules; the law's function returns true and turns nothing. No condition but the card's. -/
import Derived.Test.YtjnnhlbfgnopiaaGreatDoorPCAF
import Derived.Test.YtjnnhlbfgnopiaaGreatDoorPCBR
import Derived.Test.YtjnnhlbfgnopiaaGreatDoorRows
import Derived.Test.YtjnnhlbfgnopiaaGreatDoorCards
import Derived.Test.YtjnnhlbfgnopiaaGreatDoorTie
import Derived.Deep.DeepHandedRow
import Derived.Lib.LaidTab
import Derived.Deep.DeepWitnessRowRef
import Derived.Lib.LaidU8
import Derived.Deep.DeepLaidRun
import Derived.Stop.LaidErr
import Derived.Shelf.Vars
import Derived.ChangeMaps5
namespace Go.Proofs.YtjnnhlbfgnopiaaGreatDoor.lawPoliciesCheck
open Go.Kw Go.Proofs.YtjnnhlbfgnopiaaGreatDoor
open Go.ChangeShapes Go.WideShapes Go.ChangeAt Go.RowKit
set_option linter.unusedVariables false
set_option linter.unusedSimpArgs false
set_option maxRecDepth 100000
set_option maxHeartbeats 20000000

set_option maxHeartbeats 16000000 in
theorem walk (rs : List RuleD) (pa : Option Addr) (pc : Nat) (w : World) (hrs : Row w pa (rs.flatMap RuleD.v)) (hall : ∀ r ∈ rs, RuleAt w r) (hn : rs.length ≤ 140737488351232) (hv : VF w) :
    Ret Tryz.prog 4 [.agg #[.slice pa rs.length pc]] w (fun v w' => v = .bool true ∧ St w [] w' []) := by
  refine enter Tryz.func4 rfl Tryz.ntmps4 rfl ?_
  have hS := St.refl w []
  refine zS<|zR<|zB (v := .agg _) hS rfl rfl fun b1 w1 hS2=>zq 1 rfl<|zN<|zT<|zS<|zS<|zR<|zE fn5 rfl hS2 (landed_ok _) fun w3 hS5=>zq 1 rfl<|zN<|zT<|zf rfl<|zK<|zT<|zS<|zR<|zV (r_loadB ti25 ag25 rfl (hS5.heap Z0) Ln) ?_; refine zE fn9 rfl hS5 (rcheck_ok rs pa rs.length pc _ (hrs.st hS5) rfl hn (fun r hr => (hall r hr).st hS5)) fun w6 hS8=>zq 1 rfl<|zN<|zT<|zS<|zR<|zV (r_loadB ti25 ag25 rfl (hS8.heap Z0) Ln) ?_; refine zC fn10 rfl ((print_ok rs pa pc _ (hrs.st hS8) (fun r hr => (hall r hr).st hS8) hn (hv.st hS8)).mono (fun v w' h => pr3 h)) ?_
  rintro _ w9 (⟨hne1, rfl, hx10⟩ | ⟨hpe1, rq1, nq1, eq1, hq1, hno1, rfl, hx10⟩ | ⟨hpe1, rq1, nq1, eq1, hq1, hok1, rfl, hx10⟩)
  · have hS11 := hS8.ext hx10
    refine zq 5 rfl<|zN<|zT<|zS<|zR<|zV (r_loadB ti25 ag25 rfl (hS11.heap Z0) Ln) ?_; refine zC fn11 rfl ((rprint_ok rs pa pc _ (hrs.st hS11) (fun r hr => (hall r hr).st hS11) hn (hv.st hS11)).mono (fun v w' h => pr3 h)) ?_
    rintro _ w12 (⟨hne2, rfl, hx13⟩ | ⟨hpe2, rq2, nq2, eq2, hq2, hno2, rfl, hx13⟩ | ⟨hpe2, rq2, nq2, eq2, hq2, hok2, rfl, hx13⟩)
    · have hS14 := hS11.ext hx13
      refine zq 5 rfl<|zN<|zT<|zS<|zR<|zV (r_loadB ti25 ag25 rfl (hS14.heap Z0) Ln) ?_; refine zC fn12 rfl ((policySum_ok rs pa pc _ (hrs.st hS14) (fun r hr => (hall r hr).st hS14) hn (hv.st hS14)).mono (fun v w' h => pr3 h)) ?_
      rintro _ w15 (⟨hne3, rfl, hx16⟩ | ⟨hpe3, rq3, nq3, eq3, hq3, hno3, rfl, hx16⟩ | ⟨hpe3, rq3, nq3, eq3, hq3, hok3, rfl, hx16⟩)
      · have hS17 := hS14.ext hx16
        refine zq 3 rfl<|zA (C := ((List.replicate 32 (0 : UInt8)).map b8)) hS17 ti35 rfl fun bb8 w18 hS19=>zY (x_storeW [] hS19 ti35 rfl rfl (by simp) (by first | (simp; done) | (rw [List.length_map]; exact sumL_len _ _)) (one_b8 _)) ?_; intro w20 hS21; simp only [ca, na] at hS21; refine zq 1 rfl<|zN<|zT<|zS<|zS<|zR<|zV (r_loadB ti25 ag25 rfl (hS21.heap Z1) Ln) ?_; refine zE fn13 rfl hS21 (check_ok rs pa rs.length pc _ (hrs.st hS21) rfl hn (fun r hr => (hall r hr).st hS21)) fun w22 hS24=>zq 1 rfl<|wl_dec_f (r_neq rfl rfl) rfl (not_not_intro rfl)<|zq 3 rfl<|wl_dec_f (r_neqStrL rfl rfl) rfl (not_not_intro rfl)<|zq 4 rfl<|wl_dec_f (r_neq rfl rfl) rfl (not_not_intro rfl)<|zq 4 rfl<|wl_dec_f (r_neq rfl rfl) rfl (not_not_intro rfl)<|zq 1 rfl<|zN<|zT<|zf rfl<|zK<|zT<|zS<|zS<|zR<|zq 1 rfl<|wl_dec_t (r_neq rfl rfl) rfl hne2<|zN<|zT<|zt rfl<|zS ?_; refine zR<|zV (r_loadB ti35 rfl rfl (hS24.heap Z0) Ln) ?_; refine zV (r_build0 (cs := ((List.replicate 32 (0 : UInt8)).map b8)) ti35.und ti35 ti5)<|wl_dec_t (r_eqlA (u := undef) eg35 rfl rfl (eqIs_b8 ti35.und ti5 _ _ Ln Ln)) rfl rfl ?_; refine zq 1 rfl<|zN<|zT<|zU<|zL<|ret1 Tryz.results4 ?_
        exact ⟨rfl, hS24.fin⟩
      · exact absurd hpe3 hne1
      exact absurd hpe3 hne1
    · exact absurd hpe2 hne1
    exact absurd hpe2 hne1
  · have hS11 := hS8.ext hx10
    refine zq 5 rfl<|zN<|zT<|zS<|zR<|zV (r_loadB ti25 ag25 rfl (hS11.heap Z0) Ln) ?_; refine zC fn11 rfl ((rprint_ok rs pa pc _ (hrs.st hS11) (fun r hr => (hall r hr).st hS11) hn (hv.st hS11)).mono (fun v w' h => pr3 h)) ?_
    rintro _ w25 (⟨hne2, rfl, hx26⟩ | ⟨hpe2, rq2, nq2, eq2, hq2, hno2, rfl, hx26⟩ | ⟨hpe2, rq2, nq2, eq2, hq2, hok2, rfl, hx26⟩)
    · exact absurd hpe1 hne2
    · have hS27 := hS11.ext hx26
      refine zq 5 rfl<|zN<|zT<|zS<|zR<|zV (r_loadB ti25 ag25 rfl (hS27.heap Z0) Ln) ?_; refine zC fn12 rfl ((policySum_ok rs pa pc _ (hrs.st hS27) (fun r hr => (hall r hr).st hS27) hn (hv.st hS27)).mono (fun v w' h => pr3 h)) ?_
      rintro _ w28 (⟨hne3, rfl, hx29⟩ | ⟨hpe3, rq3, nq3, eq3, hq3, hno3, rfl, hx29⟩ | ⟨hpe3, rq3, nq3, eq3, hq3, hok3, rfl, hx29⟩)
      · exact absurd hpe1 hne3
      · have hS30 := hS27.ext hx29
        refine zq 3 rfl<|zA (C := ((List.replicate 32 (0 : UInt8)).map b8)) hS30 ti35 rfl fun bb8 w31 hS32=>zY (x_storeW [] hS32 ti35 rfl rfl (by simp) (by first | (simp; done) | (rw [List.length_map]; exact sumL_len _ _)) (one_b8 _)) ?_; intro w33 hS34; simp only [ca, na] at hS34; refine zq 1 rfl<|zN<|zT<|zS<|zS<|zR<|zV (r_loadB ti25 ag25 rfl (hS34.heap Z1) Ln) ?_; refine zE fn13 rfl hS34 (check_ok rs pa rs.length pc _ (hrs.st hS34) rfl hn (fun r hr => (hall r hr).st hS34)) fun w35 hS37=>zq 1 rfl<|wl_dec_f (r_neq rfl rfl) rfl (not_not_intro rfl)<|zq 3 rfl<|wl_dec_f (r_neqStrL rfl rfl) rfl (not_not_intro rfl)<|zq 4 rfl<|wl_dec_f (r_neq rfl rfl) rfl (by decide)<|zq 4 rfl<|wl_dec_f (r_neq rfl rfl) rfl (by decide)<|zq 1 rfl<|zN<|zT<|zf rfl<|zK<|zT<|zS<|zS<|zR<|zq 1 rfl<|wl_dec_t (r_neq rfl rfl) rfl (by decide)<|zN<|zT<|zt rfl<|zS ?_; refine zR<|zV (r_loadB ti35 rfl rfl (hS37.heap Z0) Ln) ?_; refine zV (r_build0 (cs := ((List.replicate 32 (0 : UInt8)).map b8)) ti35.und ti35 ti5)<|wl_dec_t (r_eqlA (u := undef) eg35 rfl rfl (eqIs_b8 ti35.und ti5 _ _ Ln Ln)) rfl rfl ?_; refine zq 1 rfl<|zN<|zT<|zU<|zL<|ret1 Tryz.results4 ?_
        exact ⟨rfl, hS37.fin⟩
      (obtain ⟨hu1, hu2, hu3⟩ := polT_uniq hq1 hq3; exact absurd ⟨by omega, hu1.trans hok3.2⟩ hno1)
    (obtain ⟨hu1, hu2, hu3⟩ := polT_uniq hq1 hq2; exact absurd ⟨by omega, hu1.trans hok2.2⟩ hno1)
  have hS11 := hS8.ext hx10; refine zq 5 rfl<|zN<|zT<|zS<|zR<|zV (r_loadB ti25 ag25 rfl (hS11.heap Z0) Ln) ?_; refine zC fn11 rfl ((rprint_ok rs pa pc _ (hrs.st hS11) (fun r hr => (hall r hr).st hS11) hn (hv.st hS11)).mono (fun v w' h => pr3 h)) ?_
  rintro _ w38 (⟨hne2, rfl, hx39⟩ | ⟨hpe2, rq2, nq2, eq2, hq2, hno2, rfl, hx39⟩ | ⟨hpe2, rq2, nq2, eq2, hq2, hok2, rfl, hx39⟩)
  · exact absurd hpe1 hne2
  · (obtain ⟨hu1, hu2, hu3⟩ := polT_uniq hq1 hq2; exact absurd ⟨by omega, hu1.symm.trans hok1.2⟩ hno2)
  have hS40 := hS11.ext hx39; refine zq 5 rfl<|zN<|zT<|zS<|zR<|zV (r_loadB ti25 ag25 rfl (hS40.heap Z0) Ln) ?_; refine zC fn12 rfl ((policySum_ok rs pa pc _ (hrs.st hS40) (fun r hr => (hall r hr).st hS40) hn (hv.st hS40)).mono (fun v w' h => pr3 h)) ?_
  rintro _ w41 (⟨hne3, rfl, hx42⟩ | ⟨hpe3, rq3, nq3, eq3, hq3, hno3, rfl, hx42⟩ | ⟨hpe3, rq3, nq3, eq3, hq3, hok3, rfl, hx42⟩)
  · exact absurd hpe1 hne3
  · (obtain ⟨hu1, hu2, hu3⟩ := polT_uniq hq1 hq3; exact absurd ⟨by omega, hu1.symm.trans hok1.2⟩ hno3)
  have hS43 := hS40.ext hx42; refine zq 3 rfl<|zA (C := ((List.replicate 32 (0 : UInt8)).map b8)) hS43 ti35 rfl fun bb8 w44 hS45=>zY (x_storeW [] hS45 ti35 rfl rfl (by simp) (by first | (simp; done) | (rw [List.length_map]; exact sumL_len _ _)) (one_b8 _)) ?_; intro w46 hS47; simp only [ca, na] at hS47; refine zq 1 rfl<|zN<|zT<|zS<|zS<|zR<|zV (r_loadB ti25 ag25 rfl (hS47.heap Z1) Ln) ?_; refine zE fn13 rfl hS47 (check_ok rs pa rs.length pc _ (hrs.st hS47) rfl hn (fun r hr => (hall r hr).st hS47)) fun w48 hS50=>zq 1 rfl<|wl_dec_f (r_neq rfl rfl) rfl (not_not_intro rfl)<|zq 3 rfl<|wl_dec_f (r_neqStrL rfl rfl) rfl (not_not_intro rfl)<|zq 4 rfl<|wl_dec_f (r_neq rfl rfl) rfl (by decide)<|zq 4 rfl<|wl_dec_f (r_neq rfl rfl) rfl (by decide)<|zq 1 rfl<|zN<|zT<|zf rfl<|zK<|zT<|zS<|zS<|zR<|zq 1 rfl<|wl_dec_f (r_neq rfl rfl) rfl (by decide)<|zN<|zT<|zf rfl<|zK ?_; refine zT<|zS<|zR<|zq 1 rfl<|zC fn6 rfl (parse_ok (polTx rs) _ (hv.st hS50)) ?_
  rintro _ w51 (⟨n4, e4, hp4, hne4, rfl, hx52⟩ | ⟨rs4, a4, c4, LT4, hp4, hT4, hc4, rfl, hx52⟩)
  · exact absurd ((polT_uniq hp4 hq1).2.2.trans hok1.1) hne4
  have hS53 := St.callT (X := [_]) (LT := LT4) hS50 hx52
  simp only [ca, na] at hS53; refine zq 4 rfl<|zA (C := [.slice none 0 0]) hS53 ti25 rfl fun b10 w54 hS55=> ?_; refine wl_exs (x_storeW [] hS55 ti25 rfl rfl Ln Ln On) rfl ?_; intro w56 hS57; simp only [ca, na] at hS57; refine zq 2 rfl<|zN<|zT<|zS ?_
  obtain ⟨h100, hoks⟩ := polE_zero hpe1
  have hpl := polTx_le (fun r hr => tidy_of (hoks r hr))
  have hsame : rs.map nrmR = rs4.map nrmR := ((polT_uniq hp4 hq1).1.trans hok1.2).symm
  refine c_drawS 16 hMixed hS57 ?_; intro w58 hS59; refine zG 0 rfl hS59 (fun wF hF => r_loadB ti35 rfl rfl (hF.heap Z2) Ln) ?_; refine zG 1 rfl hS59 (fun wF hF => r_move (v := .string _) rfl) ?_; refine zG1 2 ?_; refine o_exv rfl (x_strBytes hS59 ti39.und ti9.und ti5.und rfl) rfl ?_; rintro _ w60 ⟨b64, c64, C64, fz64, rfl, hcc64, hC64, hS61⟩
  refine ⟨hS61.drop1, ?_⟩
  refine zG1 3 ?_; refine o_call rfl (r_call fn14 rfl rfl) rfl (rsum_ok 0 (polTx rs) _ _ _ _ (Row.of_frz (hS61.heap Z0) hC64) rfl Om) ?_; rintro _ w62 ⟨rfl, hx63⟩; have hS64 := hS61.ext hx63
  refine ⟨hS64.drop1, ?_⟩
  refine g_dec_t 4 rfl (by decide +kernel) rfl (fun _ _ _ _ h => h) hS64.drop1 (fun wF hF => r_eqlA (u := undef) eg35 rfl rfl (eqIs_b8 ti35.und ti5 _ _ Ln Ln)) rfl ?_; refine zG 5 rfl hS64.drop1 (fun wF hF => r_move (v := .bool _) rfl) ?_; refine zG 6 rfl hS64.drop1 (fun wF hF => r_move (v := .int .i64 _) rfl) ?_; refine g_dec_t 7 rfl (by decide +kernel) rfl (fun _ _ _ _ h => h) hS64.drop1 (fun wF hF => r_eql rfl rfl) (by decide)<|zG 8 rfl hS64.drop1 (fun wF hF => r_pick_t rfl (v := .bool _) rfl) ?_; refine zG 9 rfl hS64.drop1 (fun wF hF => r_move (v := .bool _) rfl) ?_; refine zG 10 rfl hS64.drop1 (fun wF hF => r_move (v := .int .i64 _) rfl) ?_; refine g_dec_t 11 rfl (by decide +kernel) rfl (fun _ _ _ _ h => h) hS64.drop1 (fun wF hF => r_eql rfl rfl) (by decide)<|zG 12 rfl hS64.drop1 (fun wF hF => r_pick_t rfl (v := .bool _) rfl) ?_; refine zG 13 rfl hS64.drop1 (fun wF hF => r_move (v := .bool _) rfl) ?_; refine zG 14 rfl hS64.drop1 (fun wF hF => r_loadB ti25 ag25 rfl (hF.heap Z3) Ln) ?_; refine zG 15 rfl hS64.drop1 (fun wF hF => r_loadB ti25 ag25 rfl (hF.heap Z0) Ln) ?_; refine zGT rfl ?_; refine zE fn8 rfl hS64 (samePolicyY_t rs rs4 _ _ _ _ _ (hrs.st hS64) (St.rowAt hS64 Z2) (fun q hq => (hall q hq).st hS64) (hT4 _ (hS64.hold fun x hx => by simp [hx])) hsame Om) fun w65 hS67=> ?_; refine zq 2 rfl<|zN<|zT<|zU<|ret1 Tryz.results4 ?_
  exact ⟨rfl, hS67.fin⟩

theorem star : "*" ++ "errors.errorString" = "*errors.errorString" := by decide
theorem esRow (u : TypeId) (h : Tryz.prog.typeName? 3 u = some "*errors.errorString") : u = 203 :=
  typeName_ptr_named (nm := "errors.errorString") (by rw [star]; kernel_rfl) (by kernel_rfl) (by decide) u (by rw [star]; exact h)
theorem gl5 : Tryz.prog.globalNamed "strconv.ErrSyntax" = some 5 := by kernel_rfl
theorem gt5 : (Tryz.prog.globals[5]?).map (·.type) = some 94 := by kernel_rfl
theorem gl6 : Tryz.prog.globalNamed "strconv.ErrRange" = some 6 := by kernel_rfl
theorem gt6 : (Tryz.prog.globals[6]?).map (·.type) = some 94 := by kernel_rfl

theorem own : ownKnob Tryz.prog.godebug = none := by kernel_rfl
theorem laidOut : laidOutB Tryz.prog = true := by kernel_rfl
theorem readable25 : Tryz.prog.readableRec 25 = true := by kernel_rfl
theorem inside25 : decide (25 < Tryz.prog.types.size) = true := by kernel_rfl
noncomputable def low : Nat := (World.holding Tryz.prog default ⟨#[], #[], []⟩).heap.size
/-- A world for the witness: the settled one, the variables holding what their initialisers lay. -/
noncomputable def laidWorld (os : Os) : World :=
  { World.holding Tryz.prog os ⟨#[.cells #[.string ⟨#[118, 97, 108, 117, 101, 32, 111, 117, 116, 32, 111, 102, 32, 114, 97, 110, 103, 101]⟩] 205, .cells #[.string ⟨#[105, 110, 118, 97, 108, 105, 100, 32, 115, 121, 110, 116, 97, 120]⟩] 205, .cells #[.int .u16 9, .int .u16 13, .int .u16 1, .int .u16 32, .int .u16 133, .int .u16 101, .int .u16 160, .int .u16 5760, .int .u16 5600, .int .u16 8192, .int .u16 8202, .int .u16 1, .int .u16 8232, .int .u16 8233, .int .u16 1, .int .u16 8239, .int .u16 8287, .int .u16 48, .int .u16 12288, .int .u16 12288, .int .u16 1] 197, .cells #[.slice (some ⟨low + 2, 0, none⟩) 7 7, .slice none 0 0, .int .i64 2] 194], #[], []⟩ with heap := ((((((((((World.holding Tryz.prog os ⟨#[.cells #[.string ⟨#[118, 97, 108, 117, 101, 32, 111, 117, 116, 32, 111, 102, 32, 114, 97, 110, 103, 101]⟩] 205, .cells #[.string ⟨#[105, 110, 118, 97, 108, 105, 100, 32, 115, 121, 110, 116, 97, 120]⟩] 205, .cells #[.int .u16 9, .int .u16 13, .int .u16 1, .int .u16 32, .int .u16 133, .int .u16 101, .int .u16 160, .int .u16 5760, .int .u16 5600, .int .u16 8192, .int .u16 8202, .int .u16 1, .int .u16 8232, .int .u16 8233, .int .u16 1, .int .u16 8239, .int .u16 8287, .int .u16 48, .int .u16 12288, .int .u16 12288, .int .u16 1] 197, .cells #[.slice (some ⟨low + 2, 0, none⟩) 7 7, .slice none 0 0, .int .i64 2] 194], #[], []⟩).heap.modify 8 fun
      | .cells _ t frozen => .cells #[.int .u8 0, .int .u8 1, .int .u8 28, .int .u8 2, .int .u8 29, .int .u8 14, .int .u8 24, .int .u8 3, .int .u8 30, .int .u8 22, .int .u8 20, .int .u8 15, .int .u8 25, .int .u8 17, .int .u8 4, .int .u8 8, .int .u8 31, .int .u8 27, .int .u8 13, .int .u8 23, .int .u8 21, .int .u8 19, .int .u8 16, .int .u8 7, .int .u8 26, .int .u8 12, .int .u8 18, .int .u8 6, .int .u8 11, .int .u8 5, .int .u8 10, .int .u8 9] t frozen
      | o => o).modify 9 fun
      | .cells _ t frozen => .cells #[.int .u8 0, .int .u8 1, .int .u8 56, .int .u8 2, .int .u8 57, .int .u8 49, .int .u8 28, .int .u8 3, .int .u8 61, .int .u8 58, .int .u8 42, .int .u8 50, .int .u8 38, .int .u8 29, .int .u8 17, .int .u8 4, .int .u8 62, .int .u8 47, .int .u8 59, .int .u8 36, .int .u8 45, .int .u8 43, .int .u8 51, .int .u8 22, .int .u8 53, .int .u8 39, .int .u8 33, .int .u8 30, .int .u8 24, .int .u8 18, .int .u8 12, .int .u8 5, .int .u8 63, .int .u8 55, .int .u8 48, .int .u8 27, .int .u8 60, .int .u8 41, .int .u8 37, .int .u8 16, .int .u8 46, .int .u8 35, .int .u8 44, .int .u8 21, .int .u8 52, .int .u8 32, .int .u8 23, .int .u8 11, .int .u8 54, .int .u8 26, .int .u8 40, .int .u8 15, .int .u8 34, .int .u8 20, .int .u8 31, .int .u8 10, .int .u8 25, .int .u8 14, .int .u8 19, .int .u8 9, .int .u8 13, .int .u8 8, .int .u8 7, .int .u8 6] t frozen
      | o => o).modify 7 fun
      | .cells _ t frozen => .cells #[.int .u64 1, .int .u64 10, .int .u64 100, .int .u64 1000, .int .u64 10000, .int .u64 100000, .int .u64 1000000, .int .u64 10000000, .int .u64 100000000, .int .u64 1000000000, .int .u64 10000000000, .int .u64 100000000000, .int .u64 1000000000000, .int .u64 10000000000000, .int .u64 100000000000000, .int .u64 1000000000000000, .int .u64 10000000000000000, .int .u64 100000000000000000, .int .u64 1000000000000000000, .int .u64 10000000000000000000] t frozen
      | o => o).modify 2 fun
      | .cells _ t frozen => .cells #[.int .u8 128, .int .u8 191, .int .u8 160, .int .u8 191, .int .u8 128, .int .u8 159, .int .u8 144, .int .u8 191, .int .u8 128, .int .u8 143, .int .u8 0, .int .u8 0, .int .u8 0, .int .u8 0, .int .u8 0, .int .u8 0, .int .u8 0, .int .u8 0, .int .u8 0, .int .u8 0, .int .u8 0, .int .u8 0, .int .u8 0, .int .u8 0, .int .u8 0, .int .u8 0, .int .u8 0, .int .u8 0, .int .u8 0, .int .u8 0, .int .u8 0, .int .u8 0] t frozen
      | o => o).modify 3 fun
      | .cells _ t frozen => .cells #[.int .u8 0, .int .u8 0, .int .u8 0, .int .u8 0, .int .u8 0, .int .u8 0, .int .u8 0, .int .u8 0, .int .u8 0, .int .u8 1, .int .u8 1, .int .u8 1, .int .u8 1, .int .u8 1, .int .u8 0, .int .u8 0, .int .u8 0, .int .u8 0, .int .u8 0, .int .u8 0, .int .u8 0, .int .u8 0, .int .u8 0, .int .u8 0, .int .u8 0, .int .u8 0, .int .u8 0, .int .u8 0, .int .u8 0, .int .u8 0, .int .u8 0, .int .u8 0, .int .u8 1, .int .u8 0, .int .u8 0, .int .u8 0, .int .u8 0, .int .u8 0, .int .u8 0, .int .u8 0, .int .u8 0, .int .u8 0, .int .u8 0, .int .u8 0, .int .u8 0, .int .u8 0, .int .u8 0, .int .u8 0, .int .u8 0, .int .u8 0, .int .u8 0, .int .u8 0, .int .u8 0, .int .u8 0, .int .u8 0, .int .u8 0, .int .u8 0, .int .u8 0, .int .u8 0, .int .u8 0, .int .u8 0, .int .u8 0, .int .u8 0, .int .u8 0, .int .u8 0, .int .u8 0, .int .u8 0, .int .u8 0, .int .u8 0, .int .u8 0, .int .u8 0, .int .u8 0, .int .u8 0, .int .u8 0, .int .u8 0, .int .u8 0, .int .u8 0, .int .u8 0, .int .u8 0, .int .u8 0, .int .u8 0, .int .u8 0, .int .u8 0, .int .u8 0, .int .u8 0, .int .u8 0, .int .u8 0, .int .u8 0, .int .u8 0, .int .u8 0, .int .u8 0, .int .u8 0, .int .u8 0, .int .u8 0, .int .u8 0, .int .u8 0, .int .u8 0, .int .u8 0, .int .u8 0, .int .u8 0, .int .u8 0, .int .u8 0, .int .u8 0, .int .u8 0, .int .u8 0, .int .u8 0, .int .u8 0, .int .u8 0, .int .u8 0, .int .u8 0, .int .u8 0, .int .u8 0, .int .u8 0, .int .u8 0, .int .u8 0, .int .u8 0, .int .u8 0, .int .u8 0, .int .u8 0, .int .u8 0, .int .u8 0, .int .u8 0, .int .u8 0, .int .u8 0, .int .u8 0, .int .u8 0, .int .u8 0, .int .u8 0, .int .u8 0, .int .u8 0, .int .u8 0, .int .u8 0, .int .u8 0, .int .u8 0, .int .u8 0, .int .u8 0, .int .u8 0, .int .u8 0, .int .u8 0, .int .u8 0, .int .u8 0, .int .u8 0, .int .u8 0, .int .u8 0, .int .u8 0, .int .u8 0, .int .u8 0, .int .u8 0, .int .u8 0, .int .u8 0, .int .u8 0, .int .u8 0, .int .u8 0, .int .u8 0, .int .u8 0, .int .u8 0, .int .u8 0, .int .u8 0, .int .u8 0, .int .u8 0, .int .u8 0, .int .u8 0, .int .u8 0, .int .u8 0, .int .u8 0, .int .u8 0, .int .u8 0, .int .u8 0, .int .u8 0, .int .u8 0, .int .u8 0, .int .u8 0, .int .u8 0, .int .u8 0, .int .u8 0, .int .u8 0, .int .u8 0, .int .u8 0, .int .u8 0, .int .u8 0, .int .u8 0, .int .u8 0, .int .u8 0, .int .u8 0, .int .u8 0, .int .u8 0, .int .u8 0, .int .u8 0, .int .u8 0, .int .u8 0, .int .u8 0, .int .u8 0, .int .u8 0, .int .u8 0, .int .u8 0, .int .u8 0, .int .u8 0, .int .u8 0, .int .u8 0, .int .u8 0, .int .u8 0, .int .u8 0, .int .u8 0, .int .u8 0, .int .u8 0, .int .u8 0, .int .u8 0, .int .u8 0, .int .u8 0, .int .u8 0, .int .u8 0, .int .u8 0, .int .u8 0, .int .u8 0, .int .u8 0, .int .u8 0, .int .u8 0, .int .u8 0, .int .u8 0, .int .u8 0, .int .u8 0, .int .u8 0, .int .u8 0, .int .u8 0, .int .u8 0, .int .u8 0, .int .u8 0, .int .u8 0, .int .u8 0, .int .u8 0, .int .u8 0, .int .u8 0, .int .u8 0, .int .u8 0, .int .u8 0, .int .u8 0, .int .u8 0, .int .u8 0, .int .u8 0, .int .u8 0, .int .u8 0, .int .u8 0, .int .u8 0, .int .u8 0, .int .u8 0, .int .u8 0, .int .u8 0, .int .u8 0, .int .u8 0, .int .u8 0, .int .u8 0, .int .u8 0, .int .u8 0, .int .u8 0, .int .u8 0, .int .u8 0] t frozen
      | o => o).modify 1 fun
      | .cells _ t frozen => .cells (Lib.firstTab.map fun z => Value.int .u8 z).toArray t frozen
      | o => o).modify 4 fun
      | .cells _ t frozen => .cells #[.pointer (some ⟨low + 3, 0, none⟩)] t frozen
      | o => o).modify 6 fun
      | .cells _ t frozen => .cells #[.iface 203 (.pointer (some ⟨low + 0, 0, none⟩))] t frozen
      | o => o).modify 5 fun
      | .cells _ t frozen => .cells #[.iface 203 (.pointer (some ⟨low + 1, 0, none⟩))] t frozen
      | o => o) }
theorem laid_met (os : Os) : laidMet Tryz.prog Rows.policiesCheckRow.laid ((laidWorld os).forCall (fun _ _ => 0) ⟨#[], #[.agg #[.slice none 0 0]], []⟩).memory := laidMet_of_run3 10 (by kernel_rfl) (by kernel_rfl) (by kernel_rfl)
theorem reads (os : Os) {H : Type} (enc : TypeId × Value → H) : ∃ places, DataW.whole enc Tryz.prog ((laidWorld os).forCall (fun _ _ => 0) ⟨#[], #[.agg #[.slice none 0 0]], []⟩).memory Tryz.f4.params.toList Rows.policiesCheckSpec.vars false (#[.agg #[.slice none 0 0]] : Array Value).toList 8 = some ([.agg [.nil]], [], places) := ⟨[], by kernel_rfl⟩
theorem lifted (os : Os) (started : os.Started) (H : Type) (enc : TypeId × Value → H) (F : Stop.Interp) :
    ReturnsInHanded {} Tryz.checked os 4 .any ((OpenSpec.ofChange Rows.policiesCheckSpec).preRow enc Tryz.prog Tryz.f4 Rows.policiesCheckRow.domain false Rows.policiesCheckRow.laid) (((OpenSpec.ofChange Rows.policiesCheckSpec).at F).post enc Tryz.prog Tryz.f4 false true false false) := by
  obtain ⟨places, hx⟩ := reads os enc
  refine returnsInHanded_of_row (C := Tryz.checked) (s := (OpenSpec.ofChange Rows.policiesCheckSpec)) own started (by kernel_rfl) Tryz.func4
    (witness_row_atRef (enc := enc) (C := Tryz.checked) false (laidWorld os) #[.agg #[.slice none 0 0]] rfl (by kernel_rfl) (by kernel_rfl) (by kernel_rfl)
      (OpenSpec.preRow_of_cond 8 hx (by kernel_rfl) (fun k hk => by cases hk) (by kernel_rfl) (laid_met os))) ?_
  intro W base args ds gs before hval0 hW hcnd hk0 hsz0 hL hSh _
  have hval : ∀ (j : Nat) t v, Tryz.f4.params[j]? = some t → args[j]? = some v → Value.okWide Tryz.prog W .any base t v := hval0
  have hW' := hW
  obtain ⟨p, q, hA0, hV, rfl, hfz, hnd⟩ := hW
  have hA : DataW.TrodAll enc Tryz.prog W 0 (fun _ => true) true Tryz.f4.params.toList args.toList ds p := hA0
  have hsz : (DataW.weightsEach Tryz.prog (Tryz.f4.params.toList ++ Rows.policiesCheckSpec.plain.varTypes Tryz.prog) (ds ++ gs)).all (· ≤ reachBytes) = true := hsz0
  rw [Tryz.params4] at hA hval hsz
  obtain ⟨v0, vs0, d0, ds0, p0, q0, hargs, rfl, rfl, h0, r0⟩ := trodAll_cons hA
  obtain ⟨rfl, rfl, rfl⟩ := trodAll_nil r0
  obtain rfl : args = #[v0] := by cases args; simp_all
  obtain ⟨rfl, rfl⟩ := trodVars_none hV
  have lt0 : ∀ x ∈ p0, x.block < W.heap.size := by obtain ⟨m, hm⟩ := h0; exact DataW.trod_lt m _ _ _ hm
  have ok0 := hval 0 25 v0 rfl rfl
  obtain ⟨⟨pa, pc, rs⟩, rfl, hrs, hpc, hpcc, hall⟩ := open_struct (j := 0) Tryz.underlying25 (opens_policy (opens_struct Tryz.underlying25 (by kernel_rfl) (opensFs_cons (sz := 1) (opens_slice (sz := 8) (bts := 120) Tryz.underlying23 (by kernel_rfl) (by decide) (by kernel_rfl) (fun _ => rfl) (opens_rule (opens_struct Tryz.underlying51 (by kernel_rfl) (opensFs_cons (sz := 1) (opens_bool Tryz.underlying4) rfl (by kernel_rfl) (opensFs_cons (sz := 1) (opens_slice1 (bts := 16) Tryz.underlying42 (by kernel_rfl) (by kernel_rfl) (opens_str Tryz.underlying9)) rfl (by kernel_rfl) (opensFs_cons (sz := 1) (opens_slice1 (bts := 8) Tryz.underlying49 (by kernel_rfl) (by kernel_rfl) (opens_i64 Tryz.underlying3)) rfl (by kernel_rfl) (opensFs_cons (sz := 1) (opens_slice1 (bts := 16) Tryz.underlying42 (by kernel_rfl) (by kernel_rfl) (opens_str Tryz.underlying9)) rfl (by kernel_rfl) (opensFs_cons (sz := 1) (opens_i64 Tryz.underlying3) rfl (by kernel_rfl) (opensFs_cons (sz := 1) (opens_i64 Tryz.underlying3) rfl (by kernel_rfl) (opensFs_cons (sz := 1) (opens_i64 Tryz.underlying3) rfl (by kernel_rfl) (opensFs_cons (sz := 1) (opens_str Tryz.underlying9) rfl (by kernel_rfl) opensFs_nil (by simp)) (by simp)) (by simp)) (by simp)) (by simp)) (by simp)) (by simp)) (by simp))))) rfl (by kernel_rfl) opensFs_nil (by simp)))) ok0 h0 hsz rfl rfl
  simp only [] at hrs hpc hpcc hall
  have hL0 : laidMet Tryz.prog [("math/bits.deBruijn32tab", Rows.laid_math_bits_deBruijn32tab), ("math/bits.deBruijn64tab", Rows.laid_math_bits_deBruijn64tab), ("internal/strconv.uint64pow10", Rows.laid_internal_strconv_uint64pow10), ("unicode/utf8.acceptRanges", Rows.laid_unicode_utf8_acceptRanges), ("strconv.ErrRange", Rows.laid_strconv_ErrRange), ("strconv.ErrSyntax", Rows.laid_strconv_ErrSyntax), ("unicode.White_Space", Rows.laid_unicode_White_Space), ("strings.asciiSpace", Rows.laid_strings_asciiSpace), ("unicode/utf8.first", Rows.laid_unicode_utf8_first)] W := hL
  have hP : (Rows.laid_internal_strconv_uint64pow10 : DataW Unit) = Lib.tabData .u64 Lib.pow10Tab := by kernel_rfl
  have hP2 : (Rows.laid_strings_asciiSpace : DataW Unit) = Lib.tabData .u8 Lib.asciiSpaceTab := by kernel_rfl
  rw [hP, hP2] at hL0
  have hL2 := laidMet.tail (laidMet.tail hL0)
  have hTab : Lib.TabIs Tryz.prog W "internal/strconv.uint64pow10" .u64 Lib.pow10Tab := Lib.tabIs_of_head (g := 7) (t := 186) (e := 153) (n := 20) (by kernel_rfl) (by kernel_rfl) (by kernel_rfl) (by kernel_rfl) (by kernel_rfl) (by kernel_rfl) hL2
  have hL4 := laidMet.tail (laidMet.tail hL2)
  have hL7 := laidMet.tail (laidMet.tail (laidMet.tail hL4))
  have hAsc : Lib.TabIs Tryz.prog W "strings.asciiSpace" .u8 Lib.asciiSpaceTab := Lib.tabIs_of_head (g := 3) (t := 158) (e := 5) (n := 256) (by kernel_rfl) (by kernel_rfl) (by kernel_rfl) (by kernel_rfl) (by kernel_rfl) (by kernel_rfl) hL7
  have hMx := Go.Proofs.cell_of_shapedOpen_int (P := Tryz.prog) (g := 0) (t := 3) (zero := #[.int .i64 0]) hSh (of_decide_eq_true (by kernel_rfl)) (by kernel_rfl) rfl (by kernel_rfl) (by kernel_rfl) Tryz.underlying3
  have hRg : ∃ te pe, W.cell? ⟨6, 0, none⟩ = some (.iface te pe) := by
    obtain ⟨a, s', hv, _⟩ := Go.laid_sentinel hL4 gl6 gt6 ti94.und esRow ti203.und ti205.und rfl rfl ti9.und (by kernel_rfl) (by kernel_rfl)
    exact ⟨_, _, by simpa using World.var?_cell gl6 hv 0⟩
  have hSy : ∃ te pe, W.cell? ⟨5, 0, none⟩ = some (.iface te pe) := by
    obtain ⟨a, s', hv, _⟩ := Go.laid_sentinel (laidMet.tail hL4) gl5 gt5 ti94.und esRow ti203.und ti205.und rfl rfl ti9.und (by kernel_rfl) (by kernel_rfl)
    exact ⟨_, _, by simpa using World.var?_cell gl5 hv 0⟩
  have hv : VF W := ⟨hTab, hAsc, hMx, hSy, hRg⟩
  refine Calls.mono (walk rs pa pc W hrs (fun r hr => ⟨(hall r hr).1, (hall r hr).2.1, (hall r hr).2.2.1, (hall r hr).2.2.2⟩) (by omega) hv) fun e W' ⟨v, he, hv, hs⟩ => ?_
  subst hv; subst he
  have bel := hs.below
  exact ⟨_, rfl, _, _, _, [], _, [], hW', trodAll_mk1 (shut_bool Tryz.underlying4 _), (trodAll_cons_mk (Below.trod laidOut readable25 (of_decide_eq_true inside25) h0 bel lt0) trodAll_mk0), rfl, bel.frame _, fun h => by cases h⟩
theorem over : Rows.policiesCheckRow.holds Tryz.pinned (OpenSpec.ofChange Rows.policiesCheckSpec) :=
  OpenClaim.holds_of_cond 4 Tryz.f4 rfl rfl rfl rfl rfl rfl rfl ⟨rfl, rfl, rfl, rfl, rfl⟩ rfl rfl rfl rfl rfl (by kernel_rfl) Tryz.func4 (by kernel_rfl)
    (of_decide_eq_true (by kernel_rfl)) (by unfold Func.isWrapper; first | (rw [if_pos (by decide +kernel)]; kernel_rfl) | (rw [if_neg (by decide +kernel)]; exact ⟨rfl, rfl⟩))
    (fun os started H enc _ F => by rw [OpenClaim.pre_eq_preRow]; exact lifted os started H enc F)
theorem plain (f : FuncId) (fn : Func) (hf : Tryz.pinned.checked.prog.funcNamed "keywarden/keylaw1.PoliciesCheck" = some f) (hfn : Tryz.pinned.checked.prog.funcs[f]? = some fn) :
    true = Tryz.pinned.checked.prog.looks [] ∧ ∀ (j : Nat) t, fn.params[j]? = some t → Tryz.pinned.checked.prog.wantsStandIn t = false := by
  obtain rfl : f = 4 := Option.some.inj ((show Tryz.prog.funcNamed "keywarden/keylaw1.PoliciesCheck" = some 4 by kernel_rfl).symm.trans hf) |>.symm
  obtain rfl : fn = Tryz.f4 := (Option.some.inj (Tryz.func4.symm.trans hfn)).symm
  refine ⟨by kernel_rfl, fun j t ht => ?_⟩
  rw [Tryz.params4] at ht
  have w25 : Tryz.prog.wantsStandIn 25 = false := by kernel_rfl
  have hm : t ∈ [25] := by have := Array.mem_of_getElem? ht; simpa using this
  simp only [List.mem_cons, List.not_mem_nil, or_false] at hm
  rcases hm with rfl
  · exact w25
theorem proved : Rows.PoliciesCheckCardSaid :=
  Claim7.holds_tied_plain_at .later [] _ _ _ _ over (fun _ h => by cases h) (by kernel_rfl) (fun _ h => by cases h) policiesCheck_row_tie rfl ⟨rfl, rfl⟩ (by kernel_rfl) rfl plain (by kernel_rfl)
#print axioms proved
end Go.Proofs.YtjnnhlbfgnopiaaGreatDoor.lawPoliciesCheck
