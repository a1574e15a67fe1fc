/- For every finding and text (of bulk at most 1048576): Explain is the reference's, what is explained is read again, what is read is explained just so; the law's function returns true and turns nothing. No condition but the statement's bound and card. -/
import Derived.Test.YtkoknlcegiemnaaDoorPFiAF
import Derived.Test.YtkoknlcegiemnaaDoorPFiAW
import Derived.Test.YtkoknlcegiemnaaDoorRows
import Derived.Test.YtkoknlcegiemnaaDoorCards
import Derived.Test.YtkoknlcegiemnaaDoorTie
import Derived.Deep.DeepHandedRow
import Derived.Lib.LaidTab
import Derived.Stop.LaidErr
import Derived.Shelf.Vars
import Derived.ChangeMaps5
namespace Go.Proofs.YtkoknlcegiemnaaDoor.lawFindingsMatch
open Go.Kw Go.Proofs.YtkoknlcegiemnaaDoor
open Go.ChangeShapes Go.WideShapes Go.ChangeAt Go.RowKit
set_option linter.unusedVariables false
set_option linter.unusedSimpArgs false
set_option maxRecDepth 100000
set_option maxHeartbeats 20000000

theorem walk (st en at_ er : Int) (l : List UInt8) (w : World) (hi : FD.In ⟨st, en, at_, er⟩) (hl : l.length ≤ 1048576) (hv : VF w) :
    Ret Tryd.prog 3 [.agg #[.int .i64 st, .int .i64 en, .int .i64 at_, .int .i64 er], .string ⟨(l).toArray⟩] w (fun v w' => v = .bool true ∧ St w [] w' []) := by
  refine enter Tryd.func3 rfl Tryd.ntmps3 rfl ?_
  have hS := St.refl w []
  refine c_seq ?_; refine c_region ?_; refine wl_exv (x_box hS (v := .agg _) rfl rfl) rfl ?_; rintro _ w1 ⟨b2, rfl, hS2⟩; refine wl_val (r_assign (v := .bool false) rfl) rfl ?_; refine wl_nil ?_; refine c_then ?_; refine c_seq ?_; refine c_seq ?_; refine c_region ?_; refine wl_call (r_call fn4 rfl rfl) rfl (landed_ok _) ?_; rintro _ w3 ⟨rfl, hx4⟩
  have hS5 := hS2.ext hx4
  refine wl_val (r_not rfl) rfl ?_; refine wl_nil ?_; refine c_then ?_; refine c_false rfl ?_; refine wp_skip ?_; refine c_then ?_; refine c_seq ?_; refine c_region ?_; refine wl_val (r_loadB ti24 ag24 rfl (hS5.heap (.head _)) (by first | (simp [*]; done) | (simp [*] <;> omega) | omega)) rfl ?_; refine wl_call (r_call fn5 rfl rfl) rfl (explain_ok st en at_ er _ hi (hv.st hS5)) ?_; rintro _ w6 ⟨rfl, hx7⟩
  have hS8 := hS5.ext hx7
  refine wl_val (r_move (v := .tuple _) rfl) rfl ?_; refine wl_val (r_extract (v := .string _) rfl rfl) rfl ?_; refine wl_val (r_extract (v := .int .i64 _) rfl rfl) rfl ?_; refine wl_val (r_assign (v := .string _) rfl) rfl ?_; refine wl_val (r_assign (v := .int .i64 _) rfl) rfl ?_; refine wl_nil ?_; refine c_then ?_; refine c_seq ?_; refine c_region ?_; refine wl_val (r_loadB ti24 ag24 rfl (hS8.heap (.head _)) (by first | (simp [*]; done) | (simp [*] <;> omega) | omega)) rfl ?_; refine wl_call (r_call fn6 rfl rfl) rfl (rexplain_ok st en at_ er _ hi (hv.st hS8)) ?_; rintro _ w9 ⟨rfl, hx10⟩
  have hS11 := hS8.ext hx10
  refine wl_val (r_move (v := .tuple _) rfl) rfl ?_; refine wl_val (r_extract (v := .string _) rfl rfl) rfl ?_; refine wl_val (r_extract (v := .int .i64 _) rfl rfl) rfl ?_; refine wl_val (r_assign (v := .string _) rfl) rfl ?_; refine wl_val (r_assign (v := .int .i64 _) rfl) rfl ?_; refine wl_nil ?_; refine c_then ?_; refine c_seq ?_; refine c_seq ?_; refine c_region ?_; refine wl_val (r_move (v := .string _) rfl) rfl ?_; refine wl_val (r_move (v := .string _) rfl) rfl ?_; refine wl_dec_f (r_neqStrL rfl rfl) rfl (not_not_intro rfl) ?_; refine wl_val (r_move (v := .bool _) rfl) rfl ?_; refine wl_val (r_move (v := .int .i64 _) rfl) rfl ?_; refine wl_val (r_move (v := .int .i64 _) rfl) rfl ?_; refine wl_dec_f (r_neq rfl rfl) rfl (not_not_intro rfl) ?_; refine wl_val (r_pick_f rfl (v := .bool _) rfl) rfl ?_; refine wl_nil ?_; refine c_then ?_; refine c_false rfl ?_; refine wp_skip ?_; refine c_then ?_; refine c_seq ?_; refine c_seq ?_; refine c_region ?_; refine wl_val (r_move (v := .int .i64 _) rfl) rfl ?_
  refine wl_dec (r_eql rfl rfl) rfl (fun h7_1 => ?_) (fun h7_1 => ?_)
  · refine wl_nil ?_
    refine c_then ?_; refine c_true rfl ?_; refine c_seq ?_; refine c_region ?_; refine wl_val (r_move (v := .string _) rfl) rfl ?_; refine wl_call (r_call fn7 rfl rfl) rfl (parse_back st en at_ er _ hi (by assumption) (hv.st hS11)) ?_; rintro _ w12 ⟨rfl, hx13⟩
    have hS14 := hS11.ext hx13
    refine wl_val (r_move (v := .tuple _) rfl) rfl ?_; refine wl_val (r_extract (v := .agg _) rfl rfl) rfl ?_; refine wl_val (r_extract (v := .int .i64 _) rfl rfl) rfl ?_; refine wl_exv (x_alloc (C := (List.replicate 4 (.int .i64 0 : Value))) hS14 ti24 rfl) rfl ?_; rintro _ w15 ⟨b9, rfl, hS16⟩; refine wl_exs (x_storeW [] hS16 ti24 rfl rfl (by first | (simp [*]; done) | (simp [*] <;> omega) | omega) (by first | (simp [*]; done) | (simp [*] <;> omega) | omega) (by repeat' first | exact one_nil | exact one_b8 _ | exact one_v32 _ | exact one_all rfl | refine one_cons rfl ?_ | refine one_app ?_ ?_)) rfl ?_; intro w17 hS18; simp only [List.cons_append, List.nil_append] at hS18; refine wl_val (r_assign (v := .int .i64 _) rfl) rfl ?_; refine wl_nil ?_; refine c_then ?_; refine c_seq ?_; refine c_region ?_; refine wl_val (r_loadB ti24 ag24 rfl (hS18.heap (.head _)) (by first | (simp [*]; done) | (simp [*] <;> omega) | omega)) rfl ?_; refine wl_val (r_loadB ti24 ag24 rfl (hS18.heap (.tail _ (.head _))) (by first | (simp [*]; done) | (simp [*] <;> omega) | omega)) rfl ?_; refine wl_dec_f (r_neqA (u := undef) eg24 rfl rfl eqFind) rfl (not_not_intro ⟨rfl, rfl, rfl, rfl⟩) ?_; refine wl_val (r_move (v := .bool _) rfl) rfl ?_; refine wl_val (r_move (v := .int .i64 _) rfl) rfl ?_; refine wl_dec_f (r_neq rfl rfl) rfl (by decide) ?_; refine wl_val (r_pick_f rfl (v := .bool _) rfl) rfl ?_; refine wl_nil ?_; refine c_then ?_; refine c_false rfl ?_; refine wp_skip ?_; refine c_then ?_; refine c_seq ?_
    refine c_region ?_; refine wl_val (r_move (v := .string _) rfl) rfl ?_; refine wl_call (r_call fn7 rfl rfl) rfl (parse_two l _ hl (hv.st hS18)) ?_
    rintro _ w19 (⟨rfl, hx20⟩ | ⟨st2, en2, at2, er2, hi2, he2, ht2, rfl, hx20⟩)
    · have hS21 := hS18.ext hx20
      refine wl_val (r_move (v := .tuple _) rfl) rfl ?_; refine wl_val (r_extract (v := .agg _) rfl rfl) rfl ?_; refine wl_val (r_extract (v := .int .i64 _) rfl rfl) rfl ?_; refine wl_exv (x_alloc (C := (List.replicate 4 (.int .i64 0 : Value))) hS21 ti24 rfl) rfl ?_; rintro _ w22 ⟨b11, rfl, hS23⟩; refine wl_exs (x_storeW [] hS23 ti24 rfl rfl (by first | (simp [*]; done) | (simp [*] <;> omega) | omega) (by first | (simp [*]; done) | (simp [*] <;> omega) | omega) (by repeat' first | exact one_nil | exact one_b8 _ | exact one_v32 _ | exact one_all rfl | refine one_cons rfl ?_ | refine one_app ?_ ?_)) rfl ?_; intro w24 hS25; simp only [List.cons_append, List.nil_append] at hS25; refine wl_val (r_assign (v := .int .i64 _) rfl) rfl ?_; refine wl_nil ?_; refine c_then ?_; refine c_seq ?_; refine c_seq ?_; refine c_region ?_; refine wl_val (r_move (v := .int .i64 _) rfl) rfl ?_; refine wl_dec_t (r_neq rfl rfl) rfl (by decide) ?_; refine wl_nil ?_; refine c_then ?_; refine c_true rfl ?_; refine c_seq ?_; refine c_region ?_; refine wl_val (r_move (v := .int .i64 _) rfl) rfl ?_; refine wl_dec_t (r_eql rfl rfl) rfl (by decide) ?_; refine wl_val (r_move (v := .bool _) rfl) rfl ?_; refine wl_val (r_loadB ti24 ag24 rfl (hS25.heap (.head _)) (by first | (simp [*]; done) | (simp [*] <;> omega) | omega)) rfl ?_; refine wl_val (r_buildZ pl24 ti24) rfl ?_; refine wl_dec_t (r_eqlA (u := undef) eg24 rfl rfl eqFind) rfl ⟨rfl, rfl, rfl, rfl⟩ ?_; refine wl_val (r_pick_t rfl (v := .bool _) rfl) rfl ?_
      refine wl_val (r_assign (v := .bool _) rfl) rfl ?_; refine wl_nil ?_; refine c_then ?_; refine wp_ret ?_; refine c_thenR ?_; refine ret1 Tryd.results3 ?_
      exact ⟨rfl, hS25.fin⟩
    have hS21 := hS18.ext hx20
    refine wl_val (r_move (v := .tuple _) rfl) rfl ?_; refine wl_val (r_extract (v := .agg _) rfl rfl) rfl ?_; refine wl_val (r_extract (v := .int .i64 _) rfl rfl) rfl ?_; refine wl_exv (x_alloc (C := (List.replicate 4 (.int .i64 0 : Value))) hS21 ti24 rfl) rfl ?_; rintro _ w26 ⟨b11, rfl, hS27⟩; refine wl_exs (x_storeW [] hS27 ti24 rfl rfl (by first | (simp [*]; done) | (simp [*] <;> omega) | omega) (by first | (simp [*]; done) | (simp [*] <;> omega) | omega) (by repeat' first | exact one_nil | exact one_b8 _ | exact one_v32 _ | exact one_all rfl | refine one_cons rfl ?_ | refine one_app ?_ ?_)) rfl ?_; intro w28 hS29; simp only [List.cons_append, List.nil_append] at hS29; refine wl_val (r_assign (v := .int .i64 _) rfl) rfl ?_; refine wl_nil ?_; refine c_then ?_; refine c_seq ?_; refine c_seq ?_; refine c_region ?_; refine wl_val (r_move (v := .int .i64 _) rfl) rfl ?_; refine wl_dec_f (r_neq rfl rfl) rfl (by decide) ?_; refine wl_nil ?_; refine c_then ?_; refine c_false rfl ?_; refine wp_skip ?_; refine c_then ?_; refine c_seq ?_; refine c_region ?_; refine wl_val (r_loadB ti24 ag24 rfl (hS29.heap (.head _)) (by first | (simp [*]; done) | (simp [*] <;> omega) | omega)) rfl ?_; refine wl_call (r_call fn6 rfl rfl) rfl (rexplain_ok st2 en2 at2 er2 _ hi2 (hv.st hS29)) ?_; rintro _ w30 ⟨rfl, hx31⟩
    have hS32 := hS29.ext hx31
    refine wl_val (r_move (v := .tuple _) rfl) rfl ?_; refine wl_val (r_extract (v := .string _) rfl rfl) rfl ?_; refine wl_val (r_extract (v := .int .i64 _) rfl rfl) rfl ?_; refine wl_val (r_assign (v := .string _) rfl) rfl ?_; refine wl_val (r_assign (v := .int .i64 _) rfl) rfl ?_; refine wl_nil ?_; refine c_then ?_; refine c_seq ?_; refine c_region ?_; refine wl_val (r_move (v := .int .i64 _) rfl) rfl ?_; refine wl_dec_t (r_eql rfl rfl) rfl he2 ?_; refine wl_val (r_move (v := .bool _) rfl) rfl ?_; refine wl_val (r_move (v := .string _) rfl) rfl ?_; refine wl_val (r_move (v := .string _) rfl) rfl ?_; refine wl_dec_t (r_eqlStrL rfl rfl) rfl ((FD.x_ok he2).trans ht2) ?_; refine wl_val (r_pick_t rfl (v := .bool _) rfl) rfl ?_; refine wl_val (r_assign (v := .bool _) rfl) rfl ?_; refine wl_nil ?_; refine c_then ?_; refine wp_ret ?_; refine ret1 Tryd.results3 ?_
    exact ⟨rfl, hS32.fin⟩
  refine wl_nil ?_; refine c_then ?_; refine c_false rfl ?_; refine wp_skip ?_; refine c_then ?_; refine c_seq ?_; refine c_region ?_; refine wl_val (r_move (v := .string _) rfl) rfl ?_; refine wl_call (r_call fn7 rfl rfl) rfl (parse_two l _ hl (hv.st hS11)) ?_
  rintro _ w33 (⟨rfl, hx34⟩ | ⟨st2, en2, at2, er2, hi2, he2, ht2, rfl, hx34⟩)
  · have hS35 := hS11.ext hx34
    refine wl_val (r_move (v := .tuple _) rfl) rfl ?_; refine wl_val (r_extract (v := .agg _) rfl rfl) rfl ?_; refine wl_val (r_extract (v := .int .i64 _) rfl rfl) rfl ?_; refine wl_exv (x_alloc (C := (List.replicate 4 (.int .i64 0 : Value))) hS35 ti24 rfl) rfl ?_; rintro _ w36 ⟨b11, rfl, hS37⟩; refine wl_exs (x_storeW [] hS37 ti24 rfl rfl (by first | (simp [*]; done) | (simp [*] <;> omega) | omega) (by first | (simp [*]; done) | (simp [*] <;> omega) | omega) (by repeat' first | exact one_nil | exact one_b8 _ | exact one_v32 _ | exact one_all rfl | refine one_cons rfl ?_ | refine one_app ?_ ?_)) rfl ?_; intro w38 hS39; simp only [List.cons_append, List.nil_append] at hS39; refine wl_val (r_assign (v := .int .i64 _) rfl) rfl ?_; refine wl_nil ?_; refine c_then ?_; refine c_seq ?_; refine c_seq ?_; refine c_region ?_; refine wl_val (r_move (v := .int .i64 _) rfl) rfl ?_; refine wl_dec_t (r_neq rfl rfl) rfl (by decide) ?_; refine wl_nil ?_; refine c_then ?_; refine c_true rfl ?_; refine c_seq ?_; refine c_region ?_; refine wl_val (r_move (v := .int .i64 _) rfl) rfl ?_; refine wl_dec_t (r_eql rfl rfl) rfl (by decide) ?_; refine wl_val (r_move (v := .bool _) rfl) rfl ?_; refine wl_val (r_loadB ti24 ag24 rfl (hS39.heap (.head _)) (by first | (simp [*]; done) | (simp [*] <;> omega) | omega)) rfl ?_; refine wl_val (r_buildZ pl24 ti24) rfl ?_; refine wl_dec_t (r_eqlA (u := undef) eg24 rfl rfl eqFind) rfl ⟨rfl, rfl, rfl, rfl⟩ ?_; refine wl_val (r_pick_t rfl (v := .bool _) rfl) rfl ?_; refine wl_val (r_assign (v := .bool _) rfl) rfl ?_
    refine wl_nil ?_; refine c_then ?_; refine wp_ret ?_; refine c_thenR ?_; refine ret1 Tryd.results3 ?_
    exact ⟨rfl, hS39.fin⟩
  have hS35 := hS11.ext hx34
  refine wl_val (r_move (v := .tuple _) rfl) rfl ?_; refine wl_val (r_extract (v := .agg _) rfl rfl) rfl ?_; refine wl_val (r_extract (v := .int .i64 _) rfl rfl) rfl ?_; refine wl_exv (x_alloc (C := (List.replicate 4 (.int .i64 0 : Value))) hS35 ti24 rfl) rfl ?_; rintro _ w40 ⟨b11, rfl, hS41⟩; refine wl_exs (x_storeW [] hS41 ti24 rfl rfl (by first | (simp [*]; done) | (simp [*] <;> omega) | omega) (by first | (simp [*]; done) | (simp [*] <;> omega) | omega) (by repeat' first | exact one_nil | exact one_b8 _ | exact one_v32 _ | exact one_all rfl | refine one_cons rfl ?_ | refine one_app ?_ ?_)) rfl ?_; intro w42 hS43; simp only [List.cons_append, List.nil_append] at hS43; refine wl_val (r_assign (v := .int .i64 _) rfl) rfl ?_; refine wl_nil ?_; refine c_then ?_; refine c_seq ?_; refine c_seq ?_; refine c_region ?_; refine wl_val (r_move (v := .int .i64 _) rfl) rfl ?_; refine wl_dec_f (r_neq rfl rfl) rfl (by decide) ?_; refine wl_nil ?_; refine c_then ?_; refine c_false rfl ?_; refine wp_skip ?_; refine c_then ?_; refine c_seq ?_; refine c_region ?_; refine wl_val (r_loadB ti24 ag24 rfl (hS43.heap (.head _)) (by first | (simp [*]; done) | (simp [*] <;> omega) | omega)) rfl ?_; refine wl_call (r_call fn6 rfl rfl) rfl (rexplain_ok st2 en2 at2 er2 _ hi2 (hv.st hS43)) ?_; rintro _ w44 ⟨rfl, hx45⟩
  have hS46 := hS43.ext hx45
  refine wl_val (r_move (v := .tuple _) rfl) rfl ?_; refine wl_val (r_extract (v := .string _) rfl rfl) rfl ?_; refine wl_val (r_extract (v := .int .i64 _) rfl rfl) rfl ?_; refine wl_val (r_assign (v := .string _) rfl) rfl ?_; refine wl_val (r_assign (v := .int .i64 _) rfl) rfl ?_; refine wl_nil ?_; refine c_then ?_; refine c_seq ?_; refine c_region ?_; refine wl_val (r_move (v := .int .i64 _) rfl) rfl ?_; refine wl_dec_t (r_eql rfl rfl) rfl he2 ?_; refine wl_val (r_move (v := .bool _) rfl) rfl ?_; refine wl_val (r_move (v := .string _) rfl) rfl ?_; refine wl_val (r_move (v := .string _) rfl) rfl ?_; refine wl_dec_t (r_eqlStrL rfl rfl) rfl ((FD.x_ok he2).trans ht2) ?_; refine wl_val (r_pick_t rfl (v := .bool _) rfl) rfl ?_; refine wl_val (r_assign (v := .bool _) rfl) rfl ?_; refine wl_nil ?_; refine c_then ?_; refine wp_ret ?_; refine ret1 Tryd.results3 ?_
  exact ⟨rfl, hS46.fin⟩

theorem star : "*" ++ "errors.errorString" = "*errors.errorString" := by decide
theorem esRow (u : TypeId) (h : Tryd.prog.typeName? 3 u = some "*errors.errorString") : u = 82 :=
  typeName_ptr_named (nm := "errors.errorString") (by rw [star]; kernel_rfl) (by kernel_rfl) (by decide) u (by rw [star]; exact h)
theorem gl2 : Tryd.prog.globalNamed "strconv.ErrSyntax" = some 2 := by kernel_rfl
theorem gt2 : (Tryd.prog.globals[2]?).map (·.type) = some 43 := by kernel_rfl
theorem gl3 : Tryd.prog.globalNamed "strconv.ErrRange" = some 3 := by kernel_rfl
theorem gt3 : (Tryd.prog.globals[3]?).map (·.type) = some 43 := by kernel_rfl

theorem own : ownKnob Tryd.prog.godebug = none := by kernel_rfl
theorem laidOut : laidOutB Tryd.prog = true := by kernel_rfl
theorem readable9 : Tryd.prog.readableRec 9 = true := by kernel_rfl
theorem inside9 : decide (9 < Tryd.prog.types.size) = true := by kernel_rfl
theorem readable24 : Tryd.prog.readableRec 24 = true := by kernel_rfl
theorem inside24 : decide (24 < Tryd.prog.types.size) = true := by kernel_rfl
noncomputable def low : Nat := (World.holding Tryd.prog default ⟨#[], #[], []⟩).heap.size
/-- A world for the witness: the settled one, the variables holding what their initialisers lay. -/
noncomputable def laidWorld (os : Os) : World :=
  { World.holding Tryd.prog os ⟨#[.cells #[.string ⟨#[118, 97, 108, 117, 101, 32, 111, 117, 116, 32, 111, 102, 32, 114, 97, 110, 103, 101]⟩] 84, .cells #[.string ⟨#[105, 110, 118, 97, 108, 105, 100, 32, 115, 121, 110, 116, 97, 120]⟩] 84], #[], []⟩ with heap := ((((((World.holding Tryd.prog os ⟨#[.cells #[.string ⟨#[118, 97, 108, 117, 101, 32, 111, 117, 116, 32, 111, 102, 32, 114, 97, 110, 103, 101]⟩] 84, .cells #[.string ⟨#[105, 110, 118, 97, 108, 105, 100, 32, 115, 121, 110, 116, 97, 120]⟩] 84], #[], []⟩).heap.modify 4 fun
      | .cells _ t frozen => .cells #[.int .u8 0, .int .u8 1, .int .u8 28, .int .u8 2, .int .u8 29, .int .u8 14, .int .u8 24, .int .u8 3, .int .u8 30, .int .u8 22, .int .u8 20, .int .u8 15, .int .u8 25, .int .u8 17, .int .u8 4, .int .u8 8, .int .u8 31, .int .u8 27, .int .u8 13, .int .u8 23, .int .u8 21, .int .u8 19, .int .u8 16, .int .u8 7, .int .u8 26, .int .u8 12, .int .u8 18, .int .u8 6, .int .u8 11, .int .u8 5, .int .u8 10, .int .u8 9] t frozen
      | o => o).modify 5 fun
      | .cells _ t frozen => .cells #[.int .u8 0, .int .u8 1, .int .u8 56, .int .u8 2, .int .u8 57, .int .u8 49, .int .u8 28, .int .u8 3, .int .u8 61, .int .u8 58, .int .u8 42, .int .u8 50, .int .u8 38, .int .u8 29, .int .u8 17, .int .u8 4, .int .u8 62, .int .u8 47, .int .u8 59, .int .u8 36, .int .u8 45, .int .u8 43, .int .u8 51, .int .u8 22, .int .u8 53, .int .u8 39, .int .u8 33, .int .u8 30, .int .u8 24, .int .u8 18, .int .u8 12, .int .u8 5, .int .u8 63, .int .u8 55, .int .u8 48, .int .u8 27, .int .u8 60, .int .u8 41, .int .u8 37, .int .u8 16, .int .u8 46, .int .u8 35, .int .u8 44, .int .u8 21, .int .u8 52, .int .u8 32, .int .u8 23, .int .u8 11, .int .u8 54, .int .u8 26, .int .u8 40, .int .u8 15, .int .u8 34, .int .u8 20, .int .u8 31, .int .u8 10, .int .u8 25, .int .u8 14, .int .u8 19, .int .u8 9, .int .u8 13, .int .u8 8, .int .u8 7, .int .u8 6] t frozen
      | o => o).modify 1 fun
      | .cells _ t frozen => .cells #[.int .u64 1, .int .u64 10, .int .u64 100, .int .u64 1000, .int .u64 10000, .int .u64 100000, .int .u64 1000000, .int .u64 10000000, .int .u64 100000000, .int .u64 1000000000, .int .u64 10000000000, .int .u64 100000000000, .int .u64 1000000000000, .int .u64 10000000000000, .int .u64 100000000000000, .int .u64 1000000000000000, .int .u64 10000000000000000, .int .u64 100000000000000000, .int .u64 1000000000000000000, .int .u64 10000000000000000000] t frozen
      | o => o).modify 3 fun
      | .cells _ t frozen => .cells #[.iface 82 (.pointer (some ⟨low + 0, 0, none⟩))] t frozen
      | o => o).modify 2 fun
      | .cells _ t frozen => .cells #[.iface 82 (.pointer (some ⟨low + 1, 0, none⟩))] t frozen
      | o => o) }
theorem laid_met (os : Os) : laidMet Tryd.prog Rows.findingsMatchUptoRow.laid ((laidWorld os).forCall (fun _ _ => 0) ⟨#[], #[.agg (List.replicate 4 (.int .i64 0 : Value)).toArray, .string ⟨#[]⟩], []⟩).memory := laidMet_of_run' 8 (by kernel_rfl) (by kernel_rfl)
theorem reads (os : Os) {H : Type} (enc : TypeId × Value → H) : ∃ places, DataW.whole enc Tryd.prog ((laidWorld os).forCall (fun _ _ => 0) ⟨#[], #[.agg (List.replicate 4 (.int .i64 0 : Value)).toArray, .string ⟨#[]⟩], []⟩).memory Tryd.f3.params.toList Rows.findingsMatchSpec.vars false (#[.agg (List.replicate 4 (.int .i64 0 : Value)).toArray, .string ⟨#[]⟩] : Array Value).toList 8 = some ([.agg [.lit (.int .i64 0), .lit (.int .i64 0), .lit (.int .i64 0), .lit (.int .i64 0)], .lit (.string [])], [], places) := ⟨[], by kernel_rfl⟩
theorem lifted (os : Os) (started : os.Started) (H : Type) (enc : TypeId × Value → H) (F : Stop.Interp) :
    ReturnsInHanded {} Tryd.checked os 3 .any ((Rows.OpenSpec.upto Rows.findingsMatchSpec).preRow enc Tryd.prog Tryd.f3 Rows.findingsMatchUptoRow.domain false Rows.findingsMatchUptoRow.laid) (((Rows.OpenSpec.upto Rows.findingsMatchSpec).at F).post enc Tryd.prog Tryd.f3 false true false false) := by
  obtain ⟨places, hx⟩ := reads os enc
  refine returnsInHanded_of_row (C := Tryd.checked) (s := (Rows.OpenSpec.upto Rows.findingsMatchSpec)) own started (by kernel_rfl) Tryd.func3
    (witness_row_at (enc := enc) (C := Tryd.checked) false (laidWorld os) #[.agg (List.replicate 4 (.int .i64 0 : Value)).toArray, .string ⟨#[]⟩] rfl (by kernel_rfl) (by kernel_rfl) (by kernel_rfl)
      (OpenSpec.preRow_of_cond 8 hx (by kernel_rfl) (fun k hk => by cases hk; rfl) (by kernel_rfl) (laid_met os))) ?_
  intro W base args ds gs before hval0 hW hcnd hk0 hsz0 hL hSh _
  have hk0 := hk0 Rows.uptoSmall rfl
  have hval : ∀ (j : Nat) t v, Tryd.f3.params[j]? = some t → args[j]? = some v → Value.okWide Tryd.prog W .any base t v := hval0
  have hW' := hW
  obtain ⟨p, q, hA0, hV, rfl, hfz, hnd⟩ := hW
  have hA : DataW.TrodAll enc Tryd.prog W 0 (fun _ => true) true Tryd.f3.params.toList args.toList ds p := hA0
  have hsz : (DataW.weightsEach Tryd.prog (Tryd.f3.params.toList ++ Rows.findingsMatchSpec.plain.varTypes Tryd.prog) (ds ++ gs)).all (· ≤ reachBytes) = true := hsz0
  rw [Tryd.params3] at hA hval hsz
  obtain ⟨v0, vs0, d0, ds0, p0, q0, hargs, rfl, rfl, h0, r0⟩ := trodAll_cons hA
  obtain ⟨v1, vs1, d1, ds1, p1, q1, rfl, rfl, rfl, h1, r1⟩ := trodAll_cons r0
  obtain ⟨rfl, rfl, rfl⟩ := trodAll_nil r1
  obtain rfl : args = #[v0, v1] := by cases args; simp_all
  obtain ⟨rfl, rfl⟩ := trodVars_none hV
  have lt0 : ∀ x ∈ p0, x.block < W.heap.size := by obtain ⟨m, hm⟩ := h0; exact DataW.trod_lt m _ _ _ hm
  have lt1 : ∀ x ∈ p1, x.block < W.heap.size := by obtain ⟨m, hm⟩ := h1; exact DataW.trod_lt m _ _ _ hm
  have ok0 := hval 0 24 v0 rfl rfl
  obtain ⟨⟨st, en, at_, er, _⟩, rfl, ⟨hs1, hs2⟩, ⟨hn1, hn2⟩, ⟨ha1, ha2⟩, ⟨he1, he2⟩, _⟩ := open_struct (j := 0) Tryd.underlying24 (opens_struct Tryd.underlying24 (by kernel_rfl) (opensFs_cons (sz := 1) (opens_i64 Tryd.underlying3) rfl (by kernel_rfl) (opensFs_cons (sz := 1) (opens_i64 Tryd.underlying3) rfl (by kernel_rfl) (opensFs_cons (sz := 1) (opens_i64 Tryd.underlying3) rfl (by kernel_rfl) (opensFs_cons (sz := 1) (opens_i64 Tryd.underlying3) rfl (by kernel_rfl) opensFs_nil (by simp)) (by simp)) (by simp)) (by simp))) ok0 h0 hsz rfl rfl
  simp only [] at hs1 hs2 hn1 hn2 ha1 ha2 he1 he2
  have hi : FD.In ⟨st, en, at_, er⟩ := ⟨hs1, hs2, hn1, hn2, ha1, ha2, he1, he2⟩
  have ok1 := hval 1 9 v1 rfl rfl
  have hbk1 := hk0
  obtain ⟨s, rfl, rfl, -, -⟩ := Go.ChangeMaps.open_string Tryd.underlying9 ok1 h1
  obtain ⟨l, rfl⟩ : ∃ l : List UInt8, s = ⟨l.toArray⟩ := ⟨s.data.toList, by cases s; simp⟩
  have hlen : l.length ≤ 1048576 := by
    have h' := of_decide_eq_true hk0
    simp [Rows.uptoBulkAll, Rows.uptoBulk] at h'
    omega
  have hL0 : laidMet Tryd.prog [("math/bits.deBruijn32tab", Rows.laid_math_bits_deBruijn32tab), ("math/bits.deBruijn64tab", Rows.laid_math_bits_deBruijn64tab), ("internal/strconv.uint64pow10", Rows.laid_internal_strconv_uint64pow10), ("strconv.ErrRange", Rows.laid_strconv_ErrRange), ("strconv.ErrSyntax", Rows.laid_strconv_ErrSyntax)] W := hL
  have hP : (Rows.laid_internal_strconv_uint64pow10 : DataW Unit) = Lib.tabData .u64 Lib.pow10Tab := by kernel_rfl
  rw [hP] at hL0
  have hL2 := laidMet.tail (laidMet.tail hL0)
  have hTab : Lib.TabIs Tryd.prog W "internal/strconv.uint64pow10" .u64 Lib.pow10Tab := Lib.tabIs_of_head (g := 1) (t := 65) (e := 50) (n := 20) (by kernel_rfl) (by kernel_rfl) (by kernel_rfl) (by kernel_rfl) (by kernel_rfl) (by kernel_rfl) hL2
  have hMx := Go.Proofs.cell_of_shapedOpen_int (P := Tryd.prog) (g := 0) (t := 3) (zero := #[.int .i64 0]) hSh (of_decide_eq_true (by kernel_rfl)) (by kernel_rfl) rfl (by kernel_rfl) (by kernel_rfl) Tryd.underlying3
  have hRg : ∃ te pe, W.cell? ⟨3, 0, none⟩ = some (.iface te pe) := by
    obtain ⟨a, s', hv, _⟩ := Go.laid_sentinel (laidMet.tail hL2) gl3 gt3 ti43.und esRow ti82.und ti84.und rfl rfl ti9.und (by kernel_rfl) (by kernel_rfl)
    exact ⟨_, _, by simpa using World.var?_cell gl3 hv 0⟩
  have hSy : ∃ te pe, W.cell? ⟨2, 0, none⟩ = some (.iface te pe) := by
    obtain ⟨a, s', hv, _⟩ := Go.laid_sentinel (laidMet.tail (laidMet.tail hL2)) gl2 gt2 ti43.und esRow ti82.und ti84.und rfl rfl ti9.und (by kernel_rfl) (by kernel_rfl)
    exact ⟨_, _, by simpa using World.var?_cell gl2 hv 0⟩
  have hv : VF W := ⟨hTab, hMx, hSy, hRg⟩
  refine Calls.mono (walk st en at_ er l W hi hlen hv) fun e W' ⟨v, he, hv, hs⟩ => ?_
  subst hv; subst he
  have bel := hs.below
  exact ⟨_, rfl, _, _, _, [], _, [], hW', trodAll_mk1 (shut_bool Tryd.underlying4 _), (trodAll_cons_mk (Below.trod laidOut readable24 (of_decide_eq_true inside24) h0 bel lt0) (trodAll_cons_mk (Below.trod laidOut readable9 (of_decide_eq_true inside9) h1 bel lt1) trodAll_mk0)), rfl, bel.frame _, fun h => by cases h⟩
theorem over : Rows.findingsMatchUptoRow.holds Tryd.pinned (Rows.OpenSpec.upto Rows.findingsMatchSpec) :=
  OpenClaim.holds_of_cond 3 Tryd.f3 rfl rfl rfl rfl rfl rfl rfl ⟨rfl, rfl, rfl, rfl, rfl⟩ rfl rfl rfl rfl rfl (by kernel_rfl) Tryd.func3 (by kernel_rfl)
    (of_decide_eq_true (by kernel_rfl)) (by unfold Func.isWrapper; first | (rw [if_pos (by decide +kernel)]; kernel_rfl) | (rw [if_neg (by decide +kernel)]; exact ⟨rfl, rfl⟩))
    (fun os started H enc _ F => by rw [OpenClaim.pre_eq_preRow]; exact lifted os started H enc F)
theorem plain (f : FuncId) (fn : Func) (hf : Tryd.pinned.checked.prog.funcNamed "keywarden/keylaw1.FindingsMatch" = some f) (hfn : Tryd.pinned.checked.prog.funcs[f]? = some fn) :
    true = Tryd.pinned.checked.prog.looks [] ∧ ∀ (j : Nat) t, fn.params[j]? = some t → Tryd.pinned.checked.prog.wantsStandIn t = false := by
  obtain rfl : f = 3 := Option.some.inj ((show Tryd.prog.funcNamed "keywarden/keylaw1.FindingsMatch" = some 3 by kernel_rfl).symm.trans hf) |>.symm
  obtain rfl : fn = Tryd.f3 := (Option.some.inj (Tryd.func3.symm.trans hfn)).symm
  refine ⟨by kernel_rfl, fun j t ht => ?_⟩
  rw [Tryd.params3] at ht
  have w9 : Tryd.prog.wantsStandIn 9 = false := by kernel_rfl
  have w24 : Tryd.prog.wantsStandIn 24 = false := by kernel_rfl
  have hm : t ∈ [24, 9] := by have := Array.mem_of_getElem? ht; simpa using this
  simp only [List.mem_cons, List.not_mem_nil, or_false] at hm
  rcases hm with rfl | rfl
  · exact w24
  · exact w9
theorem proved : Rows.FindingsMatchUptoCardSaid :=
  Claim7.holds_tied_plain_at .later [] _ _ _ _ over (fun _ h => by cases h) (by kernel_rfl) (fun _ h => by cases h) findingsMatchUpto_row_tie rfl ⟨rfl, rfl⟩ (by kernel_rfl) rfl plain (by kernel_rfl)
#print axioms proved
end Go.Proofs.YtkoknlcegiemnaaDoor.lawFindingsMatch
