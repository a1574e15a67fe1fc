/- For every texts, numbers and octet: ProveGrowth's proofs are the reference's and hold, and for changed ones and changed roots the program tells what the reference tells; the law's function returns true and turns nothing. No condition. -/
import Derived.Test.YtfohfnpehfcaaaaRows
import Derived.Test.YtfohfnpehfcaaaaOpen
import Derived.Test.YtfohfnpehfcaaaaTreeE
namespace Go.Proofs.Ytfohfnpehfcaaaa.lawGrowthIsProved
open Go.Kw Go.Proofs.Ytfohfnpehfcaaaa
open Go.ChangeShapes Go.WideShapes Go.ChangeAt Go.RowKit
set_option linter.unusedVariables false
set_option linter.unusedSimpArgs false
set_option maxRecDepth 100000
set_option maxHeartbeats 20000000

theorem walk (ps : List Piece) (a : Option Addr) (c : Nat) (ix kk : Int) (by' : UInt8) (w : World) (hb : Row w a (ps.map Piece.v)) (hr : ∀ q ∈ ps, Row w q.a (q.xs.map b8) ∧ q.xs.length ≤ q.c ∧ q.xs.length ≤ 140737488351232) (hlc : ps.length ≤ c) (hi1 : -9223372036854775808 ≤ ix) (hi2 : ix ≤ 9223372036854775807) (hk1 : -9223372036854775808 ≤ kk) (hk2 : kk ≤ 9223372036854775807) :
    Ret Try.prog 15 [.slice a ps.length c, .int .i64 ix, .int .i64 kk, b8 by'] w (fun v w' => v = .bool true ∧ St w [] w' []) := by
  refine enter Try.func15 rfl Try.ntmps15 rfl ?_
  have hS := St.refl w []
  refine c_seq ?_
  refine c_region ?_
  refine wl_val (r_assign (v := .bool false) rfl) rfl ?_
  refine wl_nil ?_
  refine c_then ?_
  refine c_seq ?_
  refine c_seq ?_
  refine c_region ?_
  refine wl_call (r_call fn20 rfl rfl) rfl (landed_ok _) ?_
  rintro _ w1 ⟨rfl, hx2⟩
  have hS3 := hS.ext hx2
  refine wl_val (r_not rfl) rfl ?_
  refine wl_nil ?_
  refine c_then ?_
  refine c_false rfl ?_
  refine wp_skip ?_
  refine c_then ?_
  refine c_seq ?_
  refine c_region ?_
  refine wl_val (r_move (v := .slice _ _ _) rfl) rfl ?_
  refine wl_call (r_call fn47 rfl rfl) rfl (leaves_ok ps _ _ _ (hb.st hS3) (fun q hq => ⟨(hr q hq).1.st hS3, (hr q hq).2⟩) hlc) ?_
  rintro _ w4 ⟨a20, c20, rfl, hc20, hx5⟩
  have hS6 := hS3.call hx5
  simp only [List.cons_append, List.nil_append] at hS6
  refine wl_val (r_assign (v := .slice _ _ _) rfl) rfl ?_
  refine wl_nil ?_
  refine c_then ?_
  refine c_seq ?_
  refine c_region ?_
  refine wl_val (r_move (v := .slice _ _ _) rfl) rfl ?_
  refine wl_val (r_move (v := .int .i64 _) rfl) rfl ?_
  refine wl_call (r_call fn80 rfl rfl) rfl (proveG_ok (leavesL ps) _ _ _ ix _ (St.rowAt hS6 (.head _)) (leavesL_32 ps) (leavesL_len ps) hc20 hi1 hi2) ?_
  rintro _ w7 (⟨hlf, rfl, hx8⟩ | ⟨hlf, rfl, hx8⟩ | ⟨hlf, rfl, hx8⟩ | ⟨hlf, aP, cP, rfl, hcP, hx8⟩)
  · have hS9 := hS6.ext hx8
    refine wl_val (r_move (v := .tuple _) rfl) rfl ?_
    refine wl_val (r_extract (v := .agg _) rfl rfl) rfl ?_
    refine wl_val (r_extract (v := .int .i64 _) rfl rfl) rfl ?_
    refine wl_exv (x_alloc (C := [.int .i64 0, .int .i64 0, .slice none 0 0]) hS9 ti55 rfl) rfl ?_
    rintro _ w10 ⟨b10, rfl, hS11⟩
    refine wl_exs (x_storeW [] hS11 ti55 rfl rfl (by first | (simp [*]; done) | (simp [*] <;> omega) | omega) (by first | (simp [*]; done) | (simp [*] <;> omega) | omega) (by repeat' first | exact one_nil | exact one_b8 _ | exact one_v32 _ | exact one_all rfl | refine one_cons rfl ?_ | refine one_app ?_ ?_)) rfl ?_
    intro w12 hS13
    simp only [List.cons_append, List.nil_append] at hS13
    refine wl_val (r_assign (v := .int .i64 _) rfl) rfl ?_
    refine wl_nil ?_
    refine c_then ?_
    refine c_seq ?_
    refine c_block ?_
    refine c_seq ?_
    refine c_region ?_
    refine wl_val (r_move (v := .slice _ _ _) rfl) rfl ?_
    refine wl_val (r_len (T := 53) rfl ti53.und rfl _ rfl) rfl ?_
    refine wl_dec_t (r_eql rfl rfl) rfl (by omega) ?_
    refine wl_val (r_assign (v := .bool _) rfl) rfl ?_
    refine wl_nil ?_
    refine c_then ?_
    refine c_true rfl ?_
    refine c_seq ?_
    refine c_region ?_
    refine wl_val (r_move (v := .int .i64 _) rfl) rfl ?_
    refine wl_dec_t (r_eql rfl rfl) rfl (by decide) ?_
    refine wl_val (r_assign (v := .bool _) rfl) rfl ?_
    refine wl_nil ?_
    refine c_then ?_
    refine wp_ret ?_
    refine c_inR ?_
    refine c_thenR ?_
    refine ret1 Try.results15 ?_
    first | exact ⟨rfl, hS13.fin⟩ | exact ⟨by simp, hS13.fin⟩
  · exfalso; omega
  · have hS9 := hS6.ext hx8
    refine wl_val (r_move (v := .tuple _) rfl) rfl ?_
    refine wl_val (r_extract (v := .agg _) rfl rfl) rfl ?_
    refine wl_val (r_extract (v := .int .i64 _) rfl rfl) rfl ?_
    refine wl_exv (x_alloc (C := [.int .i64 0, .int .i64 0, .slice none 0 0]) hS9 ti55 rfl) rfl ?_
    rintro _ w14 ⟨b10, rfl, hS15⟩
    refine wl_exs (x_storeW [] hS15 ti55 rfl rfl (by first | (simp [*]; done) | (simp [*] <;> omega) | omega) (by first | (simp [*]; done) | (simp [*] <;> omega) | omega) (by repeat' first | exact one_nil | exact one_b8 _ | exact one_v32 _ | exact one_all rfl | refine one_cons rfl ?_ | refine one_app ?_ ?_)) rfl ?_
    intro w16 hS17
    simp only [List.cons_append, List.nil_append] at hS17
    refine wl_val (r_assign (v := .int .i64 _) rfl) rfl ?_
    refine wl_nil ?_
    refine c_then ?_
    refine c_seq ?_
    refine c_block ?_
    refine c_seq ?_
    refine c_region ?_
    refine wl_val (r_move (v := .slice _ _ _) rfl) rfl ?_
    refine wl_val (r_len (T := 53) rfl ti53.und rfl _ rfl) rfl ?_
    refine wl_dec_f (r_eql rfl rfl) rfl (by omega) ?_
    refine wl_val (r_assign (v := .bool _) rfl) rfl ?_
    refine wl_nil ?_
    refine c_then ?_
    refine c_false rfl ?_
    refine c_seq ?_
    refine c_region ?_
    refine wl_val (r_move (v := .int .i64 _) rfl) rfl ?_
    refine wl_dec (r_lss rfl rfl) rfl (fun h7_1 => ?_) (fun h7_1 => ?_)
    · refine wl_val (r_move (v := .bool _) rfl) rfl ?_
      refine wl_not rfl ?_
      refine wl_not rfl ?_
      refine wl_not rfl ?_
      refine wl_not rfl ?_
      refine wl_val (r_pick_t rfl (v := .bool true) rfl) rfl ?_
      refine wl_val (r_assign (v := .bool _) rfl) rfl ?_
      refine wl_nil ?_
      refine c_then ?_
      refine c_true rfl ?_
      refine c_seq ?_
      refine c_region ?_
      refine wl_val (r_move (v := .int .i64 _) rfl) rfl ?_
      refine wl_dec_t (r_eql rfl rfl) rfl (by decide) ?_
      refine wl_val (r_move (v := .bool _) rfl) rfl ?_
      refine wl_val (r_loadB ti55 ag55 rfl (hS17.heap (.head _)) (by first | (simp [*]; done) | (simp [*] <;> omega) | omega)) rfl ?_
      refine wl_val (r_buildZ pl55 ti55) rfl ?_
      refine wl_call (r_call fn38 rfl rfl) rfl (sameProof_ok 0 0 0 0 none none 0 0 0 0 [] [] _ Row.nil Row.nil S32.nil S32.nil rfl rfl (by decide)) ?_
      rintro _ w18 ⟨rfl, hx19⟩
      have hS20 := hS17.ext hx19
      refine wl_val (r_pick_t rfl (v := .bool _) rfl) rfl ?_
      refine wl_val (r_assign (v := .bool _) rfl) rfl ?_
      refine wl_nil ?_
      refine c_then ?_
      refine wp_ret ?_
      refine c_inR ?_
      refine c_thenR ?_
      refine ret1 Try.results15 ?_
      first | exact ⟨rfl, hS20.fin⟩ | exact ⟨by simp, hS20.fin⟩
    · refine wl_val (r_move (v := .bool _) rfl) rfl ?_
      refine wl_val (r_move (v := .int .i64 _) rfl) rfl ?_
      refine wl_val (r_move (v := .slice _ _ _) rfl) rfl ?_
      refine wl_val (r_len (T := 53) rfl ti53.und rfl _ rfl) rfl ?_
      refine wl_dec_t (r_gtr rfl rfl) rfl (by omega) ?_
      refine wl_val (r_pick_f rfl (v := .bool _) rfl) rfl ?_
      refine wl_val (r_assign (v := .bool _) rfl) rfl ?_
      refine wl_nil ?_
      refine c_then ?_
      refine c_true rfl ?_
      refine c_seq ?_
      refine c_region ?_
      refine wl_val (r_move (v := .int .i64 _) rfl) rfl ?_
      refine wl_dec_t (r_eql rfl rfl) rfl (by decide) ?_
      refine wl_val (r_move (v := .bool _) rfl) rfl ?_
      refine wl_val (r_loadB ti55 ag55 rfl (hS17.heap (.head _)) (by first | (simp [*]; done) | (simp [*] <;> omega) | omega)) rfl ?_
      refine wl_val (r_buildZ pl55 ti55) rfl ?_
      refine wl_call (r_call fn38 rfl rfl) rfl (sameProof_ok 0 0 0 0 none none 0 0 0 0 [] [] _ Row.nil Row.nil S32.nil S32.nil rfl rfl (by decide)) ?_
      rintro _ w21 ⟨rfl, hx22⟩
      have hS23 := hS17.ext hx22
      refine wl_val (r_pick_t rfl (v := .bool _) rfl) rfl ?_
      refine wl_val (r_assign (v := .bool _) rfl) rfl ?_
      refine wl_nil ?_
      refine c_then ?_
      refine wp_ret ?_
      refine c_inR ?_
      refine c_thenR ?_
      refine ret1 Try.results15 ?_
      first | exact ⟨rfl, hS23.fin⟩ | exact ⟨by simp, hS23.fin⟩
  · have hS9 := hS6.call hx8
    simp only [List.cons_append, List.nil_append] at hS9
    have hP32 : S32 (gpathL (leavesL ps) ix.toNat true) := gpathL_32 _ _ _ _ (Nat.le_refl _) (by rw [leavesL_len]; omega) (by omega) (by rw [leavesL_len]; omega) (leavesL_32 ps)
    refine wl_val (r_move (v := .tuple _) rfl) rfl ?_
    refine wl_val (r_extract (v := .agg _) rfl rfl) rfl ?_
    refine wl_val (r_extract (v := .int .i64 _) rfl rfl) rfl ?_
    refine wl_exv (x_alloc (C := [.int .i64 0, .int .i64 0, .slice none 0 0]) hS9 ti55 rfl) rfl ?_
    rintro _ w24 ⟨b10, rfl, hS25⟩
    refine wl_exs (x_storeW [] hS25 ti55 rfl rfl (by first | (simp [*]; done) | (simp [*] <;> omega) | omega) (by first | (simp [*]; done) | (simp [*] <;> omega) | omega) (by repeat' first | exact one_nil | exact one_b8 _ | exact one_v32 _ | exact one_all rfl | refine one_cons rfl ?_ | refine one_app ?_ ?_)) rfl ?_
    intro w26 hS27
    simp only [List.cons_append, List.nil_append] at hS27
    refine wl_val (r_assign (v := .int .i64 _) rfl) rfl ?_
    refine wl_nil ?_
    refine c_then ?_
    refine c_seq ?_
    refine c_block ?_
    refine c_seq ?_
    refine c_region ?_
    refine wl_val (r_move (v := .slice _ _ _) rfl) rfl ?_
    refine wl_val (r_len (T := 53) rfl ti53.und rfl _ rfl) rfl ?_
    refine wl_dec_f (r_eql rfl rfl) rfl (by omega) ?_
    refine wl_val (r_assign (v := .bool _) rfl) rfl ?_
    refine wl_nil ?_
    refine c_then ?_
    refine c_false rfl ?_
    refine c_seq ?_
    refine c_region ?_
    refine wl_val (r_move (v := .int .i64 _) rfl) rfl ?_
    refine wl_dec_f (r_lss rfl rfl) rfl (by omega) ?_
    refine wl_val (r_move (v := .bool _) rfl) rfl ?_
    refine wl_val (r_move (v := .int .i64 _) rfl) rfl ?_
    refine wl_val (r_move (v := .slice _ _ _) rfl) rfl ?_
    refine wl_val (r_len (T := 53) rfl ti53.und rfl _ rfl) rfl ?_
    refine wl_dec_f (r_gtr rfl rfl) rfl (by omega) ?_
    refine wl_val (r_pick_f rfl (v := .bool _) rfl) rfl ?_
    refine wl_val (r_assign (v := .bool _) rfl) rfl ?_
    refine wl_nil ?_
    refine c_then ?_
    refine c_false rfl ?_
    refine wp_skip ?_
    refine c_inN ?_
    refine c_then ?_
    refine c_seq ?_
    obtain ⟨ix', rfl⟩ : ∃ i : Nat, ix = (i : Int) := ⟨ix.toNat, (by omega)⟩
    have hsl := gsteps_le (min ps.length 40) ix' (min ps.length 40) true (Nat.le_refl _)
    simp only [Int.toNat_natCast] at *
    refine c_region ?_
    refine wl_val (r_move (v := .slice _ _ _) rfl) rfl ?_
    refine wl_val (r_move (v := .int .i64 _) rfl) rfl ?_
    refine wl_val (r_sl_h ti53.und ti49 rfl rfl (by first | (simp [*]; done) | (simp [*] <;> omega) | omega)) rfl ?_
    refine wl_call (r_call fn51 rfl rfl) rfl (rroot_ok _ ((leavesL ps).take ix') _ _ _ (Row.take32 (St.rowAt hS27 (.tail _ (.tail _ (.head _)))) (leavesL_32 ps) ix') ((leavesL_32 ps).take _) (by simp only [List.length_take, leavesL_len]; omega) (by omega) (by omega) (by omega)) ?_
    rintro _ w28 ⟨rfl, hx29⟩
    have hS30 := hS27.ext hx29
    refine wl_val (r_move (v := .slice _ _ _) rfl) rfl ?_
    refine wl_call (r_call fn51 rfl rfl) rfl (rroot_ok _ (leavesL ps) _ _ _ (St.rowAt hS30 (.tail _ (.tail _ (.head _)))) (leavesL_32 ps) (leavesL_len ps) (by omega) hc20 (by omega)) ?_
    rintro _ w31 ⟨rfl, hx32⟩
    have hS33 := hS30.ext hx32
    refine wl_exv (x_alloc (C := ((List.replicate 32 (0 : UInt8)).map b8)) hS33 ti49 rfl) rfl ?_
    rintro _ w34 ⟨b12, rfl, hS35⟩
    refine wl_exv (x_alloc (C := ((List.replicate 32 (0 : UInt8)).map b8)) hS35 ti49 rfl) rfl ?_
    rintro _ w36 ⟨b13, rfl, hS37⟩
    refine wl_exs (x_storeW [_] hS37 ti49 rfl rfl (by rw [List.length_map]; exact rootL_len _ ((leavesL_32 ps).take _) (by simp only [List.length_take, leavesL_len]; omega)) (by simp) (one_b8 _)) rfl ?_
    intro w38 hS39
    simp only [List.cons_append, List.nil_append] at hS39
    refine wl_exs (x_storeW [] hS39 ti49 rfl rfl (by rw [List.length_map]; exact rootL_len _ (leavesL_32 ps) (by rw [leavesL_len]; omega)) (by simp) (one_b8 _)) rfl ?_
    intro w40 hS41
    simp only [List.cons_append, List.nil_append] at hS41
    refine wl_nil ?_
    refine c_then ?_
    refine c_seq ?_
    refine c_seq ?_
    refine c_drawS 28 hMixed hS41 ?_
    intro w42 hS43
    refine g_take 0 rfl (by decide +kernel) rfl (fun _ _ _ h => h) hS43 (fun wF hF => r_move (v := .int .i64 _) rfl) ?_
    refine g_dec_f 1 rfl (by decide +kernel) rfl (fun _ _ _ _ h => h) hS43 (fun wF hF => r_neq rfl rfl) (by decide) ?_
    refine g_take 2 rfl (by decide +kernel) rfl (fun _ _ _ h => h) hS43 (fun wF hF => r_move (v := .bool _) rfl) ?_
    refine g_take 3 rfl (by decide +kernel) rfl (fun _ _ _ h => h) hS43 (fun wF hF => r_field fa55_0 rfl) ?_
    refine g_take 4 rfl (by decide +kernel) rfl (fun _ _ _ h => h) hS43 (fun wF hF => r_loadB1 ti3.und rfl rfl (hF.heap (.tail _ (.tail _ (.head _)))) rfl) ?_
    refine g_take 5 rfl (by decide +kernel) rfl (fun _ _ _ h => h) hS43 (fun wF hF => r_move (v := .int .i64 _) rfl) ?_
    refine g_dec_f 6 rfl (by decide +kernel) rfl (fun _ _ _ _ h => h) hS43 (fun wF hF => r_neq rfl rfl) (not_not_intro rfl) ?_
    refine g_take 7 rfl (by decide +kernel) rfl (fun _ _ _ h => h) hS43 (fun wF hF => r_pick_f rfl (v := .bool _) rfl) ?_
    refine g_take 8 rfl (by decide +kernel) rfl (fun _ _ _ h => h) hS43 (fun wF hF => r_move (v := .bool _) rfl) ?_
    refine g_take 9 rfl (by decide +kernel) rfl (fun _ _ _ h => h) hS43 (fun wF hF => r_field fa55_1 rfl) ?_
    refine g_take 10 rfl (by decide +kernel) rfl (fun _ _ _ h => h) hS43 (fun wF hF => r_loadB1 ti3.und rfl rfl (hF.heap (.tail _ (.tail _ (.head _)))) rfl) ?_
    refine g_take 11 rfl (by decide +kernel) rfl (fun _ _ _ h => h) hS43 (fun wF hF => r_move (v := .slice _ _ _) rfl) ?_
    refine g_take 12 rfl (by decide +kernel) rfl (fun _ _ _ h => h) hS43 (fun wF hF => r_len (T := 53) rfl ti53.und rfl _ rfl) ?_
    refine g_dec_f 13 rfl (by decide +kernel) rfl (fun _ _ _ _ h => h) hS43 (fun wF hF => r_neq rfl rfl) (not_not_intro rfl) ?_
    refine g_take 14 rfl (by decide +kernel) rfl (fun _ _ _ h => h) hS43 (fun wF hF => r_pick_f rfl (v := .bool _) rfl) ?_
    refine g_take 15 rfl (by decide +kernel) rfl (fun _ _ _ h => h) hS43 (fun wF hF => r_move (v := .bool _) rfl) ?_
    refine g_take 16 rfl (by decide +kernel) rfl (fun _ _ _ h => h) hS43 (fun wF hF => r_field fa55_2 rfl) ?_
    refine g_take 17 rfl (by decide +kernel) rfl (fun _ _ _ h => h) hS43 (fun wF hF => r_loadB1 ti53.und rfl rfl (hF.heap (.tail _ (.tail _ (.head _)))) rfl) ?_
    refine g_take 18 rfl (by decide +kernel) rfl (fun _ _ _ h => h) hS43 (fun wF hF => r_move (v := .slice _ _ _) rfl) ?_
    refine g_take 19 rfl (by decide +kernel) rfl (fun _ _ _ h => h) hS43 (fun wF hF => r_move (v := .int .i64 _) rfl) ?_
    refine g_one 20 (by decide +kernel) (by decide +kernel) ?_
    refine o_call rfl (r_call fn81 rfl rfl) rfl (rgpath_ok _ (leavesL ps) ix' true _ _ _ (St.rowAt hS43 (.tail _ (.tail _ (.tail _ (.tail _ (.head _)))))) (leavesL_32 ps) (leavesL_len ps) (by omega) (by omega) hc20 (by omega)) ?_
    rintro _ w44 ⟨a75, c75, rfl, hc75, hx45⟩
    have hS46 := hS43.call hx45
    simp only [List.cons_append, List.nil_append] at hS46
    refine ⟨hS46.drop1, ?_⟩
    refine g_one 21 (by decide +kernel) (by decide +kernel) ?_
    refine o_call rfl (r_call fn76 rfl rfl) rfl (equals_t _ _ _ _ _ _ _ _ _ (St.rowAt hS46 (.tail _ (.tail _ (.tail _ (.tail _ (.head _)))))) (St.rowAt hS46 (.head _)) hP32 hP32 (gpathL_len _ _ _ _ true (Nat.le_refl _) (leavesL_len ps) (by omega) (by omega)) (gpathL_len _ _ _ _ true (Nat.le_refl _) (leavesL_len ps) (by omega) (by omega)) (by omega) rfl) ?_
    rintro _ w47 ⟨rfl, hx48⟩
    have hS49 := hS46.ext hx48
    refine ⟨hS49.drop1, ?_⟩
    refine g_take 22 rfl (by decide +kernel) rfl (fun _ _ _ h => h) hS49.drop1 (fun wF hF => r_not rfl) ?_
    refine g_take 23 rfl (by decide +kernel) rfl (fun _ _ _ h => h) hS49.drop1 (fun wF hF => r_pick_f rfl (v := .bool _) rfl) ?_
    refine g_take 24 rfl (by decide +kernel) rfl (fun _ _ _ h => h) hS49.drop1 (fun wF hF => r_move (v := .bool _) rfl) ?_
    refine g_take 25 rfl (by decide +kernel) rfl (fun _ _ _ h => h) hS49.drop1 (fun wF hF => r_loadB ti49 rfl rfl (hF.heap (.tail _ (.head _))) (by rw [List.length_map]; exact rootL_len _ ((leavesL_32 ps).take _) (by simp only [List.length_take, leavesL_len]; omega))) ?_
    refine g_take 26 rfl (by decide +kernel) rfl (fun _ _ _ h => h) hS49.drop1 (fun wF hF => r_loadB ti49 rfl rfl (hF.heap (.head _)) (by rw [List.length_map]; exact rootL_len _ (leavesL_32 ps) (by rw [leavesL_len]; omega))) ?_
    refine g_take 27 rfl (by decide +kernel) rfl (fun _ _ _ h => h) hS49.drop1 (fun wF hF => r_loadB ti55 ag55 rfl (hF.heap (.tail _ (.tail _ (.head _)))) (by first | (simp [*]; done) | (simp [*] <;> omega) | omega)) ?_
    refine g_tail (by decide +kernel) rfl (by decide +kernel) ?_
    refine wl_call (r_call fn63 rfl rfl) rfl (grown_n (rootL ((leavesL ps).take ix')) (rootL (leavesL ps)) _ _ _ _ _ (gpathL (leavesL ps) ix' true) _ (rootL_len _ ((leavesL_32 ps).take _) (by simp only [List.length_take, leavesL_len]; omega)) (rootL_len _ (leavesL_32 ps) (by rw [leavesL_len]; omega)) (St.rowAt hS49 (.tail _ (.tail _ (.tail _ (.tail _ (.head _)))))) hP32 (gpathL_len _ _ _ _ true (Nat.le_refl _) (leavesL_len ps) (by omega) (by omega)) (hcP) (by omega) (by omega) (by omega) (by omega) (by omega)) ?_
    rintro _ w50 ⟨rfl, hx51⟩
    have hS52 := hS49.ext hx51
    refine wl_dec_f (r_neq rfl rfl) rfl (not_not_intro (made_grown (leavesL_len ps) (by omega) (by omega) (by omega))) ?_
    refine wl_val (r_pick_f rfl (v := .bool _) rfl) rfl ?_
    refine wl_nil ?_
    refine c_then ?_
    refine c_false rfl ?_
    refine wp_skip ?_
    refine c_then ?_
    refine c_seq ?_
    refine c_seq ?_
    refine c_region ?_
    refine wl_val (r_move (v := .int .u8 _) rfl) rfl ?_
    refine wl_dec (r_eql rfl rfl) rfl (fun h12_1 => ?_) (fun h12_1 => ?_)
    · refine wl_nil ?_
      refine c_then ?_
      refine c_true rfl ?_
      refine c_seq ?_
      refine c_region ?_
      refine wl_val (r_assign (v := .bool true) rfl) rfl ?_
      refine wl_nil ?_
      refine c_then ?_
      refine wp_ret ?_
      refine c_thenR ?_
      refine ret1 Try.results15 ?_
      first | exact ⟨rfl, hS52.fin⟩ | exact ⟨by simp, hS52.fin⟩
    · refine wl_nil ?_
      refine c_then ?_
      refine c_false rfl ?_
      refine wp_skip ?_
      refine c_then ?_
      refine c_seq ?_
      refine c_region ?_
      refine wl_val (r_loadB ti55 ag55 rfl (hS52.heap (.tail _ (.tail _ (.tail _ (.head _))))) (by first | (simp [*]; done) | (simp [*] <;> omega) | omega)) rfl ?_
      refine wl_exv (x_alloc (C := [.int .i64 0, .int .i64 0, .slice none 0 0]) hS52 ti55 rfl) rfl ?_
      rintro _ w53 ⟨b14, rfl, hS54⟩
      refine wl_exs (x_storeW [] hS54 ti55 rfl rfl (by first | (simp [*]; done) | (simp [*] <;> omega) | omega) (by first | (simp [*]; done) | (simp [*] <;> omega) | omega) (by repeat' first | exact one_nil | exact one_b8 _ | exact one_v32 _ | exact one_all rfl | refine one_cons rfl ?_ | refine one_app ?_ ?_)) rfl ?_
      intro w55 hS56
      simp only [List.cons_append, List.nil_append] at hS56
      refine wl_nil ?_
      refine c_then ?_
      refine c_seq ?_
      refine c_region ?_
      refine wl_val (r_field fa55_2 rfl) rfl ?_
      refine wl_val (r_loadB1 ti53.und rfl rfl (hS56.heap (.tail _ (.tail _ (.tail _ (.tail _ (.head _)))))) rfl) rfl ?_
      refine wl_call (r_call fn78 rfl rfl) rfl (clones_ok _ _ _ _ _ (St.rowAt hS56 (.tail _ (.tail _ (.tail _ (.tail _ (.tail _ (.head _))))))) hP32 (gpathL_len _ _ _ _ true (Nat.le_refl _) (leavesL_len ps) (by omega) (by omega)) (by omega)) ?_
      rintro _ w57 ⟨a91, c91, rfl, hc91, hx58⟩
      have hS59 := hS56.call hx58
      simp only [List.cons_append, List.nil_append] at hS59
      refine wl_val (r_field fa55_2 rfl) rfl ?_
      refine wl_exs (x_store1 [_] hS59 ti53 rfl rfl rfl (by simp)) rfl ?_
      intro w60 hS61
      simp only [List.cons_append, List.nil_append] at hS61
      simp only [List.set_cons_succ, List.set_cons_zero] at hS61
      refine wl_nil ?_
      refine c_then ?_
      refine c_seq ?_
      refine c_seq ?_
      refine c_region ?_
      refine wl_val (r_field fa55_2 rfl) rfl ?_
      refine wl_val (r_loadB1 ti53.und rfl rfl (hS61.heap (.tail _ (.head _))) rfl) rfl ?_
      refine wl_val (r_len (T := 53) rfl ti53.und rfl _ rfl) rfl ?_
      refine wl_dec (r_gtr rfl rfl) rfl (fun h16_3 => ?_) (fun h16_3 => ?_)
      · refine wl_nil ?_
        refine c_then ?_
        refine c_true rfl ?_
        refine c_seq ?_
        have hmod : (kk % (2 ^ 8 : Nat)).toNat % gstepsL ix' (min ps.length 40) true < gstepsL ix' (min ps.length 40) true := Nat.mod_lt _ (by omega)
        refine c_drawS 17 hMixed hS61 ?_
        intro w62 hS63
        refine g_take 0 rfl (by decide +kernel) rfl (fun _ _ _ h => h) hS63 (fun wF hF => r_field fa55_2 rfl) ?_
        refine g_take 1 rfl (by decide +kernel) rfl (fun _ _ _ h => h) hS63 (fun wF hF => r_loadB1 ti53.und rfl rfl (hF.heap (.tail _ (.head _))) rfl) ?_
        refine g_take 2 rfl (by decide +kernel) rfl (fun _ _ _ h => h) hS63 (fun wF hF => r_move (v := .int .i64 _) rfl) ?_
        refine g_take 3 rfl (by decide +kernel) rfl (fun _ _ _ h => h) hS63 (fun wF hF => r_andm (s := 8) (by decide) rfl rfl) ?_
        refine g_take 4 rfl (by decide +kernel) rfl (fun _ _ _ h => h) hS63 (fun wF hF => r_field fa55_2 rfl) ?_
        refine g_take 5 rfl (by decide +kernel) rfl (fun _ _ _ h => h) hS63 (fun wF hF => r_loadB1 ti53.und rfl rfl (hF.heap (.tail _ (.head _))) rfl) ?_
        refine g_take 6 rfl (by decide +kernel) rfl (fun _ _ _ h => h) hS63 (fun wF hF => r_len (T := 53) rfl ti53.und rfl _ rfl) ?_
        refine g_take 7 rfl (by decide +kernel) rfl (fun _ _ _ h => h) hS63 (fun wF hF => r_remn rfl rfl (by omega)) ?_
        refine g_take 8 rfl (by decide +kernel) rfl (fun _ _ _ h => h) hS63 (fun wF hF => r_move (v := .int .i64 _) rfl) ?_
        refine g_take 9 rfl (by decide +kernel) rfl (fun _ _ _ h => h) hS63 (fun wF hF => r_shr (s := 8) rfl rfl rfl) ?_
        refine g_take 10 rfl (by decide +kernel) rfl (fun _ _ _ h => h) hS63 (fun wF hF => r_andm (s := 5) (by decide) rfl rfl) ?_
        refine g_take 11 rfl (by decide +kernel) rfl (fun _ _ _ h => h) hS63 (fun wF hF => r_ix32 ti53.und ti49 rfl rfl (St.rowAt hF (.head _)) hP32 (gpathL_len _ _ _ _ true (Nat.le_refl _) (leavesL_len ps) (by omega) (by omega)) (Nat.mod_lt _ (by omega))) ?_
        refine g_take 12 rfl (by decide +kernel) rfl (fun _ _ _ h => h) hS63 (fun wF hF => r_ixAR ti49.und ti5 rfl rfl (St.rowAt hF (.head _)) (by rw [flat32_lenV hP32, gpathL_len _ _ _ _ true (Nat.le_refl _) (leavesL_len ps) (by omega) (by omega)]; omega) (by omega)) ?_
        refine g_take 13 rfl (by decide +kernel) rfl (fun _ _ _ h => h) hS63 (fun wF hF => r_loadS1 ti5.und rfl rfl (St.rowAt hF (.head _)) (map_gt _ _ _ (by rw [flat32_len hP32, gpathL_len _ _ _ _ true (Nat.le_refl _) (leavesL_len ps) (by omega) (by omega)]; omega))) ?_
        refine g_take 14 rfl (by decide +kernel) rfl (fun _ _ _ h => h) hS63 (fun wF hF => r_move (v := .int .u8 _) rfl) ?_
        refine g_take 15 rfl (by decide +kernel) rfl (fun _ _ _ h => h) hS63 (fun wF hF => r_xor8 rfl rfl) ?_
        refine g_take 16 rfl (by decide +kernel) rfl (fun _ _ _ h => h) hS63 (fun wF hF => r_ix32 ti53.und ti49 rfl rfl (St.rowAt hF (.head _)) hP32 (gpathL_len _ _ _ _ true (Nat.le_refl _) (leavesL_len ps) (by omega) (by omega)) (Nat.mod_lt _ (by omega))) ?_
        refine g_tail (by decide +kernel) rfl (by decide +kernel) ?_
        refine wl_val (r_ixAR ti49.und ti5 rfl rfl (St.rowAt hS63 (.head _)) (by rw [flat32_lenV hP32, gpathL_len _ _ _ _ true (Nat.le_refl _) (leavesL_len ps) (by omega) (by omega)]; omega) (by omega)) rfl ?_
        refine wl_exs (x_storeRowB [] hS63 ti5 rfl rfl (by rw [flat32_len hP32, gpathL_len _ _ _ _ true (Nat.le_refl _) (leavesL_len ps) (by omega) (by omega)]; omega)) rfl ?_
        intro w64 hS65
        simp only [List.cons_append, List.nil_append] at hS65
        obtain ⟨q2, hq32, hqlen, hS65⟩ := St.chunk (l1 := []) hS65
        simp only [List.cons_append, List.nil_append] at hS65
        refine wl_nil ?_
        refine c_then ?_
        refine c_seq ?_
        refine c_drawS 7 hMixed hS65 ?_
        intro w66 hS67
        refine g_take 0 rfl (by decide +kernel) rfl (fun _ _ _ h => h) hS67 (fun wF hF => r_loadB ti49 rfl rfl (hF.heap (.tail _ (.tail _ (.tail _ (.tail _ (.head _)))))) (by rw [List.length_map]; exact rootL_len _ ((leavesL_32 ps).take _) (by simp only [List.length_take, leavesL_len]; omega))) ?_
        refine g_take 1 rfl (by decide +kernel) rfl (fun _ _ _ h => h) hS67 (fun wF hF => r_loadB ti49 rfl rfl (hF.heap (.tail _ (.tail _ (.tail _ (.head _))))) (by rw [List.length_map]; exact rootL_len _ (leavesL_32 ps) (by rw [leavesL_len]; omega))) ?_
        refine g_take 2 rfl (by decide +kernel) rfl (fun _ _ _ h => h) hS67 (fun wF hF => r_loadB ti55 ag55 rfl (hF.heap (.tail _ (.head _))) (by first | (simp [*]; done) | (simp [*] <;> omega) | omega)) ?_
        refine g_take 4 rfl (by decide +kernel) rfl (fun _ _ _ h => h) hS67 (fun wF hF => r_loadB ti49 rfl rfl (hF.heap (.tail _ (.tail _ (.tail _ (.tail _ (.head _)))))) (by rw [List.length_map]; exact rootL_len _ ((leavesL_32 ps).take _) (by simp only [List.length_take, leavesL_len]; omega))) ?_
        refine g_take 5 rfl (by decide +kernel) rfl (fun _ _ _ h => h) hS67 (fun wF hF => r_loadB ti49 rfl rfl (hF.heap (.tail _ (.tail _ (.tail _ (.head _))))) (by rw [List.length_map]; exact rootL_len _ (leavesL_32 ps) (by rw [leavesL_len]; omega))) ?_
        refine g_take 6 rfl (by decide +kernel) rfl (fun _ _ _ h => h) hS67 (fun wF hF => r_loadB ti55 ag55 rfl (hF.heap (.tail _ (.head _))) (by first | (simp [*]; done) | (simp [*] <;> omega) | omega)) ?_
        refine g_one 3 (by decide +kernel) (by decide +kernel) ?_
        refine o_call rfl (r_call fn63 rfl rfl) rfl (grown_n (rootL ((leavesL ps).take ix')) (rootL (leavesL ps)) _ _ _ _ _ (q2) _ (rootL_len _ ((leavesL_32 ps).take _) (by simp only [List.length_take, leavesL_len]; omega)) (rootL_len _ (leavesL_32 ps) (by rw [leavesL_len]; omega)) (St.rowAt hS67 (.head _)) hq32 (hqlen) (hc91) (by omega) (by omega) (by omega) (by omega) (by omega)) ?_
        rintro _ w68 ⟨rfl, hx69⟩
        have hS70 := hS67.ext hx69
        refine ⟨hS70, ?_⟩
        refine g_tail (by decide +kernel) rfl (by decide +kernel) ?_
        refine wl_call (r_call fn64 rfl rfl) rfl (rgrown_n (rootL ((leavesL ps).take ix')) (rootL (leavesL ps)) _ _ _ _ _ (q2) _ (rootL_len _ ((leavesL_32 ps).take _) (by simp only [List.length_take, leavesL_len]; omega)) (rootL_len _ (leavesL_32 ps) (by rw [leavesL_len]; omega)) (St.rowAt hS70 (.head _)) hq32 (hqlen) (hc91) (by omega) (by omega) (by omega) (by omega) (by omega)) ?_
        rintro _ w71 ⟨rfl, hx72⟩
        have hS73 := hS70.ext hx72
        refine wl_dec_f (r_neq rfl rfl) rfl (not_not_intro rfl) ?_
        refine wl_nil ?_
        refine c_then ?_
        refine c_false rfl ?_
        refine wp_skip ?_
        refine c_then ?_
        refine c_seq ?_
        refine c_drawS 5 hMixed hS73 ?_
        intro w74 hS75
        refine g_take 0 rfl (by decide +kernel) rfl (fun _ _ _ h => h) hS75 (fun wF hF => r_loadB ti49 rfl rfl (hF.heap (.tail _ (.tail _ (.tail _ (.tail _ (.head _)))))) (by rw [List.length_map]; exact rootL_len _ ((leavesL_32 ps).take _) (by simp only [List.length_take, leavesL_len]; omega))) ?_
        refine g_take 1 rfl (by decide +kernel) rfl (fun _ _ _ h => h) hS75 (fun wF hF => r_loadB ti49 rfl rfl (hF.heap (.tail _ (.tail _ (.tail _ (.head _))))) (by rw [List.length_map]; exact rootL_len _ (leavesL_32 ps) (by rw [leavesL_len]; omega))) ?_
        refine g_all (rs := [2, 3]) (by decide +kernel) (by decide +kernel) rfl ?_
        simp only [List.forall_mem_cons, List.not_mem_nil, false_imp_iff, implies_true, and_true]
        refine ⟨?_, ?_⟩
        · refine o_exv rfl (x_alloc (C := ((List.replicate 32 (0 : UInt8)).map b8)) hS75 ti49 rfl) rfl ?_
          rintro _ w76 ⟨b15, rfl, hS77⟩
          refine ⟨hS77.drop1, ?_⟩
          refine g_one 3 (by decide +kernel) (by decide +kernel) ?_
          refine o_exv rfl (x_alloc (C := ((List.replicate 32 (0 : UInt8)).map b8)) hS77 ti49 rfl) rfl ?_
          rintro _ w78 ⟨b16, rfl, hS79⟩
          refine ⟨hS79.drop1.drop1, ?_⟩
          refine g_one 4 (by decide +kernel) (by decide +kernel) ?_
          refine o_exs rfl (x_storeW [_] hS79 ti49 rfl rfl (by rw [List.length_map]; exact rootL_len _ ((leavesL_32 ps).take _) (by simp only [List.length_take, leavesL_len]; omega)) (by simp) (one_b8 _)) rfl ?_
          intro w80 hS81
          simp only [List.cons_append, List.nil_append] at hS81
          refine ⟨hS81.drop1.drop1, ?_⟩
          refine g_tail (by decide +kernel) rfl (by decide +kernel) ?_
          refine wl_exs (x_storeW [] hS81 ti49 rfl rfl (by rw [List.length_map]; exact rootL_len _ (leavesL_32 ps) (by rw [leavesL_len]; omega)) (by simp) (one_b8 _)) rfl ?_
          intro w82 hS83
          simp only [List.cons_append, List.nil_append] at hS83
          refine wl_nil ?_
          refine c_then ?_
          refine c_seq ?_
          refine c_region ?_
          refine wl_val (r_move (v := .int .i64 _) rfl) rfl ?_
          refine wl_val (r_andm (s := 5) (by decide) rfl rfl) rfl ?_
          refine wl_val (r_ixA (sz := 1) ti49.und ti5 rfl rfl (by first | omega | (simp [*]; done) | (simp [*] <;> omega)) (Nat.zero_add _ |>.trans (Nat.mul_one _))) rfl ?_
          refine wl_val (r_loadB1 ti5.und rfl rfl (hS83.heap (.tail _ (.head _))) (map_gt _ _ _ (by rw [rootL_len _ ((leavesL_32 ps).take _) (by simp only [List.length_take, leavesL_len]; omega)]; omega))) rfl ?_
          refine wl_val (r_move (v := .int .u8 _) rfl) rfl ?_
          refine wl_val (r_xor8 rfl rfl) rfl ?_
          refine wl_val (r_ixA (sz := 1) ti49.und ti5 rfl rfl (by first | omega | (simp [*]; done) | (simp [*] <;> omega)) (Nat.zero_add _ |>.trans (Nat.mul_one _))) rfl ?_
          refine wl_exs (x_store1m [_] hS83 ti5 rfl rfl rfl (by rw [rootL_len _ ((leavesL_32 ps).take _) (by simp only [List.length_take, leavesL_len]; omega)]; omega)) rfl ?_
          intro w84 hS85
          simp only [List.cons_append, List.nil_append] at hS85
          refine wl_nil ?_
          refine c_then ?_
          refine c_seq ?_
          refine c_region ?_
          refine wl_val (r_move (v := .int .i64 _) rfl) rfl ?_
          refine wl_val (r_andm (s := 5) (by decide) rfl rfl) rfl ?_
          refine wl_val (r_ixA (sz := 1) ti49.und ti5 rfl rfl (by first | omega | (simp [*]; done) | (simp [*] <;> omega)) (Nat.zero_add _ |>.trans (Nat.mul_one _))) rfl ?_
          refine wl_val (r_loadB1 ti5.und rfl rfl (hS85.heap (.head _)) (map_gt _ _ _ (by rw [rootL_len _ (leavesL_32 ps) (by rw [leavesL_len]; omega)]; omega))) rfl ?_
          refine wl_val (r_move (v := .int .u8 _) rfl) rfl ?_
          refine wl_val (r_xor8 rfl rfl) rfl ?_
          refine wl_val (r_ixA (sz := 1) ti49.und ti5 rfl rfl (by first | omega | (simp [*]; done) | (simp [*] <;> omega)) (Nat.zero_add _ |>.trans (Nat.mul_one _))) rfl ?_
          refine wl_exs (x_store1m [] hS85 ti5 rfl rfl rfl (by rw [rootL_len _ (leavesL_32 ps) (by rw [leavesL_len]; omega)]; omega)) rfl ?_
          intro w86 hS87
          simp only [List.cons_append, List.nil_append] at hS87
          refine wl_nil ?_
          refine c_then ?_
          refine c_seq ?_
          refine c_drawS 17 hMixed hS87 ?_
          intro w88 hS89
          refine g_take 0 rfl (by decide +kernel) rfl (fun _ _ _ h => h) hS89 (fun wF hF => r_loadB ti49 rfl rfl (hF.heap (.tail _ (.head _))) (by rw [List.length_map, List.length_set]; exact rootL_len _ ((leavesL_32 ps).take _) (by simp only [List.length_take, leavesL_len]; omega))) ?_
          refine g_take 1 rfl (by decide +kernel) rfl (fun _ _ _ h => h) hS89 (fun wF hF => r_loadB ti49 rfl rfl (hF.heap (.tail _ (.tail _ (.tail _ (.tail _ (.tail _ (.head _))))))) (by rw [List.length_map]; exact rootL_len _ (leavesL_32 ps) (by rw [leavesL_len]; omega))) ?_
          refine g_take 2 rfl (by decide +kernel) rfl (fun _ _ _ h => h) hS89 (fun wF hF => r_loadB ti55 ag55 rfl (hF.heap (.tail _ (.tail _ (.tail _ (.tail _ (.tail _ (.tail _ (.tail _ (.head _))))))))) (by first | (simp [*]; done) | (simp [*] <;> omega) | omega)) ?_
          refine g_take 4 rfl (by decide +kernel) rfl (fun _ _ _ h => h) hS89 (fun wF hF => r_loadB ti49 rfl rfl (hF.heap (.tail _ (.head _))) (by rw [List.length_map, List.length_set]; exact rootL_len _ ((leavesL_32 ps).take _) (by simp only [List.length_take, leavesL_len]; omega))) ?_
          refine g_take 5 rfl (by decide +kernel) rfl (fun _ _ _ h => h) hS89 (fun wF hF => r_loadB ti49 rfl rfl (hF.heap (.tail _ (.tail _ (.tail _ (.tail _ (.tail _ (.head _))))))) (by rw [List.length_map]; exact rootL_len _ (leavesL_32 ps) (by rw [leavesL_len]; omega))) ?_
          refine g_take 6 rfl (by decide +kernel) rfl (fun _ _ _ h => h) hS89 (fun wF hF => r_loadB ti55 ag55 rfl (hF.heap (.tail _ (.tail _ (.tail _ (.tail _ (.tail _ (.tail _ (.tail _ (.head _))))))))) (by first | (simp [*]; done) | (simp [*] <;> omega) | omega)) ?_
          refine g_one 3 (by decide +kernel) (by decide +kernel) ?_
          refine o_call rfl (r_call fn63 rfl rfl) rfl (grown_n ((rootL ((leavesL ps).take ix')).set _ _) (rootL (leavesL ps)) _ _ _ _ _ (gpathL (leavesL ps) ix' true) _ (by rw [List.length_set]; exact rootL_len _ ((leavesL_32 ps).take _) (by simp only [List.length_take, leavesL_len]; omega)) (rootL_len _ (leavesL_32 ps) (by rw [leavesL_len]; omega)) (St.rowAt hS89 (.tail _ (.tail _ (.tail _ (.tail _ (.tail _ (.tail _ (.tail _ (.tail _ (.head _)))))))))) hP32 (gpathL_len _ _ _ _ true (Nat.le_refl _) (leavesL_len ps) (by omega) (by omega)) (hcP) (by omega) (by omega) (by omega) (by omega) (by omega)) ?_
          rintro _ w90 ⟨rfl, hx91⟩
          have hS92 := hS89.ext hx91
          refine ⟨hS92, ?_⟩
          refine g_one 7 (by decide +kernel) (by decide +kernel) ?_
          refine o_call rfl (r_call fn64 rfl rfl) rfl (rgrown_n ((rootL ((leavesL ps).take ix')).set _ _) (rootL (leavesL ps)) _ _ _ _ _ (gpathL (leavesL ps) ix' true) _ (by rw [List.length_set]; exact rootL_len _ ((leavesL_32 ps).take _) (by simp only [List.length_take, leavesL_len]; omega)) (rootL_len _ (leavesL_32 ps) (by rw [leavesL_len]; omega)) (St.rowAt hS92 (.tail _ (.tail _ (.tail _ (.tail _ (.tail _ (.tail _ (.tail _ (.tail _ (.head _)))))))))) hP32 (gpathL_len _ _ _ _ true (Nat.le_refl _) (leavesL_len ps) (by omega) (by omega)) (hcP) (by omega) (by omega) (by omega) (by omega) (by omega)) ?_
          rintro _ w93 ⟨rfl, hx94⟩
          have hS95 := hS92.ext hx94
          refine ⟨hS95, ?_⟩
          refine g_dec_t 8 rfl (by decide +kernel) rfl (fun _ _ _ _ h => h) hS95 (fun wF hF => r_eql rfl rfl) rfl ?_
          refine g_take 9 rfl (by decide +kernel) rfl (fun _ _ _ h => h) hS95 (fun wF hF => r_move (v := .bool _) rfl) ?_
          refine g_take 10 rfl (by decide +kernel) rfl (fun _ _ _ h => h) hS95 (fun wF hF => r_loadB ti49 rfl rfl (hF.heap (.tail _ (.tail _ (.tail _ (.tail _ (.tail _ (.tail _ (.head _)))))))) (by rw [List.length_map]; exact rootL_len _ ((leavesL_32 ps).take _) (by simp only [List.length_take, leavesL_len]; omega))) ?_
          refine g_take 11 rfl (by decide +kernel) rfl (fun _ _ _ h => h) hS95 (fun wF hF => r_loadB ti49 rfl rfl (hF.heap (.head _)) (by rw [List.length_map, List.length_set]; exact rootL_len _ (leavesL_32 ps) (by rw [leavesL_len]; omega))) ?_
          refine g_take 12 rfl (by decide +kernel) rfl (fun _ _ _ h => h) hS95 (fun wF hF => r_loadB ti55 ag55 rfl (hF.heap (.tail _ (.tail _ (.tail _ (.tail _ (.tail _ (.tail _ (.tail _ (.head _))))))))) (by first | (simp [*]; done) | (simp [*] <;> omega) | omega)) ?_
          refine g_take 14 rfl (by decide +kernel) rfl (fun _ _ _ h => h) hS95 (fun wF hF => r_loadB ti49 rfl rfl (hF.heap (.tail _ (.tail _ (.tail _ (.tail _ (.tail _ (.tail _ (.head _)))))))) (by rw [List.length_map]; exact rootL_len _ ((leavesL_32 ps).take _) (by simp only [List.length_take, leavesL_len]; omega))) ?_
          refine g_take 15 rfl (by decide +kernel) rfl (fun _ _ _ h => h) hS95 (fun wF hF => r_loadB ti49 rfl rfl (hF.heap (.head _)) (by rw [List.length_map, List.length_set]; exact rootL_len _ (leavesL_32 ps) (by rw [leavesL_len]; omega))) ?_
          refine g_take 16 rfl (by decide +kernel) rfl (fun _ _ _ h => h) hS95 (fun wF hF => r_loadB ti55 ag55 rfl (hF.heap (.tail _ (.tail _ (.tail _ (.tail _ (.tail _ (.tail _ (.tail _ (.head _))))))))) (by first | (simp [*]; done) | (simp [*] <;> omega) | omega)) ?_
          refine g_one 13 (by decide +kernel) (by decide +kernel) ?_
          refine o_call rfl (r_call fn63 rfl rfl) rfl (grown_n (rootL ((leavesL ps).take ix')) ((rootL (leavesL ps)).set _ _) _ _ _ _ _ (gpathL (leavesL ps) ix' true) _ (rootL_len _ ((leavesL_32 ps).take _) (by simp only [List.length_take, leavesL_len]; omega)) (by rw [List.length_set]; exact rootL_len _ (leavesL_32 ps) (by rw [leavesL_len]; omega)) (St.rowAt hS95 (.tail _ (.tail _ (.tail _ (.tail _ (.tail _ (.tail _ (.tail _ (.tail _ (.head _)))))))))) hP32 (gpathL_len _ _ _ _ true (Nat.le_refl _) (leavesL_len ps) (by omega) (by omega)) (hcP) (by omega) (by omega) (by omega) (by omega) (by omega)) ?_
          rintro _ w96 ⟨rfl, hx97⟩
          have hS98 := hS95.ext hx97
          refine ⟨hS98, ?_⟩
          refine g_tail (by decide +kernel) rfl (by decide +kernel) ?_
          refine wl_call (r_call fn64 rfl rfl) rfl (rgrown_n (rootL ((leavesL ps).take ix')) ((rootL (leavesL ps)).set _ _) _ _ _ _ _ (gpathL (leavesL ps) ix' true) _ (rootL_len _ ((leavesL_32 ps).take _) (by simp only [List.length_take, leavesL_len]; omega)) (by rw [List.length_set]; exact rootL_len _ (leavesL_32 ps) (by rw [leavesL_len]; omega)) (St.rowAt hS98 (.tail _ (.tail _ (.tail _ (.tail _ (.tail _ (.tail _ (.tail _ (.tail _ (.head _)))))))))) hP32 (gpathL_len _ _ _ _ true (Nat.le_refl _) (leavesL_len ps) (by omega) (by omega)) (hcP) (by omega) (by omega) (by omega) (by omega) (by omega)) ?_
          rintro _ w99 ⟨rfl, hx100⟩
          have hS101 := hS98.ext hx100
          refine wl_dec_t (r_eql rfl rfl) rfl rfl ?_
          refine wl_val (r_pick_t rfl (v := .bool _) rfl) rfl ?_
          refine wl_val (r_assign (v := .bool _) rfl) rfl ?_
          refine wl_nil ?_
          refine c_then ?_
          refine wp_ret ?_
          refine ret1 Try.results15 ?_
          first | exact ⟨rfl, hS101.fin⟩ | exact ⟨by simp, hS101.fin⟩
        · refine o_exv rfl (x_alloc (C := ((List.replicate 32 (0 : UInt8)).map b8)) hS75 ti49 rfl) rfl ?_
          rintro _ w102 ⟨b16, rfl, hS103⟩
          refine ⟨hS103.drop1, ?_⟩
          refine g_one 2 (by decide +kernel) (by decide +kernel) ?_
          refine o_exv rfl (x_alloc (C := ((List.replicate 32 (0 : UInt8)).map b8)) hS103 ti49 rfl) rfl ?_
          rintro _ w104 ⟨b15, rfl, hS105⟩
          refine ⟨hS105.drop1.drop1, ?_⟩
          refine g_one 4 (by decide +kernel) (by decide +kernel) ?_
          refine o_exs rfl (x_storeW [] hS105 ti49 rfl rfl (by rw [List.length_map]; exact rootL_len _ ((leavesL_32 ps).take _) (by simp only [List.length_take, leavesL_len]; omega)) (by simp) (one_b8 _)) rfl ?_
          intro w106 hS107
          simp only [List.cons_append, List.nil_append] at hS107
          refine ⟨hS107.drop1.drop1, ?_⟩
          refine g_tail (by decide +kernel) rfl (by decide +kernel) ?_
          refine wl_exs (x_storeW [_] hS107 ti49 rfl rfl (by rw [List.length_map]; exact rootL_len _ (leavesL_32 ps) (by rw [leavesL_len]; omega)) (by simp) (one_b8 _)) rfl ?_
          intro w108 hS109
          simp only [List.cons_append, List.nil_append] at hS109
          refine wl_nil ?_
          refine c_then ?_
          refine c_seq ?_
          refine c_region ?_
          refine wl_val (r_move (v := .int .i64 _) rfl) rfl ?_
          refine wl_val (r_andm (s := 5) (by decide) rfl rfl) rfl ?_
          refine wl_val (r_ixA (sz := 1) ti49.und ti5 rfl rfl (by first | omega | (simp [*]; done) | (simp [*] <;> omega)) (Nat.zero_add _ |>.trans (Nat.mul_one _))) rfl ?_
          refine wl_val (r_loadB1 ti5.und rfl rfl (hS109.heap (.head _)) (map_gt _ _ _ (by rw [rootL_len _ ((leavesL_32 ps).take _) (by simp only [List.length_take, leavesL_len]; omega)]; omega))) rfl ?_
          refine wl_val (r_move (v := .int .u8 _) rfl) rfl ?_
          refine wl_val (r_xor8 rfl rfl) rfl ?_
          refine wl_val (r_ixA (sz := 1) ti49.und ti5 rfl rfl (by first | omega | (simp [*]; done) | (simp [*] <;> omega)) (Nat.zero_add _ |>.trans (Nat.mul_one _))) rfl ?_
          refine wl_exs (x_store1m [] hS109 ti5 rfl rfl rfl (by rw [rootL_len _ ((leavesL_32 ps).take _) (by simp only [List.length_take, leavesL_len]; omega)]; omega)) rfl ?_
          intro w110 hS111
          simp only [List.cons_append, List.nil_append] at hS111
          refine wl_nil ?_
          refine c_then ?_
          refine c_seq ?_
          refine c_region ?_
          refine wl_val (r_move (v := .int .i64 _) rfl) rfl ?_
          refine wl_val (r_andm (s := 5) (by decide) rfl rfl) rfl ?_
          refine wl_val (r_ixA (sz := 1) ti49.und ti5 rfl rfl (by first | omega | (simp [*]; done) | (simp [*] <;> omega)) (Nat.zero_add _ |>.trans (Nat.mul_one _))) rfl ?_
          refine wl_val (r_loadB1 ti5.und rfl rfl (hS111.heap (.tail _ (.head _))) (map_gt _ _ _ (by rw [rootL_len _ (leavesL_32 ps) (by rw [leavesL_len]; omega)]; omega))) rfl ?_
          refine wl_val (r_move (v := .int .u8 _) rfl) rfl ?_
          refine wl_val (r_xor8 rfl rfl) rfl ?_
          refine wl_val (r_ixA (sz := 1) ti49.und ti5 rfl rfl (by first | omega | (simp [*]; done) | (simp [*] <;> omega)) (Nat.zero_add _ |>.trans (Nat.mul_one _))) rfl ?_
          refine wl_exs (x_store1m [_] hS111 ti5 rfl rfl rfl (by rw [rootL_len _ (leavesL_32 ps) (by rw [leavesL_len]; omega)]; omega)) rfl ?_
          intro w112 hS113
          simp only [List.cons_append, List.nil_append] at hS113
          refine wl_nil ?_
          refine c_then ?_
          refine c_seq ?_
          refine c_drawS 17 hMixed hS113 ?_
          intro w114 hS115
          refine g_take 0 rfl (by decide +kernel) rfl (fun _ _ _ h => h) hS115 (fun wF hF => r_loadB ti49 rfl rfl (hF.heap (.head _)) (by rw [List.length_map, List.length_set]; exact rootL_len _ ((leavesL_32 ps).take _) (by simp only [List.length_take, leavesL_len]; omega))) ?_
          refine g_take 1 rfl (by decide +kernel) rfl (fun _ _ _ h => h) hS115 (fun wF hF => r_loadB ti49 rfl rfl (hF.heap (.tail _ (.tail _ (.tail _ (.tail _ (.tail _ (.head _))))))) (by rw [List.length_map]; exact rootL_len _ (leavesL_32 ps) (by rw [leavesL_len]; omega))) ?_
          refine g_take 2 rfl (by decide +kernel) rfl (fun _ _ _ h => h) hS115 (fun wF hF => r_loadB ti55 ag55 rfl (hF.heap (.tail _ (.tail _ (.tail _ (.tail _ (.tail _ (.tail _ (.tail _ (.head _))))))))) (by first | (simp [*]; done) | (simp [*] <;> omega) | omega)) ?_
          refine g_take 4 rfl (by decide +kernel) rfl (fun _ _ _ h => h) hS115 (fun wF hF => r_loadB ti49 rfl rfl (hF.heap (.head _)) (by rw [List.length_map, List.length_set]; exact rootL_len _ ((leavesL_32 ps).take _) (by simp only [List.length_take, leavesL_len]; omega))) ?_
          refine g_take 5 rfl (by decide +kernel) rfl (fun _ _ _ h => h) hS115 (fun wF hF => r_loadB ti49 rfl rfl (hF.heap (.tail _ (.tail _ (.tail _ (.tail _ (.tail _ (.head _))))))) (by rw [List.length_map]; exact rootL_len _ (leavesL_32 ps) (by rw [leavesL_len]; omega))) ?_
          refine g_take 6 rfl (by decide +kernel) rfl (fun _ _ _ h => h) hS115 (fun wF hF => r_loadB ti55 ag55 rfl (hF.heap (.tail _ (.tail _ (.tail _ (.tail _ (.tail _ (.tail _ (.tail _ (.head _))))))))) (by first | (simp [*]; done) | (simp [*] <;> omega) | omega)) ?_
          refine g_one 3 (by decide +kernel) (by decide +kernel) ?_
          refine o_call rfl (r_call fn63 rfl rfl) rfl (grown_n ((rootL ((leavesL ps).take ix')).set _ _) (rootL (leavesL ps)) _ _ _ _ _ (gpathL (leavesL ps) ix' true) _ (by rw [List.length_set]; exact rootL_len _ ((leavesL_32 ps).take _) (by simp only [List.length_take, leavesL_len]; omega)) (rootL_len _ (leavesL_32 ps) (by rw [leavesL_len]; omega)) (St.rowAt hS115 (.tail _ (.tail _ (.tail _ (.tail _ (.tail _ (.tail _ (.tail _ (.tail _ (.head _)))))))))) hP32 (gpathL_len _ _ _ _ true (Nat.le_refl _) (leavesL_len ps) (by omega) (by omega)) (hcP) (by omega) (by omega) (by omega) (by omega) (by omega)) ?_
          rintro _ w116 ⟨rfl, hx117⟩
          have hS118 := hS115.ext hx117
          refine ⟨hS118, ?_⟩
          refine g_one 7 (by decide +kernel) (by decide +kernel) ?_
          refine o_call rfl (r_call fn64 rfl rfl) rfl (rgrown_n ((rootL ((leavesL ps).take ix')).set _ _) (rootL (leavesL ps)) _ _ _ _ _ (gpathL (leavesL ps) ix' true) _ (by rw [List.length_set]; exact rootL_len _ ((leavesL_32 ps).take _) (by simp only [List.length_take, leavesL_len]; omega)) (rootL_len _ (leavesL_32 ps) (by rw [leavesL_len]; omega)) (St.rowAt hS118 (.tail _ (.tail _ (.tail _ (.tail _ (.tail _ (.tail _ (.tail _ (.tail _ (.head _)))))))))) hP32 (gpathL_len _ _ _ _ true (Nat.le_refl _) (leavesL_len ps) (by omega) (by omega)) (hcP) (by omega) (by omega) (by omega) (by omega) (by omega)) ?_
          rintro _ w119 ⟨rfl, hx120⟩
          have hS121 := hS118.ext hx120
          refine ⟨hS121, ?_⟩
          refine g_dec_t 8 rfl (by decide +kernel) rfl (fun _ _ _ _ h => h) hS121 (fun wF hF => r_eql rfl rfl) rfl ?_
          refine g_take 9 rfl (by decide +kernel) rfl (fun _ _ _ h => h) hS121 (fun wF hF => r_move (v := .bool _) rfl) ?_
          refine g_take 10 rfl (by decide +kernel) rfl (fun _ _ _ h => h) hS121 (fun wF hF => r_loadB ti49 rfl rfl (hF.heap (.tail _ (.tail _ (.tail _ (.tail _ (.tail _ (.tail _ (.head _)))))))) (by rw [List.length_map]; exact rootL_len _ ((leavesL_32 ps).take _) (by simp only [List.length_take, leavesL_len]; omega))) ?_
          refine g_take 11 rfl (by decide +kernel) rfl (fun _ _ _ h => h) hS121 (fun wF hF => r_loadB ti49 rfl rfl (hF.heap (.tail _ (.head _))) (by rw [List.length_map, List.length_set]; exact rootL_len _ (leavesL_32 ps) (by rw [leavesL_len]; omega))) ?_
          refine g_take 12 rfl (by decide +kernel) rfl (fun _ _ _ h => h) hS121 (fun wF hF => r_loadB ti55 ag55 rfl (hF.heap (.tail _ (.tail _ (.tail _ (.tail _ (.tail _ (.tail _ (.tail _ (.head _))))))))) (by first | (simp [*]; done) | (simp [*] <;> omega) | omega)) ?_
          refine g_take 14 rfl (by decide +kernel) rfl (fun _ _ _ h => h) hS121 (fun wF hF => r_loadB ti49 rfl rfl (hF.heap (.tail _ (.tail _ (.tail _ (.tail _ (.tail _ (.tail _ (.head _)))))))) (by rw [List.length_map]; exact rootL_len _ ((leavesL_32 ps).take _) (by simp only [List.length_take, leavesL_len]; omega))) ?_
          refine g_take 15 rfl (by decide +kernel) rfl (fun _ _ _ h => h) hS121 (fun wF hF => r_loadB ti49 rfl rfl (hF.heap (.tail _ (.head _))) (by rw [List.length_map, List.length_set]; exact rootL_len _ (leavesL_32 ps) (by rw [leavesL_len]; omega))) ?_
          refine g_take 16 rfl (by decide +kernel) rfl (fun _ _ _ h => h) hS121 (fun wF hF => r_loadB ti55 ag55 rfl (hF.heap (.tail _ (.tail _ (.tail _ (.tail _ (.tail _ (.tail _ (.tail _ (.head _))))))))) (by first | (simp [*]; done) | (simp [*] <;> omega) | omega)) ?_
          refine g_one 13 (by decide +kernel) (by decide +kernel) ?_
          refine o_call rfl (r_call fn63 rfl rfl) rfl (grown_n (rootL ((leavesL ps).take ix')) ((rootL (leavesL ps)).set _ _) _ _ _ _ _ (gpathL (leavesL ps) ix' true) _ (rootL_len _ ((leavesL_32 ps).take _) (by simp only [List.length_take, leavesL_len]; omega)) (by rw [List.length_set]; exact rootL_len _ (leavesL_32 ps) (by rw [leavesL_len]; omega)) (St.rowAt hS121 (.tail _ (.tail _ (.tail _ (.tail _ (.tail _ (.tail _ (.tail _ (.tail _ (.head _)))))))))) hP32 (gpathL_len _ _ _ _ true (Nat.le_refl _) (leavesL_len ps) (by omega) (by omega)) (hcP) (by omega) (by omega) (by omega) (by omega) (by omega)) ?_
          rintro _ w122 ⟨rfl, hx123⟩
          have hS124 := hS121.ext hx123
          refine ⟨hS124, ?_⟩
          refine g_tail (by decide +kernel) rfl (by decide +kernel) ?_
          refine wl_call (r_call fn64 rfl rfl) rfl (rgrown_n (rootL ((leavesL ps).take ix')) ((rootL (leavesL ps)).set _ _) _ _ _ _ _ (gpathL (leavesL ps) ix' true) _ (rootL_len _ ((leavesL_32 ps).take _) (by simp only [List.length_take, leavesL_len]; omega)) (by rw [List.length_set]; exact rootL_len _ (leavesL_32 ps) (by rw [leavesL_len]; omega)) (St.rowAt hS124 (.tail _ (.tail _ (.tail _ (.tail _ (.tail _ (.tail _ (.tail _ (.tail _ (.head _)))))))))) hP32 (gpathL_len _ _ _ _ true (Nat.le_refl _) (leavesL_len ps) (by omega) (by omega)) (hcP) (by omega) (by omega) (by omega) (by omega) (by omega)) ?_
          rintro _ w125 ⟨rfl, hx126⟩
          have hS127 := hS124.ext hx126
          refine wl_dec_t (r_eql rfl rfl) rfl rfl ?_
          refine wl_val (r_pick_t rfl (v := .bool _) rfl) rfl ?_
          refine wl_val (r_assign (v := .bool _) rfl) rfl ?_
          refine wl_nil ?_
          refine c_then ?_
          refine wp_ret ?_
          refine ret1 Try.results15 ?_
          first | exact ⟨rfl, hS127.fin⟩ | exact ⟨by simp, hS127.fin⟩
      · refine wl_nil ?_
        refine c_then ?_
        refine c_false rfl ?_
        refine wp_skip ?_
        refine c_then ?_
        refine c_seq ?_
        refine c_drawS 5 hMixed hS61 ?_
        intro w128 hS129
        refine g_take 0 rfl (by decide +kernel) rfl (fun _ _ _ h => h) hS129 (fun wF hF => r_loadB ti49 rfl rfl (hF.heap (.tail _ (.tail _ (.tail _ (.tail _ (.head _)))))) (by rw [List.length_map]; exact rootL_len _ ((leavesL_32 ps).take _) (by simp only [List.length_take, leavesL_len]; omega))) ?_
        refine g_take 1 rfl (by decide +kernel) rfl (fun _ _ _ h => h) hS129 (fun wF hF => r_loadB ti49 rfl rfl (hF.heap (.tail _ (.tail _ (.tail _ (.head _))))) (by rw [List.length_map]; exact rootL_len _ (leavesL_32 ps) (by rw [leavesL_len]; omega))) ?_
        refine g_all (rs := [2, 3]) (by decide +kernel) (by decide +kernel) rfl ?_
        simp only [List.forall_mem_cons, List.not_mem_nil, false_imp_iff, implies_true, and_true]
        refine ⟨?_, ?_⟩
        · refine o_exv rfl (x_alloc (C := ((List.replicate 32 (0 : UInt8)).map b8)) hS129 ti49 rfl) rfl ?_
          rintro _ w130 ⟨b15, rfl, hS131⟩
          refine ⟨hS131.drop1, ?_⟩
          refine g_one 3 (by decide +kernel) (by decide +kernel) ?_
          refine o_exv rfl (x_alloc (C := ((List.replicate 32 (0 : UInt8)).map b8)) hS131 ti49 rfl) rfl ?_
          rintro _ w132 ⟨b16, rfl, hS133⟩
          refine ⟨hS133.drop1.drop1, ?_⟩
          refine g_one 4 (by decide +kernel) (by decide +kernel) ?_
          refine o_exs rfl (x_storeW [_] hS133 ti49 rfl rfl (by rw [List.length_map]; exact rootL_len _ ((leavesL_32 ps).take _) (by simp only [List.length_take, leavesL_len]; omega)) (by simp) (one_b8 _)) rfl ?_
          intro w134 hS135
          simp only [List.cons_append, List.nil_append] at hS135
          refine ⟨hS135.drop1.drop1, ?_⟩
          refine g_tail (by decide +kernel) rfl (by decide +kernel) ?_
          refine wl_exs (x_storeW [] hS135 ti49 rfl rfl (by rw [List.length_map]; exact rootL_len _ (leavesL_32 ps) (by rw [leavesL_len]; omega)) (by simp) (one_b8 _)) rfl ?_
          intro w136 hS137
          simp only [List.cons_append, List.nil_append] at hS137
          refine wl_nil ?_
          refine c_then ?_
          refine c_seq ?_
          refine c_region ?_
          refine wl_val (r_move (v := .int .i64 _) rfl) rfl ?_
          refine wl_val (r_andm (s := 5) (by decide) rfl rfl) rfl ?_
          refine wl_val (r_ixA (sz := 1) ti49.und ti5 rfl rfl (by first | omega | (simp [*]; done) | (simp [*] <;> omega)) (Nat.zero_add _ |>.trans (Nat.mul_one _))) rfl ?_
          refine wl_val (r_loadB1 ti5.und rfl rfl (hS137.heap (.tail _ (.head _))) (map_gt _ _ _ (by rw [rootL_len _ ((leavesL_32 ps).take _) (by simp only [List.length_take, leavesL_len]; omega)]; omega))) rfl ?_
          refine wl_val (r_move (v := .int .u8 _) rfl) rfl ?_
          refine wl_val (r_xor8 rfl rfl) rfl ?_
          refine wl_val (r_ixA (sz := 1) ti49.und ti5 rfl rfl (by first | omega | (simp [*]; done) | (simp [*] <;> omega)) (Nat.zero_add _ |>.trans (Nat.mul_one _))) rfl ?_
          refine wl_exs (x_store1m [_] hS137 ti5 rfl rfl rfl (by rw [rootL_len _ ((leavesL_32 ps).take _) (by simp only [List.length_take, leavesL_len]; omega)]; omega)) rfl ?_
          intro w138 hS139
          simp only [List.cons_append, List.nil_append] at hS139
          refine wl_nil ?_
          refine c_then ?_
          refine c_seq ?_
          refine c_region ?_
          refine wl_val (r_move (v := .int .i64 _) rfl) rfl ?_
          refine wl_val (r_andm (s := 5) (by decide) rfl rfl) rfl ?_
          refine wl_val (r_ixA (sz := 1) ti49.und ti5 rfl rfl (by first | omega | (simp [*]; done) | (simp [*] <;> omega)) (Nat.zero_add _ |>.trans (Nat.mul_one _))) rfl ?_
          refine wl_val (r_loadB1 ti5.und rfl rfl (hS139.heap (.head _)) (map_gt _ _ _ (by rw [rootL_len _ (leavesL_32 ps) (by rw [leavesL_len]; omega)]; omega))) rfl ?_
          refine wl_val (r_move (v := .int .u8 _) rfl) rfl ?_
          refine wl_val (r_xor8 rfl rfl) rfl ?_
          refine wl_val (r_ixA (sz := 1) ti49.und ti5 rfl rfl (by first | omega | (simp [*]; done) | (simp [*] <;> omega)) (Nat.zero_add _ |>.trans (Nat.mul_one _))) rfl ?_
          refine wl_exs (x_store1m [] hS139 ti5 rfl rfl rfl (by rw [rootL_len _ (leavesL_32 ps) (by rw [leavesL_len]; omega)]; omega)) rfl ?_
          intro w140 hS141
          simp only [List.cons_append, List.nil_append] at hS141
          refine wl_nil ?_
          refine c_then ?_
          refine c_seq ?_
          refine c_drawS 17 hMixed hS141 ?_
          intro w142 hS143
          refine g_take 0 rfl (by decide +kernel) rfl (fun _ _ _ h => h) hS143 (fun wF hF => r_loadB ti49 rfl rfl (hF.heap (.tail _ (.head _))) (by rw [List.length_map, List.length_set]; exact rootL_len _ ((leavesL_32 ps).take _) (by simp only [List.length_take, leavesL_len]; omega))) ?_
          refine g_take 1 rfl (by decide +kernel) rfl (fun _ _ _ h => h) hS143 (fun wF hF => r_loadB ti49 rfl rfl (hF.heap (.tail _ (.tail _ (.tail _ (.tail _ (.tail _ (.head _))))))) (by rw [List.length_map]; exact rootL_len _ (leavesL_32 ps) (by rw [leavesL_len]; omega))) ?_
          refine g_take 2 rfl (by decide +kernel) rfl (fun _ _ _ h => h) hS143 (fun wF hF => r_loadB ti55 ag55 rfl (hF.heap (.tail _ (.tail _ (.tail _ (.tail _ (.tail _ (.tail _ (.tail _ (.head _))))))))) (by first | (simp [*]; done) | (simp [*] <;> omega) | omega)) ?_
          refine g_take 4 rfl (by decide +kernel) rfl (fun _ _ _ h => h) hS143 (fun wF hF => r_loadB ti49 rfl rfl (hF.heap (.tail _ (.head _))) (by rw [List.length_map, List.length_set]; exact rootL_len _ ((leavesL_32 ps).take _) (by simp only [List.length_take, leavesL_len]; omega))) ?_
          refine g_take 5 rfl (by decide +kernel) rfl (fun _ _ _ h => h) hS143 (fun wF hF => r_loadB ti49 rfl rfl (hF.heap (.tail _ (.tail _ (.tail _ (.tail _ (.tail _ (.head _))))))) (by rw [List.length_map]; exact rootL_len _ (leavesL_32 ps) (by rw [leavesL_len]; omega))) ?_
          refine g_take 6 rfl (by decide +kernel) rfl (fun _ _ _ h => h) hS143 (fun wF hF => r_loadB ti55 ag55 rfl (hF.heap (.tail _ (.tail _ (.tail _ (.tail _ (.tail _ (.tail _ (.tail _ (.head _))))))))) (by first | (simp [*]; done) | (simp [*] <;> omega) | omega)) ?_
          refine g_one 3 (by decide +kernel) (by decide +kernel) ?_
          refine o_call rfl (r_call fn63 rfl rfl) rfl (grown_n ((rootL ((leavesL ps).take ix')).set _ _) (rootL (leavesL ps)) _ _ _ _ _ (gpathL (leavesL ps) ix' true) _ (by rw [List.length_set]; exact rootL_len _ ((leavesL_32 ps).take _) (by simp only [List.length_take, leavesL_len]; omega)) (rootL_len _ (leavesL_32 ps) (by rw [leavesL_len]; omega)) (St.rowAt hS143 (.tail _ (.tail _ (.tail _ (.tail _ (.tail _ (.tail _ (.tail _ (.tail _ (.head _)))))))))) hP32 (gpathL_len _ _ _ _ true (Nat.le_refl _) (leavesL_len ps) (by omega) (by omega)) (hcP) (by omega) (by omega) (by omega) (by omega) (by omega)) ?_
          rintro _ w144 ⟨rfl, hx145⟩
          have hS146 := hS143.ext hx145
          refine ⟨hS146, ?_⟩
          refine g_one 7 (by decide +kernel) (by decide +kernel) ?_
          refine o_call rfl (r_call fn64 rfl rfl) rfl (rgrown_n ((rootL ((leavesL ps).take ix')).set _ _) (rootL (leavesL ps)) _ _ _ _ _ (gpathL (leavesL ps) ix' true) _ (by rw [List.length_set]; exact rootL_len _ ((leavesL_32 ps).take _) (by simp only [List.length_take, leavesL_len]; omega)) (rootL_len _ (leavesL_32 ps) (by rw [leavesL_len]; omega)) (St.rowAt hS146 (.tail _ (.tail _ (.tail _ (.tail _ (.tail _ (.tail _ (.tail _ (.tail _ (.head _)))))))))) hP32 (gpathL_len _ _ _ _ true (Nat.le_refl _) (leavesL_len ps) (by omega) (by omega)) (hcP) (by omega) (by omega) (by omega) (by omega) (by omega)) ?_
          rintro _ w147 ⟨rfl, hx148⟩
          have hS149 := hS146.ext hx148
          refine ⟨hS149, ?_⟩
          refine g_dec_t 8 rfl (by decide +kernel) rfl (fun _ _ _ _ h => h) hS149 (fun wF hF => r_eql rfl rfl) rfl ?_
          refine g_take 9 rfl (by decide +kernel) rfl (fun _ _ _ h => h) hS149 (fun wF hF => r_move (v := .bool _) rfl) ?_
          refine g_take 10 rfl (by decide +kernel) rfl (fun _ _ _ h => h) hS149 (fun wF hF => r_loadB ti49 rfl rfl (hF.heap (.tail _ (.tail _ (.tail _ (.tail _ (.tail _ (.tail _ (.head _)))))))) (by rw [List.length_map]; exact rootL_len _ ((leavesL_32 ps).take _) (by simp only [List.length_take, leavesL_len]; omega))) ?_
          refine g_take 11 rfl (by decide +kernel) rfl (fun _ _ _ h => h) hS149 (fun wF hF => r_loadB ti49 rfl rfl (hF.heap (.head _)) (by rw [List.length_map, List.length_set]; exact rootL_len _ (leavesL_32 ps) (by rw [leavesL_len]; omega))) ?_
          refine g_take 12 rfl (by decide +kernel) rfl (fun _ _ _ h => h) hS149 (fun wF hF => r_loadB ti55 ag55 rfl (hF.heap (.tail _ (.tail _ (.tail _ (.tail _ (.tail _ (.tail _ (.tail _ (.head _))))))))) (by first | (simp [*]; done) | (simp [*] <;> omega) | omega)) ?_
          refine g_take 14 rfl (by decide +kernel) rfl (fun _ _ _ h => h) hS149 (fun wF hF => r_loadB ti49 rfl rfl (hF.heap (.tail _ (.tail _ (.tail _ (.tail _ (.tail _ (.tail _ (.head _)))))))) (by rw [List.length_map]; exact rootL_len _ ((leavesL_32 ps).take _) (by simp only [List.length_take, leavesL_len]; omega))) ?_
          refine g_take 15 rfl (by decide +kernel) rfl (fun _ _ _ h => h) hS149 (fun wF hF => r_loadB ti49 rfl rfl (hF.heap (.head _)) (by rw [List.length_map, List.length_set]; exact rootL_len _ (leavesL_32 ps) (by rw [leavesL_len]; omega))) ?_
          refine g_take 16 rfl (by decide +kernel) rfl (fun _ _ _ h => h) hS149 (fun wF hF => r_loadB ti55 ag55 rfl (hF.heap (.tail _ (.tail _ (.tail _ (.tail _ (.tail _ (.tail _ (.tail _ (.head _))))))))) (by first | (simp [*]; done) | (simp [*] <;> omega) | omega)) ?_
          refine g_one 13 (by decide +kernel) (by decide +kernel) ?_
          refine o_call rfl (r_call fn63 rfl rfl) rfl (grown_n (rootL ((leavesL ps).take ix')) ((rootL (leavesL ps)).set _ _) _ _ _ _ _ (gpathL (leavesL ps) ix' true) _ (rootL_len _ ((leavesL_32 ps).take _) (by simp only [List.length_take, leavesL_len]; omega)) (by rw [List.length_set]; exact rootL_len _ (leavesL_32 ps) (by rw [leavesL_len]; omega)) (St.rowAt hS149 (.tail _ (.tail _ (.tail _ (.tail _ (.tail _ (.tail _ (.tail _ (.tail _ (.head _)))))))))) hP32 (gpathL_len _ _ _ _ true (Nat.le_refl _) (leavesL_len ps) (by omega) (by omega)) (hcP) (by omega) (by omega) (by omega) (by omega) (by omega)) ?_
          rintro _ w150 ⟨rfl, hx151⟩
          have hS152 := hS149.ext hx151
          refine ⟨hS152, ?_⟩
          refine g_tail (by decide +kernel) rfl (by decide +kernel) ?_
          refine wl_call (r_call fn64 rfl rfl) rfl (rgrown_n (rootL ((leavesL ps).take ix')) ((rootL (leavesL ps)).set _ _) _ _ _ _ _ (gpathL (leavesL ps) ix' true) _ (rootL_len _ ((leavesL_32 ps).take _) (by simp only [List.length_take, leavesL_len]; omega)) (by rw [List.length_set]; exact rootL_len _ (leavesL_32 ps) (by rw [leavesL_len]; omega)) (St.rowAt hS152 (.tail _ (.tail _ (.tail _ (.tail _ (.tail _ (.tail _ (.tail _ (.tail _ (.head _)))))))))) hP32 (gpathL_len _ _ _ _ true (Nat.le_refl _) (leavesL_len ps) (by omega) (by omega)) (hcP) (by omega) (by omega) (by omega) (by omega) (by omega)) ?_
          rintro _ w153 ⟨rfl, hx154⟩
          have hS155 := hS152.ext hx154
          refine wl_dec_t (r_eql rfl rfl) rfl rfl ?_
          refine wl_val (r_pick_t rfl (v := .bool _) rfl) rfl ?_
          refine wl_val (r_assign (v := .bool _) rfl) rfl ?_
          refine wl_nil ?_
          refine c_then ?_
          refine wp_ret ?_
          refine ret1 Try.results15 ?_
          first | exact ⟨rfl, hS155.fin⟩ | exact ⟨by simp, hS155.fin⟩
        · refine o_exv rfl (x_alloc (C := ((List.replicate 32 (0 : UInt8)).map b8)) hS129 ti49 rfl) rfl ?_
          rintro _ w156 ⟨b16, rfl, hS157⟩
          refine ⟨hS157.drop1, ?_⟩
          refine g_one 2 (by decide +kernel) (by decide +kernel) ?_
          refine o_exv rfl (x_alloc (C := ((List.replicate 32 (0 : UInt8)).map b8)) hS157 ti49 rfl) rfl ?_
          rintro _ w158 ⟨b15, rfl, hS159⟩
          refine ⟨hS159.drop1.drop1, ?_⟩
          refine g_one 4 (by decide +kernel) (by decide +kernel) ?_
          refine o_exs rfl (x_storeW [] hS159 ti49 rfl rfl (by rw [List.length_map]; exact rootL_len _ ((leavesL_32 ps).take _) (by simp only [List.length_take, leavesL_len]; omega)) (by simp) (one_b8 _)) rfl ?_
          intro w160 hS161
          simp only [List.cons_append, List.nil_append] at hS161
          refine ⟨hS161.drop1.drop1, ?_⟩
          refine g_tail (by decide +kernel) rfl (by decide +kernel) ?_
          refine wl_exs (x_storeW [_] hS161 ti49 rfl rfl (by rw [List.length_map]; exact rootL_len _ (leavesL_32 ps) (by rw [leavesL_len]; omega)) (by simp) (one_b8 _)) rfl ?_
          intro w162 hS163
          simp only [List.cons_append, List.nil_append] at hS163
          refine wl_nil ?_
          refine c_then ?_
          refine c_seq ?_
          refine c_region ?_
          refine wl_val (r_move (v := .int .i64 _) rfl) rfl ?_
          refine wl_val (r_andm (s := 5) (by decide) rfl rfl) rfl ?_
          refine wl_val (r_ixA (sz := 1) ti49.und ti5 rfl rfl (by first | omega | (simp [*]; done) | (simp [*] <;> omega)) (Nat.zero_add _ |>.trans (Nat.mul_one _))) rfl ?_
          refine wl_val (r_loadB1 ti5.und rfl rfl (hS163.heap (.head _)) (map_gt _ _ _ (by rw [rootL_len _ ((leavesL_32 ps).take _) (by simp only [List.length_take, leavesL_len]; omega)]; omega))) rfl ?_
          refine wl_val (r_move (v := .int .u8 _) rfl) rfl ?_
          refine wl_val (r_xor8 rfl rfl) rfl ?_
          refine wl_val (r_ixA (sz := 1) ti49.und ti5 rfl rfl (by first | omega | (simp [*]; done) | (simp [*] <;> omega)) (Nat.zero_add _ |>.trans (Nat.mul_one _))) rfl ?_
          refine wl_exs (x_store1m [] hS163 ti5 rfl rfl rfl (by rw [rootL_len _ ((leavesL_32 ps).take _) (by simp only [List.length_take, leavesL_len]; omega)]; omega)) rfl ?_
          intro w164 hS165
          simp only [List.cons_append, List.nil_append] at hS165
          refine wl_nil ?_
          refine c_then ?_
          refine c_seq ?_
          refine c_region ?_
          refine wl_val (r_move (v := .int .i64 _) rfl) rfl ?_
          refine wl_val (r_andm (s := 5) (by decide) rfl rfl) rfl ?_
          refine wl_val (r_ixA (sz := 1) ti49.und ti5 rfl rfl (by first | omega | (simp [*]; done) | (simp [*] <;> omega)) (Nat.zero_add _ |>.trans (Nat.mul_one _))) rfl ?_
          refine wl_val (r_loadB1 ti5.und rfl rfl (hS165.heap (.tail _ (.head _))) (map_gt _ _ _ (by rw [rootL_len _ (leavesL_32 ps) (by rw [leavesL_len]; omega)]; omega))) rfl ?_
          refine wl_val (r_move (v := .int .u8 _) rfl) rfl ?_
          refine wl_val (r_xor8 rfl rfl) rfl ?_
          refine wl_val (r_ixA (sz := 1) ti49.und ti5 rfl rfl (by first | omega | (simp [*]; done) | (simp [*] <;> omega)) (Nat.zero_add _ |>.trans (Nat.mul_one _))) rfl ?_
          refine wl_exs (x_store1m [_] hS165 ti5 rfl rfl rfl (by rw [rootL_len _ (leavesL_32 ps) (by rw [leavesL_len]; omega)]; omega)) rfl ?_
          intro w166 hS167
          simp only [List.cons_append, List.nil_append] at hS167
          refine wl_nil ?_
          refine c_then ?_
          refine c_seq ?_
          refine c_drawS 17 hMixed hS167 ?_
          intro w168 hS169
          refine g_take 0 rfl (by decide +kernel) rfl (fun _ _ _ h => h) hS169 (fun wF hF => r_loadB ti49 rfl rfl (hF.heap (.head _)) (by rw [List.length_map, List.length_set]; exact rootL_len _ ((leavesL_32 ps).take _) (by simp only [List.length_take, leavesL_len]; omega))) ?_
          refine g_take 1 rfl (by decide +kernel) rfl (fun _ _ _ h => h) hS169 (fun wF hF => r_loadB ti49 rfl rfl (hF.heap (.tail _ (.tail _ (.tail _ (.tail _ (.tail _ (.head _))))))) (by rw [List.length_map]; exact rootL_len _ (leavesL_32 ps) (by rw [leavesL_len]; omega))) ?_
          refine g_take 2 rfl (by decide +kernel) rfl (fun _ _ _ h => h) hS169 (fun wF hF => r_loadB ti55 ag55 rfl (hF.heap (.tail _ (.tail _ (.tail _ (.tail _ (.tail _ (.tail _ (.tail _ (.head _))))))))) (by first | (simp [*]; done) | (simp [*] <;> omega) | omega)) ?_
          refine g_take 4 rfl (by decide +kernel) rfl (fun _ _ _ h => h) hS169 (fun wF hF => r_loadB ti49 rfl rfl (hF.heap (.head _)) (by rw [List.length_map, List.length_set]; exact rootL_len _ ((leavesL_32 ps).take _) (by simp only [List.length_take, leavesL_len]; omega))) ?_
          refine g_take 5 rfl (by decide +kernel) rfl (fun _ _ _ h => h) hS169 (fun wF hF => r_loadB ti49 rfl rfl (hF.heap (.tail _ (.tail _ (.tail _ (.tail _ (.tail _ (.head _))))))) (by rw [List.length_map]; exact rootL_len _ (leavesL_32 ps) (by rw [leavesL_len]; omega))) ?_
          refine g_take 6 rfl (by decide +kernel) rfl (fun _ _ _ h => h) hS169 (fun wF hF => r_loadB ti55 ag55 rfl (hF.heap (.tail _ (.tail _ (.tail _ (.tail _ (.tail _ (.tail _ (.tail _ (.head _))))))))) (by first | (simp [*]; done) | (simp [*] <;> omega) | omega)) ?_
          refine g_one 3 (by decide +kernel) (by decide +kernel) ?_
          refine o_call rfl (r_call fn63 rfl rfl) rfl (grown_n ((rootL ((leavesL ps).take ix')).set _ _) (rootL (leavesL ps)) _ _ _ _ _ (gpathL (leavesL ps) ix' true) _ (by rw [List.length_set]; exact rootL_len _ ((leavesL_32 ps).take _) (by simp only [List.length_take, leavesL_len]; omega)) (rootL_len _ (leavesL_32 ps) (by rw [leavesL_len]; omega)) (St.rowAt hS169 (.tail _ (.tail _ (.tail _ (.tail _ (.tail _ (.tail _ (.tail _ (.tail _ (.head _)))))))))) hP32 (gpathL_len _ _ _ _ true (Nat.le_refl _) (leavesL_len ps) (by omega) (by omega)) (hcP) (by omega) (by omega) (by omega) (by omega) (by omega)) ?_
          rintro _ w170 ⟨rfl, hx171⟩
          have hS172 := hS169.ext hx171
          refine ⟨hS172, ?_⟩
          refine g_one 7 (by decide +kernel) (by decide +kernel) ?_
          refine o_call rfl (r_call fn64 rfl rfl) rfl (rgrown_n ((rootL ((leavesL ps).take ix')).set _ _) (rootL (leavesL ps)) _ _ _ _ _ (gpathL (leavesL ps) ix' true) _ (by rw [List.length_set]; exact rootL_len _ ((leavesL_32 ps).take _) (by simp only [List.length_take, leavesL_len]; omega)) (rootL_len _ (leavesL_32 ps) (by rw [leavesL_len]; omega)) (St.rowAt hS172 (.tail _ (.tail _ (.tail _ (.tail _ (.tail _ (.tail _ (.tail _ (.tail _ (.head _)))))))))) hP32 (gpathL_len _ _ _ _ true (Nat.le_refl _) (leavesL_len ps) (by omega) (by omega)) (hcP) (by omega) (by omega) (by omega) (by omega) (by omega)) ?_
          rintro _ w173 ⟨rfl, hx174⟩
          have hS175 := hS172.ext hx174
          refine ⟨hS175, ?_⟩
          refine g_dec_t 8 rfl (by decide +kernel) rfl (fun _ _ _ _ h => h) hS175 (fun wF hF => r_eql rfl rfl) rfl ?_
          refine g_take 9 rfl (by decide +kernel) rfl (fun _ _ _ h => h) hS175 (fun wF hF => r_move (v := .bool _) rfl) ?_
          refine g_take 10 rfl (by decide +kernel) rfl (fun _ _ _ h => h) hS175 (fun wF hF => r_loadB ti49 rfl rfl (hF.heap (.tail _ (.tail _ (.tail _ (.tail _ (.tail _ (.tail _ (.head _)))))))) (by rw [List.length_map]; exact rootL_len _ ((leavesL_32 ps).take _) (by simp only [List.length_take, leavesL_len]; omega))) ?_
          refine g_take 11 rfl (by decide +kernel) rfl (fun _ _ _ h => h) hS175 (fun wF hF => r_loadB ti49 rfl rfl (hF.heap (.tail _ (.head _))) (by rw [List.length_map, List.length_set]; exact rootL_len _ (leavesL_32 ps) (by rw [leavesL_len]; omega))) ?_
          refine g_take 12 rfl (by decide +kernel) rfl (fun _ _ _ h => h) hS175 (fun wF hF => r_loadB ti55 ag55 rfl (hF.heap (.tail _ (.tail _ (.tail _ (.tail _ (.tail _ (.tail _ (.tail _ (.head _))))))))) (by first | (simp [*]; done) | (simp [*] <;> omega) | omega)) ?_
          refine g_take 14 rfl (by decide +kernel) rfl (fun _ _ _ h => h) hS175 (fun wF hF => r_loadB ti49 rfl rfl (hF.heap (.tail _ (.tail _ (.tail _ (.tail _ (.tail _ (.tail _ (.head _)))))))) (by rw [List.length_map]; exact rootL_len _ ((leavesL_32 ps).take _) (by simp only [List.length_take, leavesL_len]; omega))) ?_
          refine g_take 15 rfl (by decide +kernel) rfl (fun _ _ _ h => h) hS175 (fun wF hF => r_loadB ti49 rfl rfl (hF.heap (.tail _ (.head _))) (by rw [List.length_map, List.length_set]; exact rootL_len _ (leavesL_32 ps) (by rw [leavesL_len]; omega))) ?_
          refine g_take 16 rfl (by decide +kernel) rfl (fun _ _ _ h => h) hS175 (fun wF hF => r_loadB ti55 ag55 rfl (hF.heap (.tail _ (.tail _ (.tail _ (.tail _ (.tail _ (.tail _ (.tail _ (.head _))))))))) (by first | (simp [*]; done) | (simp [*] <;> omega) | omega)) ?_
          refine g_one 13 (by decide +kernel) (by decide +kernel) ?_
          refine o_call rfl (r_call fn63 rfl rfl) rfl (grown_n (rootL ((leavesL ps).take ix')) ((rootL (leavesL ps)).set _ _) _ _ _ _ _ (gpathL (leavesL ps) ix' true) _ (rootL_len _ ((leavesL_32 ps).take _) (by simp only [List.length_take, leavesL_len]; omega)) (by rw [List.length_set]; exact rootL_len _ (leavesL_32 ps) (by rw [leavesL_len]; omega)) (St.rowAt hS175 (.tail _ (.tail _ (.tail _ (.tail _ (.tail _ (.tail _ (.tail _ (.tail _ (.head _)))))))))) hP32 (gpathL_len _ _ _ _ true (Nat.le_refl _) (leavesL_len ps) (by omega) (by omega)) (hcP) (by omega) (by omega) (by omega) (by omega) (by omega)) ?_
          rintro _ w176 ⟨rfl, hx177⟩
          have hS178 := hS175.ext hx177
          refine ⟨hS178, ?_⟩
          refine g_tail (by decide +kernel) rfl (by decide +kernel) ?_
          refine wl_call (r_call fn64 rfl rfl) rfl (rgrown_n (rootL ((leavesL ps).take ix')) ((rootL (leavesL ps)).set _ _) _ _ _ _ _ (gpathL (leavesL ps) ix' true) _ (rootL_len _ ((leavesL_32 ps).take _) (by simp only [List.length_take, leavesL_len]; omega)) (by rw [List.length_set]; exact rootL_len _ (leavesL_32 ps) (by rw [leavesL_len]; omega)) (St.rowAt hS178 (.tail _ (.tail _ (.tail _ (.tail _ (.tail _ (.tail _ (.tail _ (.tail _ (.head _)))))))))) hP32 (gpathL_len _ _ _ _ true (Nat.le_refl _) (leavesL_len ps) (by omega) (by omega)) (hcP) (by omega) (by omega) (by omega) (by omega) (by omega)) ?_
          rintro _ w179 ⟨rfl, hx180⟩
          have hS181 := hS178.ext hx180
          refine wl_dec_t (r_eql rfl rfl) rfl rfl ?_
          refine wl_val (r_pick_t rfl (v := .bool _) rfl) rfl ?_
          refine wl_val (r_assign (v := .bool _) rfl) rfl ?_
          refine wl_nil ?_
          refine c_then ?_
          refine wp_ret ?_
          refine ret1 Try.results15 ?_
          first | exact ⟨rfl, hS181.fin⟩ | exact ⟨by simp, hS181.fin⟩


theorem own : ownKnob Try.prog.godebug = none := by kernel_rfl
theorem laidOut : laidOutB Try.prog = true := by kernel_rfl
theorem readable3 : Try.prog.readableRec 3 = true := by kernel_rfl
theorem inside3 : decide (3 < Try.prog.types.size) = true := by kernel_rfl
theorem readable5 : Try.prog.readableRec 5 = true := by kernel_rfl
theorem inside5 : decide (5 < Try.prog.types.size) = true := by kernel_rfl
theorem readable43 : Try.prog.readableRec 43 = true := by kernel_rfl
theorem inside43 : decide (43 < Try.prog.types.size) = true := by kernel_rfl
theorem lifted (os : Os) (started : os.Started) (H : Type) (enc : TypeId × Value → H) :
    ReturnsInHanded {} Try.checked os 15 .any (Rows.growthIsProvedSpec.pre6 enc Try.prog Try.f15 Rows.growthIsProvedRow.domain false) (Rows.growthIsProvedSpec.post enc Try.prog Try.f15 false true false false) := by
  refine returnsInHanded_of_change_sized (C := Try.checked) own started (by kernel_rfl) Try.func15
    (ChangeSpec.witness6 (enc := enc) (C := Try.checked) false ⟨#[], #[.slice none 0 0, .int .i64 0, .int .i64 0, .int .u8 0], []⟩ 8 (by kernel_rfl) (by kernel_rfl) (by kernel_rfl) (by kernel_rfl)) ?_
  intro W base args ds gs before hval0 hW hcnd hsz0 _
  have hval : ∀ (j : Nat) t v, Try.f15.params[j]? = some t → args[j]? = some v → Value.okWide Try.prog W .any base t v := hval0
  have hW' := hW
  obtain ⟨p, q, hA0, hV, rfl, hfz, hnd⟩ := hW
  have hA : DataW.TrodAll enc Try.prog W 0 (fun _ => true) true Try.f15.params.toList args.toList ds p := hA0
  have hsz : (DataW.weightsEach Try.prog (Try.f15.params.toList ++ Rows.growthIsProvedSpec.plain.varTypes Try.prog) (ds ++ gs)).all (· ≤ reachBytes) = true := hsz0
  rw [Try.params15] at hA hval hsz
  obtain ⟨v0, vs0, d0, ds0, p0, q0, hargs, rfl, rfl, h0, r0⟩ := trodAll_cons hA
  obtain ⟨v1, vs1, d1, ds1, p1, q1, rfl, rfl, rfl, h1, r1⟩ := trodAll_cons r0
  obtain ⟨v2, vs2, d2, ds2, p2, q2, rfl, rfl, rfl, h2, r2⟩ := trodAll_cons r1
  obtain ⟨v3, vs3, d3, ds3, p3, q3, rfl, rfl, rfl, h3, r3⟩ := trodAll_cons r2
  obtain ⟨rfl, rfl, rfl⟩ := trodAll_nil r3
  obtain rfl : args = #[v0, v1, v2, v3] := by cases args; simp_all
  obtain ⟨rfl, rfl⟩ := trodVars_none hV
  have lt0 : ∀ x ∈ p0, x.block < W.heap.size := by obtain ⟨m, hm⟩ := h0; exact DataW.trod_lt m _ _ _ hm
  have lt1 : ∀ x ∈ p1, x.block < W.heap.size := by obtain ⟨m, hm⟩ := h1; exact DataW.trod_lt m _ _ _ hm
  have lt2 : ∀ x ∈ p2, x.block < W.heap.size := by obtain ⟨m, hm⟩ := h2; exact DataW.trod_lt m _ _ _ hm
  have lt3 : ∀ x ∈ p3, x.block < W.heap.size := by obtain ⟨m, hm⟩ := h3; exact DataW.trod_lt m _ _ _ hm
  have ok0 := hval 0 43 v0 rfl rfl
  obtain ⟨⟨aps, cps, ps⟩, rfl, rps, lcps, hcps, hrps⟩ := open_slice (j := 0) Try.underlying43 (opens_parts Try.underlying43 (by kernel_rfl) (by kernel_rfl) Try.underlying22 Try.underlying5 (by kernel_rfl) (by kernel_rfl)) ok0 h0 hsz rfl rfl
  simp only [] at rps lcps hcps hrps
  have ok1 := hval 1 3 v1 rfl rfl
  obtain ⟨ix, rfl, loix, hiix⟩ := open_i64 Try.underlying3 ok1 h1
  have ok2 := hval 2 3 v2 rfl rfl
  obtain ⟨kk, rfl, lokk, hikk⟩ := open_i64 Try.underlying3 ok2 h2
  have ok3 := hval 3 5 v3 rfl rfl
  obtain ⟨by', rfl⟩ := open_u8 Try.underlying5 ok3 h3
  refine Calls.mono (walk ps aps cps ix kk by' W rps hrps lcps loix hiix lokk hikk) fun e W' ⟨v, he, hv, hs⟩ => ?_
  subst hv; subst he
  have bel := hs.below
  exact ⟨_, rfl, _, _, _, [], _, [], hW', trodAll_mk1 (shut_bool Try.underlying4 _), (trodAll_cons_mk (Below.trod laidOut readable43 (of_decide_eq_true inside43) h0 bel lt0) (trodAll_cons_mk (Below.trod laidOut readable3 (of_decide_eq_true inside3) h1 bel lt1) (trodAll_cons_mk (Below.trod laidOut readable3 (of_decide_eq_true inside3) h2 bel lt2) (trodAll_cons_mk (Below.trod laidOut readable5 (of_decide_eq_true inside5) h3 bel lt3) trodAll_mk0)))), rfl, bel.frame _, fun h => by cases h⟩
theorem over : Rows.growthIsProvedRow.holds Try.pinned (OpenSpec.ofChange Rows.growthIsProvedSpec) :=
  OpenClaim.holds_of_wide 15 Try.f15 rfl rfl rfl rfl rfl rfl rfl ⟨rfl, rfl, rfl, rfl, rfl⟩ rfl rfl rfl rfl rfl (by kernel_rfl) Try.func15 (by kernel_rfl)
    (of_decide_eq_true (by kernel_rfl)) (by unfold Func.isWrapper; rw [if_neg (of_decide_eq_false (by kernel_rfl))]; exact ⟨rfl, rfl⟩)
    (fun os started H enc _ => lifted os started H enc)
theorem proved : Rows.GrowthIsProvedSaid := over
#print axioms proved
end Go.Proofs.Ytfohfnpehfcaaaa.lawGrowthIsProved
