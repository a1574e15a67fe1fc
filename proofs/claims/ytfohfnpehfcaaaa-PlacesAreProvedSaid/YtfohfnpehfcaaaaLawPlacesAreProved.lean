/- For every texts, numbers and octet: Prove's proofs are the reference's and hold, and changed ones are shown by the program as by the reference; the law's function returns true and turns nothing. No condition. -/
import Derived.Test.YtfohfnpehfcaaaaRows
import Derived.Test.YtfohfnpehfcaaaaOpen
import Derived.Test.YtfohfnpehfcaaaaTreeE
namespace Go.Proofs.Ytfohfnpehfcaaaa.lawPlacesAreProved
open Go.Kw Go.Proofs.Ytfohfnpehfcaaaa
open Go.ChangeShapes Go.WideShapes Go.ChangeAt Go.RowKit
set_option linter.unusedVariables false
set_option linter.unusedSimpArgs false
set_option maxRecDepth 100000
set_option maxHeartbeats 20000000

theorem walk (ps : List Piece) (a : Option Addr) (c : Nat) (ix kk : Int) (by' : UInt8) (w : World) (hb : Row w a (ps.map Piece.v)) (hr : ∀ q ∈ ps, Row w q.a (q.xs.map b8) ∧ q.xs.length ≤ q.c ∧ q.xs.length ≤ 140737488351232) (hlc : ps.length ≤ c) (hi1 : -9223372036854775808 ≤ ix) (hi2 : ix ≤ 9223372036854775807) (hk1 : -9223372036854775808 ≤ kk) (hk2 : kk ≤ 9223372036854775807) :
    Ret Try.prog 14 [.slice a ps.length c, .int .i64 ix, .int .i64 kk, b8 by'] w (fun v w' => v = .bool true ∧ St w [] w' []) := by
  refine enter Try.func14 rfl Try.ntmps14 rfl ?_
  have hS := St.refl w []
  refine c_seq ?_
  refine c_region ?_
  refine wl_val (r_assign (v := .bool false) rfl) rfl ?_
  refine wl_nil ?_
  refine c_then ?_
  refine c_seq ?_
  refine c_seq ?_
  refine c_region ?_
  refine wl_call (r_call fn20 rfl rfl) rfl (landed_ok _) ?_
  rintro _ w1 ⟨rfl, hx2⟩
  have hS3 := hS.ext hx2
  refine wl_val (r_not rfl) rfl ?_
  refine wl_nil ?_
  refine c_then ?_
  refine c_false rfl ?_
  refine wp_skip ?_
  refine c_then ?_
  refine c_seq ?_
  refine c_region ?_
  refine wl_val (r_move (v := .slice _ _ _) rfl) rfl ?_
  refine wl_call (r_call fn47 rfl rfl) rfl (leaves_ok ps _ _ _ (hb.st hS3) (fun q hq => ⟨(hr q hq).1.st hS3, (hr q hq).2⟩) hlc) ?_
  rintro _ w4 ⟨a18, c18, rfl, hc18, hx5⟩
  have hS6 := hS3.call hx5
  simp only [List.cons_append, List.nil_append] at hS6
  refine wl_val (r_assign (v := .slice _ _ _) rfl) rfl ?_
  refine wl_nil ?_
  refine c_then ?_
  refine c_seq ?_
  refine c_region ?_
  refine wl_val (r_move (v := .slice _ _ _) rfl) rfl ?_
  refine wl_val (r_move (v := .int .i64 _) rfl) rfl ?_
  refine wl_call (r_call fn75 rfl rfl) rfl (prove_ok (leavesL ps) _ _ _ ix _ (St.rowAt hS6 (.head _)) (leavesL_32 ps) (leavesL_len ps) hc18 hi1 hi2) ?_
  rintro _ w7 (⟨hlf, rfl, hx8⟩ | ⟨hlf, rfl, hx8⟩ | ⟨hlf, rfl, hx8⟩ | ⟨hlf, aP, cP, rfl, hcP, hx8⟩)
  · have hS9 := hS6.ext hx8
    refine wl_val (r_move (v := .tuple _) rfl) rfl ?_
    refine wl_val (r_extract (v := .agg _) rfl rfl) rfl ?_
    refine wl_val (r_extract (v := .int .i64 _) rfl rfl) rfl ?_
    refine wl_exv (x_alloc (C := [.int .i64 0, .int .i64 0, .slice none 0 0]) hS9 ti55 rfl) rfl ?_
    rintro _ w10 ⟨b10, rfl, hS11⟩
    refine wl_exs (x_storeW [] hS11 ti55 rfl rfl (by first | (simp [*]; done) | (simp [*] <;> omega) | omega) (by first | (simp [*]; done) | (simp [*] <;> omega) | omega) (by repeat' first | exact one_nil | exact one_b8 _ | exact one_v32 _ | exact one_all rfl | refine one_cons rfl ?_ | refine one_app ?_ ?_)) rfl ?_
    intro w12 hS13
    simp only [List.cons_append, List.nil_append] at hS13
    refine wl_val (r_assign (v := .int .i64 _) rfl) rfl ?_
    refine wl_nil ?_
    refine c_then ?_
    refine c_seq ?_
    refine c_block ?_
    refine c_seq ?_
    refine c_region ?_
    refine wl_val (r_move (v := .slice _ _ _) rfl) rfl ?_
    refine wl_val (r_len (T := 53) rfl ti53.und rfl _ rfl) rfl ?_
    refine wl_dec_t (r_eql rfl rfl) rfl (by omega) ?_
    refine wl_val (r_assign (v := .bool _) rfl) rfl ?_
    refine wl_nil ?_
    refine c_then ?_
    refine c_true rfl ?_
    refine c_seq ?_
    refine c_region ?_
    refine wl_val (r_move (v := .int .i64 _) rfl) rfl ?_
    refine wl_dec_t (r_eql rfl rfl) rfl (by decide) ?_
    refine wl_val (r_assign (v := .bool _) rfl) rfl ?_
    refine wl_nil ?_
    refine c_then ?_
    refine wp_ret ?_
    refine c_inR ?_
    refine c_thenR ?_
    refine ret1 Try.results14 ?_
    first | exact ⟨rfl, hS13.fin⟩ | exact ⟨by simp, hS13.fin⟩
  · exfalso; omega
  · have hS9 := hS6.ext hx8
    refine wl_val (r_move (v := .tuple _) rfl) rfl ?_
    refine wl_val (r_extract (v := .agg _) rfl rfl) rfl ?_
    refine wl_val (r_extract (v := .int .i64 _) rfl rfl) rfl ?_
    refine wl_exv (x_alloc (C := [.int .i64 0, .int .i64 0, .slice none 0 0]) hS9 ti55 rfl) rfl ?_
    rintro _ w14 ⟨b10, rfl, hS15⟩
    refine wl_exs (x_storeW [] hS15 ti55 rfl rfl (by first | (simp [*]; done) | (simp [*] <;> omega) | omega) (by first | (simp [*]; done) | (simp [*] <;> omega) | omega) (by repeat' first | exact one_nil | exact one_b8 _ | exact one_v32 _ | exact one_all rfl | refine one_cons rfl ?_ | refine one_app ?_ ?_)) rfl ?_
    intro w16 hS17
    simp only [List.cons_append, List.nil_append] at hS17
    refine wl_val (r_assign (v := .int .i64 _) rfl) rfl ?_
    refine wl_nil ?_
    refine c_then ?_
    refine c_seq ?_
    refine c_block ?_
    refine c_seq ?_
    refine c_region ?_
    refine wl_val (r_move (v := .slice _ _ _) rfl) rfl ?_
    refine wl_val (r_len (T := 53) rfl ti53.und rfl _ rfl) rfl ?_
    refine wl_dec_f (r_eql rfl rfl) rfl (by omega) ?_
    refine wl_val (r_assign (v := .bool _) rfl) rfl ?_
    refine wl_nil ?_
    refine c_then ?_
    refine c_false rfl ?_
    refine c_seq ?_
    refine c_region ?_
    refine wl_val (r_move (v := .int .i64 _) rfl) rfl ?_
    refine wl_dec (r_lss rfl rfl) rfl (fun h7_1 => ?_) (fun h7_1 => ?_)
    · refine wl_val (r_move (v := .bool _) rfl) rfl ?_
      refine wl_not rfl ?_
      refine wl_not rfl ?_
      refine wl_not rfl ?_
      refine wl_not rfl ?_
      refine wl_val (r_pick_t rfl (v := .bool true) rfl) rfl ?_
      refine wl_val (r_assign (v := .bool _) rfl) rfl ?_
      refine wl_nil ?_
      refine c_then ?_
      refine c_true rfl ?_
      refine c_seq ?_
      refine c_region ?_
      refine wl_val (r_move (v := .int .i64 _) rfl) rfl ?_
      refine wl_dec_t (r_eql rfl rfl) rfl (by decide) ?_
      refine wl_val (r_move (v := .bool _) rfl) rfl ?_
      refine wl_val (r_loadB ti55 ag55 rfl (hS17.heap (.head _)) (by first | (simp [*]; done) | (simp [*] <;> omega) | omega)) rfl ?_
      refine wl_val (r_buildZ pl55 ti55) rfl ?_
      refine wl_call (r_call fn38 rfl rfl) rfl (sameProof_ok 0 0 0 0 none none 0 0 0 0 [] [] _ Row.nil Row.nil S32.nil S32.nil rfl rfl (by decide)) ?_
      rintro _ w18 ⟨rfl, hx19⟩
      have hS20 := hS17.ext hx19
      refine wl_val (r_pick_t rfl (v := .bool _) rfl) rfl ?_
      refine wl_val (r_assign (v := .bool _) rfl) rfl ?_
      refine wl_nil ?_
      refine c_then ?_
      refine wp_ret ?_
      refine c_inR ?_
      refine c_thenR ?_
      refine ret1 Try.results14 ?_
      first | exact ⟨rfl, hS20.fin⟩ | exact ⟨by simp, hS20.fin⟩
    · refine wl_val (r_move (v := .bool _) rfl) rfl ?_
      refine wl_val (r_move (v := .int .i64 _) rfl) rfl ?_
      refine wl_val (r_move (v := .slice _ _ _) rfl) rfl ?_
      refine wl_val (r_len (T := 53) rfl ti53.und rfl _ rfl) rfl ?_
      refine wl_dec_t (r_geq rfl rfl) rfl (by omega) ?_
      refine wl_val (r_pick_f rfl (v := .bool _) rfl) rfl ?_
      refine wl_val (r_assign (v := .bool _) rfl) rfl ?_
      refine wl_nil ?_
      refine c_then ?_
      refine c_true rfl ?_
      refine c_seq ?_
      refine c_region ?_
      refine wl_val (r_move (v := .int .i64 _) rfl) rfl ?_
      refine wl_dec_t (r_eql rfl rfl) rfl (by decide) ?_
      refine wl_val (r_move (v := .bool _) rfl) rfl ?_
      refine wl_val (r_loadB ti55 ag55 rfl (hS17.heap (.head _)) (by first | (simp [*]; done) | (simp [*] <;> omega) | omega)) rfl ?_
      refine wl_val (r_buildZ pl55 ti55) rfl ?_
      refine wl_call (r_call fn38 rfl rfl) rfl (sameProof_ok 0 0 0 0 none none 0 0 0 0 [] [] _ Row.nil Row.nil S32.nil S32.nil rfl rfl (by decide)) ?_
      rintro _ w21 ⟨rfl, hx22⟩
      have hS23 := hS17.ext hx22
      refine wl_val (r_pick_t rfl (v := .bool _) rfl) rfl ?_
      refine wl_val (r_assign (v := .bool _) rfl) rfl ?_
      refine wl_nil ?_
      refine c_then ?_
      refine wp_ret ?_
      refine c_inR ?_
      refine c_thenR ?_
      refine ret1 Try.results14 ?_
      first | exact ⟨rfl, hS23.fin⟩ | exact ⟨by simp, hS23.fin⟩
  · have hS9 := hS6.call hx8
    simp only [List.cons_append, List.nil_append] at hS9
    have hP32 : S32 (pathL (leavesL ps) ix.toNat) := pathL_32 _ _ _ (Nat.le_refl _) (leavesL_32 ps)
    refine wl_val (r_move (v := .tuple _) rfl) rfl ?_
    refine wl_val (r_extract (v := .agg _) rfl rfl) rfl ?_
    refine wl_val (r_extract (v := .int .i64 _) rfl rfl) rfl ?_
    refine wl_exv (x_alloc (C := [.int .i64 0, .int .i64 0, .slice none 0 0]) hS9 ti55 rfl) rfl ?_
    rintro _ w24 ⟨b10, rfl, hS25⟩
    refine wl_exs (x_storeW [] hS25 ti55 rfl rfl (by first | (simp [*]; done) | (simp [*] <;> omega) | omega) (by first | (simp [*]; done) | (simp [*] <;> omega) | omega) (by repeat' first | exact one_nil | exact one_b8 _ | exact one_v32 _ | exact one_all rfl | refine one_cons rfl ?_ | refine one_app ?_ ?_)) rfl ?_
    intro w26 hS27
    simp only [List.cons_append, List.nil_append] at hS27
    refine wl_val (r_assign (v := .int .i64 _) rfl) rfl ?_
    refine wl_nil ?_
    refine c_then ?_
    refine c_seq ?_
    refine c_block ?_
    refine c_seq ?_
    refine c_region ?_
    refine wl_val (r_move (v := .slice _ _ _) rfl) rfl ?_
    refine wl_val (r_len (T := 53) rfl ti53.und rfl _ rfl) rfl ?_
    refine wl_dec_f (r_eql rfl rfl) rfl (by omega) ?_
    refine wl_val (r_assign (v := .bool _) rfl) rfl ?_
    refine wl_nil ?_
    refine c_then ?_
    refine c_false rfl ?_
    refine c_seq ?_
    refine c_region ?_
    refine wl_val (r_move (v := .int .i64 _) rfl) rfl ?_
    refine wl_dec_f (r_lss rfl rfl) rfl (by omega) ?_
    refine wl_val (r_move (v := .bool _) rfl) rfl ?_
    refine wl_val (r_move (v := .int .i64 _) rfl) rfl ?_
    refine wl_val (r_move (v := .slice _ _ _) rfl) rfl ?_
    refine wl_val (r_len (T := 53) rfl ti53.und rfl _ rfl) rfl ?_
    refine wl_dec_f (r_geq rfl rfl) rfl (by omega) ?_
    refine wl_val (r_pick_f rfl (v := .bool _) rfl) rfl ?_
    refine wl_val (r_assign (v := .bool _) rfl) rfl ?_
    refine wl_nil ?_
    refine c_then ?_
    refine c_false rfl ?_
    refine wp_skip ?_
    refine c_inN ?_
    refine c_then ?_
    refine c_seq ?_
    obtain ⟨ix', rfl⟩ : ∃ i : Nat, ix = (i : Int) := ⟨ix.toNat, (by omega)⟩
    have hsl := steps_le (min ps.length 40) ix' (min ps.length 40) (Nat.le_refl _)
    simp only [Int.toNat_natCast] at *
    refine c_region ?_
    refine wl_val (r_move (v := .slice _ _ _) rfl) rfl ?_
    refine wl_call (r_call fn51 rfl rfl) rfl (rroot_ok _ (leavesL ps) _ _ _ (St.rowAt hS27 (.tail _ (.tail _ (.head _)))) (leavesL_32 ps) (leavesL_len ps) (by omega) hc18 (by omega)) ?_
    rintro _ w28 ⟨rfl, hx29⟩
    have hS30 := hS27.ext hx29
    refine wl_exv (x_alloc (C := ((List.replicate 32 (0 : UInt8)).map b8)) hS30 ti49 rfl) rfl ?_
    rintro _ w31 ⟨b12, rfl, hS32⟩
    refine wl_exs (x_storeW [] hS32 ti49 rfl rfl (by rw [List.length_map]; exact rootL_len _ (leavesL_32 ps) (by rw [leavesL_len]; omega)) (by simp) (one_b8 _)) rfl ?_
    intro w33 hS34
    simp only [List.cons_append, List.nil_append] at hS34
    refine wl_nil ?_
    refine c_then ?_
    refine c_seq ?_
    refine c_seq ?_
    refine c_drawS 31 hMixed hS34 ?_
    intro w35 hS36
    refine g_take 0 rfl (by decide +kernel) rfl (fun _ _ _ h => h) hS36 (fun wF hF => r_move (v := .int .i64 _) rfl) ?_
    refine g_dec_f 1 rfl (by decide +kernel) rfl (fun _ _ _ _ h => h) hS36 (fun wF hF => r_neq rfl rfl) (by decide) ?_
    refine g_take 2 rfl (by decide +kernel) rfl (fun _ _ _ h => h) hS36 (fun wF hF => r_move (v := .bool _) rfl) ?_
    refine g_take 3 rfl (by decide +kernel) rfl (fun _ _ _ h => h) hS36 (fun wF hF => r_field fa55_0 rfl) ?_
    refine g_take 4 rfl (by decide +kernel) rfl (fun _ _ _ h => h) hS36 (fun wF hF => r_loadB1 ti3.und rfl rfl (hF.heap (.tail _ (.head _))) rfl) ?_
    refine g_take 5 rfl (by decide +kernel) rfl (fun _ _ _ h => h) hS36 (fun wF hF => r_move (v := .int .i64 _) rfl) ?_
    refine g_dec_f 6 rfl (by decide +kernel) rfl (fun _ _ _ _ h => h) hS36 (fun wF hF => r_neq rfl rfl) (not_not_intro rfl) ?_
    refine g_take 7 rfl (by decide +kernel) rfl (fun _ _ _ h => h) hS36 (fun wF hF => r_pick_f rfl (v := .bool _) rfl) ?_
    refine g_take 8 rfl (by decide +kernel) rfl (fun _ _ _ h => h) hS36 (fun wF hF => r_move (v := .bool _) rfl) ?_
    refine g_take 9 rfl (by decide +kernel) rfl (fun _ _ _ h => h) hS36 (fun wF hF => r_field fa55_1 rfl) ?_
    refine g_take 10 rfl (by decide +kernel) rfl (fun _ _ _ h => h) hS36 (fun wF hF => r_loadB1 ti3.und rfl rfl (hF.heap (.tail _ (.head _))) rfl) ?_
    refine g_take 11 rfl (by decide +kernel) rfl (fun _ _ _ h => h) hS36 (fun wF hF => r_move (v := .slice _ _ _) rfl) ?_
    refine g_take 12 rfl (by decide +kernel) rfl (fun _ _ _ h => h) hS36 (fun wF hF => r_len (T := 53) rfl ti53.und rfl _ rfl) ?_
    refine g_dec_f 13 rfl (by decide +kernel) rfl (fun _ _ _ _ h => h) hS36 (fun wF hF => r_neq rfl rfl) (not_not_intro rfl) ?_
    refine g_take 14 rfl (by decide +kernel) rfl (fun _ _ _ h => h) hS36 (fun wF hF => r_pick_f rfl (v := .bool _) rfl) ?_
    refine g_take 15 rfl (by decide +kernel) rfl (fun _ _ _ h => h) hS36 (fun wF hF => r_move (v := .bool _) rfl) ?_
    refine g_take 16 rfl (by decide +kernel) rfl (fun _ _ _ h => h) hS36 (fun wF hF => r_field fa55_2 rfl) ?_
    refine g_take 17 rfl (by decide +kernel) rfl (fun _ _ _ h => h) hS36 (fun wF hF => r_loadB1 ti53.und rfl rfl (hF.heap (.tail _ (.head _))) rfl) ?_
    refine g_take 18 rfl (by decide +kernel) rfl (fun _ _ _ h => h) hS36 (fun wF hF => r_move (v := .slice _ _ _) rfl) ?_
    refine g_take 19 rfl (by decide +kernel) rfl (fun _ _ _ h => h) hS36 (fun wF hF => r_move (v := .int .i64 _) rfl) ?_
    refine g_one 20 (by decide +kernel) (by decide +kernel) ?_
    refine o_call rfl (r_call fn77 rfl rfl) rfl (rpath_ok _ (leavesL ps) ix' _ _ _ (St.rowAt hS36 (.tail _ (.tail _ (.tail _ (.head _))))) (leavesL_32 ps) (leavesL_len ps) (by omega) hc18 (by omega)) ?_
    rintro _ w37 ⟨a69, c69, rfl, hc69, hx38⟩
    have hS39 := hS36.call hx38
    simp only [List.cons_append, List.nil_append] at hS39
    refine ⟨hS39.drop1, ?_⟩
    refine g_one 21 (by decide +kernel) (by decide +kernel) ?_
    refine o_call rfl (r_call fn76 rfl rfl) rfl (equals_t _ _ _ _ _ _ _ _ _ (St.rowAt hS39 (.tail _ (.tail _ (.tail _ (.head _))))) (St.rowAt hS39 (.head _)) hP32 hP32 (pathL_len _ _ _ _ (Nat.le_refl _) (leavesL_len ps)) (pathL_len _ _ _ _ (Nat.le_refl _) (leavesL_len ps)) (by omega) rfl) ?_
    rintro _ w40 ⟨rfl, hx41⟩
    have hS42 := hS39.ext hx41
    refine ⟨hS42.drop1, ?_⟩
    refine g_take 22 rfl (by decide +kernel) rfl (fun _ _ _ h => h) hS42.drop1 (fun wF hF => r_not rfl) ?_
    refine g_take 23 rfl (by decide +kernel) rfl (fun _ _ _ h => h) hS42.drop1 (fun wF hF => r_pick_f rfl (v := .bool _) rfl) ?_
    refine g_take 24 rfl (by decide +kernel) rfl (fun _ _ _ h => h) hS42.drop1 (fun wF hF => r_move (v := .bool _) rfl) ?_
    refine g_take 25 rfl (by decide +kernel) rfl (fun _ _ _ h => h) hS42.drop1 (fun wF hF => r_loadB ti49 rfl rfl (hF.heap (.head _)) (by rw [List.length_map]; exact rootL_len _ (leavesL_32 ps) (by rw [leavesL_len]; omega))) ?_
    refine g_take 26 rfl (by decide +kernel) rfl (fun _ _ _ h => h) hS42.drop1 (fun wF hF => r_move (v := .slice _ _ _) rfl) ?_
    refine g_take 27 rfl (by decide +kernel) rfl (fun _ _ _ h => h) hS42.drop1 (fun wF hF => r_move (v := .int .i64 _) rfl) ?_
    refine g_take 28 rfl (by decide +kernel) rfl (fun _ _ _ h => h) hS42.drop1 (fun wF hF => r_ix32 ti53.und ti49 rfl rfl (St.rowAt hF (.tail _ (.tail _ (.tail _ (.head _))))) (leavesL_32 ps) (leavesL_len ps) (by omega)) ?_
    refine g_take 29 rfl (by decide +kernel) rfl (fun _ _ _ h => h) hS42.drop1 (fun wF hF => r_load32 ti49 rfl rfl (St.rowAt hF (.tail _ (.tail _ (.tail _ (.head _))))) (leavesL_32 ps) (by rw [leavesL_len]; omega)) ?_
    refine g_take 30 rfl (by decide +kernel) rfl (fun _ _ _ h => h) hS42.drop1 (fun wF hF => r_loadB ti55 ag55 rfl (hF.heap (.tail _ (.head _))) (by first | (simp [*]; done) | (simp [*] <;> omega) | omega)) ?_
    refine g_tail (by decide +kernel) rfl (by decide +kernel) ?_
    refine wl_call (r_call fn62 rfl rfl) rfl (proved_n (rootL (leavesL ps)) (gt (leavesL ps) ix') _ _ _ _ _ (pathL (leavesL ps) ix') _ (rootL_len _ (leavesL_32 ps) (by rw [leavesL_len]; omega)) ((leavesL_32 ps).gt (by rw [leavesL_len]; omega)) (St.rowAt hS42 (.tail _ (.tail _ (.tail _ (.head _))))) hP32 (pathL_len _ _ _ _ (Nat.le_refl _) (leavesL_len ps)) (hcP) (by omega) (by omega) (by omega) (by omega) (by omega)) ?_
    rintro _ w43 ⟨rfl, hx44⟩
    have hS45 := hS42.ext hx44
    refine wl_dec_f (r_neq rfl rfl) rfl (not_not_intro (made_proved (leavesL_len ps) (by omega) (by omega))) ?_
    refine wl_val (r_pick_f rfl (v := .bool _) rfl) rfl ?_
    refine wl_nil ?_
    refine c_then ?_
    refine c_false rfl ?_
    refine wp_skip ?_
    refine c_then ?_
    refine c_seq ?_
    refine c_region ?_
    refine wl_val (r_loadB ti55 ag55 rfl (hS45.heap (.tail _ (.tail _ (.head _)))) (by first | (simp [*]; done) | (simp [*] <;> omega) | omega)) rfl ?_
    refine wl_exv (x_alloc (C := [.int .i64 0, .int .i64 0, .slice none 0 0]) hS45 ti55 rfl) rfl ?_
    rintro _ w46 ⟨b13, rfl, hS47⟩
    refine wl_exs (x_storeW [] hS47 ti55 rfl rfl (by first | (simp [*]; done) | (simp [*] <;> omega) | omega) (by first | (simp [*]; done) | (simp [*] <;> omega) | omega) (by repeat' first | exact one_nil | exact one_b8 _ | exact one_v32 _ | exact one_all rfl | refine one_cons rfl ?_ | refine one_app ?_ ?_)) rfl ?_
    intro w48 hS49
    simp only [List.cons_append, List.nil_append] at hS49
    refine wl_nil ?_
    refine c_then ?_
    refine c_seq ?_
    refine c_region ?_
    refine wl_val (r_field fa55_2 rfl) rfl ?_
    refine wl_val (r_loadB1 ti53.und rfl rfl (hS49.heap (.tail _ (.tail _ (.tail _ (.head _))))) rfl) rfl ?_
    refine wl_call (r_call fn78 rfl rfl) rfl (clones_ok _ _ _ _ _ (St.rowAt hS49 (.tail _ (.tail _ (.tail _ (.tail _ (.head _)))))) hP32 (pathL_len _ _ _ _ (Nat.le_refl _) (leavesL_len ps)) (by omega)) ?_
    rintro _ w50 ⟨a86, c86, rfl, hc86, hx51⟩
    have hS52 := hS49.call hx51
    simp only [List.cons_append, List.nil_append] at hS52
    refine wl_val (r_field fa55_2 rfl) rfl ?_
    refine wl_exs (x_store1 [_] hS52 ti53 rfl rfl rfl (by simp)) rfl ?_
    intro w53 hS54
    simp only [List.cons_append, List.nil_append] at hS54
    simp only [List.set_cons_succ, List.set_cons_zero] at hS54
    refine wl_nil ?_
    refine c_then ?_
    refine c_seq ?_
    refine c_seq ?_
    refine c_region ?_
    refine wl_val (r_field fa55_2 rfl) rfl ?_
    refine wl_val (r_loadB1 ti53.und rfl rfl (hS54.heap (.tail _ (.head _))) rfl) rfl ?_
    refine wl_val (r_len (T := 53) rfl ti53.und rfl _ rfl) rfl ?_
    refine wl_dec (r_gtr rfl rfl) rfl (fun h14_3 => ?_) (fun h14_3 => ?_)
    · refine wl_val (r_move (v := .bool _) rfl) rfl ?_
      refine wl_val (r_move (v := .int .u8 _) rfl) rfl ?_
      refine wl_dec (r_neq rfl rfl) rfl (fun h14_6 => ?_) (fun h14_6 => ?_)
      · refine wl_val (r_pick_t rfl (v := .bool _) rfl) rfl ?_
        refine wl_nil ?_
        refine c_then ?_
        refine c_true rfl ?_
        refine c_seq ?_
        have hmod : (kk % (2 ^ 8 : Nat)).toNat % stepsL ix' (min ps.length 40) < stepsL ix' (min ps.length 40) := Nat.mod_lt _ (by omega)
        refine c_drawS 17 hMixed hS54 ?_
        intro w55 hS56
        refine g_take 0 rfl (by decide +kernel) rfl (fun _ _ _ h => h) hS56 (fun wF hF => r_field fa55_2 rfl) ?_
        refine g_take 1 rfl (by decide +kernel) rfl (fun _ _ _ h => h) hS56 (fun wF hF => r_loadB1 ti53.und rfl rfl (hF.heap (.tail _ (.head _))) rfl) ?_
        refine g_take 2 rfl (by decide +kernel) rfl (fun _ _ _ h => h) hS56 (fun wF hF => r_move (v := .int .i64 _) rfl) ?_
        refine g_take 3 rfl (by decide +kernel) rfl (fun _ _ _ h => h) hS56 (fun wF hF => r_andm (s := 8) (by decide) rfl rfl) ?_
        refine g_take 4 rfl (by decide +kernel) rfl (fun _ _ _ h => h) hS56 (fun wF hF => r_field fa55_2 rfl) ?_
        refine g_take 5 rfl (by decide +kernel) rfl (fun _ _ _ h => h) hS56 (fun wF hF => r_loadB1 ti53.und rfl rfl (hF.heap (.tail _ (.head _))) rfl) ?_
        refine g_take 6 rfl (by decide +kernel) rfl (fun _ _ _ h => h) hS56 (fun wF hF => r_len (T := 53) rfl ti53.und rfl _ rfl) ?_
        refine g_take 7 rfl (by decide +kernel) rfl (fun _ _ _ h => h) hS56 (fun wF hF => r_remn rfl rfl (by omega)) ?_
        refine g_take 8 rfl (by decide +kernel) rfl (fun _ _ _ h => h) hS56 (fun wF hF => r_move (v := .int .i64 _) rfl) ?_
        refine g_take 9 rfl (by decide +kernel) rfl (fun _ _ _ h => h) hS56 (fun wF hF => r_shr (s := 8) rfl rfl rfl) ?_
        refine g_take 10 rfl (by decide +kernel) rfl (fun _ _ _ h => h) hS56 (fun wF hF => r_andm (s := 5) (by decide) rfl rfl) ?_
        refine g_take 11 rfl (by decide +kernel) rfl (fun _ _ _ h => h) hS56 (fun wF hF => r_ix32 ti53.und ti49 rfl rfl (St.rowAt hF (.head _)) hP32 (pathL_len _ _ _ _ (Nat.le_refl _) (leavesL_len ps)) (Nat.mod_lt _ (by omega))) ?_
        refine g_take 12 rfl (by decide +kernel) rfl (fun _ _ _ h => h) hS56 (fun wF hF => r_ixAR ti49.und ti5 rfl rfl (St.rowAt hF (.head _)) (by rw [flat32_lenV hP32, pathL_len _ _ _ _ (Nat.le_refl _) (leavesL_len ps)]; omega) (by omega)) ?_
        refine g_take 13 rfl (by decide +kernel) rfl (fun _ _ _ h => h) hS56 (fun wF hF => r_loadS1 ti5.und rfl rfl (St.rowAt hF (.head _)) (map_gt _ _ _ (by rw [flat32_len hP32, pathL_len _ _ _ _ (Nat.le_refl _) (leavesL_len ps)]; omega))) ?_
        refine g_take 14 rfl (by decide +kernel) rfl (fun _ _ _ h => h) hS56 (fun wF hF => r_move (v := .int .u8 _) rfl) ?_
        refine g_take 15 rfl (by decide +kernel) rfl (fun _ _ _ h => h) hS56 (fun wF hF => r_xor8 rfl rfl) ?_
        refine g_take 16 rfl (by decide +kernel) rfl (fun _ _ _ h => h) hS56 (fun wF hF => r_ix32 ti53.und ti49 rfl rfl (St.rowAt hF (.head _)) hP32 (pathL_len _ _ _ _ (Nat.le_refl _) (leavesL_len ps)) (Nat.mod_lt _ (by omega))) ?_
        refine g_tail (by decide +kernel) rfl (by decide +kernel) ?_
        refine wl_val (r_ixAR ti49.und ti5 rfl rfl (St.rowAt hS56 (.head _)) (by rw [flat32_lenV hP32, pathL_len _ _ _ _ (Nat.le_refl _) (leavesL_len ps)]; omega) (by omega)) rfl ?_
        refine wl_exs (x_storeRowB [] hS56 ti5 rfl rfl (by rw [flat32_len hP32, pathL_len _ _ _ _ (Nat.le_refl _) (leavesL_len ps)]; omega)) rfl ?_
        intro w57 hS58
        simp only [List.cons_append, List.nil_append] at hS58
        obtain ⟨q2, hq32, hqlen, hS58⟩ := St.chunk (l1 := []) hS58
        simp only [List.cons_append, List.nil_append] at hS58
        refine wl_nil ?_
        refine c_then ?_
        refine c_seq ?_
        refine c_drawS 13 hMixed hS58 ?_
        intro w59 hS60
        refine g_take 0 rfl (by decide +kernel) rfl (fun _ _ _ h => h) hS60 (fun wF hF => r_loadB ti49 rfl rfl (hF.heap (.tail _ (.tail _ (.tail _ (.head _))))) (by rw [List.length_map]; exact rootL_len _ (leavesL_32 ps) (by rw [leavesL_len]; omega))) ?_
        refine g_take 1 rfl (by decide +kernel) rfl (fun _ _ _ h => h) hS60 (fun wF hF => r_move (v := .slice _ _ _) rfl) ?_
        refine g_take 2 rfl (by decide +kernel) rfl (fun _ _ _ h => h) hS60 (fun wF hF => r_move (v := .int .i64 _) rfl) ?_
        refine g_take 3 rfl (by decide +kernel) rfl (fun _ _ _ h => h) hS60 (fun wF hF => r_ix32 ti53.und ti49 rfl rfl (St.rowAt hF (.tail _ (.tail _ (.tail _ (.tail _ (.tail _ (.tail _ (.head _)))))))) (leavesL_32 ps) (leavesL_len ps) (by omega)) ?_
        refine g_take 4 rfl (by decide +kernel) rfl (fun _ _ _ h => h) hS60 (fun wF hF => r_load32 ti49 rfl rfl (St.rowAt hF (.tail _ (.tail _ (.tail _ (.tail _ (.tail _ (.tail _ (.head _)))))))) (leavesL_32 ps) (by rw [leavesL_len]; omega)) ?_
        refine g_take 5 rfl (by decide +kernel) rfl (fun _ _ _ h => h) hS60 (fun wF hF => r_loadB ti55 ag55 rfl (hF.heap (.tail _ (.head _))) (by first | (simp [*]; done) | (simp [*] <;> omega) | omega)) ?_
        refine g_take 7 rfl (by decide +kernel) rfl (fun _ _ _ h => h) hS60 (fun wF hF => r_loadB ti49 rfl rfl (hF.heap (.tail _ (.tail _ (.tail _ (.head _))))) (by rw [List.length_map]; exact rootL_len _ (leavesL_32 ps) (by rw [leavesL_len]; omega))) ?_
        refine g_take 8 rfl (by decide +kernel) rfl (fun _ _ _ h => h) hS60 (fun wF hF => r_move (v := .slice _ _ _) rfl) ?_
        refine g_take 9 rfl (by decide +kernel) rfl (fun _ _ _ h => h) hS60 (fun wF hF => r_move (v := .int .i64 _) rfl) ?_
        refine g_take 10 rfl (by decide +kernel) rfl (fun _ _ _ h => h) hS60 (fun wF hF => r_ix32 ti53.und ti49 rfl rfl (St.rowAt hF (.tail _ (.tail _ (.tail _ (.tail _ (.tail _ (.tail _ (.head _)))))))) (leavesL_32 ps) (leavesL_len ps) (by omega)) ?_
        refine g_take 11 rfl (by decide +kernel) rfl (fun _ _ _ h => h) hS60 (fun wF hF => r_load32 ti49 rfl rfl (St.rowAt hF (.tail _ (.tail _ (.tail _ (.tail _ (.tail _ (.tail _ (.head _)))))))) (leavesL_32 ps) (by rw [leavesL_len]; omega)) ?_
        refine g_take 12 rfl (by decide +kernel) rfl (fun _ _ _ h => h) hS60 (fun wF hF => r_loadB ti55 ag55 rfl (hF.heap (.tail _ (.head _))) (by first | (simp [*]; done) | (simp [*] <;> omega) | omega)) ?_
        refine g_one 6 (by decide +kernel) (by decide +kernel) ?_
        refine o_call rfl (r_call fn62 rfl rfl) rfl (proved_n (rootL (leavesL ps)) (gt (leavesL ps) ix') _ _ _ _ _ (q2) _ (rootL_len _ (leavesL_32 ps) (by rw [leavesL_len]; omega)) ((leavesL_32 ps).gt (by rw [leavesL_len]; omega)) (St.rowAt hS60 (.head _)) hq32 (hqlen) (hc86) (by omega) (by omega) (by omega) (by omega) (by omega)) ?_
        rintro _ w61 ⟨rfl, hx62⟩
        have hS63 := hS60.ext hx62
        refine ⟨hS63, ?_⟩
        refine g_tail (by decide +kernel) rfl (by decide +kernel) ?_
        refine wl_call (r_call fn79 rfl rfl) rfl (shows_n (rootL (leavesL ps)) (gt (leavesL ps) ix') _ _ _ _ _ (q2) _ (rootL_len _ (leavesL_32 ps) (by rw [leavesL_len]; omega)) ((leavesL_32 ps).gt (by rw [leavesL_len]; omega)) (St.rowAt hS63 (.head _)) hq32 (hqlen) (hc86) (by omega) (by omega) (by omega) (by omega) (by omega)) ?_
        rintro _ w64 ⟨rfl, hx65⟩
        have hS66 := hS63.ext hx65
        refine wl_dec_f (r_neq rfl rfl) rfl (not_not_intro rfl) ?_
        refine wl_nil ?_
        refine c_then ?_
        refine c_false rfl ?_
        refine wp_skip ?_
        refine c_then ?_
        refine c_seq ?_
        refine c_region ?_
        refine wl_val (r_move (v := .slice _ _ _) rfl) rfl ?_
        refine wl_val (r_move (v := .int .i64 _) rfl) rfl ?_
        refine wl_val (r_ix32 ti53.und ti49 rfl rfl (St.rowAt hS66 (.tail _ (.tail _ (.tail _ (.tail _ (.tail _ (.tail _ (.head _)))))))) (leavesL_32 ps) (leavesL_len ps) (by omega)) rfl ?_
        refine wl_val (r_load32 ti49 rfl rfl (St.rowAt hS66 (.tail _ (.tail _ (.tail _ (.tail _ (.tail _ (.tail _ (.head _)))))))) (leavesL_32 ps) (by rw [leavesL_len]; omega)) rfl ?_
        refine wl_exv (x_alloc (C := ((List.replicate 32 (0 : UInt8)).map b8)) hS66 ti49 rfl) rfl ?_
        rintro _ w67 ⟨b14, rfl, hS68⟩
        refine wl_exs (x_storeW [] hS68 ti49 rfl rfl (by rw [List.length_map]; exact (leavesL_32 ps).gt (by rw [leavesL_len]; omega)) (by simp) (one_b8 _)) rfl ?_
        intro w69 hS70
        simp only [List.cons_append, List.nil_append] at hS70
        refine wl_nil ?_
        refine c_then ?_
        refine c_seq ?_
        refine c_region ?_
        refine wl_val (r_move (v := .int .i64 _) rfl) rfl ?_
        refine wl_val (r_andm (s := 5) (by decide) rfl rfl) rfl ?_
        refine wl_val (r_ixA (sz := 1) ti49.und ti5 rfl rfl (by first | omega | (simp [*]; done) | (simp [*] <;> omega)) (Nat.zero_add _ |>.trans (Nat.mul_one _))) rfl ?_
        refine wl_val (r_loadB1 ti5.und rfl rfl (hS70.heap (.head _)) (map_gt _ _ _ (by rw [(leavesL_32 ps).gt (by rw [leavesL_len]; omega)]; omega))) rfl ?_
        refine wl_val (r_move (v := .int .u8 _) rfl) rfl ?_
        refine wl_val (r_xor8 rfl rfl) rfl ?_
        refine wl_val (r_ixA (sz := 1) ti49.und ti5 rfl rfl (by first | omega | (simp [*]; done) | (simp [*] <;> omega)) (Nat.zero_add _ |>.trans (Nat.mul_one _))) rfl ?_
        refine wl_exs (x_store1m [] hS70 ti5 rfl rfl rfl (by rw [(leavesL_32 ps).gt (by rw [leavesL_len]; omega)]; omega)) rfl ?_
        intro w71 hS72
        simp only [List.cons_append, List.nil_append] at hS72
        refine wl_nil ?_
        refine c_then ?_
        refine c_seq ?_
        refine c_drawS 26 hMixed hS72 ?_
        intro w73 hS74
        refine g_take 0 rfl (by decide +kernel) rfl (fun _ _ _ h => h) hS74 (fun wF hF => r_move (v := .int .u8 _) rfl) ?_
        refine g_dec 1 rfl (by decide +kernel) rfl (fun _ _ _ _ h => h) hS74 (fun wF hF => r_eql rfl rfl) (fun h20_1 => ?_) (fun h20_1 => ?_)
        · refine g_take 2 rfl (by decide +kernel) rfl (fun _ _ _ h => h) hS74 (fun wF hF => r_move (v := .bool _) rfl) ?_
          refine g_takeN 3 rfl (by decide +kernel) rfl (fun _ _ _ h => h) hS74 ?_
          refine g_takeN 4 rfl (by decide +kernel) rfl (fun _ _ _ h => h) hS74 ?_
          refine g_takeN 5 rfl (by decide +kernel) rfl (fun _ _ _ h => h) hS74 ?_
          refine g_takeN 6 rfl (by decide +kernel) rfl (fun _ _ _ h => h) hS74 ?_
          refine g_takeN 7 rfl (by decide +kernel) rfl (fun _ _ _ h => h) hS74 ?_
          refine g_takeN 8 rfl (by decide +kernel) rfl (fun _ _ _ h => h) hS74 ?_
          refine g_takeN 9 rfl (by decide +kernel) rfl (fun _ _ _ h => h) hS74 ?_
          refine g_takeN 10 rfl (by decide +kernel) rfl (fun _ _ _ h => h) hS74 ?_
          refine g_takeN 11 rfl (by decide +kernel) rfl (fun _ _ _ h => h) hS74 ?_
          refine g_takeN 12 rfl (by decide +kernel) rfl (fun _ _ _ h => h) hS74 ?_
          refine g_takeN 13 rfl (by decide +kernel) rfl (fun _ _ _ h => h) hS74 ?_
          refine g_takeN 14 rfl (by decide +kernel) rfl (fun _ _ _ h => h) hS74 ?_
          refine g_takeN 15 rfl (by decide +kernel) rfl (fun _ _ _ h => h) hS74 ?_
          refine g_takeN 16 rfl (by decide +kernel) rfl (fun _ _ _ h => h) hS74 ?_
          refine g_takeN 17 rfl (by decide +kernel) rfl (fun _ _ _ h => h) hS74 ?_
          refine g_takeN 18 rfl (by decide +kernel) rfl (fun _ _ _ h => h) hS74 ?_
          refine g_takeN 19 rfl (by decide +kernel) rfl (fun _ _ _ h => h) hS74 ?_
          refine g_takeN 20 rfl (by decide +kernel) rfl (fun _ _ _ h => h) hS74 ?_
          refine g_takeN 21 rfl (by decide +kernel) rfl (fun _ _ _ h => h) hS74 ?_
          refine g_takeN 22 rfl (by decide +kernel) rfl (fun _ _ _ h => h) hS74 ?_
          refine g_takeN 23 rfl (by decide +kernel) rfl (fun _ _ _ h => h) hS74 ?_
          refine g_takeN 24 rfl (by decide +kernel) rfl (fun _ _ _ h => h) hS74 ?_
          refine g_takeN 25 rfl (by decide +kernel) rfl (fun _ _ _ h => h) hS74 ?_
          refine g_tail (by decide +kernel) rfl (by decide +kernel) ?_
          refine wl_not rfl ?_
          refine wl_not rfl ?_
          refine wl_not rfl ?_
          refine wl_val (r_pick_t rfl (v := .bool true) rfl) rfl ?_
          refine wl_val (r_assign (v := .bool _) rfl) rfl ?_
          refine wl_nil ?_
          refine c_then ?_
          refine wp_ret ?_
          refine ret1 Try.results14 ?_
          first | exact ⟨rfl, hS74.fin⟩ | exact ⟨by simp, hS74.fin⟩
        · refine g_take 2 rfl (by decide +kernel) rfl (fun _ _ _ h => h) hS74 (fun wF hF => r_move (v := .bool _) rfl) ?_
          refine g_take 3 rfl (by decide +kernel) rfl (fun _ _ _ h => h) hS74 (fun wF hF => r_loadB ti49 rfl rfl (hF.heap (.tail _ (.tail _ (.tail _ (.tail _ (.head _)))))) (by rw [List.length_map]; exact rootL_len _ (leavesL_32 ps) (by rw [leavesL_len]; omega))) ?_
          refine g_take 4 rfl (by decide +kernel) rfl (fun _ _ _ h => h) hS74 (fun wF hF => r_loadB ti49 rfl rfl (hF.heap (.head _)) (by rw [List.length_map, List.length_set]; exact (leavesL_32 ps).gt (by rw [leavesL_len]; omega))) ?_
          refine g_take 5 rfl (by decide +kernel) rfl (fun _ _ _ h => h) hS74 (fun wF hF => r_loadB ti55 ag55 rfl (hF.heap (.tail _ (.tail _ (.tail _ (.tail _ (.tail _ (.head _))))))) (by first | (simp [*]; done) | (simp [*] <;> omega) | omega)) ?_
          refine g_take 7 rfl (by decide +kernel) rfl (fun _ _ _ h => h) hS74 (fun wF hF => r_loadB ti49 rfl rfl (hF.heap (.tail _ (.tail _ (.tail _ (.tail _ (.head _)))))) (by rw [List.length_map]; exact rootL_len _ (leavesL_32 ps) (by rw [leavesL_len]; omega))) ?_
          refine g_take 8 rfl (by decide +kernel) rfl (fun _ _ _ h => h) hS74 (fun wF hF => r_loadB ti49 rfl rfl (hF.heap (.head _)) (by rw [List.length_map, List.length_set]; exact (leavesL_32 ps).gt (by rw [leavesL_len]; omega))) ?_
          refine g_take 9 rfl (by decide +kernel) rfl (fun _ _ _ h => h) hS74 (fun wF hF => r_loadB ti55 ag55 rfl (hF.heap (.tail _ (.tail _ (.tail _ (.tail _ (.tail _ (.head _))))))) (by first | (simp [*]; done) | (simp [*] <;> omega) | omega)) ?_
          refine g_one 6 (by decide +kernel) (by decide +kernel) ?_
          refine o_call rfl (r_call fn62 rfl rfl) rfl (proved_n (rootL (leavesL ps)) ((gt (leavesL ps) ix').set _ _) _ _ _ _ _ (pathL (leavesL ps) ix') _ (rootL_len _ (leavesL_32 ps) (by rw [leavesL_len]; omega)) ((by rw [List.length_set]; exact (leavesL_32 ps).gt (by rw [leavesL_len]; omega))) (St.rowAt hS74 (.tail _ (.tail _ (.tail _ (.tail _ (.tail _ (.tail _ (.head _)))))))) hP32 (pathL_len _ _ _ _ (Nat.le_refl _) (leavesL_len ps)) (hcP) (by omega) (by omega) (by omega) (by omega) (by omega)) ?_
          rintro _ w75 ⟨rfl, hx76⟩
          have hS77 := hS74.ext hx76
          refine ⟨hS77, ?_⟩
          refine g_one 10 (by decide +kernel) (by decide +kernel) ?_
          refine o_call rfl (r_call fn79 rfl rfl) rfl (shows_n (rootL (leavesL ps)) ((gt (leavesL ps) ix').set _ _) _ _ _ _ _ (pathL (leavesL ps) ix') _ (rootL_len _ (leavesL_32 ps) (by rw [leavesL_len]; omega)) ((by rw [List.length_set]; exact (leavesL_32 ps).gt (by rw [leavesL_len]; omega))) (St.rowAt hS77 (.tail _ (.tail _ (.tail _ (.tail _ (.tail _ (.tail _ (.head _)))))))) hP32 (pathL_len _ _ _ _ (Nat.le_refl _) (leavesL_len ps)) (hcP) (by omega) (by omega) (by omega) (by omega) (by omega)) ?_
          rintro _ w78 ⟨rfl, hx79⟩
          have hS80 := hS77.ext hx79
          refine ⟨hS80, ?_⟩
          refine g_dec_t 11 rfl (by decide +kernel) rfl (fun _ _ _ _ h => h) hS80 (fun wF hF => r_eql rfl rfl) rfl ?_
          refine g_take 12 rfl (by decide +kernel) rfl (fun _ _ _ h => h) hS80 (fun wF hF => r_move (v := .bool _) rfl) ?_
          refine g_take 13 rfl (by decide +kernel) rfl (fun _ _ _ h => h) hS80 (fun wF hF => r_loadB ti49 rfl rfl (hF.heap (.head _)) (by rw [List.length_map, List.length_set]; exact (leavesL_32 ps).gt (by rw [leavesL_len]; omega))) ?_
          refine g_take 14 rfl (by decide +kernel) rfl (fun _ _ _ h => h) hS80 (fun wF hF => r_move (v := .slice _ _ _) rfl) ?_
          refine g_take 15 rfl (by decide +kernel) rfl (fun _ _ _ h => h) hS80 (fun wF hF => r_move (v := .int .i64 _) rfl) ?_
          refine g_take 16 rfl (by decide +kernel) rfl (fun _ _ _ h => h) hS80 (fun wF hF => r_ix32 ti53.und ti49 rfl rfl (St.rowAt hF (.tail _ (.tail _ (.tail _ (.tail _ (.tail _ (.tail _ (.tail _ (.head _))))))))) (leavesL_32 ps) (leavesL_len ps) (by omega)) ?_
          refine g_take 17 rfl (by decide +kernel) rfl (fun _ _ _ h => h) hS80 (fun wF hF => r_load32 ti49 rfl rfl (St.rowAt hF (.tail _ (.tail _ (.tail _ (.tail _ (.tail _ (.tail _ (.tail _ (.head _))))))))) (leavesL_32 ps) (by rw [leavesL_len]; omega)) ?_
          refine g_take 18 rfl (by decide +kernel) rfl (fun _ _ _ h => h) hS80 (fun wF hF => r_loadB ti55 ag55 rfl (hF.heap (.tail _ (.tail _ (.tail _ (.tail _ (.tail _ (.head _))))))) (by first | (simp [*]; done) | (simp [*] <;> omega) | omega)) ?_
          refine g_take 20 rfl (by decide +kernel) rfl (fun _ _ _ h => h) hS80 (fun wF hF => r_loadB ti49 rfl rfl (hF.heap (.head _)) (by rw [List.length_map, List.length_set]; exact (leavesL_32 ps).gt (by rw [leavesL_len]; omega))) ?_
          refine g_take 21 rfl (by decide +kernel) rfl (fun _ _ _ h => h) hS80 (fun wF hF => r_move (v := .slice _ _ _) rfl) ?_
          refine g_take 22 rfl (by decide +kernel) rfl (fun _ _ _ h => h) hS80 (fun wF hF => r_move (v := .int .i64 _) rfl) ?_
          refine g_take 23 rfl (by decide +kernel) rfl (fun _ _ _ h => h) hS80 (fun wF hF => r_ix32 ti53.und ti49 rfl rfl (St.rowAt hF (.tail _ (.tail _ (.tail _ (.tail _ (.tail _ (.tail _ (.tail _ (.head _))))))))) (leavesL_32 ps) (leavesL_len ps) (by omega)) ?_
          refine g_take 24 rfl (by decide +kernel) rfl (fun _ _ _ h => h) hS80 (fun wF hF => r_load32 ti49 rfl rfl (St.rowAt hF (.tail _ (.tail _ (.tail _ (.tail _ (.tail _ (.tail _ (.tail _ (.head _))))))))) (leavesL_32 ps) (by rw [leavesL_len]; omega)) ?_
          refine g_take 25 rfl (by decide +kernel) rfl (fun _ _ _ h => h) hS80 (fun wF hF => r_loadB ti55 ag55 rfl (hF.heap (.tail _ (.tail _ (.tail _ (.tail _ (.tail _ (.head _))))))) (by first | (simp [*]; done) | (simp [*] <;> omega) | omega)) ?_
          refine g_one 19 (by decide +kernel) (by decide +kernel) ?_
          refine o_call rfl (r_call fn62 rfl rfl) rfl (proved_n ((gt (leavesL ps) ix').set _ _) (gt (leavesL ps) ix') _ _ _ _ _ (pathL (leavesL ps) ix') _ ((by rw [List.length_set]; exact (leavesL_32 ps).gt (by rw [leavesL_len]; omega))) ((leavesL_32 ps).gt (by rw [leavesL_len]; omega)) (St.rowAt hS80 (.tail _ (.tail _ (.tail _ (.tail _ (.tail _ (.tail _ (.head _)))))))) hP32 (pathL_len _ _ _ _ (Nat.le_refl _) (leavesL_len ps)) (hcP) (by omega) (by omega) (by omega) (by omega) (by omega)) ?_
          rintro _ w81 ⟨rfl, hx82⟩
          have hS83 := hS80.ext hx82
          refine ⟨hS83, ?_⟩
          refine g_tail (by decide +kernel) rfl (by decide +kernel) ?_
          refine wl_call (r_call fn79 rfl rfl) rfl (shows_n ((gt (leavesL ps) ix').set _ _) (gt (leavesL ps) ix') _ _ _ _ _ (pathL (leavesL ps) ix') _ ((by rw [List.length_set]; exact (leavesL_32 ps).gt (by rw [leavesL_len]; omega))) ((leavesL_32 ps).gt (by rw [leavesL_len]; omega)) (St.rowAt hS83 (.tail _ (.tail _ (.tail _ (.tail _ (.tail _ (.tail _ (.head _)))))))) hP32 (pathL_len _ _ _ _ (Nat.le_refl _) (leavesL_len ps)) (hcP) (by omega) (by omega) (by omega) (by omega) (by omega)) ?_
          rintro _ w84 ⟨rfl, hx85⟩
          have hS86 := hS83.ext hx85
          refine wl_dec_t (r_eql rfl rfl) rfl rfl ?_
          refine wl_val (r_pick_t rfl (v := .bool _) rfl) rfl ?_
          refine wl_val (r_pick_f rfl (v := .bool _) rfl) rfl ?_
          refine wl_val (r_assign (v := .bool _) rfl) rfl ?_
          refine wl_nil ?_
          refine c_then ?_
          refine wp_ret ?_
          refine ret1 Try.results14 ?_
          first | exact ⟨rfl, hS86.fin⟩ | exact ⟨by simp, hS86.fin⟩
      · refine wl_val (r_pick_t rfl (v := .bool _) rfl) rfl ?_
        refine wl_nil ?_
        refine c_then ?_
        refine c_false rfl ?_
        refine wp_skip ?_
        refine c_then ?_
        refine c_seq ?_
        refine c_region ?_
        refine wl_val (r_move (v := .slice _ _ _) rfl) rfl ?_
        refine wl_val (r_move (v := .int .i64 _) rfl) rfl ?_
        refine wl_val (r_ix32 ti53.und ti49 rfl rfl (St.rowAt hS54 (.tail _ (.tail _ (.tail _ (.tail _ (.tail _ (.tail _ (.head _)))))))) (leavesL_32 ps) (leavesL_len ps) (by omega)) rfl ?_
        refine wl_val (r_load32 ti49 rfl rfl (St.rowAt hS54 (.tail _ (.tail _ (.tail _ (.tail _ (.tail _ (.tail _ (.head _)))))))) (leavesL_32 ps) (by rw [leavesL_len]; omega)) rfl ?_
        refine wl_exv (x_alloc (C := ((List.replicate 32 (0 : UInt8)).map b8)) hS54 ti49 rfl) rfl ?_
        rintro _ w87 ⟨b14, rfl, hS88⟩
        refine wl_exs (x_storeW [] hS88 ti49 rfl rfl (by rw [List.length_map]; exact (leavesL_32 ps).gt (by rw [leavesL_len]; omega)) (by simp) (one_b8 _)) rfl ?_
        intro w89 hS90
        simp only [List.cons_append, List.nil_append] at hS90
        refine wl_nil ?_
        refine c_then ?_
        refine c_seq ?_
        refine c_region ?_
        refine wl_val (r_move (v := .int .i64 _) rfl) rfl ?_
        refine wl_val (r_andm (s := 5) (by decide) rfl rfl) rfl ?_
        refine wl_val (r_ixA (sz := 1) ti49.und ti5 rfl rfl (by first | omega | (simp [*]; done) | (simp [*] <;> omega)) (Nat.zero_add _ |>.trans (Nat.mul_one _))) rfl ?_
        refine wl_val (r_loadB1 ti5.und rfl rfl (hS90.heap (.head _)) (map_gt _ _ _ (by rw [(leavesL_32 ps).gt (by rw [leavesL_len]; omega)]; omega))) rfl ?_
        refine wl_val (r_move (v := .int .u8 _) rfl) rfl ?_
        refine wl_val (r_xor8 rfl rfl) rfl ?_
        refine wl_val (r_ixA (sz := 1) ti49.und ti5 rfl rfl (by first | omega | (simp [*]; done) | (simp [*] <;> omega)) (Nat.zero_add _ |>.trans (Nat.mul_one _))) rfl ?_
        refine wl_exs (x_store1m [] hS90 ti5 rfl rfl rfl (by rw [(leavesL_32 ps).gt (by rw [leavesL_len]; omega)]; omega)) rfl ?_
        intro w91 hS92
        simp only [List.cons_append, List.nil_append] at hS92
        refine wl_nil ?_
        refine c_then ?_
        refine c_seq ?_
        refine c_drawS 26 hMixed hS92 ?_
        intro w93 hS94
        refine g_take 0 rfl (by decide +kernel) rfl (fun _ _ _ h => h) hS94 (fun wF hF => r_move (v := .int .u8 _) rfl) ?_
        refine g_dec 1 rfl (by decide +kernel) rfl (fun _ _ _ _ h => h) hS94 (fun wF hF => r_eql rfl rfl) (fun h20_1 => ?_) (fun h20_1 => ?_)
        · refine g_take 2 rfl (by decide +kernel) rfl (fun _ _ _ h => h) hS94 (fun wF hF => r_move (v := .bool _) rfl) ?_
          refine g_takeN 3 rfl (by decide +kernel) rfl (fun _ _ _ h => h) hS94 ?_
          refine g_takeN 4 rfl (by decide +kernel) rfl (fun _ _ _ h => h) hS94 ?_
          refine g_takeN 5 rfl (by decide +kernel) rfl (fun _ _ _ h => h) hS94 ?_
          refine g_takeN 6 rfl (by decide +kernel) rfl (fun _ _ _ h => h) hS94 ?_
          refine g_takeN 7 rfl (by decide +kernel) rfl (fun _ _ _ h => h) hS94 ?_
          refine g_takeN 8 rfl (by decide +kernel) rfl (fun _ _ _ h => h) hS94 ?_
          refine g_takeN 9 rfl (by decide +kernel) rfl (fun _ _ _ h => h) hS94 ?_
          refine g_takeN 10 rfl (by decide +kernel) rfl (fun _ _ _ h => h) hS94 ?_
          refine g_takeN 11 rfl (by decide +kernel) rfl (fun _ _ _ h => h) hS94 ?_
          refine g_takeN 12 rfl (by decide +kernel) rfl (fun _ _ _ h => h) hS94 ?_
          refine g_takeN 13 rfl (by decide +kernel) rfl (fun _ _ _ h => h) hS94 ?_
          refine g_takeN 14 rfl (by decide +kernel) rfl (fun _ _ _ h => h) hS94 ?_
          refine g_takeN 15 rfl (by decide +kernel) rfl (fun _ _ _ h => h) hS94 ?_
          refine g_takeN 16 rfl (by decide +kernel) rfl (fun _ _ _ h => h) hS94 ?_
          refine g_takeN 17 rfl (by decide +kernel) rfl (fun _ _ _ h => h) hS94 ?_
          refine g_takeN 18 rfl (by decide +kernel) rfl (fun _ _ _ h => h) hS94 ?_
          refine g_takeN 19 rfl (by decide +kernel) rfl (fun _ _ _ h => h) hS94 ?_
          refine g_takeN 20 rfl (by decide +kernel) rfl (fun _ _ _ h => h) hS94 ?_
          refine g_takeN 21 rfl (by decide +kernel) rfl (fun _ _ _ h => h) hS94 ?_
          refine g_takeN 22 rfl (by decide +kernel) rfl (fun _ _ _ h => h) hS94 ?_
          refine g_takeN 23 rfl (by decide +kernel) rfl (fun _ _ _ h => h) hS94 ?_
          refine g_takeN 24 rfl (by decide +kernel) rfl (fun _ _ _ h => h) hS94 ?_
          refine g_takeN 25 rfl (by decide +kernel) rfl (fun _ _ _ h => h) hS94 ?_
          refine g_tail (by decide +kernel) rfl (by decide +kernel) ?_
          refine wl_not rfl ?_
          refine wl_not rfl ?_
          refine wl_not rfl ?_
          refine wl_val (r_pick_t rfl (v := .bool true) rfl) rfl ?_
          refine wl_val (r_assign (v := .bool _) rfl) rfl ?_
          refine wl_nil ?_
          refine c_then ?_
          refine wp_ret ?_
          refine ret1 Try.results14 ?_
          first | exact ⟨rfl, hS94.fin⟩ | exact ⟨by simp, hS94.fin⟩
        · refine g_take 2 rfl (by decide +kernel) rfl (fun _ _ _ h => h) hS94 (fun wF hF => r_move (v := .bool _) rfl) ?_
          refine g_take 3 rfl (by decide +kernel) rfl (fun _ _ _ h => h) hS94 (fun wF hF => r_loadB ti49 rfl rfl (hF.heap (.tail _ (.tail _ (.tail _ (.tail _ (.head _)))))) (by rw [List.length_map]; exact rootL_len _ (leavesL_32 ps) (by rw [leavesL_len]; omega))) ?_
          refine g_take 4 rfl (by decide +kernel) rfl (fun _ _ _ h => h) hS94 (fun wF hF => r_loadB ti49 rfl rfl (hF.heap (.head _)) (by rw [List.length_map, List.length_set]; exact (leavesL_32 ps).gt (by rw [leavesL_len]; omega))) ?_
          refine g_take 5 rfl (by decide +kernel) rfl (fun _ _ _ h => h) hS94 (fun wF hF => r_loadB ti55 ag55 rfl (hF.heap (.tail _ (.tail _ (.tail _ (.tail _ (.tail _ (.head _))))))) (by first | (simp [*]; done) | (simp [*] <;> omega) | omega)) ?_
          refine g_take 7 rfl (by decide +kernel) rfl (fun _ _ _ h => h) hS94 (fun wF hF => r_loadB ti49 rfl rfl (hF.heap (.tail _ (.tail _ (.tail _ (.tail _ (.head _)))))) (by rw [List.length_map]; exact rootL_len _ (leavesL_32 ps) (by rw [leavesL_len]; omega))) ?_
          refine g_take 8 rfl (by decide +kernel) rfl (fun _ _ _ h => h) hS94 (fun wF hF => r_loadB ti49 rfl rfl (hF.heap (.head _)) (by rw [List.length_map, List.length_set]; exact (leavesL_32 ps).gt (by rw [leavesL_len]; omega))) ?_
          refine g_take 9 rfl (by decide +kernel) rfl (fun _ _ _ h => h) hS94 (fun wF hF => r_loadB ti55 ag55 rfl (hF.heap (.tail _ (.tail _ (.tail _ (.tail _ (.tail _ (.head _))))))) (by first | (simp [*]; done) | (simp [*] <;> omega) | omega)) ?_
          refine g_one 6 (by decide +kernel) (by decide +kernel) ?_
          refine o_call rfl (r_call fn62 rfl rfl) rfl (proved_n (rootL (leavesL ps)) ((gt (leavesL ps) ix').set _ _) _ _ _ _ _ (pathL (leavesL ps) ix') _ (rootL_len _ (leavesL_32 ps) (by rw [leavesL_len]; omega)) ((by rw [List.length_set]; exact (leavesL_32 ps).gt (by rw [leavesL_len]; omega))) (St.rowAt hS94 (.tail _ (.tail _ (.tail _ (.tail _ (.tail _ (.tail _ (.head _)))))))) hP32 (pathL_len _ _ _ _ (Nat.le_refl _) (leavesL_len ps)) (hcP) (by omega) (by omega) (by omega) (by omega) (by omega)) ?_
          rintro _ w95 ⟨rfl, hx96⟩
          have hS97 := hS94.ext hx96
          refine ⟨hS97, ?_⟩
          refine g_one 10 (by decide +kernel) (by decide +kernel) ?_
          refine o_call rfl (r_call fn79 rfl rfl) rfl (shows_n (rootL (leavesL ps)) ((gt (leavesL ps) ix').set _ _) _ _ _ _ _ (pathL (leavesL ps) ix') _ (rootL_len _ (leavesL_32 ps) (by rw [leavesL_len]; omega)) ((by rw [List.length_set]; exact (leavesL_32 ps).gt (by rw [leavesL_len]; omega))) (St.rowAt hS97 (.tail _ (.tail _ (.tail _ (.tail _ (.tail _ (.tail _ (.head _)))))))) hP32 (pathL_len _ _ _ _ (Nat.le_refl _) (leavesL_len ps)) (hcP) (by omega) (by omega) (by omega) (by omega) (by omega)) ?_
          rintro _ w98 ⟨rfl, hx99⟩
          have hS100 := hS97.ext hx99
          refine ⟨hS100, ?_⟩
          refine g_dec_t 11 rfl (by decide +kernel) rfl (fun _ _ _ _ h => h) hS100 (fun wF hF => r_eql rfl rfl) rfl ?_
          refine g_take 12 rfl (by decide +kernel) rfl (fun _ _ _ h => h) hS100 (fun wF hF => r_move (v := .bool _) rfl) ?_
          refine g_take 13 rfl (by decide +kernel) rfl (fun _ _ _ h => h) hS100 (fun wF hF => r_loadB ti49 rfl rfl (hF.heap (.head _)) (by rw [List.length_map, List.length_set]; exact (leavesL_32 ps).gt (by rw [leavesL_len]; omega))) ?_
          refine g_take 14 rfl (by decide +kernel) rfl (fun _ _ _ h => h) hS100 (fun wF hF => r_move (v := .slice _ _ _) rfl) ?_
          refine g_take 15 rfl (by decide +kernel) rfl (fun _ _ _ h => h) hS100 (fun wF hF => r_move (v := .int .i64 _) rfl) ?_
          refine g_take 16 rfl (by decide +kernel) rfl (fun _ _ _ h => h) hS100 (fun wF hF => r_ix32 ti53.und ti49 rfl rfl (St.rowAt hF (.tail _ (.tail _ (.tail _ (.tail _ (.tail _ (.tail _ (.tail _ (.head _))))))))) (leavesL_32 ps) (leavesL_len ps) (by omega)) ?_
          refine g_take 17 rfl (by decide +kernel) rfl (fun _ _ _ h => h) hS100 (fun wF hF => r_load32 ti49 rfl rfl (St.rowAt hF (.tail _ (.tail _ (.tail _ (.tail _ (.tail _ (.tail _ (.tail _ (.head _))))))))) (leavesL_32 ps) (by rw [leavesL_len]; omega)) ?_
          refine g_take 18 rfl (by decide +kernel) rfl (fun _ _ _ h => h) hS100 (fun wF hF => r_loadB ti55 ag55 rfl (hF.heap (.tail _ (.tail _ (.tail _ (.tail _ (.tail _ (.head _))))))) (by first | (simp [*]; done) | (simp [*] <;> omega) | omega)) ?_
          refine g_take 20 rfl (by decide +kernel) rfl (fun _ _ _ h => h) hS100 (fun wF hF => r_loadB ti49 rfl rfl (hF.heap (.head _)) (by rw [List.length_map, List.length_set]; exact (leavesL_32 ps).gt (by rw [leavesL_len]; omega))) ?_
          refine g_take 21 rfl (by decide +kernel) rfl (fun _ _ _ h => h) hS100 (fun wF hF => r_move (v := .slice _ _ _) rfl) ?_
          refine g_take 22 rfl (by decide +kernel) rfl (fun _ _ _ h => h) hS100 (fun wF hF => r_move (v := .int .i64 _) rfl) ?_
          refine g_take 23 rfl (by decide +kernel) rfl (fun _ _ _ h => h) hS100 (fun wF hF => r_ix32 ti53.und ti49 rfl rfl (St.rowAt hF (.tail _ (.tail _ (.tail _ (.tail _ (.tail _ (.tail _ (.tail _ (.head _))))))))) (leavesL_32 ps) (leavesL_len ps) (by omega)) ?_
          refine g_take 24 rfl (by decide +kernel) rfl (fun _ _ _ h => h) hS100 (fun wF hF => r_load32 ti49 rfl rfl (St.rowAt hF (.tail _ (.tail _ (.tail _ (.tail _ (.tail _ (.tail _ (.tail _ (.head _))))))))) (leavesL_32 ps) (by rw [leavesL_len]; omega)) ?_
          refine g_take 25 rfl (by decide +kernel) rfl (fun _ _ _ h => h) hS100 (fun wF hF => r_loadB ti55 ag55 rfl (hF.heap (.tail _ (.tail _ (.tail _ (.tail _ (.tail _ (.head _))))))) (by first | (simp [*]; done) | (simp [*] <;> omega) | omega)) ?_
          refine g_one 19 (by decide +kernel) (by decide +kernel) ?_
          refine o_call rfl (r_call fn62 rfl rfl) rfl (proved_n ((gt (leavesL ps) ix').set _ _) (gt (leavesL ps) ix') _ _ _ _ _ (pathL (leavesL ps) ix') _ ((by rw [List.length_set]; exact (leavesL_32 ps).gt (by rw [leavesL_len]; omega))) ((leavesL_32 ps).gt (by rw [leavesL_len]; omega)) (St.rowAt hS100 (.tail _ (.tail _ (.tail _ (.tail _ (.tail _ (.tail _ (.head _)))))))) hP32 (pathL_len _ _ _ _ (Nat.le_refl _) (leavesL_len ps)) (hcP) (by omega) (by omega) (by omega) (by omega) (by omega)) ?_
          rintro _ w101 ⟨rfl, hx102⟩
          have hS103 := hS100.ext hx102
          refine ⟨hS103, ?_⟩
          refine g_tail (by decide +kernel) rfl (by decide +kernel) ?_
          refine wl_call (r_call fn79 rfl rfl) rfl (shows_n ((gt (leavesL ps) ix').set _ _) (gt (leavesL ps) ix') _ _ _ _ _ (pathL (leavesL ps) ix') _ ((by rw [List.length_set]; exact (leavesL_32 ps).gt (by rw [leavesL_len]; omega))) ((leavesL_32 ps).gt (by rw [leavesL_len]; omega)) (St.rowAt hS103 (.tail _ (.tail _ (.tail _ (.tail _ (.tail _ (.tail _ (.head _)))))))) hP32 (pathL_len _ _ _ _ (Nat.le_refl _) (leavesL_len ps)) (hcP) (by omega) (by omega) (by omega) (by omega) (by omega)) ?_
          rintro _ w104 ⟨rfl, hx105⟩
          have hS106 := hS103.ext hx105
          refine wl_dec_t (r_eql rfl rfl) rfl rfl ?_
          refine wl_val (r_pick_t rfl (v := .bool _) rfl) rfl ?_
          refine wl_val (r_pick_f rfl (v := .bool _) rfl) rfl ?_
          refine wl_val (r_assign (v := .bool _) rfl) rfl ?_
          refine wl_nil ?_
          refine c_then ?_
          refine wp_ret ?_
          refine ret1 Try.results14 ?_
          first | exact ⟨rfl, hS106.fin⟩ | exact ⟨by simp, hS106.fin⟩
    · refine wl_val (r_move (v := .bool _) rfl) rfl ?_
      refine wl_not rfl ?_
      refine wl_not rfl ?_
      refine wl_val (r_pick_f rfl (v := .bool false) rfl) rfl ?_
      refine wl_nil ?_
      refine c_then ?_
      refine c_false rfl ?_
      refine wp_skip ?_
      refine c_then ?_
      refine c_seq ?_
      refine c_region ?_
      refine wl_val (r_move (v := .slice _ _ _) rfl) rfl ?_
      refine wl_val (r_move (v := .int .i64 _) rfl) rfl ?_
      refine wl_val (r_ix32 ti53.und ti49 rfl rfl (St.rowAt hS54 (.tail _ (.tail _ (.tail _ (.tail _ (.tail _ (.tail _ (.head _)))))))) (leavesL_32 ps) (leavesL_len ps) (by omega)) rfl ?_
      refine wl_val (r_load32 ti49 rfl rfl (St.rowAt hS54 (.tail _ (.tail _ (.tail _ (.tail _ (.tail _ (.tail _ (.head _)))))))) (leavesL_32 ps) (by rw [leavesL_len]; omega)) rfl ?_
      refine wl_exv (x_alloc (C := ((List.replicate 32 (0 : UInt8)).map b8)) hS54 ti49 rfl) rfl ?_
      rintro _ w107 ⟨b14, rfl, hS108⟩
      refine wl_exs (x_storeW [] hS108 ti49 rfl rfl (by rw [List.length_map]; exact (leavesL_32 ps).gt (by rw [leavesL_len]; omega)) (by simp) (one_b8 _)) rfl ?_
      intro w109 hS110
      simp only [List.cons_append, List.nil_append] at hS110
      refine wl_nil ?_
      refine c_then ?_
      refine c_seq ?_
      refine c_region ?_
      refine wl_val (r_move (v := .int .i64 _) rfl) rfl ?_
      refine wl_val (r_andm (s := 5) (by decide) rfl rfl) rfl ?_
      refine wl_val (r_ixA (sz := 1) ti49.und ti5 rfl rfl (by first | omega | (simp [*]; done) | (simp [*] <;> omega)) (Nat.zero_add _ |>.trans (Nat.mul_one _))) rfl ?_
      refine wl_val (r_loadB1 ti5.und rfl rfl (hS110.heap (.head _)) (map_gt _ _ _ (by rw [(leavesL_32 ps).gt (by rw [leavesL_len]; omega)]; omega))) rfl ?_
      refine wl_val (r_move (v := .int .u8 _) rfl) rfl ?_
      refine wl_val (r_xor8 rfl rfl) rfl ?_
      refine wl_val (r_ixA (sz := 1) ti49.und ti5 rfl rfl (by first | omega | (simp [*]; done) | (simp [*] <;> omega)) (Nat.zero_add _ |>.trans (Nat.mul_one _))) rfl ?_
      refine wl_exs (x_store1m [] hS110 ti5 rfl rfl rfl (by rw [(leavesL_32 ps).gt (by rw [leavesL_len]; omega)]; omega)) rfl ?_
      intro w111 hS112
      simp only [List.cons_append, List.nil_append] at hS112
      refine wl_nil ?_
      refine c_then ?_
      refine c_seq ?_
      refine c_drawS 26 hMixed hS112 ?_
      intro w113 hS114
      refine g_take 0 rfl (by decide +kernel) rfl (fun _ _ _ h => h) hS114 (fun wF hF => r_move (v := .int .u8 _) rfl) ?_
      refine g_dec 1 rfl (by decide +kernel) rfl (fun _ _ _ _ h => h) hS114 (fun wF hF => r_eql rfl rfl) (fun h20_1 => ?_) (fun h20_1 => ?_)
      · refine g_take 2 rfl (by decide +kernel) rfl (fun _ _ _ h => h) hS114 (fun wF hF => r_move (v := .bool _) rfl) ?_
        refine g_takeN 3 rfl (by decide +kernel) rfl (fun _ _ _ h => h) hS114 ?_
        refine g_takeN 4 rfl (by decide +kernel) rfl (fun _ _ _ h => h) hS114 ?_
        refine g_takeN 5 rfl (by decide +kernel) rfl (fun _ _ _ h => h) hS114 ?_
        refine g_takeN 6 rfl (by decide +kernel) rfl (fun _ _ _ h => h) hS114 ?_
        refine g_takeN 7 rfl (by decide +kernel) rfl (fun _ _ _ h => h) hS114 ?_
        refine g_takeN 8 rfl (by decide +kernel) rfl (fun _ _ _ h => h) hS114 ?_
        refine g_takeN 9 rfl (by decide +kernel) rfl (fun _ _ _ h => h) hS114 ?_
        refine g_takeN 10 rfl (by decide +kernel) rfl (fun _ _ _ h => h) hS114 ?_
        refine g_takeN 11 rfl (by decide +kernel) rfl (fun _ _ _ h => h) hS114 ?_
        refine g_takeN 12 rfl (by decide +kernel) rfl (fun _ _ _ h => h) hS114 ?_
        refine g_takeN 13 rfl (by decide +kernel) rfl (fun _ _ _ h => h) hS114 ?_
        refine g_takeN 14 rfl (by decide +kernel) rfl (fun _ _ _ h => h) hS114 ?_
        refine g_takeN 15 rfl (by decide +kernel) rfl (fun _ _ _ h => h) hS114 ?_
        refine g_takeN 16 rfl (by decide +kernel) rfl (fun _ _ _ h => h) hS114 ?_
        refine g_takeN 17 rfl (by decide +kernel) rfl (fun _ _ _ h => h) hS114 ?_
        refine g_takeN 18 rfl (by decide +kernel) rfl (fun _ _ _ h => h) hS114 ?_
        refine g_takeN 19 rfl (by decide +kernel) rfl (fun _ _ _ h => h) hS114 ?_
        refine g_takeN 20 rfl (by decide +kernel) rfl (fun _ _ _ h => h) hS114 ?_
        refine g_takeN 21 rfl (by decide +kernel) rfl (fun _ _ _ h => h) hS114 ?_
        refine g_takeN 22 rfl (by decide +kernel) rfl (fun _ _ _ h => h) hS114 ?_
        refine g_takeN 23 rfl (by decide +kernel) rfl (fun _ _ _ h => h) hS114 ?_
        refine g_takeN 24 rfl (by decide +kernel) rfl (fun _ _ _ h => h) hS114 ?_
        refine g_takeN 25 rfl (by decide +kernel) rfl (fun _ _ _ h => h) hS114 ?_
        refine g_tail (by decide +kernel) rfl (by decide +kernel) ?_
        refine wl_not rfl ?_
        refine wl_not rfl ?_
        refine wl_not rfl ?_
        refine wl_val (r_pick_t rfl (v := .bool true) rfl) rfl ?_
        refine wl_val (r_assign (v := .bool _) rfl) rfl ?_
        refine wl_nil ?_
        refine c_then ?_
        refine wp_ret ?_
        refine ret1 Try.results14 ?_
        first | exact ⟨rfl, hS114.fin⟩ | exact ⟨by simp, hS114.fin⟩
      · refine g_take 2 rfl (by decide +kernel) rfl (fun _ _ _ h => h) hS114 (fun wF hF => r_move (v := .bool _) rfl) ?_
        refine g_take 3 rfl (by decide +kernel) rfl (fun _ _ _ h => h) hS114 (fun wF hF => r_loadB ti49 rfl rfl (hF.heap (.tail _ (.tail _ (.tail _ (.tail _ (.head _)))))) (by rw [List.length_map]; exact rootL_len _ (leavesL_32 ps) (by rw [leavesL_len]; omega))) ?_
        refine g_take 4 rfl (by decide +kernel) rfl (fun _ _ _ h => h) hS114 (fun wF hF => r_loadB ti49 rfl rfl (hF.heap (.head _)) (by rw [List.length_map, List.length_set]; exact (leavesL_32 ps).gt (by rw [leavesL_len]; omega))) ?_
        refine g_take 5 rfl (by decide +kernel) rfl (fun _ _ _ h => h) hS114 (fun wF hF => r_loadB ti55 ag55 rfl (hF.heap (.tail _ (.tail _ (.tail _ (.tail _ (.tail _ (.head _))))))) (by first | (simp [*]; done) | (simp [*] <;> omega) | omega)) ?_
        refine g_take 7 rfl (by decide +kernel) rfl (fun _ _ _ h => h) hS114 (fun wF hF => r_loadB ti49 rfl rfl (hF.heap (.tail _ (.tail _ (.tail _ (.tail _ (.head _)))))) (by rw [List.length_map]; exact rootL_len _ (leavesL_32 ps) (by rw [leavesL_len]; omega))) ?_
        refine g_take 8 rfl (by decide +kernel) rfl (fun _ _ _ h => h) hS114 (fun wF hF => r_loadB ti49 rfl rfl (hF.heap (.head _)) (by rw [List.length_map, List.length_set]; exact (leavesL_32 ps).gt (by rw [leavesL_len]; omega))) ?_
        refine g_take 9 rfl (by decide +kernel) rfl (fun _ _ _ h => h) hS114 (fun wF hF => r_loadB ti55 ag55 rfl (hF.heap (.tail _ (.tail _ (.tail _ (.tail _ (.tail _ (.head _))))))) (by first | (simp [*]; done) | (simp [*] <;> omega) | omega)) ?_
        refine g_one 6 (by decide +kernel) (by decide +kernel) ?_
        refine o_call rfl (r_call fn62 rfl rfl) rfl (proved_n (rootL (leavesL ps)) ((gt (leavesL ps) ix').set _ _) _ _ _ _ _ (pathL (leavesL ps) ix') _ (rootL_len _ (leavesL_32 ps) (by rw [leavesL_len]; omega)) ((by rw [List.length_set]; exact (leavesL_32 ps).gt (by rw [leavesL_len]; omega))) (St.rowAt hS114 (.tail _ (.tail _ (.tail _ (.tail _ (.tail _ (.tail _ (.head _)))))))) hP32 (pathL_len _ _ _ _ (Nat.le_refl _) (leavesL_len ps)) (hcP) (by omega) (by omega) (by omega) (by omega) (by omega)) ?_
        rintro _ w115 ⟨rfl, hx116⟩
        have hS117 := hS114.ext hx116
        refine ⟨hS117, ?_⟩
        refine g_one 10 (by decide +kernel) (by decide +kernel) ?_
        refine o_call rfl (r_call fn79 rfl rfl) rfl (shows_n (rootL (leavesL ps)) ((gt (leavesL ps) ix').set _ _) _ _ _ _ _ (pathL (leavesL ps) ix') _ (rootL_len _ (leavesL_32 ps) (by rw [leavesL_len]; omega)) ((by rw [List.length_set]; exact (leavesL_32 ps).gt (by rw [leavesL_len]; omega))) (St.rowAt hS117 (.tail _ (.tail _ (.tail _ (.tail _ (.tail _ (.tail _ (.head _)))))))) hP32 (pathL_len _ _ _ _ (Nat.le_refl _) (leavesL_len ps)) (hcP) (by omega) (by omega) (by omega) (by omega) (by omega)) ?_
        rintro _ w118 ⟨rfl, hx119⟩
        have hS120 := hS117.ext hx119
        refine ⟨hS120, ?_⟩
        refine g_dec_t 11 rfl (by decide +kernel) rfl (fun _ _ _ _ h => h) hS120 (fun wF hF => r_eql rfl rfl) rfl ?_
        refine g_take 12 rfl (by decide +kernel) rfl (fun _ _ _ h => h) hS120 (fun wF hF => r_move (v := .bool _) rfl) ?_
        refine g_take 13 rfl (by decide +kernel) rfl (fun _ _ _ h => h) hS120 (fun wF hF => r_loadB ti49 rfl rfl (hF.heap (.head _)) (by rw [List.length_map, List.length_set]; exact (leavesL_32 ps).gt (by rw [leavesL_len]; omega))) ?_
        refine g_take 14 rfl (by decide +kernel) rfl (fun _ _ _ h => h) hS120 (fun wF hF => r_move (v := .slice _ _ _) rfl) ?_
        refine g_take 15 rfl (by decide +kernel) rfl (fun _ _ _ h => h) hS120 (fun wF hF => r_move (v := .int .i64 _) rfl) ?_
        refine g_take 16 rfl (by decide +kernel) rfl (fun _ _ _ h => h) hS120 (fun wF hF => r_ix32 ti53.und ti49 rfl rfl (St.rowAt hF (.tail _ (.tail _ (.tail _ (.tail _ (.tail _ (.tail _ (.tail _ (.head _))))))))) (leavesL_32 ps) (leavesL_len ps) (by omega)) ?_
        refine g_take 17 rfl (by decide +kernel) rfl (fun _ _ _ h => h) hS120 (fun wF hF => r_load32 ti49 rfl rfl (St.rowAt hF (.tail _ (.tail _ (.tail _ (.tail _ (.tail _ (.tail _ (.tail _ (.head _))))))))) (leavesL_32 ps) (by rw [leavesL_len]; omega)) ?_
        refine g_take 18 rfl (by decide +kernel) rfl (fun _ _ _ h => h) hS120 (fun wF hF => r_loadB ti55 ag55 rfl (hF.heap (.tail _ (.tail _ (.tail _ (.tail _ (.tail _ (.head _))))))) (by first | (simp [*]; done) | (simp [*] <;> omega) | omega)) ?_
        refine g_take 20 rfl (by decide +kernel) rfl (fun _ _ _ h => h) hS120 (fun wF hF => r_loadB ti49 rfl rfl (hF.heap (.head _)) (by rw [List.length_map, List.length_set]; exact (leavesL_32 ps).gt (by rw [leavesL_len]; omega))) ?_
        refine g_take 21 rfl (by decide +kernel) rfl (fun _ _ _ h => h) hS120 (fun wF hF => r_move (v := .slice _ _ _) rfl) ?_
        refine g_take 22 rfl (by decide +kernel) rfl (fun _ _ _ h => h) hS120 (fun wF hF => r_move (v := .int .i64 _) rfl) ?_
        refine g_take 23 rfl (by decide +kernel) rfl (fun _ _ _ h => h) hS120 (fun wF hF => r_ix32 ti53.und ti49 rfl rfl (St.rowAt hF (.tail _ (.tail _ (.tail _ (.tail _ (.tail _ (.tail _ (.tail _ (.head _))))))))) (leavesL_32 ps) (leavesL_len ps) (by omega)) ?_
        refine g_take 24 rfl (by decide +kernel) rfl (fun _ _ _ h => h) hS120 (fun wF hF => r_load32 ti49 rfl rfl (St.rowAt hF (.tail _ (.tail _ (.tail _ (.tail _ (.tail _ (.tail _ (.tail _ (.head _))))))))) (leavesL_32 ps) (by rw [leavesL_len]; omega)) ?_
        refine g_take 25 rfl (by decide +kernel) rfl (fun _ _ _ h => h) hS120 (fun wF hF => r_loadB ti55 ag55 rfl (hF.heap (.tail _ (.tail _ (.tail _ (.tail _ (.tail _ (.head _))))))) (by first | (simp [*]; done) | (simp [*] <;> omega) | omega)) ?_
        refine g_one 19 (by decide +kernel) (by decide +kernel) ?_
        refine o_call rfl (r_call fn62 rfl rfl) rfl (proved_n ((gt (leavesL ps) ix').set _ _) (gt (leavesL ps) ix') _ _ _ _ _ (pathL (leavesL ps) ix') _ ((by rw [List.length_set]; exact (leavesL_32 ps).gt (by rw [leavesL_len]; omega))) ((leavesL_32 ps).gt (by rw [leavesL_len]; omega)) (St.rowAt hS120 (.tail _ (.tail _ (.tail _ (.tail _ (.tail _ (.tail _ (.head _)))))))) hP32 (pathL_len _ _ _ _ (Nat.le_refl _) (leavesL_len ps)) (hcP) (by omega) (by omega) (by omega) (by omega) (by omega)) ?_
        rintro _ w121 ⟨rfl, hx122⟩
        have hS123 := hS120.ext hx122
        refine ⟨hS123, ?_⟩
        refine g_tail (by decide +kernel) rfl (by decide +kernel) ?_
        refine wl_call (r_call fn79 rfl rfl) rfl (shows_n ((gt (leavesL ps) ix').set _ _) (gt (leavesL ps) ix') _ _ _ _ _ (pathL (leavesL ps) ix') _ ((by rw [List.length_set]; exact (leavesL_32 ps).gt (by rw [leavesL_len]; omega))) ((leavesL_32 ps).gt (by rw [leavesL_len]; omega)) (St.rowAt hS123 (.tail _ (.tail _ (.tail _ (.tail _ (.tail _ (.tail _ (.head _)))))))) hP32 (pathL_len _ _ _ _ (Nat.le_refl _) (leavesL_len ps)) (hcP) (by omega) (by omega) (by omega) (by omega) (by omega)) ?_
        rintro _ w124 ⟨rfl, hx125⟩
        have hS126 := hS123.ext hx125
        refine wl_dec_t (r_eql rfl rfl) rfl rfl ?_
        refine wl_val (r_pick_t rfl (v := .bool _) rfl) rfl ?_
        refine wl_val (r_pick_f rfl (v := .bool _) rfl) rfl ?_
        refine wl_val (r_assign (v := .bool _) rfl) rfl ?_
        refine wl_nil ?_
        refine c_then ?_
        refine wp_ret ?_
        refine ret1 Try.results14 ?_
        first | exact ⟨rfl, hS126.fin⟩ | exact ⟨by simp, hS126.fin⟩


theorem own : ownKnob Try.prog.godebug = none := by kernel_rfl
theorem laidOut : laidOutB Try.prog = true := by kernel_rfl
theorem readable3 : Try.prog.readableRec 3 = true := by kernel_rfl
theorem inside3 : decide (3 < Try.prog.types.size) = true := by kernel_rfl
theorem readable5 : Try.prog.readableRec 5 = true := by kernel_rfl
theorem inside5 : decide (5 < Try.prog.types.size) = true := by kernel_rfl
theorem readable43 : Try.prog.readableRec 43 = true := by kernel_rfl
theorem inside43 : decide (43 < Try.prog.types.size) = true := by kernel_rfl
theorem lifted (os : Os) (started : os.Started) (H : Type) (enc : TypeId × Value → H) :
    ReturnsInHanded {} Try.checked os 14 .any (Rows.placesAreProvedSpec.pre6 enc Try.prog Try.f14 Rows.placesAreProvedRow.domain false) (Rows.placesAreProvedSpec.post enc Try.prog Try.f14 false true false false) := by
  refine returnsInHanded_of_change_sized (C := Try.checked) own started (by kernel_rfl) Try.func14
    (ChangeSpec.witness6 (enc := enc) (C := Try.checked) false ⟨#[], #[.slice none 0 0, .int .i64 0, .int .i64 0, .int .u8 0], []⟩ 8 (by kernel_rfl) (by kernel_rfl) (by kernel_rfl) (by kernel_rfl)) ?_
  intro W base args ds gs before hval0 hW hcnd hsz0 _
  have hval : ∀ (j : Nat) t v, Try.f14.params[j]? = some t → args[j]? = some v → Value.okWide Try.prog W .any base t v := hval0
  have hW' := hW
  obtain ⟨p, q, hA0, hV, rfl, hfz, hnd⟩ := hW
  have hA : DataW.TrodAll enc Try.prog W 0 (fun _ => true) true Try.f14.params.toList args.toList ds p := hA0
  have hsz : (DataW.weightsEach Try.prog (Try.f14.params.toList ++ Rows.placesAreProvedSpec.plain.varTypes Try.prog) (ds ++ gs)).all (· ≤ reachBytes) = true := hsz0
  rw [Try.params14] at hA hval hsz
  obtain ⟨v0, vs0, d0, ds0, p0, q0, hargs, rfl, rfl, h0, r0⟩ := trodAll_cons hA
  obtain ⟨v1, vs1, d1, ds1, p1, q1, rfl, rfl, rfl, h1, r1⟩ := trodAll_cons r0
  obtain ⟨v2, vs2, d2, ds2, p2, q2, rfl, rfl, rfl, h2, r2⟩ := trodAll_cons r1
  obtain ⟨v3, vs3, d3, ds3, p3, q3, rfl, rfl, rfl, h3, r3⟩ := trodAll_cons r2
  obtain ⟨rfl, rfl, rfl⟩ := trodAll_nil r3
  obtain rfl : args = #[v0, v1, v2, v3] := by cases args; simp_all
  obtain ⟨rfl, rfl⟩ := trodVars_none hV
  have lt0 : ∀ x ∈ p0, x.block < W.heap.size := by obtain ⟨m, hm⟩ := h0; exact DataW.trod_lt m _ _ _ hm
  have lt1 : ∀ x ∈ p1, x.block < W.heap.size := by obtain ⟨m, hm⟩ := h1; exact DataW.trod_lt m _ _ _ hm
  have lt2 : ∀ x ∈ p2, x.block < W.heap.size := by obtain ⟨m, hm⟩ := h2; exact DataW.trod_lt m _ _ _ hm
  have lt3 : ∀ x ∈ p3, x.block < W.heap.size := by obtain ⟨m, hm⟩ := h3; exact DataW.trod_lt m _ _ _ hm
  have ok0 := hval 0 43 v0 rfl rfl
  obtain ⟨⟨aps, cps, ps⟩, rfl, rps, lcps, hcps, hrps⟩ := open_slice (j := 0) Try.underlying43 (opens_parts Try.underlying43 (by kernel_rfl) (by kernel_rfl) Try.underlying22 Try.underlying5 (by kernel_rfl) (by kernel_rfl)) ok0 h0 hsz rfl rfl
  simp only [] at rps lcps hcps hrps
  have ok1 := hval 1 3 v1 rfl rfl
  obtain ⟨ix, rfl, loix, hiix⟩ := open_i64 Try.underlying3 ok1 h1
  have ok2 := hval 2 3 v2 rfl rfl
  obtain ⟨kk, rfl, lokk, hikk⟩ := open_i64 Try.underlying3 ok2 h2
  have ok3 := hval 3 5 v3 rfl rfl
  obtain ⟨by', rfl⟩ := open_u8 Try.underlying5 ok3 h3
  refine Calls.mono (walk ps aps cps ix kk by' W rps hrps lcps loix hiix lokk hikk) fun e W' ⟨v, he, hv, hs⟩ => ?_
  subst hv; subst he
  have bel := hs.below
  exact ⟨_, rfl, _, _, _, [], _, [], hW', trodAll_mk1 (shut_bool Try.underlying4 _), (trodAll_cons_mk (Below.trod laidOut readable43 (of_decide_eq_true inside43) h0 bel lt0) (trodAll_cons_mk (Below.trod laidOut readable3 (of_decide_eq_true inside3) h1 bel lt1) (trodAll_cons_mk (Below.trod laidOut readable3 (of_decide_eq_true inside3) h2 bel lt2) (trodAll_cons_mk (Below.trod laidOut readable5 (of_decide_eq_true inside5) h3 bel lt3) trodAll_mk0)))), rfl, bel.frame _, fun h => by cases h⟩
theorem over : Rows.placesAreProvedRow.holds Try.pinned (OpenSpec.ofChange Rows.placesAreProvedSpec) :=
  OpenClaim.holds_of_wide 14 Try.f14 rfl rfl rfl rfl rfl rfl rfl ⟨rfl, rfl, rfl, rfl, rfl⟩ rfl rfl rfl rfl rfl (by kernel_rfl) Try.func14 (by kernel_rfl)
    (of_decide_eq_true (by kernel_rfl)) (by unfold Func.isWrapper; rw [if_neg (of_decide_eq_false (by kernel_rfl))]; exact ⟨rfl, rfl⟩)
    (fun os started H enc _ => lifted os started H enc)
theorem proved : Rows.PlacesAreProvedSaid := over
#print axioms proved
end Go.Proofs.Ytfohfnpehfcaaaa.lawPlacesAreProved
