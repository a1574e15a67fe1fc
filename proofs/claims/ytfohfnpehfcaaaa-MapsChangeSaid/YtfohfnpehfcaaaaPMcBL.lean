/- What the law's proof leans on. No condition. -/
import Derived.Test.YtfohfnpehfcaaaaPMcAF
import Derived.Test.YtfohfnpehfcaaaaPMcBK
import Derived.Test.YtfohfnpehfcaaaaPMcAH
import Derived.Test.YtfohfnpehfcaaaaPMcBD
import Derived.Test.YtfohfnpehfcaaaaRows
namespace Go.Proofs.Ytfohfnpehfcaaaa.lawMapsChange
open Go.Kw Go.Proofs.Ytfohfnpehfcaaaa
open Go.ChangeShapes Go.WideShapes Go.ChangeAt Go.RowKit
set_option linter.unusedVariables false
set_option linter.unusedSimpArgs false
set_option maxRecDepth 100000
set_option maxHeartbeats 20000000

theorem walk (l : List StepD) (a : Option Addr) (c : Nat) (n val : Int) (w : World) (hb : Row w a (l.flatMap StepD.v)) (hlc : l.length ≤ c) :
    Ret Try.prog 19 [.slice a l.length c, .int .i64 n, .int .i64 val] w (fun v w' => v = .bool true ∧ St w [] w' []) := by
  refine enter Try.func19 rfl Try.ntmps19 rfl ?_
  have hS := St.refl w []
  refine c_seq ?_; refine c_region ?_; refine wl_val (r_assign (v := .bool false) rfl) rfl ?_; refine wl_nil ?_; refine c_then ?_; refine c_seq ?_; refine c_seq ?_; refine c_region ?_; refine wl_call (r_call fn20 rfl rfl) rfl (landed_ok _) ?_; rintro _ w1 ⟨rfl, hx2⟩
  have hS3 := hS.ext hx2
  refine wl_val (r_not rfl) rfl ?_; refine wl_nil ?_; refine c_then ?_; refine c_false rfl ?_; refine wp_skip ?_; refine c_then ?_; refine c_seq ?_; refine c_region ?_; refine wl_val (r_move (v := .slice _ _ _) rfl) rfl ?_; refine wl_call (r_call fn90 rfl rfl) rfl (mapped_ok l _ _ _ (hb.st hS3) hlc) ?_; rintro _ w4 ⟨bm, bv, E, clock, a4, n4, c4, rfl, hne, hwf, hnz, hEn, hc4, hn4, hx5⟩
  have hS6 := hS3.call hx5
  simp only [List.cons_append, List.nil_append] at hS6; refine wl_val (r_move (v := .tuple _) rfl) rfl ?_; refine wl_val (r_extract (v := .pointer _) rfl rfl) rfl ?_; refine wl_val (r_extract (v := .slice _ _ _) rfl rfl) rfl ?_; refine wl_val (r_extract (v := .bool _) rfl rfl) rfl ?_; refine wl_val (r_assign (v := .pointer _) rfl) rfl ?_; refine wl_val (r_assign (v := .slice _ _ _) rfl) rfl ?_; refine wl_val (r_assign (v := .bool _) rfl) rfl ?_; refine wl_nil ?_; refine c_then ?_; refine c_seq ?_; refine c_seq ?_; refine c_region ?_; refine wl_val (r_move (v := .bool _) rfl) rfl ?_; refine wl_val (r_not rfl) rfl ?_; refine wl_nil ?_; refine c_then ?_; refine c_false rfl ?_; refine wp_skip ?_; refine c_then ?_; refine c_seq ?_; refine c_region ?_; refine wl_val (r_move (v := .int .i64 _) rfl) rfl ?_; refine wl_call (r_call fn100 rfl rfl) rfl (key_ok _ _) ?_; rintro _ w7 ⟨q28, rfl, hx8⟩
  have hS9 := hS6.ext hx8
  refine wl_val (r_move (v := .int .i64 _) rfl) rfl ?_; refine wl_call (r_call fn100 rfl rfl) rfl (key_ok _ _) ?_; rintro _ w10 ⟨q30, rfl, hx11⟩
  have hS12 := hS9.ext hx11
  refine wl_exv (x_alloc (C := ((List.replicate 32 (0 : UInt8)).map b8)) hS12 ti49 rfl) rfl ?_; rintro _ w13 ⟨b10, rfl, hS14⟩; refine wl_exv (x_alloc (C := ((List.replicate 32 (0 : UInt8)).map b8)) hS14 ti49 rfl) rfl ?_; rintro _ w15 ⟨b11, rfl, hS16⟩; refine wl_exs (x_storeW [_] hS16 ti49 rfl rfl (by rw [List.length_map]; exact s32 _) (by simp) (one_b8 _)) rfl ?_; intro w17 hS18; simp only [List.cons_append, List.nil_append] at hS18; refine wl_exs (x_storeW [] hS18 ti49 rfl rfl (by rw [List.length_map]; exact s32 _) (by simp) (one_b8 _)) rfl ?_; intro w19 hS20; simp only [List.cons_append, List.nil_append] at hS20; refine wl_nil ?_; refine c_then ?_; refine c_seq ?_; refine c_region ?_; refine wl_val (r_move (v := .pointer _) rfl) rfl ?_; refine wl_val (r_loadB ti49 rfl rfl (hS20.heap (.tail _ (.head _))) (by rw [List.length_map]; exact s32 _)) rfl ?_; refine wl_call (r_call fn105 rfl rfl) rfl (mget2_ok E clock bm bv q28 _ (hS20.heap (.tail _ (.tail _ (.tail _ (.head _))))) (hS20.heap (.tail _ (.tail _ (.tail _ (.tail _ (.head _)))))) hwf hne) ?_; rintro _ w21 ⟨old, e34, rfl, hold, hol, hx22⟩
  have hS23 := hS20.ext hx22
  refine wl_val (r_move (v := .tuple _) rfl) rfl ?_; refine wl_val (r_extract (v := .agg _) rfl rfl) rfl ?_; refine wl_val (r_extract (v := .int .i64 _) rfl rfl) rfl ?_; refine wl_exv (x_alloc (C := ((List.replicate 32 (0 : UInt8)).map b8)) hS23 ti49 rfl) rfl ?_; rintro _ w24 ⟨b12, rfl, hS25⟩; refine wl_exs (x_storeW [] hS25 ti49 rfl rfl (by rw [List.length_map]; exact hol) (by simp) (one_b8 _)) rfl ?_; intro w26 hS27; simp only [List.cons_append, List.nil_append] at hS27; refine wl_val (r_assign (v := .int .i64 _) rfl) rfl ?_; refine wl_nil ?_; refine c_then ?_; refine c_cutE [6, 7, 8, 10, 11] (fun e w' => ∃ (T b14 : Nat), Kw.look e 14 = pt b14 0 ∧ Kw.look e 15 = vi (changedL (mapRootF 256 (entsL E) 0) q28.1 old q30.1 (marksTo (entsL E) q28.1 T) (fullP (entsL E) q28.1 T)).2 ∧ St w [] w' [.blk b14 (cl ((changedL (mapRootF 256 (entsL E) 0) q28.1 old q30.1 (marksTo (entsL E) q28.1 T) (fullP (entsL E) q28.1 T)).1.map b8) 49), .blk b12 (cl (old.map b8) 49), .blk b11 (cl (q30.1.map b8) 49), .blk b10 (cl (q28.1.map b8) 49), .row (.slice a4 n4 c4) 131 64 n4 ((entsL E).flatten.map b8), .blk bm (cl [.map (some bv)] 198), .blk bv (mobj E clock)] ∧ (EndsAt (entsL E) q28.1 T)) ?_ ?_
  · refine c_drawS 14 hMixed hS27 ?_
    intro w32 hS33; refine g_take 0 rfl (by decide +kernel) rfl (fun _ _ _ h => h) hS33 (fun wF hF => r_move (v := .pointer _) rfl) ?_; refine g_take 2 rfl (by decide +kernel) rfl (fun _ _ _ h => h) hS33 (fun wF hF => r_loadB ti49 rfl rfl (hF.heap (.tail _ (.tail _ (.head _)))) (by rw [List.length_map]; exact s32 _)) ?_; refine g_take 3 rfl (by decide +kernel) rfl (fun _ _ _ h => h) hS33 (fun wF hF => r_loadB ti49 rfl rfl (hF.heap (.head _)) (by rw [List.length_map]; exact hol)) ?_; refine g_take 4 rfl (by decide +kernel) rfl (fun _ _ _ h => h) hS33 (fun wF hF => r_loadB ti49 rfl rfl (hF.heap (.tail _ (.head _))) (by rw [List.length_map]; exact s32 _)) ?_; refine g_take 5 rfl (by decide +kernel) rfl (fun _ _ _ h => h) hS33 (fun wF hF => r_move (v := .pointer _) rfl) ?_; refine g_take 6 rfl (by decide +kernel) rfl (fun _ _ _ h => h) hS33 (fun wF hF => r_loadB ti49 rfl rfl (hF.heap (.tail _ (.tail _ (.head _)))) (by rw [List.length_map]; exact s32 _)) ?_; refine g_all (rs := [1, 12]) (by decide +kernel) (by decide +kernel) rfl ?_
    simp only [List.forall_mem_cons, List.not_mem_nil, false_imp_iff, implies_true, and_true]
    refine ⟨?_, ?_⟩
    · refine o_call rfl (r_call fn91 rfl rfl) rfl (mroot3_ok E clock bm bv _ (hS33.heap (.tail _ (.tail _ (.tail _ (.tail _ (.head _)))))) (hS33.heap (.tail _ (.tail _ (.tail _ (.tail _ (.tail _ (.head _))))))) hwf hne (by omega)) ?_
      rintro _ w34 ⟨rfl, hx35⟩
      have hS36 := hS33.ext hx35
      refine ⟨hS36, ?_⟩
      refine g_all (rs := [7, 12]) (by decide +kernel) (by decide +kernel) rfl ?_
      simp only [List.forall_mem_cons, List.not_mem_nil, false_imp_iff, implies_true, and_true]
      refine ⟨?_, ?_⟩
      · refine o_call rfl (r_call fn101 rfl rfl) rfl (mapProve3_ok E clock bm bv q28 _ (hS36.heap (.tail _ (.tail _ (.tail _ (.tail _ (.head _)))))) (hS36.heap (.tail _ (.tail _ (.tail _ (.tail _ (.tail _ (.head _))))))) hwf hne (by omega)) ?_
        rintro _ w37 ⟨T, pa, pn, pc, rfl, hT, hpn, hpc, hx38⟩
        have hS39 := hS36.call hx38
        simp only [List.cons_append, List.nil_append] at hS39
        have hP32 := full_32 (entsL_64 E) q28.1 T
        have hPl := full_len (l := entsL E) (k := q28.1) hT.le
        refine ⟨hS39.drop1, ?_⟩
        refine g_all (rs := [8, 12]) (by decide +kernel) (by decide +kernel) rfl ?_
        simp only [List.forall_mem_cons, List.not_mem_nil, false_imp_iff, implies_true, and_true]
        refine ⟨?_, ?_⟩
        · refine o_call rfl (r_call fn69 rfl rfl) rfl (changed_n _ _ _ _ (marksTo (entsL E) q28.1 T) _ _ (fullP (entsL E) q28.1 T) _ _ hpn (mapRootF_len _ _ _) (s32 _) hol (s32 _) (marks_len _ _ _) (St.rowAt hS39 (.head _)) hP32 hpc (by omega)) ?_
          rintro _ w40 ⟨rfl, hx41⟩
          have hS42 := hS39.ext hx41
          refine ⟨hS42.drop1, ?_⟩
          refine g_take 9 rfl (by decide +kernel) rfl (fun _ _ _ h => h) hS42.drop1 (fun wF hF => r_move (v := .tuple _) rfl) ?_; refine g_take 10 rfl (by decide +kernel) rfl (fun _ _ _ h => h) hS42.drop1 (fun wF hF => r_extract (v := .agg _) rfl rfl) ?_; refine g_take 11 rfl (by decide +kernel) rfl (fun _ _ _ h => h) hS42.drop1 (fun wF hF => r_extract (v := .int .i64 _) rfl rfl) ?_; refine g_one 12 (by decide +kernel) (by decide +kernel) ?_; refine o_exv rfl (x_alloc (C := ((List.replicate 32 (0 : UInt8)).map b8)) hS42 ti49 rfl) rfl ?_; rintro _ w43 ⟨b14, rfl, hS44⟩
          refine ⟨hS44.drop1.drop1, ?_⟩
          refine g_one 13 (by decide +kernel) (by decide +kernel) ?_; refine o_exs rfl (x_storeW [] hS44 ti49 rfl rfl (by rw [List.length_map]; exact changed_len _ _ _ _ _ _) (by simp) (one_b8 _)) rfl ?_; intro w45 hS46; simp only [List.cons_append, List.nil_append] at hS46
          refine ⟨hS46.drop1.drop1, ?_⟩
          refine g_tail (by decide +kernel) rfl (by decide +kernel) ?_; refine wl_val (r_assign (v := .int .i64 _) rfl) rfl ?_; refine wl_nil ?_; refine c_then ?_
          exact ⟨_, rfl, ⟨T, b14, rfl, rfl, (hS46.perm ((List.Perm.cons _ (List.Perm.refl _)).trans (List.perm_middle (l₁ := [_])).symm)).drop1, hT⟩, ⟨rfl, rfl, rfl, rfl, rfl, trivial⟩⟩
        · refine o_exv rfl (x_alloc (C := ((List.replicate 32 (0 : UInt8)).map b8)) hS39 ti49 rfl) rfl ?_
          rintro _ w47 ⟨b14, rfl, hS48⟩
          refine ⟨hS48.drop1.drop1, ?_⟩
          refine g_one 8 (by decide +kernel) (by decide +kernel) ?_; refine o_call rfl (r_call fn69 rfl rfl) rfl (changed_n _ _ _ _ (marksTo (entsL E) q28.1 T) _ _ (fullP (entsL E) q28.1 T) _ _ hpn (mapRootF_len _ _ _) (s32 _) hol (s32 _) (marks_len _ _ _) (St.rowAt hS48 (.tail _ (.head _))) hP32 hpc (by omega)) ?_; rintro _ w49 ⟨rfl, hx50⟩
          have hS51 := hS48.ext hx50
          refine ⟨hS51.drop1.drop1, ?_⟩
          refine g_take 9 rfl (by decide +kernel) rfl (fun _ _ _ h => h) hS51.drop1.drop1 (fun wF hF => r_move (v := .tuple _) rfl) ?_; refine g_take 10 rfl (by decide +kernel) rfl (fun _ _ _ h => h) hS51.drop1.drop1 (fun wF hF => r_extract (v := .agg _) rfl rfl) ?_; refine g_take 11 rfl (by decide +kernel) rfl (fun _ _ _ h => h) hS51.drop1.drop1 (fun wF hF => r_extract (v := .int .i64 _) rfl rfl) ?_; refine g_one 13 (by decide +kernel) (by decide +kernel) ?_; refine o_exs rfl (x_storeW [] hS51 ti49 rfl rfl (by rw [List.length_map]; exact changed_len _ _ _ _ _ _) (by simp) (one_b8 _)) rfl ?_; intro w52 hS53; simp only [List.cons_append, List.nil_append] at hS53
          refine ⟨hS53.drop1.drop1, ?_⟩
          refine g_tail (by decide +kernel) rfl (by decide +kernel) ?_; refine wl_val (r_assign (v := .int .i64 _) rfl) rfl ?_; refine wl_nil ?_; refine c_then ?_
          exact ⟨_, rfl, ⟨T, b14, rfl, rfl, (hS53.perm ((List.Perm.cons _ (List.Perm.refl _)).trans (List.perm_middle (l₁ := [_])).symm)).drop1, hT⟩, ⟨rfl, rfl, rfl, rfl, rfl, trivial⟩⟩
      · refine o_exv rfl (x_alloc (C := ((List.replicate 32 (0 : UInt8)).map b8)) hS36 ti49 rfl) rfl ?_
        rintro _ w54 ⟨b14, rfl, hS55⟩
        refine ⟨hS55.drop1, ?_⟩
        refine g_one 7 (by decide +kernel) (by decide +kernel) ?_; refine o_call rfl (r_call fn101 rfl rfl) rfl (mapProve3_ok E clock bm bv q28 _ (hS55.heap (.tail _ (.tail _ (.tail _ (.tail _ (.tail _ (.head _))))))) (hS55.heap (.tail _ (.tail _ (.tail _ (.tail _ (.tail _ (.tail _ (.head _)))))))) hwf hne (by omega)) ?_; rintro _ w56 ⟨T, pa, pn, pc, rfl, hT, hpn, hpc, hx57⟩
        have hS58 := hS55.call hx57
        simp only [List.cons_append, List.nil_append] at hS58
        have hP32 := full_32 (entsL_64 E) q28.1 T
        have hPl := full_len (l := entsL E) (k := q28.1) hT.le
        refine ⟨hS58.drop1.drop1, ?_⟩
        refine g_one 8 (by decide +kernel) (by decide +kernel) ?_; refine o_call rfl (r_call fn69 rfl rfl) rfl (changed_n _ _ _ _ (marksTo (entsL E) q28.1 T) _ _ (fullP (entsL E) q28.1 T) _ _ hpn (mapRootF_len _ _ _) (s32 _) hol (s32 _) (marks_len _ _ _) (St.rowAt hS58 (.head _)) hP32 hpc (by omega)) ?_; rintro _ w59 ⟨rfl, hx60⟩
        have hS61 := hS58.ext hx60
        refine ⟨hS61.drop1.drop1, ?_⟩
        refine g_take 9 rfl (by decide +kernel) rfl (fun _ _ _ h => h) hS61.drop1.drop1 (fun wF hF => r_move (v := .tuple _) rfl) ?_; refine g_take 10 rfl (by decide +kernel) rfl (fun _ _ _ h => h) hS61.drop1.drop1 (fun wF hF => r_extract (v := .agg _) rfl rfl) ?_; refine g_take 11 rfl (by decide +kernel) rfl (fun _ _ _ h => h) hS61.drop1.drop1 (fun wF hF => r_extract (v := .int .i64 _) rfl rfl) ?_; refine g_one 13 (by decide +kernel) (by decide +kernel) ?_; refine o_exs rfl (x_storeW [_] hS61 ti49 rfl rfl (by rw [List.length_map]; exact changed_len _ _ _ _ _ _) (by simp) (one_b8 _)) rfl ?_; intro w62 hS63; simp only [List.cons_append, List.nil_append] at hS63
        refine ⟨hS63.drop1.drop1, ?_⟩
        refine g_tail (by decide +kernel) rfl (by decide +kernel) ?_; refine wl_val (r_assign (v := .int .i64 _) rfl) rfl ?_; refine wl_nil ?_; refine c_then ?_
        exact ⟨_, rfl, ⟨T, b14, rfl, rfl, hS63.drop1, hT⟩, ⟨rfl, rfl, rfl, rfl, rfl, trivial⟩⟩
    · refine o_exv rfl (x_alloc (C := ((List.replicate 32 (0 : UInt8)).map b8)) hS33 ti49 rfl) rfl ?_
      rintro _ w64 ⟨b14, rfl, hS65⟩
      refine ⟨hS65.drop1, ?_⟩
      refine g_one 1 (by decide +kernel) (by decide +kernel) ?_; refine o_call rfl (r_call fn91 rfl rfl) rfl (mroot3_ok E clock bm bv _ (hS65.heap (.tail _ (.tail _ (.tail _ (.tail _ (.tail _ (.head _))))))) (hS65.heap (.tail _ (.tail _ (.tail _ (.tail _ (.tail _ (.tail _ (.head _)))))))) hwf hne (by omega)) ?_; rintro _ w66 ⟨rfl, hx67⟩
      have hS68 := hS65.ext hx67
      refine ⟨hS68.drop1, ?_⟩
      refine g_one 7 (by decide +kernel) (by decide +kernel) ?_; refine o_call rfl (r_call fn101 rfl rfl) rfl (mapProve3_ok E clock bm bv q28 _ (hS68.heap (.tail _ (.tail _ (.tail _ (.tail _ (.tail _ (.head _))))))) (hS68.heap (.tail _ (.tail _ (.tail _ (.tail _ (.tail _ (.tail _ (.head _)))))))) hwf hne (by omega)) ?_; rintro _ w69 ⟨T, pa, pn, pc, rfl, hT, hpn, hpc, hx70⟩
      have hS71 := hS68.call hx70
      simp only [List.cons_append, List.nil_append] at hS71
      have hP32 := full_32 (entsL_64 E) q28.1 T
      have hPl := full_len (l := entsL E) (k := q28.1) hT.le
      refine ⟨hS71.drop1.drop1, ?_⟩
      refine g_one 8 (by decide +kernel) (by decide +kernel) ?_; refine o_call rfl (r_call fn69 rfl rfl) rfl (changed_n _ _ _ _ (marksTo (entsL E) q28.1 T) _ _ (fullP (entsL E) q28.1 T) _ _ hpn (mapRootF_len _ _ _) (s32 _) hol (s32 _) (marks_len _ _ _) (St.rowAt hS71 (.head _)) hP32 hpc (by omega)) ?_; rintro _ w72 ⟨rfl, hx73⟩
      have hS74 := hS71.ext hx73
      refine ⟨hS74.drop1.drop1, ?_⟩
      refine g_take 9 rfl (by decide +kernel) rfl (fun _ _ _ h => h) hS74.drop1.drop1 (fun wF hF => r_move (v := .tuple _) rfl) ?_; refine g_take 10 rfl (by decide +kernel) rfl (fun _ _ _ h => h) hS74.drop1.drop1 (fun wF hF => r_extract (v := .agg _) rfl rfl) ?_; refine g_take 11 rfl (by decide +kernel) rfl (fun _ _ _ h => h) hS74.drop1.drop1 (fun wF hF => r_extract (v := .int .i64 _) rfl rfl) ?_; refine g_one 13 (by decide +kernel) (by decide +kernel) ?_; refine o_exs rfl (x_storeW [_] hS74 ti49 rfl rfl (by rw [List.length_map]; exact changed_len _ _ _ _ _ _) (by simp) (one_b8 _)) rfl ?_; intro w75 hS76; simp only [List.cons_append, List.nil_append] at hS76
      refine ⟨hS76.drop1.drop1, ?_⟩
      refine g_tail (by decide +kernel) rfl (by decide +kernel) ?_; refine wl_val (r_assign (v := .int .i64 _) rfl) rfl ?_; refine wl_nil ?_; refine c_then ?_
      exact ⟨_, rfl, ⟨T, b14, rfl, rfl, hS76.drop1, hT⟩, ⟨rfl, rfl, rfl, rfl, rfl, trivial⟩⟩
  · rintro e28 w29 ⟨T, b14, hc31_14, hc31_15, hS30, hT⟩ -
    refine c_set (d := 14) hc31_14 ?_; refine c_set (d := 15) hc31_15 ?_; refine c_seq ?_; refine c_seq ?_; refine c_region ?_; refine wl_val (r_loadB ti49 rfl rfl (hS30.heap (.tail _ (.tail _ (.head _)))) (by rw [List.length_map]; exact s32 _)) rfl ?_; refine wl_val (r_build0 (cs := ((List.replicate 32 (0 : UInt8)).map b8)) ti49.und ti49 ti5) rfl ?_
    refine wl_dec (r_eqlA (u := undef) eg49 rfl rfl (eqIs_b8 ti49.und ti5 _ _ (s32 _) (by simp))) rfl (fun h9_2 => ?_) (fun h9_2 => ?_)
    · refine wl_nil ?_
      refine c_then ?_; refine c_true rfl ?_; refine c_seq ?_; refine c_region ?_; refine wl_val (r_move (v := .int .i64 _) rfl) rfl ?_; refine wl_dec_t (r_eql rfl rfl) rfl (by rw [changedL, if_pos h9_2]; rfl) ?_; refine wl_val (r_move (v := .bool _) rfl) rfl ?_; refine wl_val (r_loadB ti49 rfl rfl (hS30.heap (.head _)) (by rw [List.length_map]; exact changed_len _ _ _ _ _ _)) rfl ?_; refine wl_val (r_build0 (cs := ((List.replicate 32 (0 : UInt8)).map b8)) ti49.und ti49 ti5) rfl ?_; refine wl_dec_t (r_eqlA (u := undef) eg49 rfl rfl (eqIs_b8 ti49.und ti5 _ _ (changed_len _ _ _ _ _ _) (by simp))) rfl (by rw [changedL, if_pos h9_2]) ?_; refine wl_val (r_pick_t rfl (v := .bool _) rfl) rfl ?_; refine wl_val (r_assign (v := .bool _) rfl) rfl ?_; refine wl_nil ?_; refine c_then ?_; refine wp_ret ?_; refine c_thenR ?_; refine ret1 Try.results19 ?_
      exact ⟨rfl, hS30.fin⟩
    refine wl_nil ?_; refine c_then ?_; refine c_false rfl ?_; refine wp_skip ?_; refine c_then ?_; refine c_cutE [6, 7, 10, 11, 14, 15] (fun e w' => ∃ (a8 : Option Addr) (n8 c8 : Nat), Kw.look e 8 = .slice a8 n8 c8 ∧ St w [] w' [.blk b14 (cl ((changedL (mapRootF 256 (entsL E) 0) q28.1 old q30.1 (marksTo (entsL E) q28.1 T) (fullP (entsL E) q28.1 T)).1.map b8) 49), .blk b12 (cl (old.map b8) 49), .blk b11 (cl (q30.1.map b8) 49), .blk b10 (cl (q28.1.map b8) 49), .row (.slice a8 n8 c8) 131 64 n8 ((entsL (dropM E q28)).flatten.map b8), .blk bm (cl [.map (some bv)] 198), .blk bv (mobj E clock)] ∧ ((dropM E q28).length = n8) ∧ (n8 ≤ c8) ∧ (n8 ≤ 40)) ?_ ?_
    · rcases getM_cases E q28 with hg | hg
      · refine c_region ?_
        refine wl_val (r_move (v := .slice _ _ _) rfl) rfl ?_; refine wl_val (r_makeFunc (vs := [pt b10 0]) rfl) rfl ?_; refine wl_call (r_call fn106 rfl rfl) rfl (delF0_ok E clock hwf q28 b10 _ n4 _ _ (St.rowAt hS30 (.tail _ (.tail _ (.tail _ (.tail _ (.head _)))))) hEn (by omega) (hS30.heap (.tail _ (.tail _ (.tail _ (.head _))))) hg) ?_; rintro _ w81 ⟨rfl, hx82⟩
        have hS83 := hS30.ext hx82
        refine wl_val (r_assign (v := .slice _ _ _) rfl) rfl ?_; refine wl_nil ?_; refine c_then ?_
        have ed := drop_none hg
        exact ⟨_, rfl, ⟨_, _, _, rfl, (by rw [ed]; exact hS83), by rw [ed]; exact hEn, hc4, by omega⟩, ⟨rfl, rfl, rfl, rfl, rfl, rfl, trivial⟩⟩
      obtain ⟨g, D, hga, hC, hnc, hcm, hS84⟩ := St.rowBlkQ (l1 := []) (hS30.perm ((List.Perm.cons _ (List.Perm.refl _)).trans (List.perm_middle (l₁ := [_, _, _, _])).symm)) (by obtain ⟨v0, hv0⟩ := hg; rw [← hEn]; cases E with | nil => exact absurd hv0 (by simp [getM]) | cons x E => simp)
      subst hga
      simp only [List.nil_append] at hS84
      have hj0 : 0 < n4 := by obtain ⟨v0, hv0⟩ := hg; rw [← hEn]; cases E with | nil => exact absurd hv0 (by simp [getM]) | cons x E => simp
      refine c_region ?_; refine wl_val (r_move (v := .slice _ _ _) rfl) rfl ?_; refine wl_val (r_makeFunc (vs := [pt b10 0]) rfl) rfl ?_
      have hbg : ¬ b10 = g := fun e => by have := ((hS84.perm ((List.Perm.cons _ ((List.Perm.cons _ ((List.Perm.cons _ ((List.Perm.cons _ ((List.Perm.cons _ ((List.Perm.cons _ (List.Perm.refl _)).trans (List.perm_middle (l₁ := [_])).symm)).trans (List.perm_middle (l₁ := [_, _])).symm)).trans (List.perm_middle (l₁ := [_, _])).symm)).trans (List.perm_middle (l₁ := [_])).symm)).trans (List.perm_middle (l₁ := [_])).symm)).trans (List.perm_middle (l₁ := [_])).symm)).drop1.drop1.drop1.drop1.drop1).apart; simp [Item.id, e] at this
      refine wl_call (r_call fn106 rfl rfl) rfl (delF1_ok E clock hwf q28 b10 D g n4 _ _ (hS84.heap (.head _)) hEn (by omega) (by omega) hC (hS84.heap (.tail _ (.tail _ (.tail _ (.tail _ (.head _)))))) hbg hg) ?_; rintro _ w85 ⟨D', rfl, hD', hx86⟩
      have hS87 := St.callM (X := [_]) (L := [_, _, _, _, _, _]) hS84 hx86 (by simp [Item.id])
      simp only [List.cons_append, List.nil_append] at hS87; refine wl_val (r_assign (v := .slice _ _ _) rfl) rfl ?_; refine wl_nil ?_; refine c_then ?_
      have hdl := drop_len E q28
      have hT2 := St.toRow (l1 := [_, _, _, _]) (sz := 64) (n := (dropM E q28).length) (cap := c4) (hS87.perm ((List.Perm.cons _ ((List.Perm.cons _ ((List.Perm.cons _ ((List.Perm.cons _ (List.Perm.refl _)).trans (List.perm_middle (l₁ := [_])).symm)).trans (List.perm_middle (l₁ := [_])).symm)).trans (List.perm_middle (l₁ := [_])).symm)).trans (List.perm_middle (l₁ := [_])).symm)) (by omega) hcm hD'
      simp only [List.cons_append, List.nil_append] at hT2
      rw [List.take_left' (by rw [flatN_lenV (entsL_64 _), entsL_len])] at hT2
      exact ⟨_, rfl, ⟨_, _, _, rfl, hT2, rfl, by omega, by omega⟩, ⟨rfl, rfl, rfl, rfl, rfl, rfl, trivial⟩⟩
    · rintro e77 w78 ⟨a8, n8, c8, hc80_8, hS79, hd8, hc8, hn8⟩ -
      refine c_set (d := 8) hc80_8 ?_; refine c_seq ?_
      have hq28 := s32 q28
      have hq30 := s32 q30
      refine c_region ?_; refine wl_val (r_move (v := .slice _ _ _) rfl) rfl ?_; refine wl_val (r_loadB ti49 rfl rfl (hS79.heap (.tail _ (.tail _ (.tail _ (.head _))))) (by rw [List.length_map]; exact s32 _)) rfl ?_; refine wl_val (r_loadB ti49 rfl rfl (hS79.heap (.tail _ (.tail _ (.head _)))) (by rw [List.length_map]; exact s32 _)) rfl ?_; refine wl_val (r_buildF (vs := [.agg _, .agg _]) pl131 ti131 rfl (by simp only [List.map_cons, List.map_nil, List.flatten_cons, List.flatten_nil, cellsL_agg, cellsL_int, cellsL_bool, cellsL_string, cellsL_slice, cellsL_pointer, List.append_nil, List.cons_append, List.nil_append]; rfl) (by intro i hi; match i, hi with | 0, _ => simp [cellsL, Value.cells, *] | 1, _ => simp [cellsL, Value.cells, *]) (by simp [Value.cells, *])) rfl ?_; refine wl_exv (x_litA1 hS79 ti124.und ti131 rfl (by rw [List.length_append, List.length_map, List.length_map, q28.2, q30.2]) rfl (by decide) (by decide)) rfl ?_; rintro _ w88 ⟨b66, rfl, hS89⟩; refine wl_exv (x_append [_, _, _, _, _] hS89 ti124.und ti131 rfl (by decide) rfl rfl (Row.of_at (at_all (hS89.heap (.head _)))) (by rw [List.length_append, List.length_map, List.length_map, q28.2, q30.2]) (one_app (one_b8 _) (one_b8 _)) (by first | omega | (simp [*]; done) | (simp [*] <;> omega)) (by first | omega | (simp [*]; done) | (simp [*] <;> omega)) _ rfl) rfl ?_; rintro _ w90 ⟨aq92, cq92, rfl, hcq92, hS91⟩; simp only [List.cons_append, List.nil_append] at hS91; refine wl_call (r_call fn92 rfl rfl) rfl (rmapRoot_ok 256 (newE E q28 q30) 0 _ (n8 + 1) _ _ (by omega) (by have hh := (St.rowAt hS91 (.tail _ (.tail _ (.tail _ (.tail _ (.tail _ (.head _))))))); rw [show (newE E q28 q30).flatten.map b8 = (entsL (dropM E q28)).flatten.map b8 ++ (q28.1.map b8 ++ q30.1.map b8) by simp [newE]]; exact hh) (by rw [newE_ents E clock]; exact entsL_64 _) (by rw [newE, List.length_append, entsL_len, hd8]; rfl) (by omega) (by omega) (newE_parts hwf q28 q30)) ?_
      rintro _ w93 ⟨rfl, hx94⟩
      have hS95 := hS91.ext hx94
      refine wl_exv (x_alloc (C := ((List.replicate 32 (0 : UInt8)).map b8)) hS95 ti49 rfl) rfl ?_; rintro _ w96 ⟨b16, rfl, hS97⟩; refine wl_exs (x_storeW [] hS97 ti49 rfl rfl (by rw [List.length_map]; exact mapRootF_len _ _ _) (by simp) (one_b8 _)) rfl ?_; intro w98 hS99; simp only [List.cons_append, List.nil_append] at hS99; refine wl_nil ?_; refine c_then ?_; refine c_seq ?_
      have hcf := changed_full (v := q30) hwf hnz h9_2 hold hT
      refine c_drawSF 18 hMixed hS99 (hS99.perm ((List.Perm.cons _ (List.Perm.refl _)).trans (List.perm_middle (l₁ := [_, _, _, _, _, _, _, _])).symm)).drop1 ?_; intro w100 hS101; refine g_take 0 rfl (by decide +kernel) rfl (fun _ _ _ h => h) (hS101.perm ((List.Perm.cons _ (List.Perm.refl _)).trans (List.perm_middle (l₁ := [_, _, _, _, _, _, _, _])).symm)).drop1 (fun wF hF => r_move (v := .int .i64 _) rfl) ?_; refine g_dec_t 1 rfl (by decide +kernel) rfl (fun _ _ _ _ h => h) (hS101.perm ((List.Perm.cons _ (List.Perm.refl _)).trans (List.perm_middle (l₁ := [_, _, _, _, _, _, _, _])).symm)).drop1 (fun wF hF => r_eql rfl rfl) (by rw [hcf]; rfl) ?_; refine g_take 2 rfl (by decide +kernel) rfl (fun _ _ _ h => h) (hS101.perm ((List.Perm.cons _ (List.Perm.refl _)).trans (List.perm_middle (l₁ := [_, _, _, _, _, _, _, _])).symm)).drop1 (fun wF hF => r_move (v := .bool _) rfl) ?_; refine g_take 3 rfl (by decide +kernel) rfl (fun _ _ _ h => h) (hS101.perm ((List.Perm.cons _ (List.Perm.refl _)).trans (List.perm_middle (l₁ := [_, _, _, _, _, _, _, _])).symm)).drop1 (fun wF hF => r_loadB ti49 rfl rfl (hF.heap (.tail _ (.tail _ (.head _)))) (by rw [List.length_map]; exact changed_len _ _ _ _ _ _)) ?_; refine g_take 4 rfl (by decide +kernel) rfl (fun _ _ _ h => h) (hS101.perm ((List.Perm.cons _ (List.Perm.refl _)).trans (List.perm_middle (l₁ := [_, _, _, _, _, _, _, _])).symm)).drop1 (fun wF hF => r_loadB ti49 rfl rfl (hF.heap (.head _)) (by rw [List.length_map]; exact mapRootF_len _ _ _)) ?_
      refine g_dec_t 5 rfl (by decide +kernel) rfl (fun _ _ _ _ h => h) (hS101.perm ((List.Perm.cons _ (List.Perm.refl _)).trans (List.perm_middle (l₁ := [_, _, _, _, _, _, _, _])).symm)).drop1 (fun wF hF => r_eqlA (u := undef) eg49 rfl rfl (eqIs_b8 ti49.und ti5 _ _ (changed_len _ _ _ _ _ _) (mapRootF_len _ _ _))) (by rw [hcf]) ?_; refine g_take 6 rfl (by decide +kernel) rfl (fun _ _ _ h => h) (hS101.perm ((List.Perm.cons _ (List.Perm.refl _)).trans (List.perm_middle (l₁ := [_, _, _, _, _, _, _, _])).symm)).drop1 (fun wF hF => r_pick_t rfl (v := .bool _) rfl) ?_; refine g_take 7 rfl (by decide +kernel) rfl (fun _ _ _ h => h) (hS101.perm ((List.Perm.cons _ (List.Perm.refl _)).trans (List.perm_middle (l₁ := [_, _, _, _, _, _, _, _])).symm)).drop1 (fun wF hF => r_move (v := .bool _) rfl) ?_; refine g_take 8 rfl (by decide +kernel) rfl (fun _ _ _ h => h) (hS101.perm ((List.Perm.cons _ (List.Perm.refl _)).trans (List.perm_middle (l₁ := [_, _, _, _, _, _, _, _])).symm)).drop1 (fun wF hF => r_move (v := .pointer _) rfl) ?_; refine g_take 9 rfl (by decide +kernel) rfl (fun _ _ _ h => h) (hS101.perm ((List.Perm.cons _ (List.Perm.refl _)).trans (List.perm_middle (l₁ := [_, _, _, _, _, _, _, _])).symm)).drop1 (fun wF hF => r_loadB ti49 rfl rfl (hF.heap (.tail _ (.tail _ (.tail _ (.tail _ (.tail _ (.head _))))))) (by rw [List.length_map]; exact s32 _)) ?_; refine g_take 10 rfl (by decide +kernel) rfl (fun _ _ _ h => h) (hS101.perm ((List.Perm.cons _ (List.Perm.refl _)).trans (List.perm_middle (l₁ := [_, _, _, _, _, _, _, _])).symm)).drop1 (fun wF hF => r_loadB ti49 rfl rfl (hF.heap (.tail _ (.tail _ (.tail _ (.tail _ (.head _)))))) (by rw [List.length_map]; exact s32 _)) ?_
      refine g_one 11 (by decide +kernel) (by decide +kernel) ?_; refine o_call rfl (r_call fn95 rfl rfl) rfl (mset_ok E clock bm bv q28 q30 _ (hS101.heap (.tail _ (.tail _ (.tail _ (.tail _ (.tail _ (.tail _ (.tail _ (.head _))))))))) (hS101.heap (.tail _ (.tail _ (.tail _ (.tail _ (.tail _ (.tail _ (.tail _ (.tail _ (.head _)))))))))) hwf hne (by omega)) ?_
      rintro _ w102 (⟨hv, rfl, hx103⟩ | ⟨hv, rfl, hx103⟩)
      · exact absurd hv h9_2
      · have hS104 := St.callM (X := [_, _]) (L := [_, _, _, _, _, _, _]) (hS101.perm ((List.Perm.cons _ ((List.Perm.cons _ (List.Perm.refl _)).trans (List.perm_middle (l₁ := [_, _, _, _, _, _, _])).symm)).trans (List.perm_middle (l₁ := [_, _, _, _, _, _, _])).symm)) hx103 (by simp [Item.id])
        simp only [List.cons_append, List.nil_append] at hS104
        refine ⟨(hS104.perm ((List.Perm.cons _ ((List.Perm.cons _ ((List.Perm.cons _ ((List.Perm.cons _ ((List.Perm.cons _ ((List.Perm.cons _ ((List.Perm.cons _ ((List.Perm.cons _ (List.Perm.refl _)).trans (List.perm_middle (l₁ := [_])).symm)).trans (List.perm_middle (l₁ := [_])).symm)).trans (List.perm_middle (l₁ := [_])).symm)).trans (List.perm_middle (l₁ := [_])).symm)).trans (List.perm_middle (l₁ := [_])).symm)).trans (List.perm_middle (l₁ := [_])).symm)).trans (List.perm_middle (l₁ := [_])).symm)).trans (List.perm_middle (l₁ := [_])).symm)).drop1, ?_⟩
        refine g_dec_t 12 rfl (by decide +kernel) rfl (fun _ _ _ _ h => h) (hS104.perm ((List.Perm.cons _ ((List.Perm.cons _ ((List.Perm.cons _ ((List.Perm.cons _ ((List.Perm.cons _ ((List.Perm.cons _ ((List.Perm.cons _ ((List.Perm.cons _ (List.Perm.refl _)).trans (List.perm_middle (l₁ := [_])).symm)).trans (List.perm_middle (l₁ := [_])).symm)).trans (List.perm_middle (l₁ := [_])).symm)).trans (List.perm_middle (l₁ := [_])).symm)).trans (List.perm_middle (l₁ := [_])).symm)).trans (List.perm_middle (l₁ := [_])).symm)).trans (List.perm_middle (l₁ := [_])).symm)).trans (List.perm_middle (l₁ := [_])).symm)).drop1 (fun wF hF => r_eql rfl rfl) (by decide) ?_; refine g_take 13 rfl (by decide +kernel) rfl (fun _ _ _ h => h) (hS104.perm ((List.Perm.cons _ ((List.Perm.cons _ ((List.Perm.cons _ ((List.Perm.cons _ ((List.Perm.cons _ ((List.Perm.cons _ ((List.Perm.cons _ ((List.Perm.cons _ (List.Perm.refl _)).trans (List.perm_middle (l₁ := [_])).symm)).trans (List.perm_middle (l₁ := [_])).symm)).trans (List.perm_middle (l₁ := [_])).symm)).trans (List.perm_middle (l₁ := [_])).symm)).trans (List.perm_middle (l₁ := [_])).symm)).trans (List.perm_middle (l₁ := [_])).symm)).trans (List.perm_middle (l₁ := [_])).symm)).trans (List.perm_middle (l₁ := [_])).symm)).drop1 (fun wF hF => r_pick_t rfl (v := .bool _) rfl) ?_; refine g_take 14 rfl (by decide +kernel) rfl (fun _ _ _ h => h) (hS104.perm ((List.Perm.cons _ ((List.Perm.cons _ ((List.Perm.cons _ ((List.Perm.cons _ ((List.Perm.cons _ ((List.Perm.cons _ ((List.Perm.cons _ ((List.Perm.cons _ (List.Perm.refl _)).trans (List.perm_middle (l₁ := [_])).symm)).trans (List.perm_middle (l₁ := [_])).symm)).trans (List.perm_middle (l₁ := [_])).symm)).trans (List.perm_middle (l₁ := [_])).symm)).trans (List.perm_middle (l₁ := [_])).symm)).trans (List.perm_middle (l₁ := [_])).symm)).trans (List.perm_middle (l₁ := [_])).symm)).trans (List.perm_middle (l₁ := [_])).symm)).drop1 (fun wF hF => r_move (v := .bool _) rfl) ?_
        refine g_take 15 rfl (by decide +kernel) rfl (fun _ _ _ h => h) (hS104.perm ((List.Perm.cons _ ((List.Perm.cons _ ((List.Perm.cons _ ((List.Perm.cons _ ((List.Perm.cons _ ((List.Perm.cons _ ((List.Perm.cons _ ((List.Perm.cons _ (List.Perm.refl _)).trans (List.perm_middle (l₁ := [_])).symm)).trans (List.perm_middle (l₁ := [_])).symm)).trans (List.perm_middle (l₁ := [_])).symm)).trans (List.perm_middle (l₁ := [_])).symm)).trans (List.perm_middle (l₁ := [_])).symm)).trans (List.perm_middle (l₁ := [_])).symm)).trans (List.perm_middle (l₁ := [_])).symm)).trans (List.perm_middle (l₁ := [_])).symm)).drop1 (fun wF hF => r_move (v := .pointer _) rfl) ?_; refine g_take 17 rfl (by decide +kernel) rfl (fun _ _ _ h => h) (hS104.perm ((List.Perm.cons _ ((List.Perm.cons _ ((List.Perm.cons _ ((List.Perm.cons _ ((List.Perm.cons _ ((List.Perm.cons _ ((List.Perm.cons _ ((List.Perm.cons _ (List.Perm.refl _)).trans (List.perm_middle (l₁ := [_])).symm)).trans (List.perm_middle (l₁ := [_])).symm)).trans (List.perm_middle (l₁ := [_])).symm)).trans (List.perm_middle (l₁ := [_])).symm)).trans (List.perm_middle (l₁ := [_])).symm)).trans (List.perm_middle (l₁ := [_])).symm)).trans (List.perm_middle (l₁ := [_])).symm)).trans (List.perm_middle (l₁ := [_])).symm)).drop1 (fun wF hF => r_loadB ti49 rfl rfl (hF.heap (.head _)) (by rw [List.length_map]; exact mapRootF_len _ _ _)) ?_; refine g_one 16 (by decide +kernel) (by decide +kernel) ?_; refine o_call rfl (r_call fn91 rfl rfl) rfl (mroot2_ok (putM E clock q28 q30).1 (putM E clock q28 q30).2 bm bv _ (hS104.heap (.head _)) (hS104.heap (.tail _ (.head _))) hwf.put hne (by have := put_len (E := E) (clock := clock) (q := q28) (v := q30); omega)) ?_
        rintro _ w105 ⟨rfl, hx106⟩
        have hS107 := St.callM (X := [_, _]) (L := [_, _, _, _, _, _, _]) hS104 hx106 (by simp [Item.id])
        simp only [List.cons_append, List.nil_append] at hS107
        refine ⟨(hS107.perm ((List.Perm.cons _ ((List.Perm.cons _ ((List.Perm.cons _ ((List.Perm.cons _ ((List.Perm.cons _ ((List.Perm.cons _ ((List.Perm.cons _ ((List.Perm.cons _ (List.Perm.refl _)).trans (List.perm_middle (l₁ := [_])).symm)).trans (List.perm_middle (l₁ := [_])).symm)).trans (List.perm_middle (l₁ := [_])).symm)).trans (List.perm_middle (l₁ := [_])).symm)).trans (List.perm_middle (l₁ := [_])).symm)).trans (List.perm_middle (l₁ := [_])).symm)).trans (List.perm_middle (l₁ := [_])).symm)).trans (List.perm_middle (l₁ := [_])).symm)).drop1, ?_⟩
        refine g_tail (by decide +kernel) rfl (by decide +kernel) ?_; refine wl_dec_t (r_eqlA (u := undef) eg49 rfl rfl (eqIs_b8 ti49.und ti5 _ _ (mapRootF_len _ _ _) (mapRootF_len _ _ _))) rfl (mapRootF_perm 256 0 rfl (newE_parts hwf q28 q30) (newE_put hwf q28 q30)).symm ?_; refine wl_val (r_pick_t rfl (v := .bool _) rfl) rfl ?_; refine wl_val (r_assign (v := .bool _) rfl) rfl ?_; refine wl_nil ?_; refine c_then ?_; refine wp_ret ?_; refine ret1 Try.results19 ?_
        exact ⟨rfl, hS107.fin⟩


theorem own : ownKnob Try.prog.godebug = none := by kernel_rfl
theorem laidOut : laidOutB Try.prog = true := by kernel_rfl
theorem readable3 : Try.prog.readableRec 3 = true := by kernel_rfl
theorem inside3 : decide (3 < Try.prog.types.size) = true := by kernel_rfl
theorem readable122 : Try.prog.readableRec 122 = true := by kernel_rfl
theorem inside122 : decide (122 < Try.prog.types.size) = true := by kernel_rfl
theorem lifted (os : Os) (started : os.Started) (H : Type) (enc : TypeId × Value → H) :
    ReturnsInHanded {} Try.checked os 19 .any (Rows.mapsChangeSpec.pre6 enc Try.prog Try.f19 Rows.mapsChangeRow.domain false) (Rows.mapsChangeSpec.post enc Try.prog Try.f19 false true false false) := by
  refine returnsInHanded_of_change_sized (C := Try.checked) own started (by kernel_rfl) Try.func19
    (ChangeSpec.witness6 (enc := enc) (C := Try.checked) false ⟨#[], #[.slice none 0 0, .int .i64 0, .int .i64 0], []⟩ 8 (by kernel_rfl) (by kernel_rfl) (by kernel_rfl) (by kernel_rfl)) ?_
  intro W base args ds gs before hval0 hW hcnd hsz0 _
  have hval : ∀ (j : Nat) t v, Try.f19.params[j]? = some t → args[j]? = some v → Value.okWide Try.prog W .any base t v := hval0
  have hW' := hW
  obtain ⟨p, q, hA0, hV, rfl, hfz, hnd⟩ := hW
  have hA : DataW.TrodAll enc Try.prog W 0 (fun _ => true) true Try.f19.params.toList args.toList ds p := hA0
  have hsz : (DataW.weightsEach Try.prog (Try.f19.params.toList ++ Rows.mapsChangeSpec.plain.varTypes Try.prog) (ds ++ gs)).all (· ≤ reachBytes) = true := hsz0
  rw [Try.params19] at hA hval hsz
  obtain ⟨v0, vs0, d0, ds0, p0, q0, hargs, rfl, rfl, h0, r0⟩ := trodAll_cons hA
  obtain ⟨v1, vs1, d1, ds1, p1, q1, rfl, rfl, rfl, h1, r1⟩ := trodAll_cons r0
  obtain ⟨v2, vs2, d2, ds2, p2, q2, rfl, rfl, rfl, h2, r2⟩ := trodAll_cons r1
  obtain ⟨rfl, rfl, rfl⟩ := trodAll_nil r2
  obtain rfl : args = #[v0, v1, v2] := by cases args; simp_all
  obtain ⟨rfl, rfl⟩ := trodVars_none hV
  have lt0 : ∀ x ∈ p0, x.block < W.heap.size := by obtain ⟨m, hm⟩ := h0; exact DataW.trod_lt m _ _ _ hm
  have lt1 : ∀ x ∈ p1, x.block < W.heap.size := by obtain ⟨m, hm⟩ := h1; exact DataW.trod_lt m _ _ _ hm
  have lt2 : ∀ x ∈ p2, x.block < W.heap.size := by obtain ⟨m, hm⟩ := h2; exact DataW.trod_lt m _ _ _ hm
  have ok0 := hval 0 122 v0 rfl rfl
  obtain ⟨⟨al, cl, l⟩, rfl, rl, lcl, ccl, halll⟩ := open_slice (j := 0) Try.underlying122 (opens_slice (sz := 3) (bts := 24) Try.underlying122 (by kernel_rfl) (by decide) (by kernel_rfl) (fun _ => rfl) (opens_step (opens_struct Try.underlying190 (by kernel_rfl) (opensFs_cons (sz := 1) (opens_i64 Try.underlying3) rfl (by kernel_rfl) (opensFs_cons (sz := 1) (opens_i64 Try.underlying3) rfl (by kernel_rfl) (opensFs_cons (sz := 1) (opens_i64 Try.underlying3) rfl (by kernel_rfl) opensFs_nil (by simp)) (by simp)) (by simp))))) ok0 h0 hsz rfl rfl
  simp only [Sl.v] at *
  have ok1 := hval 1 3 v1 rfl rfl
  obtain ⟨n, rfl, lon, hin⟩ := open_i64 Try.underlying3 ok1 h1
  have ok2 := hval 2 3 v2 rfl rfl
  obtain ⟨vv, rfl, lovv, hivv⟩ := open_i64 Try.underlying3 ok2 h2
  refine Calls.mono (walk l al cl n vv W rl lcl) fun e W' ⟨v, he, hv, hs⟩ => ?_
  subst hv; subst he
  have bel := hs.below
  exact ⟨_, rfl, _, _, _, [], _, [], hW', trodAll_mk1 (shut_bool Try.underlying4 _), (trodAll_cons_mk (Below.trod laidOut readable122 (of_decide_eq_true inside122) h0 bel lt0) (trodAll_cons_mk (Below.trod laidOut readable3 (of_decide_eq_true inside3) h1 bel lt1) (trodAll_cons_mk (Below.trod laidOut readable3 (of_decide_eq_true inside3) h2 bel lt2) trodAll_mk0))), rfl, bel.frame _, fun h => by cases h⟩
end Go.Proofs.Ytfohfnpehfcaaaa.lawMapsChange
