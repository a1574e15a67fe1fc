/- For every texts and two sums: Leaf, Node and Root of the program are the reference's; the law's function returns true and turns nothing. No condition. -/
import Derived.Test.YtfohfnpehfcaaaaRows
import Derived.Test.YtfohfnpehfcaaaaOpen
import Derived.Test.YtfohfnpehfcaaaaTreeB
namespace Go.Proofs.Ytfohfnpehfcaaaa.lawRootsMatch
open Go.Kw Go.Proofs.Ytfohfnpehfcaaaa
open Go.ChangeShapes Go.WideShapes Go.ChangeAt Go.RowKit
set_option linter.unusedVariables false
set_option linter.unusedSimpArgs false
set_option maxRecDepth 100000
set_option maxHeartbeats 20000000

theorem walk (ps : List Piece) (a : Option Addr) (c : Nat) (x y : List UInt8) (w : World) (hb : Row w a (ps.map Piece.v)) (hr : ∀ q ∈ ps, Row w q.a (q.xs.map b8) ∧ q.xs.length ≤ q.c ∧ q.xs.length ≤ 140737488351232) (hlc : ps.length ≤ c) (hx : x.length = 32) (hy : y.length = 32) :
    Ret Try.prog 8 [.slice a ps.length c, .agg (x.map b8).toArray, .agg (y.map b8).toArray] w (fun v w' => v = .bool true ∧ St w [] w' []) := by
  refine enter Try.func8 rfl Try.ntmps8 rfl ?_
  have hS := St.refl w []
  refine c_seq ?_
  refine c_region ?_
  refine wl_exv (x_box hS (v := .agg _) rfl rfl) rfl ?_
  rintro _ w1 ⟨b4, rfl, hS2⟩
  refine wl_exv (x_box hS2 (v := .agg _) rfl rfl) rfl ?_
  rintro _ w3 ⟨b5, rfl, hS4⟩
  refine wl_val (r_assign (v := .bool false) rfl) rfl ?_
  refine wl_nil ?_
  refine c_then ?_
  refine c_seq ?_
  refine c_seq ?_
  refine c_region ?_
  refine wl_call (r_call fn20 rfl rfl) rfl (landed_ok _) ?_
  rintro _ w5 ⟨rfl, hx6⟩
  have hS7 := hS4.ext hx6
  refine wl_val (r_not rfl) rfl ?_
  refine wl_nil ?_
  refine c_then ?_
  refine c_false rfl ?_
  refine wp_skip ?_
  refine c_then ?_
  refine c_seq ?_
  refine c_region ?_
  refine wl_val (r_move (v := .slice _ _ _) rfl) rfl ?_
  refine wl_call (r_call fn47 rfl rfl) rfl (leaves_ok ps _ _ _ (hb.st hS7) (fun q hq => ⟨(hr q hq).1.st hS7, (hr q hq).2⟩) hlc) ?_
  rintro _ w8 ⟨a17, c17, rfl, hc17, hx9⟩
  have hS10 := hS7.call hx9
  simp only [List.cons_append, List.nil_append] at hS10
  refine wl_val (r_assign (v := .slice _ _ _) rfl) rfl ?_
  refine wl_nil ?_
  refine c_then ?_
  refine c_seq ?_
  refine c_seq ?_
  refine c_region ?_
  refine wl_val (r_move (v := .slice _ _ _) rfl) rfl ?_
  refine wl_val (r_len (T := 53) rfl ti53.und rfl _ rfl) rfl ?_
  refine wl_val (r_move (v := .int .i64 0) rfl) rfl ?_
  refine wl_nil ?_
  refine c_then ?_
  refine c_block ?_
  obtain ⟨LT11, hLT11, hS12⟩ := St.frame [] [_, _, _] hS10
  simp only [List.cons_append, List.nil_append] at hS12
  have hm11_r17 := inL hLT11 (.head _)
  have hm11_b5 := inL hLT11 (.tail _ (.head _))
  have hm11_b4 := inL hLT11 (.tail _ (.tail _ (.head _)))
  refine c_loopE [0, 4, 5, 7, 18, 19] (fun d e w' => ∃ (k : Nat), Kw.look e 20 = vi k ∧ d = min ps.length 40 - k ∧ St w [] w' (LT11) ∧ (k ≤ min ps.length 40)) (min ps.length 40 - 0) ?_ ?_
  · exact ⟨0, rfl, rfl, hS12, Nat.zero_le _⟩
  · rintro d16 e13 w14 ⟨k, hc0_20, rfl, hS15, hk⟩ -
    refine c_set (d := 20) hc0_20 ?_
    refine c_seq ?_
    refine c_region ?_
    refine wl_dec (r_lss rfl rfl) rfl (fun h5_0 => ?_) (fun h5_0 => ?_)
    · refine wl_nil ?_
      refine c_then ?_
      refine c_seq ?_
      refine c_true rfl ?_
      refine wp_skip ?_
      refine c_then ?_
      refine c_seq ?_
      refine c_block ?_
      refine c_seq ?_
      refine c_region ?_
      refine wl_val (r_move (v := .int .i64 _) rfl) rfl ?_
      refine wl_val (r_ix32 ti53.und ti49 rfl rfl (St.rowAt hS15 hm11_r17) (leavesL_32 ps) (leavesL_len ps) (by omega)) rfl ?_
      refine wl_val (r_load32 ti49 rfl rfl (St.rowAt hS15 hm11_r17) (leavesL_32 ps) (by rw [leavesL_len]; omega)) rfl ?_
      refine wl_exv (x_alloc (C := ((List.replicate 32 (0 : UInt8)).map b8)) hS15 ti49 rfl) rfl ?_
      rintro _ w17 ⟨b9, rfl, hS18⟩
      refine wl_val (r_assign (v := .int .i64 _) rfl) rfl ?_
      refine wl_exs (x_storeW [] hS18 ti49 rfl rfl (by rw [List.length_map]; exact (leavesL_32 ps).gt (by rw [leavesL_len]; omega)) (by simp) (one_b8 _)) rfl ?_
      intro w19 hS20
      simp only [List.cons_append, List.nil_append] at hS20
      refine wl_nil ?_
      refine c_then ?_
      refine c_seq ?_
      have hrk := hr (gt ps k) (gt_mem ps k (by omega))
      have ht : Row w (gt ps k).a (((gt ps k).xs.take 3000).map b8) := by have := hrk.1.take (n := 3000); rwa [← List.map_take] at this
      refine c_region ?_
      refine wl_val (r_move (v := .slice _ _ _) rfl) rfl ?_
      refine wl_val (r_move (v := .int .i64 _) rfl) rfl ?_
      refine wl_val (r_ixS ti43.und ti22 rfl rfl (hb.st hS20) (by first | omega | (simp [*]; done) | (simp [*] <;> omega)) (by first | (simp [*]; done) | (simp [*] <;> omega) | omega)) rfl ?_
      refine wl_val (r_loadS1 ti22.und rfl rfl (hb.st hS20) (by rw [Nat.mul_one]; exact map_gt _ _ _ (by first | omega | (simp [*]; done) | (simp [*] <;> omega)))) rfl ?_
      refine wl_call (r_call fn49 rfl rfl) rfl (short_ok _ _ _ _ hrk.2.1) ?_
      rintro _ w21 ⟨rfl, hx22⟩
      have hS23 := hS20.ext hx22
      refine wl_call (r_call fn48 rfl rfl) rfl (leaf_ok ((gt ps k).xs.take 3000) _ _ _ _ (ht.st hS23) (by simp [Nat.min_comm]) (by have := hrk.2.1; simp [Sl.v] at *; omega) (by omega)) ?_
      rintro _ w24 ⟨rfl, hx25⟩
      have hS26 := hS23.ext hx25
      refine wl_val (r_move (v := .tuple _) rfl) rfl ?_
      refine wl_val (r_extract (v := .agg _) rfl rfl) rfl ?_
      refine wl_val (r_extract (v := .int .i64 _) rfl rfl) rfl ?_
      refine wl_exv (x_alloc (C := ((List.replicate 32 (0 : UInt8)).map b8)) hS26 ti49 rfl) rfl ?_
      rintro _ w27 ⟨b10, rfl, hS28⟩
      refine wl_exs (x_storeW [] hS28 ti49 rfl rfl (by first | (simp [*]; done) | (simp [*] <;> omega) | omega) (by first | (simp [*]; done) | (simp [*] <;> omega) | omega) (by first | exact one_b8 _ | exact one_v32 _)) rfl ?_
      intro w29 hS30
      simp only [List.cons_append, List.nil_append] at hS30
      refine wl_val (r_assign (v := .int .i64 _) rfl) rfl ?_
      refine wl_nil ?_
      refine c_then ?_
      refine c_seq ?_
      refine c_region ?_
      refine wl_val (r_loadB ti49 rfl rfl (hS30.heap (.head _)) (by first | (simp [*]; done) | (simp [*] <;> omega) | omega)) rfl ?_
      refine wl_val (r_loadB ti49 rfl rfl (hS30.heap (.tail _ (.head _))) (by rw [List.length_map]; exact (leavesL_32 ps).gt (by rw [leavesL_len]; omega))) rfl ?_
      refine wl_dec_f (r_neqA (u := undef) eg49 rfl rfl (eqIs_b8 ti49.und ti5 _ _ (leafL_len _) ((leavesL_32 ps).gt (by rw [leavesL_len]; omega)))) rfl (not_not_intro (leavesL_gt ps k (by omega)).symm) ?_
      refine wl_val (r_move (v := .bool _) rfl) rfl ?_
      refine wl_val (r_move (v := .int .i64 _) rfl) rfl ?_
      refine wl_dec_f (r_neq rfl rfl) rfl (by decide) ?_
      refine wl_val (r_pick_f rfl (v := .bool _) rfl) rfl ?_
      refine wl_nil ?_
      refine c_then ?_
      refine c_false rfl ?_
      refine wp_skip ?_
      refine c_inN ?_
      refine c_then ?_
      refine c_region ?_
      refine wl_val (r_addn (b := 1) rfl rfl (by omega)) rfl ?_
      refine wl_val (r_move (v := .int .i64 _) rfl) rfl ?_
      refine wl_nil ?_
      refine c_then ?_
      exact ⟨min ps.length 40 - (k + 1), _, by omega, rfl, ⟨k + 1, rfl, rfl, hS30.drop1.drop1, by omega⟩, ⟨rfl, rfl, rfl, rfl, rfl, rfl, trivial⟩⟩
    · refine wl_nil ?_
      refine c_then ?_
      refine c_seq ?_
      refine c_false rfl ?_
      refine wp_exit ?_
      refine c_thenE ?_
      refine c_thenE ?_
      refine c_inE ?_
      refine c_then ?_
      refine c_seq ?_
      refine c_region ?_
      refine wl_val (r_move (v := .slice _ _ _) rfl) rfl ?_
      refine wl_call (r_call fn50 rfl rfl) rfl (root_ok (leavesL ps) _ _ _ _ (St.rowAt hS15 hm11_r17) (leavesL_32 ps) (leavesL_len ps) hc17) ?_
      rintro _ w31 (⟨hlf, rfl, hx32⟩ | ⟨hlf, rfl, hx32⟩ | ⟨hlf, rfl, hx32⟩)
      · have hS33 := hS15.ext hx32
        refine wl_val (r_move (v := .tuple _) rfl) rfl ?_
        refine wl_val (r_extract (v := .agg _) rfl rfl) rfl ?_
        refine wl_val (r_extract (v := .int .i64 _) rfl rfl) rfl ?_
        refine wl_exv (x_alloc (C := ((List.replicate 32 (0 : UInt8)).map b8)) hS33 ti49 rfl) rfl ?_
        rintro _ w34 ⟨b12, rfl, hS35⟩
        refine wl_exs (x_storeW [] hS35 ti49 rfl rfl (by first | (rw [List.length_map]; exact rootL_len _ (leavesL_32 ps) (by rw [leavesL_len]; omega)) | simp) (by simp) (one_b8 _)) rfl ?_
        intro w36 hS37
        simp only [List.cons_append, List.nil_append] at hS37
        refine wl_val (r_assign (v := .int .i64 _) rfl) rfl ?_
        refine wl_nil ?_
        refine c_then ?_
        refine c_seq ?_
        refine c_seq ?_
        refine c_region ?_
        refine wl_val (r_move (v := .slice _ _ _) rfl) rfl ?_
        refine wl_val (r_len (T := 53) rfl ti53.und rfl _ rfl) rfl ?_
        refine wl_dec_t (r_eql rfl rfl) rfl (by omega) ?_
        refine wl_nil ?_
        refine c_then ?_
        refine c_true rfl ?_
        refine c_seq ?_
        refine c_region ?_
        refine wl_val (r_move (v := .int .i64 _) rfl) rfl ?_
        refine wl_dec_t (r_eql rfl rfl) rfl (by decide) ?_
        refine wl_val (r_move (v := .bool _) rfl) rfl ?_
        refine wl_val (r_loadB ti49 rfl rfl (hS37.heap (.head _)) (by first | (simp [*]; done) | (simp [*] <;> omega) | omega)) rfl ?_
        refine wl_val (r_build0 (cs := ((List.replicate 32 (0 : UInt8)).map b8)) ti49.und ti49 ti5) rfl ?_
        refine wl_dec_t (r_eqlA (u := undef) eg49 rfl rfl (eqIs_b8 ti49.und ti5 _ _ (by first | (simp [*]; done) | (simp [*] <;> omega) | omega) (by first | (simp [*]; done) | (simp [*] <;> omega) | omega))) rfl rfl ?_
        refine wl_val (r_pick_t rfl (v := .bool _) rfl) rfl ?_
        refine wl_val (r_assign (v := .bool _) rfl) rfl ?_
        refine wl_nil ?_
        refine c_then ?_
        refine wp_ret ?_
        refine c_thenR ?_
        refine ret1 Try.results8 ?_
        exact ⟨rfl, hS37.fin⟩
      · exfalso; omega
      · have hS33 := hS15.ext hx32
        refine wl_val (r_move (v := .tuple _) rfl) rfl ?_
        refine wl_val (r_extract (v := .agg _) rfl rfl) rfl ?_
        refine wl_val (r_extract (v := .int .i64 _) rfl rfl) rfl ?_
        refine wl_exv (x_alloc (C := ((List.replicate 32 (0 : UInt8)).map b8)) hS33 ti49 rfl) rfl ?_
        rintro _ w38 ⟨b12, rfl, hS39⟩
        refine wl_exs (x_storeW [] hS39 ti49 rfl rfl (by first | (rw [List.length_map]; exact rootL_len _ (leavesL_32 ps) (by rw [leavesL_len]; omega)) | simp) (by simp) (one_b8 _)) rfl ?_
        intro w40 hS41
        simp only [List.cons_append, List.nil_append] at hS41
        refine wl_val (r_assign (v := .int .i64 _) rfl) rfl ?_
        refine wl_nil ?_
        refine c_then ?_
        refine c_seq ?_
        refine c_seq ?_
        refine c_region ?_
        refine wl_val (r_move (v := .slice _ _ _) rfl) rfl ?_
        refine wl_val (r_len (T := 53) rfl ti53.und rfl _ rfl) rfl ?_
        refine wl_dec_f (r_eql rfl rfl) rfl (by omega) ?_
        refine wl_nil ?_
        refine c_then ?_
        refine c_false rfl ?_
        refine wp_skip ?_
        refine c_then ?_
        refine c_seq ?_
        refine c_drawS 14 hMixed hS41 ?_
        intro w42 hS43
        refine g_take 0 rfl (by decide +kernel) rfl (fun _ _ _ h => h) hS43 (fun wF hF => r_move (v := .int .i64 _) rfl) ?_
        refine g_dec_t 1 rfl (by decide +kernel) rfl (fun _ _ _ _ h => h) hS43 (fun wF hF => r_eql rfl rfl) (by decide) ?_
        refine g_take 2 rfl (by decide +kernel) rfl (fun _ _ _ h => h) hS43 (fun wF hF => r_move (v := .bool _) rfl) ?_
        refine g_take 3 rfl (by decide +kernel) rfl (fun _ _ _ h => h) hS43 (fun wF hF => r_loadB ti49 rfl rfl (hF.heap (.head _)) (by rw [List.length_map]; exact rootL_len _ (leavesL_32 ps) (by rw [leavesL_len]; omega))) ?_
        refine g_take 4 rfl (by decide +kernel) rfl (fun _ _ _ h => h) hS43 (fun wF hF => r_move (v := .slice _ _ _) rfl) ?_
        refine g_one 5 (by decide +kernel) (by decide +kernel) ?_
        refine o_call rfl (r_call fn51 rfl rfl) rfl (rroot_ok _ (leavesL ps) _ _ _ (St.rowAt hS43 (.tail _ hm11_r17)) (leavesL_32 ps) (leavesL_len ps) hlf.1 hc17 (by omega)) ?_
        rintro _ w44 ⟨rfl, hx45⟩
        have hS46 := hS43.ext hx45
        refine ⟨hS46, ?_⟩
        refine g_dec_t 6 rfl (by decide +kernel) rfl (fun _ _ _ _ h => h) hS46 (fun wF hF => r_eqlA (u := undef) eg49 rfl rfl (eqIs_b8 ti49.und ti5 _ _ (rootL_len _ (leavesL_32 ps) (by rw [leavesL_len]; omega)) (rootL_len _ (leavesL_32 ps) (by rw [leavesL_len]; omega)))) rfl ?_
        refine g_take 7 rfl (by decide +kernel) rfl (fun _ _ _ h => h) hS46 (fun wF hF => r_pick_t rfl (v := .bool _) rfl) ?_
        refine g_take 8 rfl (by decide +kernel) rfl (fun _ _ _ h => h) hS46 (fun wF hF => r_move (v := .bool _) rfl) ?_
        refine g_take 9 rfl (by decide +kernel) rfl (fun _ _ _ h => h) hS46 (fun wF hF => r_loadB ti49 rfl rfl (hF.heap (.tail _ hm11_b4)) (by first | (simp [*]; done) | (simp [*] <;> omega) | omega)) ?_
        refine g_take 10 rfl (by decide +kernel) rfl (fun _ _ _ h => h) hS46 (fun wF hF => r_loadB ti49 rfl rfl (hF.heap (.tail _ hm11_b5)) (by first | (simp [*]; done) | (simp [*] <;> omega) | omega)) ?_
        refine g_take 12 rfl (by decide +kernel) rfl (fun _ _ _ h => h) hS46 (fun wF hF => r_loadB ti49 rfl rfl (hF.heap (.tail _ hm11_b4)) (by first | (simp [*]; done) | (simp [*] <;> omega) | omega)) ?_
        refine g_take 13 rfl (by decide +kernel) rfl (fun _ _ _ h => h) hS46 (fun wF hF => r_loadB ti49 rfl rfl (hF.heap (.tail _ hm11_b5)) (by first | (simp [*]; done) | (simp [*] <;> omega) | omega)) ?_
        refine g_one 11 (by decide +kernel) (by decide +kernel) ?_
        refine o_call rfl (r_call fn52 rfl rfl) rfl (node_ok _ _ _ (by first | (simp [*]; done) | (simp [*] <;> omega) | omega) (by first | (simp [*]; done) | (simp [*] <;> omega) | omega)) ?_
        rintro _ w47 ⟨rfl, hx48⟩
        have hS49 := hS46.ext hx48
        refine ⟨hS49, ?_⟩
        refine g_tail (by decide +kernel) rfl (by decide +kernel) ?_
        refine wl_call (r_call fn53 rfl rfl) rfl (rnode_ok _ _ _ (by first | (simp [*]; done) | (simp [*] <;> omega) | omega) (by first | (simp [*]; done) | (simp [*] <;> omega) | omega)) ?_
        rintro _ w50 ⟨rfl, hx51⟩
        have hS52 := hS49.ext hx51
        refine wl_dec_t (r_eqlA (u := undef) eg49 rfl rfl (eqIs_b8 ti49.und ti5 _ _ (by first | (simp [*]; done) | (simp [*] <;> omega) | omega) (by first | (simp [*]; done) | (simp [*] <;> omega) | omega))) rfl rfl ?_
        refine wl_val (r_pick_t rfl (v := .bool _) rfl) rfl ?_
        refine wl_val (r_assign (v := .bool _) rfl) rfl ?_
        refine wl_nil ?_
        refine c_then ?_
        refine wp_ret ?_
        refine ret1 Try.results8 ?_
        exact ⟨rfl, hS52.fin⟩


theorem own : ownKnob Try.prog.godebug = none := by kernel_rfl
theorem laidOut : laidOutB Try.prog = true := by kernel_rfl
theorem readable43 : Try.prog.readableRec 43 = true := by kernel_rfl
theorem inside43 : decide (43 < Try.prog.types.size) = true := by kernel_rfl
theorem readable49 : Try.prog.readableRec 49 = true := by kernel_rfl
theorem inside49 : decide (49 < Try.prog.types.size) = true := by kernel_rfl
theorem lifted (os : Os) (started : os.Started) (H : Type) (enc : TypeId × Value → H) :
    ReturnsInHanded {} Try.checked os 8 .any (Rows.rootsMatchSpec.pre6 enc Try.prog Try.f8 Rows.rootsMatchRow.domain false) (Rows.rootsMatchSpec.post enc Try.prog Try.f8 false true false false) := by
  refine returnsInHanded_of_change_sized (C := Try.checked) own started (by kernel_rfl) Try.func8
    (ChangeSpec.witness6 (enc := enc) (C := Try.checked) false ⟨#[], #[.slice none 0 0, .agg ((List.replicate 32 (0 : UInt8)).map b8).toArray, .agg ((List.replicate 32 (0 : UInt8)).map b8).toArray], []⟩ 8 (by kernel_rfl) (by kernel_rfl) (by kernel_rfl) (by kernel_rfl)) ?_
  intro W base args ds gs before hval0 hW hcnd hsz0 _
  have hval : ∀ (j : Nat) t v, Try.f8.params[j]? = some t → args[j]? = some v → Value.okWide Try.prog W .any base t v := hval0
  have hW' := hW
  obtain ⟨p, q, hA0, hV, rfl, hfz, hnd⟩ := hW
  have hA : DataW.TrodAll enc Try.prog W 0 (fun _ => true) true Try.f8.params.toList args.toList ds p := hA0
  have hsz : (DataW.weightsEach Try.prog (Try.f8.params.toList ++ Rows.rootsMatchSpec.plain.varTypes Try.prog) (ds ++ gs)).all (· ≤ reachBytes) = true := hsz0
  rw [Try.params8] at hA hval hsz
  obtain ⟨v0, vs0, d0, ds0, p0, q0, hargs, rfl, rfl, h0, r0⟩ := trodAll_cons hA
  obtain ⟨v1, vs1, d1, ds1, p1, q1, rfl, rfl, rfl, h1, r1⟩ := trodAll_cons r0
  obtain ⟨v2, vs2, d2, ds2, p2, q2, rfl, rfl, rfl, h2, r2⟩ := trodAll_cons r1
  obtain ⟨rfl, rfl, rfl⟩ := trodAll_nil r2
  obtain rfl : args = #[v0, v1, v2] := by cases args; simp_all
  obtain ⟨rfl, rfl⟩ := trodVars_none hV
  have lt0 : ∀ x ∈ p0, x.block < W.heap.size := by obtain ⟨m, hm⟩ := h0; exact DataW.trod_lt m _ _ _ hm
  have lt1 : ∀ x ∈ p1, x.block < W.heap.size := by obtain ⟨m, hm⟩ := h1; exact DataW.trod_lt m _ _ _ hm
  have lt2 : ∀ x ∈ p2, x.block < W.heap.size := by obtain ⟨m, hm⟩ := h2; exact DataW.trod_lt m _ _ _ hm
  have ok0 := hval 0 43 v0 rfl rfl
  obtain ⟨⟨aps, cps, ps⟩, rfl, rps, lcps, hcps, hrps⟩ := open_slice (j := 0) Try.underlying43 (opens_parts Try.underlying43 (by kernel_rfl) (by kernel_rfl) Try.underlying22 Try.underlying5 (by kernel_rfl) (by kernel_rfl)) ok0 h0 hsz rfl rfl
  simp only [] at rps lcps hcps hrps
  have ok1 := hval 1 49 v1 rfl rfl
  obtain ⟨x, lx, rfl⟩ := open_bytesA Try.underlying49 Try.underlying5 (by kernel_rfl) (by kernel_rfl) ok1 h1
  have ok2 := hval 2 49 v2 rfl rfl
  obtain ⟨y, ly, rfl⟩ := open_bytesA Try.underlying49 Try.underlying5 (by kernel_rfl) (by kernel_rfl) ok2 h2
  refine Calls.mono (walk ps aps cps x y W rps hrps lcps lx ly) fun e W' ⟨v, he, hv, hs⟩ => ?_
  subst hv; subst he
  have bel := hs.below
  exact ⟨_, rfl, _, _, _, [], _, [], hW', trodAll_mk1 (shut_bool Try.underlying4 _), (trodAll_cons_mk (Below.trod laidOut readable43 (of_decide_eq_true inside43) h0 bel lt0) (trodAll_cons_mk (Below.trod laidOut readable49 (of_decide_eq_true inside49) h1 bel lt1) (trodAll_cons_mk (Below.trod laidOut readable49 (of_decide_eq_true inside49) h2 bel lt2) trodAll_mk0))), rfl, bel.frame _, fun h => by cases h⟩
theorem over : Rows.rootsMatchRow.holds Try.pinned (OpenSpec.ofChange Rows.rootsMatchSpec) :=
  OpenClaim.holds_of_wide 8 Try.f8 rfl rfl rfl rfl rfl rfl rfl ⟨rfl, rfl, rfl, rfl, rfl⟩ rfl rfl rfl rfl rfl (by kernel_rfl) Try.func8 (by kernel_rfl)
    (of_decide_eq_true (by kernel_rfl)) (by unfold Func.isWrapper; rw [if_neg (of_decide_eq_false (by kernel_rfl))]; exact ⟨rfl, rfl⟩)
    (fun os started H enc _ => lifted os started H enc)
theorem proved : Rows.RootsMatchSaid := over
#print axioms proved
end Go.Proofs.Ytfohfnpehfcaaaa.lawRootsMatch
