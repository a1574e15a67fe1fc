/- For every texts and number: a frontier has the root and the peaks of the list, at each size, and FrontierOf goes on from peaks; the law's function returns true and turns nothing. No condition. -/
import Derived.Test.YtbjjfpaiffckiaaDoorPFGAF
import Derived.Test.YtbjjfpaiffckiaaDoorPFGBA
import Derived.Test.YtbjjfpaiffckiaaDoorPFGAY
import Derived.Test.YtbjjfpaiffckiaaDoorRows
import Derived.Test.YtbjjfpaiffckiaaDoorCards
import Derived.Test.YtbjjfpaiffckiaaDoorTie
import Derived.Deep.DeepHandedRow
import Derived.Lib.LaidTab
namespace Go.Proofs.YtbjjfpaiffckiaaDoor.lawFrontiersGrow
open Go.Kw Go.Proofs.YtbjjfpaiffckiaaDoor
open Go.ChangeShapes Go.WideShapes Go.ChangeAt Go.RowKit
set_option linter.unusedVariables false
set_option linter.unusedSimpArgs false
set_option maxRecDepth 100000
set_option maxHeartbeats 20000000

set_option maxHeartbeats 8000000 in
theorem walk (ps : List Piece) (a : Option Addr) (c : Nat) (cut : Int) (w : World) (hb : Row w a (ps.map Piece.v)) (hr : ∀ q ∈ ps, Row w q.a (q.xs.map b8) ∧ q.xs.length ≤ q.c ∧ q.xs.length ≤ 140737488351232) (hlc : ps.length ≤ c) (ht : At w 1 0 (dbTab.map b8)) :
    Ret Tryd.prog 3 [.slice a ps.length c, .int .i64 cut] w (fun v w' => v = .bool true ∧ St w [] w' []) := by
  obtain ⟨L, hL⟩ : ∃ L, L = leavesL ps := ⟨_, rfl⟩
  have h32 : S32 L := by rw [hL]; exact leavesL_32 ps
  have hLl : L.length = (min ps.length 40) := by rw [hL]; exact leavesL_len ps
  refine enter Tryd.func3 rfl Tryd.ntmps3 rfl ?_
  have hS := St.refl w []
  refine c_seq ?_; refine c_region ?_; refine wl_val (r_assign (v := .bool false) rfl) rfl ?_; refine wl_nil ?_; refine c_then ?_; refine c_seq ?_; refine c_seq ?_; refine c_region ?_; refine wl_call (r_call fn4 rfl rfl) rfl (landed_ok _) ?_; rintro _ w1 ⟨rfl, hx2⟩
  have hS3 := hS.ext hx2
  refine wl_val (r_not rfl) rfl ?_; refine wl_nil ?_; refine c_then ?_; refine c_false rfl ?_; refine wp_skip ?_; refine c_then ?_; refine c_seq ?_; refine c_region ?_; refine wl_val (r_move (v := .slice _ _ _) rfl) rfl ?_; refine wl_call (r_call fn5 rfl rfl) rfl (leaves_ok ps _ _ _ (hb.st hS3) (fun q hq => ⟨(hr q hq).1.st hS3, (hr q hq).2⟩) hlc) ?_; rintro _ w4 ⟨a18, c18, rfl, hc18, hx5⟩
  have hS6 := hS3.call hx5
  simp only [List.cons_append, List.nil_append] at hS6
  rw [← hL] at hS6
  refine wl_val (r_assign (v := .slice _ _ _) rfl) rfl ?_; refine wl_nil ?_; refine c_then ?_; refine c_seq ?_; refine c_region ?_; refine wl_call (r_call fn6 rfl rfl) rfl (newFrontier_ok _) ?_; rintro _ w7 ⟨bf, rfl, hx8⟩
  have hS9 := hS6.call hx8
  simp only [List.cons_append, List.nil_append] at hS9; refine wl_val (r_assign (v := .pointer _) rfl) rfl ?_; refine wl_nil ?_; refine c_then ?_; refine c_seq ?_; refine c_seq ?_; refine c_region ?_; refine wl_val (r_move (v := .pointer _) rfl) rfl ?_; refine wl_call (r_call fn7 rfl rfl) rfl (froot_ok bf 0 0 0 none [] _ (at_all (hS9.heap (.head _))) Row.nil S32.nil rfl (fun h => absurd h (Nat.lt_irrefl 0)) (by decide)) ?_
  rintro _ w10 (⟨hz, rfl, hx11⟩ | ⟨hz, rfl, hx11⟩)
  · have hS12 := hS9.ext hx11
    refine wl_val (r_move (v := .tuple _) rfl) rfl ?_; refine wl_val (r_extract (v := .agg _) rfl rfl) rfl ?_; refine wl_val (r_extract (v := .int .i64 _) rfl rfl) rfl ?_; refine wl_exv (x_alloc (C := ((List.replicate 32 (0 : UInt8)).map b8)) hS12 ti29 rfl) rfl ?_; rintro _ w13 ⟨b7, rfl, hS14⟩; refine wl_exs (x_storeW [] hS14 ti29 rfl rfl (by first | (simp [*]; done) | (simp [*] <;> omega) | omega) (by first | (simp [*]; done) | (simp [*] <;> omega) | omega) (by repeat' first | exact one_nil | exact one_b8 _ | exact one_v32 _ | exact one_all rfl | refine one_cons rfl ?_ | refine one_app ?_ ?_)) rfl ?_; intro w15 hS16; simp only [List.cons_append, List.nil_append] at hS16; refine wl_val (r_assign (v := .int .i64 _) rfl) rfl ?_; refine wl_nil ?_; refine c_then ?_; refine c_seq ?_; refine c_region ?_; refine wl_val (r_move (v := .pointer _) rfl) rfl ?_; refine wl_dec_f (r_eqlPn ti26.und rfl rfl) rfl (by simp) ?_; refine wl_val (r_move (v := .bool _) rfl) rfl ?_; refine wl_val (r_move (v := .int .i64 _) rfl) rfl ?_; refine wl_dec_f (r_neq rfl rfl) rfl (by decide) ?_; refine wl_val (r_pick_f rfl (v := .bool _) rfl) rfl ?_; refine wl_val (r_move (v := .bool _) rfl) rfl ?_; refine wl_val (r_move (v := .pointer _) rfl) rfl ?_; refine wl_call (r_call fn8 rfl rfl) rfl (fpeaks_ok bf _ [] none 0 0 _ (at_all (hS16.heap (.tail _ (.head _)))) Row.nil S32.nil rfl (by decide)) ?_; rintro _ w17 ⟨a33, c33, rfl, hc33, hx18⟩
    have hS19 := hS16.call hx18
    simp only [List.cons_append, List.nil_append] at hS19; refine wl_val (r_len (T := 24) rfl ti24.und rfl _ rfl) rfl ?_; refine wl_dec_f (r_gtr rfl rfl) rfl (by omega) ?_; refine wl_val (r_pick_f rfl (v := .bool _) rfl) rfl ?_; refine wl_nil ?_; refine c_then ?_; refine c_false rfl ?_; refine wp_skip ?_; refine c_then ?_; refine c_seq ?_; refine c_seq ?_; refine c_region ?_; refine wl_val (r_move (v := .slice _ _ _) rfl) rfl ?_; refine wl_val (r_len (T := 24) rfl ti24.und rfl _ rfl) rfl ?_; refine wl_val (r_move (v := .int .i64 0) rfl) rfl ?_; refine wl_nil ?_; refine c_then ?_; refine c_block ?_; refine c_loopE [1, 5, 37, 38] (fun d e w' => ∃ (k m bfk : Nat) (af : Option Addr) (cf : Nat), Kw.look e 39 = vi k ∧ Kw.look e 6 = pt bfk 0 ∧ d = L.length - k ∧ St w [] w' [.blk bfk (cl [vi (k), .slice af m cf] 47), .row (.slice af m cf) 29 32 m (((peaksN 21 (L.take (k)))).flatten.map b8), .row (.slice a18 (min ps.length 40) c18) 29 32 (min ps.length 40) (L.flatten.map b8)] ∧ (k ≤ L.length) ∧ (m = (peaksN 21 (L.take (k))).length) ∧ (m ≤ cf)) (L.length - 0) ?_ ?_
    have hS24 := St.nilRow (E := 29) (sz := 32) hS19
    · exact ⟨0, 0, bf, none, 0, rfl, rfl, rfl, (hS24.perm ((List.Perm.cons _ ((List.Perm.cons _ ((List.Perm.cons _ (List.Perm.refl _)).trans (List.perm_middle (l₁ := [_])).symm)).trans (List.perm_middle (l₁ := [_])).symm)).trans (List.perm_middle (l₁ := [_])).symm)).drop1.drop1, Nat.zero_le _, by rw [List.take_zero, peaksN_nil]; rfl, Nat.le_refl _⟩
    · rintro d23 e20 w21 ⟨k, m, bfk, af, cf, hc0_39, hc0_6, rfl, hS22, hk, hm, hcm⟩ -
      refine c_set (d := 39) hc0_39 ?_; refine c_set (d := 6) hc0_6 ?_; refine c_seq ?_; refine c_region ?_
      refine wl_dec (r_lss rfl rfl) rfl (fun h9_0 => ?_) (fun h9_0 => ?_)
      · refine wl_nil ?_
        refine c_then ?_; refine c_seq ?_; refine c_true rfl ?_; refine wp_skip ?_; refine c_then ?_; refine c_seq ?_; refine c_block ?_; refine c_seq ?_
        have hk40 : k < 40 := by omega
        have hPk : S32 (peaksN 21 (L.take (k))) := peaksN_32 21 _ (h32.take k)
        have hgk : (gt L k).length = 32 := h32.gt (by omega)
        have htk : (L.take k).length = k := by rw [List.length_take]; omega
        have hmle : m ≤ 21 := by rw [hm]; exact peaksN_le 21 _
        refine c_region ?_; refine wl_val (r_move (v := .int .i64 _) rfl) rfl ?_; refine wl_val (r_ix32 ti24.und ti29 rfl rfl (St.rowAt hS22 (.tail _ (.tail _ (.head _)))) h32 (by first | (simp [*]; done) | (simp [*] <;> omega) | omega) (by first | omega | (simp [*]; done) | (simp [*] <;> omega))) rfl ?_; refine wl_val (r_load32 ti29 rfl rfl (St.rowAt hS22 (.tail _ (.tail _ (.head _)))) h32 (by first | omega | (simp [*]; done) | (simp [*] <;> omega))) rfl ?_; refine wl_exv (x_alloc (C := ((List.replicate 32 (0 : UInt8)).map b8)) hS22 ti29 rfl) rfl ?_; rintro _ w25 ⟨b10, rfl, hS26⟩; refine wl_val (r_assign (v := .int .i64 _) rfl) rfl ?_; refine wl_exs (x_storeW [] hS26 ti29 rfl rfl (by rw [List.length_map]; exact hgk) (by simp) (one_b8 _)) rfl ?_; intro w27 hS28; simp only [List.cons_append, List.nil_append] at hS28; refine wl_nil ?_; refine c_then ?_; refine c_cutE [1, 5, 9, 10, 37, 38, 39] (fun e w' => ∃ (b2 : Nat) (a2 : Option Addr) (c2 : Nat), Kw.look e 6 = pt b2 0 ∧ St w [] w' [.blk b2 (cl [vi (k), .slice a2 m c2] 47), .row (.slice a2 m c2) 29 32 m (((peaksN 21 (L.take (k)))).flatten.map b8), .row (.slice a18 (min ps.length 40) c18) 29 32 (min ps.length 40) (L.flatten.map b8), .blk b10 (cl ((gt L k).map b8) 29)] ∧ (m ≤ c2)) ?_ ?_
        · refine c_seq ?_
          refine c_region ?_; refine wl_val (r_move (v := .int .i64 _) rfl) rfl ?_; refine wl_val (r_move (v := .int .i64 _) rfl) rfl ?_
          refine wl_dec (r_eql rfl rfl) rfl (fun h11_2 => ?_) (fun h11_2 => ?_)
          · refine wl_nil ?_
            refine c_then ?_; refine c_true rfl ?_; refine c_seq ?_; refine c_region ?_; refine wl_val (r_move (v := .pointer _) rfl) rfl ?_; refine wl_call (r_call fn10 rfl rfl) rfl (fsize_ok bfk k _ _ (at_all (hS28.heap (.tail _ (.head _))))) ?_; rintro _ w33 ⟨rfl, hx34⟩
            have hS35 := hS28.ext hx34
            refine wl_val (r_move (v := .pointer _) rfl) rfl ?_; refine wl_call (r_call fn8 rfl rfl) rfl (fpeaks_ok bfk _ (peaksN 21 (L.take (k))) af m cf _ (at_all (hS35.heap (.tail _ (.head _)))) (St.rowAt hS35 (.tail _ (.tail _ (.head _)))) hPk hm.symm (by omega)) ?_; rintro _ w36 ⟨a51, c51, rfl, hc51, hx37⟩
            have hS38 := hS35.call hx37
            simp only [List.cons_append, List.nil_append] at hS38; refine wl_call (r_call fn9 rfl rfl) rfl (frontierOf_ok k (peaksN 21 (L.take (k))) _ m _ _ (St.rowAt hS38 (.head _)) hPk hm.symm (by omega)) ?_
            rintro _ w39 (⟨hq, rfl, hx40⟩ | ⟨hq, rfl, hx40⟩ | ⟨hq, bg, ag, cg, rfl, hcg, hx40⟩)
            · exfalso; omega
            · exact absurd (by rw [hm, peaks_pop 21 _ (by rw [htk]; omega), htk, Int.toNat_natCast]) hq.2.2
            have hS41 := hS38.call hx40
            simp only [List.cons_append, List.nil_append] at hS41; refine wl_val (r_move (v := .tuple _) rfl) rfl ?_; refine wl_val (r_extract (v := .pointer _) rfl rfl) rfl ?_; refine wl_val (r_extract (v := .int .i64 _) rfl rfl) rfl ?_; refine wl_val (r_assign (v := .pointer _) rfl) rfl ?_; refine wl_val (r_assign (v := .int .i64 _) rfl) rfl ?_; refine wl_nil ?_; refine c_then ?_; refine c_seq ?_; refine c_seq ?_; refine c_region ?_; refine wl_val (r_move (v := .int .i64 _) rfl) rfl ?_; refine wl_dec_f (r_neq rfl rfl) rfl (by decide) ?_; refine wl_nil ?_; refine c_then ?_; refine c_false rfl ?_; refine wp_skip ?_; refine c_then ?_; refine c_region ?_; refine wl_val (r_move (v := .pointer _) rfl) rfl ?_; refine wl_val (r_assign (v := .pointer _) rfl) rfl ?_; refine wl_nil ?_; refine c_then ?_
            exact ⟨_, rfl, ⟨bg, ag, cg, rfl, (hS41.perm ((List.Perm.cons _ ((List.Perm.cons _ ((List.Perm.cons _ (List.Perm.cons _ (List.Perm.cons _ ((List.Perm.cons _ (List.Perm.refl _)).trans (List.perm_middle (l₁ := [_])).symm)))).trans (List.perm_middle (l₁ := [_, _, _])).symm)).trans (List.perm_middle (l₁ := [_, _, _])).symm)).trans (List.perm_middle (l₁ := [_, _])).symm)).drop1.drop1.drop1, hcg⟩, ⟨rfl, rfl, rfl, rfl, rfl, rfl, rfl, trivial⟩⟩
          refine wl_nil ?_; refine c_then ?_; refine c_false rfl ?_; refine wp_skip ?_; refine c_then ?_
          exact ⟨_, rfl, ⟨bfk, af, cf, rfl, (hS28.perm ((List.Perm.cons _ ((List.Perm.cons _ ((List.Perm.cons _ (List.Perm.refl _)).trans (List.perm_middle (l₁ := [_])).symm)).trans (List.perm_middle (l₁ := [_])).symm)).trans (List.perm_middle (l₁ := [_])).symm)), hcm⟩, ⟨rfl, rfl, rfl, rfl, rfl, rfl, rfl, trivial⟩⟩
        · rintro e29 w30 ⟨b2, a2, c2, hc32_6, hS31, hc2⟩ -
          refine c_set (d := 6) hc32_6 ?_; refine c_seq ?_; refine c_seq ?_
          have htz : tzN (k + 1) ≤ m := by have := peaks_tz 21 (L.take k) (by rw [htk]; omega); rw [htk] at this; omega
          have ePk : mergeN (tzN (k + 1)) ((peaksN 21 (L.take (k))) ++ [gt L k]) = (peaksN 21 (L.take (k + 1))) := by have := peaks_add 21 (L.take k) (gt L k) (by rw [htk]; omega); rw [htk] at this; rw [this, ← take_gt _ _ (by omega)]
          have htk1 : (L.take (k + 1)).length = k + 1 := by rw [List.length_take]; omega
          have hP1 : S32 (peaksN 21 (L.take (k + 1))) := peaksN_32 21 _ (h32.take _)
          have hpos1 : 0 < (peaksN 21 (L.take (k + 1))).length := peaksN_pos 21 _ (by rw [htk1]; omega) (by rw [htk1]; omega)
          have hle1 : (peaksN 21 (L.take (k + 1))).length ≤ 21 := peaksN_le 21 _
          have hbag := bag_peaks 21 (L.take (k + 1)) (by rw [htk1]; omega) (by rw [htk1]; omega)
          have hbl := bagL_len hP1 hpos1
          have hrl : (rootL (L.take (k + 1))).length = 32 := rootL_len _ (h32.take _) (by rw [htk1]; omega)
          refine c_drawSF 18 hMixed hS31 hS31.drop1.drop1 ?_; intro w42 hS43; refine g_take 0 rfl (by decide +kernel) rfl (fun _ _ _ h => h) hS43.drop1.drop1 (fun wF hF => r_move (v := .pointer _) rfl) ?_; refine g_take 1 rfl (by decide +kernel) rfl (fun _ _ _ h => h) hS43.drop1.drop1 (fun wF hF => r_loadB ti29 rfl rfl (hF.heap (.tail _ (.head _))) (by rw [List.length_map]; exact hgk)) ?_; refine g_one 2 (by decide +kernel) (by decide +kernel) ?_; refine o_call rfl (r_call fn11 rfl rfl) rfl (fadd_ok w _ _ b2 k m c2 a2 (peaksN 21 (L.take (k))) (gt L k) hS43 ht hPk hm.symm (h32.gt (by omega)) (by omega) htz (by omega)) ?_; rintro _ w44 ⟨m3, a3, c3, rfl, hm3, hc3, hS45⟩
          rw [ePk] at hm3 hS45
          refine ⟨hS45.drop1.drop1, ?_⟩
          refine g_dec_f 3 rfl (by decide +kernel) rfl (fun _ _ _ _ h => h) hS45.drop1.drop1 (fun wF hF => r_neq rfl rfl) (by decide) ?_; refine g_take 4 rfl (by decide +kernel) rfl (fun _ _ _ h => h) hS45.drop1.drop1 (fun wF hF => r_move (v := .bool _) rfl) ?_; refine g_take 5 rfl (by decide +kernel) rfl (fun _ _ _ h => h) hS45.drop1.drop1 (fun wF hF => r_move (v := .pointer _) rfl) ?_; refine g_take 7 rfl (by decide +kernel) rfl (fun _ _ _ h => h) hS45.drop1.drop1 (fun wF hF => r_move (v := .int .i64 _) rfl) ?_; refine g_take 8 rfl (by decide +kernel) rfl (fun _ _ _ h => h) hS45.drop1.drop1 (fun wF hF => r_addn (b := 1) rfl rfl (by omega)) ?_; refine g_one 6 (by decide +kernel) (by decide +kernel) ?_; refine o_call rfl (r_call fn10 rfl rfl) rfl (fsize_ok b2 (k + 1 : Nat) _ _ (at_all (hS45.heap (.head _)))) ?_; rintro _ w46 ⟨rfl, hx47⟩
          have hS48 := hS45.ext hx47
          refine ⟨hS48.drop1.drop1, ?_⟩
          refine g_dec_f 9 rfl (by decide +kernel) rfl (fun _ _ _ _ h => h) hS48.drop1.drop1 (fun wF hF => r_neq rfl rfl) (fun h => h rfl) ?_; refine g_take 10 rfl (by decide +kernel) rfl (fun _ _ _ h => h) hS48.drop1.drop1 (fun wF hF => r_pick_f rfl (v := .bool _) rfl) ?_; refine g_take 11 rfl (by decide +kernel) rfl (fun _ _ _ h => h) hS48.drop1.drop1 (fun wF hF => r_move (v := .bool _) rfl) ?_; refine g_take 12 rfl (by decide +kernel) rfl (fun _ _ _ h => h) hS48.drop1.drop1 (fun wF hF => r_move (v := .pointer _) rfl) ?_; refine g_take 14 rfl (by decide +kernel) rfl (fun _ _ _ h => h) hS48.drop1.drop1 (fun wF hF => r_move (v := .slice _ _ _) rfl) ?_; refine g_take 15 rfl (by decide +kernel) rfl (fun _ _ _ h => h) hS48.drop1.drop1 (fun wF hF => r_move (v := .int .i64 _) rfl) ?_; refine g_take 16 rfl (by decide +kernel) rfl (fun _ _ _ h => h) hS48.drop1.drop1 (fun wF hF => r_addn (b := 1) rfl rfl (by omega)) ?_; refine g_take 17 rfl (by decide +kernel) rfl (fun _ _ _ h => h) hS48.drop1.drop1 (fun wF hF => r_sl_h ti24.und ti29 rfl rfl (by omega)) ?_; refine g_one 13 (by decide +kernel) (by decide +kernel) ?_; refine o_call rfl (r_call fn8 rfl rfl) rfl (fpeaks_ok b2 _ (peaksN 21 (L.take (k + 1))) a3 m3 c3 _ (at_all (hS48.heap (.head _))) (St.rowAt hS48 (.tail _ (.head _))) hP1 hm3.symm (by omega)) ?_; rintro _ w49 ⟨a71, c71, rfl, hc71, hx50⟩
          have hS51 := hS48.call hx50
          simp only [List.cons_append, List.nil_append] at hS51
          refine ⟨hS51.drop1.drop1.drop1, ?_⟩
          refine g_tail (by decide +kernel) rfl (by decide +kernel) ?_; refine wl_call (r_call fn13 rfl rfl) rfl (rpeaks_ok (L.take (k + 1)) _ (k + 1) _ _ (Row.take32 (St.rowAt hS51 (.tail _ (.tail _ (.tail _ (.head _))))) h32 (k + 1)) (h32.take _) htk1 (by omega) (by omega)) ?_; rintro _ w52 ⟨a76, c76, rfl, hc76, hx53⟩
          have hS54 := hS51.call hx53
          simp only [List.cons_append, List.nil_append] at hS54; refine wl_call (r_call fn12 rfl rfl) rfl (equals_t _ _ _ _ _ _ _ _ _ (St.rowAt hS54 (.tail _ (.head _))) (St.rowAt hS54 (.head _)) hP1 hP1 hm3.symm rfl (by omega) rfl) ?_; rintro _ w55 ⟨rfl, hx56⟩
          have hS57 := hS54.ext hx56
          refine wl_val (r_not rfl) rfl ?_; refine wl_val (r_pick_f rfl (v := .bool _) rfl) rfl ?_; refine wl_nil ?_; refine c_then ?_; refine c_false rfl ?_; refine wp_skip ?_; refine c_then ?_; refine c_seq ?_; refine c_region ?_; refine wl_val (r_move (v := .pointer _) rfl) rfl ?_; refine wl_call (r_call fn7 rfl rfl) rfl (froot_ok b2 (k + 1) m3 c3 a3 (peaksN 21 (L.take (k + 1))) _ (at_all (hS57.heap (.tail _ (.tail _ (.head _))))) (St.rowAt hS57 (.tail _ (.tail _ (.tail _ (.head _))))) hP1 hm3.symm (fun _ => by omega) (by omega)) ?_
          rintro _ w58 (⟨hz, rfl, hx59⟩ | ⟨hz, rfl, hx59⟩)
          · exact absurd hz (Nat.succ_ne_zero _)
          have hS60 := hS57.ext hx59
          refine wl_val (r_move (v := .tuple _) rfl) rfl ?_; refine wl_val (r_extract (v := .agg _) rfl rfl) rfl ?_; refine wl_val (r_extract (v := .int .i64 _) rfl rfl) rfl ?_; refine wl_exv (x_alloc (C := ((List.replicate 32 (0 : UInt8)).map b8)) hS60 ti29 rfl) rfl ?_; rintro _ w61 ⟨b13, rfl, hS62⟩; refine wl_exs (x_storeW [] hS62 ti29 rfl rfl (by rw [List.length_map]; exact hbl) (by simp) (one_b8 _)) rfl ?_; intro w63 hS64; simp only [List.cons_append, List.nil_append] at hS64; refine wl_val (r_assign (v := .int .i64 _) rfl) rfl ?_; refine wl_nil ?_; refine c_then ?_; refine c_seq ?_; refine c_drawS 12 hMixed hS64 ?_; intro w65 hS66; refine g_take 0 rfl (by decide +kernel) rfl (fun _ _ _ h => h) hS66 (fun wF hF => r_loadB ti29 rfl rfl (hF.heap (.head _)) (by rw [List.length_map]; exact hbl)) ?_; refine g_take 1 rfl (by decide +kernel) rfl (fun _ _ _ h => h) hS66 (fun wF hF => r_move (v := .slice _ _ _) rfl) ?_; refine g_take 2 rfl (by decide +kernel) rfl (fun _ _ _ h => h) hS66 (fun wF hF => r_move (v := .int .i64 _) rfl) ?_; refine g_take 3 rfl (by decide +kernel) rfl (fun _ _ _ h => h) hS66 (fun wF hF => r_addn (b := 1) rfl rfl (by omega)) ?_; refine g_take 4 rfl (by decide +kernel) rfl (fun _ _ _ h => h) hS66 (fun wF hF => r_sl_h ti24.und ti29 rfl rfl (by omega)) ?_; refine g_one 5 (by decide +kernel) (by decide +kernel) ?_; refine o_call rfl (r_call fn14 rfl rfl) rfl (rroot_ok _ (L.take (k + 1)) _ _ _ (Row.take32 (St.rowAt hS66 (.tail _ (.tail _ (.tail _ (.tail _ (.tail _ (.head _))))))) h32 (k + 1)) (h32.take _) htk1 (by omega) (by omega) (by omega)) ?_
          rintro _ w67 ⟨rfl, hx68⟩
          have hS69 := hS66.ext hx68
          refine ⟨hS69, ?_⟩
          refine g_dec_f 6 rfl (by decide +kernel) rfl (fun _ _ _ _ h => h) hS69 (fun wF hF => r_neqA (u := undef) eg29 rfl rfl (eqIs_b8 ti29.und ti5 _ _ hbl hrl)) (not_not_intro hbag) ?_; refine g_take 7 rfl (by decide +kernel) rfl (fun _ _ _ h => h) hS69 (fun wF hF => r_move (v := .bool _) rfl) ?_; refine g_take 8 rfl (by decide +kernel) rfl (fun _ _ _ h => h) hS69 (fun wF hF => r_loadB ti29 rfl rfl (hF.heap (.head _)) (by rw [List.length_map]; exact hbl)) ?_; refine g_take 9 rfl (by decide +kernel) rfl (fun _ _ _ h => h) hS69 (fun wF hF => r_move (v := .pointer _) rfl) ?_; refine g_one 10 (by decide +kernel) (by decide +kernel) ?_; refine o_call rfl (r_call fn8 rfl rfl) rfl (fpeaks_ok b2 _ (peaksN 21 (L.take (k + 1))) a3 m3 c3 _ (at_all (hS69.heap (.tail _ (.tail _ (.tail _ (.head _)))))) (St.rowAt hS69 (.tail _ (.tail _ (.tail _ (.tail _ (.head _)))))) hP1 hm3.symm (by omega)) ?_; rintro _ w70 ⟨a95, c95, rfl, hc95, hx71⟩
          have hS72 := hS69.call hx71
          simp only [List.cons_append, List.nil_append] at hS72
          refine ⟨hS72.drop1, ?_⟩
          refine g_one 11 (by decide +kernel) (by decide +kernel) ?_; refine o_call rfl (r_call fn15 rfl rfl) rfl (bag_ok (peaksN 21 (L.take (k + 1))) _ m3 _ _ (St.rowAt hS72 (.head _)) hP1 hm3.symm (by omega) hc95 (by omega)) ?_; rintro _ w73 ⟨rfl, hx74⟩
          have hS75 := hS72.ext hx74
          refine ⟨hS75.drop1, ?_⟩
          refine g_tail (by decide +kernel) rfl (by decide +kernel) ?_; refine wl_dec_f (r_neqA (u := undef) eg29 rfl rfl (eqIs_b8 ti29.und ti5 _ _ hbl hbl)) rfl (not_not_intro rfl) ?_; refine wl_val (r_pick_f rfl (v := .bool _) rfl) rfl ?_; refine wl_val (r_move (v := .bool _) rfl) rfl ?_; refine wl_val (r_move (v := .int .i64 _) rfl) rfl ?_; refine wl_dec_f (r_neq rfl rfl) rfl (by decide) ?_; refine wl_val (r_pick_f rfl (v := .bool _) rfl) rfl ?_; refine wl_nil ?_; refine c_then ?_; refine c_false rfl ?_; refine wp_skip ?_; refine c_inN ?_; refine c_then ?_; refine c_region ?_; refine wl_val (r_addn (b := 1) rfl rfl (by omega)) rfl ?_; refine wl_val (r_move (v := .int .i64 _) rfl) rfl ?_; refine wl_nil ?_; refine c_then ?_
          exact ⟨L.length - (k + 1), _, by omega, rfl, ⟨k + 1, m3, b2, a3, c3, rfl, rfl, rfl, (hS75.perm (List.Perm.cons _ (List.Perm.cons _ (List.Perm.cons _ (List.Perm.cons _ ((List.Perm.cons _ (List.Perm.refl _)).trans (List.perm_middle (l₁ := [_, _, _])).symm)))))).drop1.drop1.drop1.drop1.drop1, by omega, hm3, hc3⟩, ⟨rfl, rfl, rfl, rfl, trivial⟩⟩
      refine wl_nil ?_; refine c_then ?_; refine c_seq ?_; refine c_false rfl ?_; refine wp_exit ?_; refine c_thenE ?_; refine c_thenE ?_; refine c_inE ?_; refine c_then ?_; refine c_seq ?_; refine c_region ?_; refine wl_val (r_assign (v := .bool true) rfl) rfl ?_; refine wl_nil ?_; refine c_then ?_; refine wp_ret ?_; refine ret1 Tryd.results3 ?_
      exact ⟨rfl, hS22.fin⟩
  exact absurd hz (Nat.lt_irrefl 0)


theorem own : ownKnob Tryd.prog.godebug = none := by kernel_rfl
theorem laidOut : laidOutB Tryd.prog = true := by kernel_rfl
theorem readable3 : Tryd.prog.readableRec 3 = true := by kernel_rfl
theorem inside3 : decide (3 < Tryd.prog.types.size) = true := by kernel_rfl
theorem readable22 : Tryd.prog.readableRec 22 = true := by kernel_rfl
theorem inside22 : decide (22 < Tryd.prog.types.size) = true := by kernel_rfl
/-- A world for the witness: the settled one, the tables holding what their initialisers lay. -/
noncomputable def laidWorld (os : Os) : World :=
  { World.holding Tryd.prog os ⟨#[], #[], []⟩ with heap := (((World.holding Tryd.prog os ⟨#[], #[], []⟩).heap.modify 0 fun
      | .cells _ t frozen => .cells #[.int .u8 0, .int .u8 1, .int .u8 28, .int .u8 2, .int .u8 29, .int .u8 14, .int .u8 24, .int .u8 3, .int .u8 30, .int .u8 22, .int .u8 20, .int .u8 15, .int .u8 25, .int .u8 17, .int .u8 4, .int .u8 8, .int .u8 31, .int .u8 27, .int .u8 13, .int .u8 23, .int .u8 21, .int .u8 19, .int .u8 16, .int .u8 7, .int .u8 26, .int .u8 12, .int .u8 18, .int .u8 6, .int .u8 11, .int .u8 5, .int .u8 10, .int .u8 9] t frozen
      | o => o).modify 1 fun
      | .cells _ t frozen => .cells #[.int .u8 0, .int .u8 1, .int .u8 56, .int .u8 2, .int .u8 57, .int .u8 49, .int .u8 28, .int .u8 3, .int .u8 61, .int .u8 58, .int .u8 42, .int .u8 50, .int .u8 38, .int .u8 29, .int .u8 17, .int .u8 4, .int .u8 62, .int .u8 47, .int .u8 59, .int .u8 36, .int .u8 45, .int .u8 43, .int .u8 51, .int .u8 22, .int .u8 53, .int .u8 39, .int .u8 33, .int .u8 30, .int .u8 24, .int .u8 18, .int .u8 12, .int .u8 5, .int .u8 63, .int .u8 55, .int .u8 48, .int .u8 27, .int .u8 60, .int .u8 41, .int .u8 37, .int .u8 16, .int .u8 46, .int .u8 35, .int .u8 44, .int .u8 21, .int .u8 52, .int .u8 32, .int .u8 23, .int .u8 11, .int .u8 54, .int .u8 26, .int .u8 40, .int .u8 15, .int .u8 34, .int .u8 20, .int .u8 31, .int .u8 10, .int .u8 25, .int .u8 14, .int .u8 19, .int .u8 9, .int .u8 13, .int .u8 8, .int .u8 7, .int .u8 6] t frozen
      | o => o) }
theorem laid_met (os : Os) : laidMet Tryd.prog Rows.frontiersGrowRow.laid ((laidWorld os).forCall (fun _ _ => 0) ⟨#[], #[.slice none 0 0, .int .i64 0], []⟩).memory := laidMet_of_run' 8 (by kernel_rfl) (by kernel_rfl)
theorem reads (os : Os) {H : Type} (enc : TypeId × Value → H) : ∃ places, DataW.whole enc Tryd.prog ((laidWorld os).forCall (fun _ _ => 0) ⟨#[], #[.slice none 0 0, .int .i64 0], []⟩).memory Tryd.f3.params.toList Rows.frontiersGrowSpec.vars false (#[.slice none 0 0, .int .i64 0] : Array Value).toList 8 = some ([.nil, .lit (.int .i64 0)], [], places) := ⟨[], by kernel_rfl⟩
theorem lifted (os : Os) (started : os.Started) (H : Type) (enc : TypeId × Value → H) (F : Stop.Interp) :
    ReturnsInHanded {} Tryd.checked os 3 .any ((OpenSpec.ofChange Rows.frontiersGrowSpec).preRow enc Tryd.prog Tryd.f3 Rows.frontiersGrowRow.domain false Rows.frontiersGrowRow.laid) (((OpenSpec.ofChange Rows.frontiersGrowSpec).at F).post enc Tryd.prog Tryd.f3 false true false false) := by
  obtain ⟨places, hx⟩ := reads os enc
  refine returnsInHanded_of_row (C := Tryd.checked) (s := OpenSpec.ofChange Rows.frontiersGrowSpec) own started (by kernel_rfl) Tryd.func3
    (witness_row_at (enc := enc) (C := Tryd.checked) false (laidWorld os) #[.slice none 0 0, .int .i64 0] rfl (by kernel_rfl) (by kernel_rfl) (by kernel_rfl)
      (OpenSpec.preRow_of_cond 8 hx (by kernel_rfl) (fun k hk => by cases hk) (by kernel_rfl) (laid_met os))) ?_
  intro W base args ds gs before hval0 hW hcnd _ hsz0 hL _ _
  have hval : ∀ (j : Nat) t v, Tryd.f3.params[j]? = some t → args[j]? = some v → Value.okWide Tryd.prog W .any base t v := hval0
  have hW' := hW
  obtain ⟨p, q, hA0, hV, rfl, hfz, hnd⟩ := hW
  have hA : DataW.TrodAll enc Tryd.prog W 0 (fun _ => true) true Tryd.f3.params.toList args.toList ds p := hA0
  have hsz : (DataW.weightsEach Tryd.prog (Tryd.f3.params.toList ++ Rows.frontiersGrowSpec.plain.varTypes Tryd.prog) (ds ++ gs)).all (· ≤ reachBytes) = true := hsz0
  rw [Tryd.params3] at hA hval hsz
  obtain ⟨v0, vs0, d0, ds0, p0, q0, hargs, rfl, rfl, h0, r0⟩ := trodAll_cons hA
  obtain ⟨v1, vs1, d1, ds1, p1, q1, rfl, rfl, rfl, h1, r1⟩ := trodAll_cons r0
  obtain ⟨rfl, rfl, rfl⟩ := trodAll_nil r1
  obtain rfl : args = #[v0, v1] := by cases args; simp_all
  obtain ⟨rfl, rfl⟩ := trodVars_none hV
  have lt0 : ∀ x ∈ p0, x.block < W.heap.size := by obtain ⟨m, hm⟩ := h0; exact DataW.trod_lt m _ _ _ hm
  have lt1 : ∀ x ∈ p1, x.block < W.heap.size := by obtain ⟨m, hm⟩ := h1; exact DataW.trod_lt m _ _ _ hm
  have ok0 := hval 0 22 v0 rfl rfl
  obtain ⟨⟨aps, cps, ps⟩, rfl, rps, lcps, hcps, hrps⟩ := open_slice (j := 0) Tryd.underlying22 (opens_parts Tryd.underlying22 (by kernel_rfl) (by kernel_rfl) Tryd.underlying43 Tryd.underlying5 (by kernel_rfl) (by kernel_rfl)) ok0 h0 hsz rfl rfl
  simp only [] at rps lcps hcps hrps
  have ok1 := hval 1 3 v1 rfl rfl
  obtain ⟨cut, rfl, locut, hicut⟩ := open_i64 Tryd.underlying3 ok1 h1
  have htb : At W 1 0 (dbTab.map b8) := by
    rw [db_cells]
    exact tab_at (tab_second (n := 64) (t := 63) (e := 5) (g := 1) (rest := []) (by kernel_rfl) (by kernel_rfl) Tryd.underlying63 Tryd.underlying5 (by kernel_rfl) (by kernel_rfl) hL) (by kernel_rfl)
  refine Calls.mono (walk ps aps cps cut W rps hrps lcps htb) fun e W' ⟨v, he, hv, hs⟩ => ?_
  subst hv; subst he
  have bel := hs.below
  exact ⟨_, rfl, _, _, _, [], _, [], hW', trodAll_mk1 (shut_bool Tryd.underlying4 _), (trodAll_cons_mk (Below.trod laidOut readable22 (of_decide_eq_true inside22) h0 bel lt0) (trodAll_cons_mk (Below.trod laidOut readable3 (of_decide_eq_true inside3) h1 bel lt1) trodAll_mk0)), rfl, bel.frame _, fun h => by cases h⟩
theorem over : Rows.frontiersGrowRow.holds Tryd.pinned (OpenSpec.ofChange Rows.frontiersGrowSpec) :=
  OpenClaim.holds_of_cond 3 Tryd.f3 rfl rfl rfl rfl rfl rfl rfl ⟨rfl, rfl, rfl, rfl, rfl⟩ rfl rfl rfl rfl rfl (by kernel_rfl) Tryd.func3 (by kernel_rfl)
    (of_decide_eq_true (by kernel_rfl)) (by unfold Func.isWrapper; first | (rw [if_pos (by decide +kernel)]; kernel_rfl) | (rw [if_neg (by decide +kernel)]; exact ⟨rfl, rfl⟩))
    (fun os started H enc _ F => by rw [OpenClaim.pre_eq_preRow]; exact lifted os started H enc F)
theorem plain (f : FuncId) (fn : Func) (hf : Tryd.pinned.checked.prog.funcNamed "keywarden/keylaw1.FrontiersGrow" = some f) (hfn : Tryd.pinned.checked.prog.funcs[f]? = some fn) :
    false = Tryd.pinned.checked.prog.looks [] ∧ ∀ (j : Nat) t, fn.params[j]? = some t → Tryd.pinned.checked.prog.wantsStandIn t = false := by
  obtain rfl : f = 3 := Option.some.inj ((show Tryd.prog.funcNamed "keywarden/keylaw1.FrontiersGrow" = some 3 by kernel_rfl).symm.trans hf) |>.symm
  obtain rfl : fn = Tryd.f3 := (Option.some.inj (Tryd.func3.symm.trans hfn)).symm
  refine ⟨by kernel_rfl, fun j t ht => ?_⟩
  rw [Tryd.params3] at ht
  have w3 : Tryd.prog.wantsStandIn 3 = false := by kernel_rfl
  have w22 : Tryd.prog.wantsStandIn 22 = false := by kernel_rfl
  have hm : t ∈ [22, 3] := by have := Array.mem_of_getElem? ht; simpa using this
  simp only [List.mem_cons, List.not_mem_nil, or_false] at hm
  rcases hm with rfl | rfl
  · exact w22
  · exact w3
theorem proved : Rows.FrontiersGrowCardSaid :=
  Claim7.holds_tied_plain_at .later [] _ _ _ _ over (fun _ h => by cases h) (by kernel_rfl) (fun _ h => by cases h) frontiersGrow_row_tie rfl ⟨rfl, rfl⟩ (by kernel_rfl) rfl plain (by kernel_rfl)
#print axioms proved
end Go.Proofs.YtbjjfpaiffckiaaDoor.lawFrontiersGrow
