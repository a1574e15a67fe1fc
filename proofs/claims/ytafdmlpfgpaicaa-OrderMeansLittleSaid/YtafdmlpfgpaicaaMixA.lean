/- Words and octets. No condition. -/
import Derived.Test.YtafdmlpfgpaicaaFacts
import Derived.Test.YtafdmlpfgpaicaaSpec
namespace Go.Proofs.Ytafdmlpfgpaicaa
open Go.Kw
set_option linter.unusedVariables false
set_option linter.unusedSimpArgs false
set_option maxRecDepth 100000
theorem word_ok (o : List UInt8) (w : World) (ho : o.length = 4) :
    Ret Try.prog 117 [.agg (o.map b8).toArray] w (fun v w' => v = v32 (word4 o) ∧ St w [] w' []) := by
  refine enter Try.func117 rfl Try.ntmps117 rfl ?_
  have hS := St.refl w []
  refine c_seq ?_
  refine c_region ?_
  refine wl_exv (x_box hS (v := .agg _) rfl rfl) rfl ?_
  rintro _ w1 ⟨b1, rfl, hS2⟩
  refine wl_val (r_assign (v := .int .u32 0) rfl) rfl ?_
  refine wl_nil ?_
  refine c_then ?_
  refine c_seq ?_
  refine c_region ?_
  refine wl_val (r_ixA (m := 0) (sz := 1) ti132.und ti5 rfl rfl (by first | omega | (simp [*]; done) | (simp [*] <;> omega)) (Nat.zero_add _ |>.trans (Nat.mul_one _))) rfl ?_
  refine wl_val (r_loadB1 ti5.und rfl rfl (hS2.heap (.head _)) (map_gt b8 o 0 (by omega))) rfl ?_
  refine wl_val (c_u8_u32 ti125.und ⟨_, ti5.und⟩ rfl) rfl ?_
  refine wl_val (r_shl32 (s := 24) rfl rfl (by first | omega | (simp [*]; done) | (simp [*] <;> omega))) rfl ?_
  refine wl_val (r_ixA (m := 1) (sz := 1) ti132.und ti5 rfl rfl (by first | omega | (simp [*]; done) | (simp [*] <;> omega)) (Nat.zero_add _ |>.trans (Nat.mul_one _))) rfl ?_
  refine wl_val (r_loadB1 ti5.und rfl rfl (hS2.heap (.head _)) (map_gt b8 o 1 (by omega))) rfl ?_
  refine wl_val (c_u8_u32 ti125.und ⟨_, ti5.und⟩ rfl) rfl ?_
  refine wl_val (r_shl32 (s := 16) rfl rfl (by first | omega | (simp [*]; done) | (simp [*] <;> omega))) rfl ?_
  refine wl_val (r_or32 rfl rfl) rfl ?_
  refine wl_val (r_ixA (m := 2) (sz := 1) ti132.und ti5 rfl rfl (by first | omega | (simp [*]; done) | (simp [*] <;> omega)) (Nat.zero_add _ |>.trans (Nat.mul_one _))) rfl ?_
  refine wl_val (r_loadB1 ti5.und rfl rfl (hS2.heap (.head _)) (map_gt b8 o 2 (by omega))) rfl ?_
  refine wl_val (c_u8_u32 ti125.und ⟨_, ti5.und⟩ rfl) rfl ?_
  refine wl_val (r_shl32 (s := 8) rfl rfl (by first | omega | (simp [*]; done) | (simp [*] <;> omega))) rfl ?_
  refine wl_val (r_or32 rfl rfl) rfl ?_
  refine wl_val (r_ixA (m := 3) (sz := 1) ti132.und ti5 rfl rfl (by first | omega | (simp [*]; done) | (simp [*] <;> omega)) (Nat.zero_add _ |>.trans (Nat.mul_one _))) rfl ?_
  refine wl_val (r_loadB1 ti5.und rfl rfl (hS2.heap (.head _)) (map_gt b8 o 3 (by omega))) rfl ?_
  refine wl_val (c_u8_u32 ti125.und ⟨_, ti5.und⟩ rfl) rfl ?_
  refine wl_val (r_or32 rfl rfl) rfl ?_
  refine wl_val (r_assign (v := .int .u32 _) rfl) rfl ?_
  refine wl_nil ?_
  refine c_then ?_
  refine wp_ret ?_
  refine ret1 Try.results117 ?_
  exact ⟨rfl, hS2.fin⟩

theorem octets_ok (n : UInt32) (w : World) :
    Ret Try.prog 111 [v32 n] w (fun v w' => v = .agg ((octs n).map b8).toArray ∧ St w [] w' []) := by
  refine enter Try.func111 rfl Try.ntmps111 rfl ?_
  have hS := St.refl w []
  refine c_seq ?_
  refine c_region ?_
  refine wl_exv (x_alloc (C := ((List.replicate 4 (0 : UInt8)).map b8)) hS ti132 rfl) rfl ?_
  rintro _ w1 ⟨b2, rfl, hS2⟩
  refine wl_nil ?_
  refine c_then ?_
  refine c_seq ?_
  refine c_region ?_
  refine wl_val (r_move (v := .int .u32 _) rfl) rfl ?_
  refine wl_val (r_shr32 (s := 24) rfl rfl (by first | omega | (simp [*]; done) | (simp [*] <;> omega))) rfl ?_
  refine wl_val (c_u32_u8 ti5.und ⟨_, ti125.und⟩ rfl) rfl ?_
  refine wl_val (r_move (v := .int .u32 _) rfl) rfl ?_
  refine wl_val (r_shr32 (s := 16) rfl rfl (by first | omega | (simp [*]; done) | (simp [*] <;> omega))) rfl ?_
  refine wl_val (c_u32_u8 ti5.und ⟨_, ti125.und⟩ rfl) rfl ?_
  refine wl_val (r_move (v := .int .u32 _) rfl) rfl ?_
  refine wl_val (r_shr32 (s := 8) rfl rfl (by first | omega | (simp [*]; done) | (simp [*] <;> omega))) rfl ?_
  refine wl_val (c_u32_u8 ti5.und ⟨_, ti125.und⟩ rfl) rfl ?_
  refine wl_val (r_move (v := .int .u32 _) rfl) rfl ?_
  refine wl_val (c_u32_u8 ti5.und ⟨_, ti125.und⟩ rfl) rfl ?_
  refine wl_val (r_buildA (vs := [.int .u8 _, .int .u8 _, .int .u8 _, .int .u8 _]) ti132 ti5 rfl rfl rfl (by intro c hc; simp only [List.mem_cons, List.not_mem_nil, or_false] at hc; rcases hc with rfl | rfl | rfl | rfl <;> rfl)) rfl ?_
  refine wl_exs (x_storeW [] hS2 ti132 rfl rfl (by rfl) (by rfl) (one_b8 [_, _, _, _])) rfl ?_
  intro w3 hS4
  simp only [List.cons_append, List.nil_append] at hS4
  refine wl_nil ?_
  refine c_then ?_
  refine wp_ret ?_
  refine retc Try.results111 ⟨_, rfl, run_loadVar_blk ti132 rfl (hS4.heap (.head _)) (by rfl)⟩ ?_
  exact ⟨rfl, hS4.fin⟩

theorem rotl_ok (x : UInt32) (k : Nat) (w : World) (h0 : 0 < k) (h : k < 32) :
    Ret Try.prog 115 [v32 x, vi k] w (fun v w' => v = v32 (rotl x k) ∧ St w [] w' []) := by
  have h1 := and31 k h
  have h2 := sub31 k h
  refine enter Try.func115 rfl Try.ntmps115 rfl ?_
  have hS := St.refl w []
  refine c_seq ?_
  refine c_region ?_
  refine wl_val (r_assign (v := .int .u32 0) rfl) rfl ?_
  refine wl_nil ?_
  refine c_then ?_
  refine c_seq ?_
  refine c_region ?_
  refine wl_val (r_move (v := .int .i64 _) rfl) rfl ?_
  refine wl_val (c_i64_u64 ti88.und ⟨_, ti3.und⟩ rfl (by omega)) rfl ?_
  refine wl_val (r_and64 (b := 31) rfl rfl) rfl ?_
  refine wl_val (r_assign (v := .int .u64 _) rfl) rfl ?_
  refine wl_nil ?_
  refine c_then ?_
  refine c_seq ?_
  refine c_region ?_
  refine wl_val (r_move (v := .int .u32 _) rfl) rfl ?_
  refine wl_val (r_move (v := .int .u64 _) rfl) rfl ?_
  refine wl_val (r_shl32 rfl rfl (by rw [h1]; omega)) rfl ?_
  refine wl_val (r_move (v := .int .u32 _) rfl) rfl ?_
  refine wl_val (r_move (v := .int .u64 _) rfl) rfl ?_
  refine wl_val (r_sub64 (a := 32) rfl rfl) rfl ?_
  refine wl_val (r_shr32 rfl rfl (by rw [h2]; omega)) rfl ?_
  refine wl_val (r_or32 rfl rfl) rfl ?_
  refine wl_val (r_assign (v := .int .u32 _) rfl) rfl ?_
  refine wl_nil ?_
  refine c_then ?_
  refine wp_ret ?_
  refine ret1 Try.results115 ?_
  refine ⟨congrArg v32 ?_, hS.fin⟩
  rw [rotl, h1, h2]

theorem longOctets_ok (n : UInt64) (w : World) :
    Ret Try.prog 104 [v64 n] w (fun v w' => v = .agg ((octs8 n).map b8).toArray ∧ St w [] w' []) := by
  refine enter Try.func104 rfl Try.ntmps104 rfl ?_
  have hS := St.refl w []
  refine c_seq ?_
  refine c_region ?_
  refine wl_exv (x_alloc (C := ((List.replicate 8 (0 : UInt8)).map b8)) hS ti120 rfl) rfl ?_
  rintro _ w1 ⟨b2, rfl, hS2⟩
  refine wl_nil ?_
  refine c_then ?_
  refine c_seq ?_
  refine c_region ?_
  refine wl_val (r_move (v := .int .u64 _) rfl) rfl ?_
  refine wl_val (r_shr64 (s := 32) rfl rfl (by first | omega | (simp [*]; done) | (simp [*] <;> omega))) rfl ?_
  refine wl_val (c_u64_u32 ti125.und ⟨_, ti122.und⟩ rfl) rfl ?_
  refine wl_call (r_call fn111 rfl rfl) rfl (octets_ok _ _) ?_
  rintro _ w3 ⟨rfl, hx4⟩
  have hS5 := hS2.ext hx4
  refine wl_val (r_move (v := .int .u64 _) rfl) rfl ?_
  refine wl_val (c_u64_u32 ti125.und ⟨_, ti122.und⟩ rfl) rfl ?_
  refine wl_call (r_call fn111 rfl rfl) rfl (octets_ok _ _) ?_
  rintro _ w6 ⟨rfl, hx7⟩
  have hS8 := hS5.ext hx7
  refine wl_exv (x_alloc (C := ((List.replicate 4 (0 : UInt8)).map b8)) hS8 ti132 rfl) rfl ?_
  rintro _ w9 ⟨b3, rfl, hS10⟩
  refine wl_exv (x_alloc (C := ((List.replicate 4 (0 : UInt8)).map b8)) hS10 ti132 rfl) rfl ?_
  rintro _ w11 ⟨b4, rfl, hS12⟩
  refine wl_exs (x_storeW [_] hS12 ti132 rfl rfl (by first | (simp [*]; done) | (simp [*] <;> omega) | omega) (by first | (simp [*]; done) | (simp [*] <;> omega) | omega) (by repeat' first | exact one_nil | exact one_b8 _ | exact one_v32 _ | exact one_all rfl | refine one_cons rfl ?_ | refine one_app ?_ ?_)) rfl ?_
  intro w13 hS14
  simp only [List.cons_append, List.nil_append] at hS14
  refine wl_exs (x_storeW [] hS14 ti132 rfl rfl (by first | (simp [*]; done) | (simp [*] <;> omega) | omega) (by first | (simp [*]; done) | (simp [*] <;> omega) | omega) (by repeat' first | exact one_nil | exact one_b8 _ | exact one_v32 _ | exact one_all rfl | refine one_cons rfl ?_ | refine one_app ?_ ?_)) rfl ?_
  intro w15 hS16
  simp only [List.cons_append, List.nil_append] at hS16
  refine wl_nil ?_
  refine c_then ?_
  refine c_seq ?_
  refine c_region ?_
  refine wl_val (r_ixA (m := 0) (sz := 1) ti132.und ti5 rfl rfl (by first | omega | (simp [*]; done) | (simp [*] <;> omega)) (Nat.zero_add _ |>.trans (Nat.mul_one _))) rfl ?_
  refine wl_val (r_loadB1 ti5.und rfl rfl (hS16.heap (.tail _ (.head _))) rfl) rfl ?_
  refine wl_val (r_ixA (m := 1) (sz := 1) ti132.und ti5 rfl rfl (by first | omega | (simp [*]; done) | (simp [*] <;> omega)) (Nat.zero_add _ |>.trans (Nat.mul_one _))) rfl ?_
  refine wl_val (r_loadB1 ti5.und rfl rfl (hS16.heap (.tail _ (.head _))) rfl) rfl ?_
  refine wl_val (r_ixA (m := 2) (sz := 1) ti132.und ti5 rfl rfl (by first | omega | (simp [*]; done) | (simp [*] <;> omega)) (Nat.zero_add _ |>.trans (Nat.mul_one _))) rfl ?_
  refine wl_val (r_loadB1 ti5.und rfl rfl (hS16.heap (.tail _ (.head _))) rfl) rfl ?_
  refine wl_val (r_ixA (m := 3) (sz := 1) ti132.und ti5 rfl rfl (by first | omega | (simp [*]; done) | (simp [*] <;> omega)) (Nat.zero_add _ |>.trans (Nat.mul_one _))) rfl ?_
  refine wl_val (r_loadB1 ti5.und rfl rfl (hS16.heap (.tail _ (.head _))) rfl) rfl ?_
  refine wl_val (r_ixA (m := 0) (sz := 1) ti132.und ti5 rfl rfl (by first | omega | (simp [*]; done) | (simp [*] <;> omega)) (Nat.zero_add _ |>.trans (Nat.mul_one _))) rfl ?_
  refine wl_val (r_loadB1 ti5.und rfl rfl (hS16.heap (.head _)) rfl) rfl ?_
  refine wl_val (r_ixA (m := 1) (sz := 1) ti132.und ti5 rfl rfl (by first | omega | (simp [*]; done) | (simp [*] <;> omega)) (Nat.zero_add _ |>.trans (Nat.mul_one _))) rfl ?_
  refine wl_val (r_loadB1 ti5.und rfl rfl (hS16.heap (.head _)) rfl) rfl ?_
  refine wl_val (r_ixA (m := 2) (sz := 1) ti132.und ti5 rfl rfl (by first | omega | (simp [*]; done) | (simp [*] <;> omega)) (Nat.zero_add _ |>.trans (Nat.mul_one _))) rfl ?_
  refine wl_val (r_loadB1 ti5.und rfl rfl (hS16.heap (.head _)) rfl) rfl ?_
  refine wl_val (r_ixA (m := 3) (sz := 1) ti132.und ti5 rfl rfl (by first | omega | (simp [*]; done) | (simp [*] <;> omega)) (Nat.zero_add _ |>.trans (Nat.mul_one _))) rfl ?_
  refine wl_val (r_loadB1 ti5.und rfl rfl (hS16.heap (.head _)) rfl) rfl ?_
  refine wl_val (r_buildA (vs := [.int .u8 _, .int .u8 _, .int .u8 _, .int .u8 _, .int .u8 _, .int .u8 _, .int .u8 _, .int .u8 _]) ti120 ti5 rfl rfl rfl (by intro c hc; simp only [List.mem_cons, List.not_mem_nil, or_false] at hc; rcases hc with rfl | rfl | rfl | rfl | rfl | rfl | rfl | rfl <;> rfl)) rfl ?_
  refine wl_exs (x_storeW [_, _] hS16 ti120 rfl rfl (by rfl) (by simp) (one_b8 [_, _, _, _, _, _, _, _])) rfl ?_
  intro w17 hS18
  simp only [List.cons_append, List.nil_append] at hS18
  refine wl_nil ?_
  refine c_then ?_
  refine wp_ret ?_
  refine retc Try.results104 ⟨_, rfl, run_loadVar_blk ti120 rfl (hS18.heap (.tail _ (.tail _ (.head _)))) (by rfl)⟩ ?_
  exact ⟨rfl, hS18.fin⟩

theorem turn_ok (ws : List UInt32) (b r i : Nat) (w : World) (hw : ws.length = 16) (hb : At w b 0 (ws.map v32)) (hr : r < 8) (hi : i < 16) :
    Ret Try.prog 114 [pt b 0, vi r, vi i] w (fun v w' => v = v32 (turnW ws r i) ∧ St w [] w' []) := by
  refine enter Try.func114 rfl Try.ntmps114 rfl ?_
  have hS := St.refl w []
  refine c_seq ?_
  refine c_region ?_
  refine wl_val (r_assign (v := .int .u32 0) rfl) rfl ?_
  refine wl_nil ?_
  refine c_then ?_
  refine c_seq ?_
  refine c_region ?_
  refine wl_val (r_move (v := .pointer _) rfl) rfl ?_
  refine wl_val (r_move (v := .int .i64 _) rfl) rfl ?_
  refine wl_val (r_addn (b := 1) rfl rfl (by omega)) rfl ?_
  refine wl_val (r_move (v := .int .i64 _) rfl) rfl ?_
  refine wl_val (r_addn rfl rfl (by omega)) rfl ?_
  refine wl_val (r_remn (b := 16) rfl rfl (by omega)) rfl ?_
  refine wl_val (r_nilCheck rfl) rfl ?_
  refine wl_val (r_ixA (sz := 1) ti126.und ti125 rfl rfl (by first | omega | (simp [*]; done) | (simp [*] <;> omega)) (Nat.zero_add _ |>.trans (Nat.mul_one _))) rfl ?_
  refine wl_val (r_loadAt1 ti125.und rfl rfl (hb.st hS) (map_gt _ _ _ (by first | omega | (simp [*]; done) | (simp [*] <;> omega))) (Nat.zero_add _)) rfl ?_
  refine wl_val (r_move (v := .int .i64 _) rfl) rfl ?_
  refine wl_val (r_addn (a := 5) rfl rfl (by omega)) rfl ?_
  refine wl_call (r_call fn115 rfl rfl) rfl (rotl_ok _ _ _ (by first | omega | (simp [*]; done) | (simp [*] <;> omega)) (by first | omega | (simp [*]; done) | (simp [*] <;> omega))) ?_
  rintro _ w1 ⟨rfl, hx2⟩
  have hS3 := hS.ext hx2
  refine wl_val (r_move (v := .int .i64 _) rfl) rfl ?_
  refine wl_val (r_muln (a := 16) rfl rfl (by omega)) rfl ?_
  refine wl_val (r_move (v := .int .i64 _) rfl) rfl ?_
  refine wl_val (r_addn rfl rfl (by omega)) rfl ?_
  refine wl_val (r_addn (b := 1) rfl rfl (by omega)) rfl ?_
  refine wl_val (c_i64_u64 ti122.und ⟨_, ti3.und⟩ rfl (by omega)) rfl ?_
  refine wl_val (r_mul64 (a := 2654435769) rfl rfl) rfl ?_
  refine wl_val (c_u64_u32 ti125.und ⟨_, ti122.und⟩ rfl) rfl ?_
  refine wl_val (r_xor32 rfl rfl) rfl ?_
  refine wl_val (r_assign (v := .int .u32 _) rfl) rfl ?_
  refine wl_nil ?_
  refine c_then ?_
  refine wp_ret ?_
  refine ret1 Try.results114 ?_
  exact ⟨rfl, hS3.fin⟩

theorem wordsOf_ok (s : List UInt8) (w : World) (hs : s.length = 64) :
    Ret Try.prog 113 [.agg (s.map b8).toArray] w (fun v w' => v = .agg ((wordsL s).map v32).toArray ∧ St w [] w' []) := by
  refine enter Try.func113 rfl Try.ntmps113 rfl ?_
  have hS := St.refl w []
  refine c_seq ?_
  refine c_region ?_
  refine wl_exv (x_box hS (v := .agg _) rfl rfl) rfl ?_
  rintro _ w1 ⟨b1, rfl, hS2⟩
  refine wl_exv (x_alloc (C := ((List.replicate 16 (0 : UInt32)).map v32)) hS2 ti126 rfl) rfl ?_
  rintro _ w3 ⟨b2, rfl, hS4⟩
  refine wl_nil ?_
  refine c_then ?_
  refine c_seq ?_
  refine c_region ?_
  refine wl_exv (x_alloc (C := ((List.replicate 16 (0 : UInt32)).map v32)) hS4 ti126 rfl) rfl ?_
  rintro _ w5 ⟨b3, rfl, hS6⟩
  refine wl_nil ?_
  refine c_then ?_
  refine c_seq ?_
  refine c_seq ?_
  refine c_region ?_
  refine wl_val (r_move (v := .int .i64 0) rfl) rfl ?_
  refine wl_nil ?_
  refine c_then ?_
  refine c_block ?_
  refine c_loopE [1, 2, 3] (fun d e w' => ∃ (k : Nat), Kw.look e 5 = vi k ∧ d = 16 - k ∧ St w [] w' [.blk b3 (cl ((upto 16 (wordsF s) 0 k).map v32) 126), .blk b2 (cl ((List.replicate 16 (0 : UInt32)).map v32) 126), .blk b1 (cl (s.map b8) 98)] ∧ (k ≤ 16)) (16) ?_ ?_
  · exact ⟨0, rfl, rfl, by rw [upto_zero]; exact hS6, by omega⟩
  · rintro d10 e7 w8 ⟨k, hc0_5, rfl, hS9, hI0_0⟩ -
    refine c_set (d := 5) hc0_5 ?_
    refine c_seq ?_
    refine c_region ?_
    refine wl_dec (r_lss rfl rfl) rfl (fun h3_0 => ?_) (fun h3_0 => ?_)
    · refine wl_nil ?_
      refine c_then ?_
      refine c_seq ?_
      refine c_true rfl ?_
      refine wp_skip ?_
      refine c_then ?_
      refine c_seq ?_
      refine c_block ?_
      refine c_seq ?_
      refine c_region ?_
      refine wl_val (r_move (v := .int .i64 _) rfl) rfl ?_
      refine wl_val (r_assign (v := .int .i64 _) rfl) rfl ?_
      refine wl_nil ?_
      refine c_then ?_
      refine c_region ?_
      refine wl_val (r_move (v := .int .i64 _) rfl) rfl ?_
      refine wl_val (r_move (v := .int .i64 _) rfl) rfl ?_
      refine wl_val (r_muln (a := 4) rfl rfl (by omega)) rfl ?_
      refine wl_val (r_move (v := .int .i64 _) rfl) rfl ?_
      refine wl_val (r_muln (a := 4) rfl rfl (by omega)) rfl ?_
      refine wl_val (r_addn (b := 4) rfl rfl (by omega)) rfl ?_
      refine wl_val (r_sa1_lh ti98.und ti5 rfl rfl rfl (by omega) (by omega) (by omega)) rfl ?_
      refine wl_val (r_s2a ti132.und rfl (by omega)) rfl ?_
      refine wl_val (r_loadBPm ti132 rfl rfl (hS9.heap (.tail _ (.tail _ (.head _)))) (by first | (simp [*]; done) | (simp [*] <;> omega) | omega)) rfl ?_
      refine wl_call (r_call fn117 rfl rfl) rfl (word_ok _ _ (by first | (simp [*]; done) | (simp [*] <;> omega) | omega)) ?_
      rintro _ w11 ⟨rfl, hx12⟩
      have hS13 := hS9.ext hx12
      refine wl_val (r_ixA (sz := 1) ti126.und ti125 rfl rfl (by first | omega | (simp [*]; done) | (simp [*] <;> omega)) (Nat.zero_add _ |>.trans (Nat.mul_one _))) rfl ?_
      refine wl_exs (x_store1m [] hS13 ti125 rfl rfl rfl (by first | omega | (simp [*]; done) | (simp [*] <;> omega))) rfl ?_
      intro w14 hS15
      simp only [List.cons_append, List.nil_append] at hS15
      refine wl_nil ?_
      refine c_inN ?_
      refine c_then ?_
      refine c_region ?_
      refine wl_val (r_addn (b := 1) rfl rfl (by omega)) rfl ?_
      refine wl_val (r_move (v := .int .i64 _) rfl) rfl ?_
      refine wl_nil ?_
      refine c_then ?_
      refine ⟨16 - (k + 1), _, by omega, rfl, ⟨k + 1, rfl, rfl, ?_, by omega⟩, ⟨rfl, rfl, rfl, trivial⟩⟩
      rw [← upto_set _ _ _ _ (by omega)]
      exact hS15
    refine wl_nil ?_
    refine c_then ?_
    refine c_seq ?_
    refine c_false rfl ?_
    refine wp_exit ?_
    refine c_thenE ?_
    refine c_thenE ?_
    refine c_inE ?_
    refine c_then ?_
    refine c_seq ?_
    refine c_region ?_
    refine wl_val (r_loadB ti126 rfl rfl (hS9.heap (.head _)) (by first | (simp [*]; done) | (simp [*] <;> omega) | omega)) rfl ?_
    refine wl_exs (x_storeW [_] hS9 ti126 rfl rfl (by first | (simp [*]; done) | (simp [*] <;> omega) | omega) (by first | (simp [*]; done) | (simp [*] <;> omega) | omega) (by repeat' first | exact one_nil | exact one_b8 _ | exact one_v32 _ | exact one_all rfl | refine one_cons rfl ?_ | refine one_app ?_ ?_)) rfl ?_
    intro w16 hS17
    simp only [List.cons_append, List.nil_append] at hS17
    refine wl_nil ?_
    refine c_then ?_
    refine wp_ret ?_
    refine retc Try.results113 ⟨_, rfl, run_loadVar_blk ti126 rfl (hS17.heap (.tail _ (.head _))) (by first | (simp [*]; done) | (simp [*] <;> omega) | omega)⟩ ?_
    obtain rfl : k = 16 := by omega
    exact ⟨by rw [upto_full]; rfl, hS17.fin⟩

theorem stateOf_ok (ws : List UInt32) (w : World) (hw : ws.length = 16) :
    Ret Try.prog 116 [.agg (ws.map v32).toArray] w (fun v w' => v = .agg ((stateL ws).map b8).toArray ∧ St w [] w' []) := by
  refine enter Try.func116 rfl Try.ntmps116 rfl ?_
  have hS := St.refl w []
  refine c_seq ?_
  refine c_region ?_
  refine wl_exv (x_box hS (v := .agg _) rfl rfl) rfl ?_
  rintro _ w1 ⟨b1, rfl, hS2⟩
  refine wl_exv (x_alloc (C := ((List.replicate 64 (0 : UInt8)).map b8)) hS2 ti98 rfl) rfl ?_
  rintro _ w3 ⟨b2, rfl, hS4⟩
  refine wl_nil ?_
  refine c_then ?_
  refine c_seq ?_
  refine c_region ?_
  refine wl_exv (x_alloc (C := ((List.replicate 64 (0 : UInt8)).map b8)) hS4 ti98 rfl) rfl ?_
  rintro _ w5 ⟨b3, rfl, hS6⟩
  refine wl_nil ?_
  refine c_then ?_
  refine c_seq ?_
  refine c_seq ?_
  refine c_region ?_
  refine wl_val (r_loadB ti126 rfl rfl (hS6.heap (.tail _ (.tail _ (.head _)))) (by first | (simp [*]; done) | (simp [*] <;> omega) | omega)) rfl ?_
  refine wl_val (r_move (v := .int .i64 0) rfl) rfl ?_
  refine wl_nil ?_
  refine c_then ?_
  refine c_block ?_
  refine c_loopE [2, 3, 7] (fun d e w' => ∃ (k : Nat), Kw.look e 8 = vi k ∧ d = 16 - k ∧ St w [] w' [.blk b3 (cl ((stateTo ws k).map b8) 98), .blk b2 (cl ((List.replicate 64 (0 : UInt8)).map b8) 98), .blk b1 (cl (ws.map v32) 126)] ∧ (k ≤ 16)) (16) ?_ ?_
  · exact ⟨0, rfl, rfl, by rw [stateTo_zero]; exact hS6, by omega⟩
  · rintro d10 e7 w8 ⟨k, hc0_8, rfl, hS9, hI0_0⟩ -
    refine c_set (d := 8) hc0_8 ?_
    refine c_seq ?_
    refine c_region ?_
    refine wl_dec (r_lss rfl rfl) rfl (fun h3_0 => ?_) (fun h3_0 => ?_)
    · refine wl_nil ?_
      refine c_then ?_
      refine c_seq ?_
      refine c_true rfl ?_
      refine wp_skip ?_
      refine c_then ?_
      refine c_seq ?_
      refine c_block ?_
      refine c_seq ?_
      refine c_region ?_
      refine wl_val (r_move (v := .int .i64 _) rfl) rfl ?_
      refine wl_val (r_index1 ti126.und ti125 rfl rfl rfl (by first | omega | (simp [*]; done) | (simp [*] <;> omega)) (map_gt _ _ _ (by first | omega | (simp [*]; done) | (simp [*] <;> omega)))) rfl ?_
      refine wl_val (r_assign (v := .int .i64 _) rfl) rfl ?_
      refine wl_val (r_assign (v := .int .u32 _) rfl) rfl ?_
      refine wl_nil ?_
      refine c_then ?_
      refine c_seq ?_
      refine c_region ?_
      refine wl_val (r_move (v := .int .u32 _) rfl) rfl ?_
      refine wl_call (r_call fn111 rfl rfl) rfl (octets_ok _ _) ?_
      rintro _ w11 ⟨rfl, hx12⟩
      have hS13 := hS9.ext hx12
      refine wl_exv (x_alloc (C := ((List.replicate 4 (0 : UInt8)).map b8)) hS13 ti132 rfl) rfl ?_
      rintro _ w14 ⟨b6, rfl, hS15⟩
      refine wl_exs (x_storeW [] hS15 ti132 rfl rfl (by first | (simp [*]; done) | (simp [*] <;> omega) | omega) (by first | (simp [*]; done) | (simp [*] <;> omega) | omega) (by repeat' first | exact one_nil | exact one_b8 _ | exact one_v32 _ | exact one_all rfl | refine one_cons rfl ?_ | refine one_app ?_ ?_)) rfl ?_
      intro w16 hS17
      simp only [List.cons_append, List.nil_append] at hS17
      refine wl_nil ?_
      refine c_then ?_
      refine c_drawS 4 hMixed hS17 ?_
      intro w18 hS19
      refine g_take 0 rfl (by decide +kernel) rfl (fun _ _ _ h => h) hS19 (fun wF hF => r_move (v := .int .i64 _) rfl) ?_
      refine g_take 1 rfl (by decide +kernel) rfl (fun _ _ _ h => h) hS19 (fun wF hF => r_muln (a := 4) rfl rfl (by omega)) ?_
      refine g_take 2 rfl (by decide +kernel) rfl (fun _ _ _ h => h) hS19 (fun wF hF => r_sa1_l ti98.und ti5 rfl rfl (by omega)) ?_
      refine g_take 3 rfl (by decide +kernel) rfl (fun _ _ _ h => h) hS19 (fun wF hF => r_sa1_0 ti132.und ti5 rfl ) ?_
      refine g_tail (by decide +kernel) rfl (by decide +kernel) ?_
      refine wl_exv (x_copym [_] hS19 ti65.und ti5 rfl rfl (Row.of_at (at_all (hS19.heap (.head _)))) (by first | (simp [*]; done) | (simp [*] <;> omega) | omega) (by first | omega | (simp [*]; done) | (simp [*] <;> omega)) (by first | (simp [*]; done) | (simp [*] <;> omega) | omega) (fun _ => rfl) _ rfl) rfl ?_
      rintro _ w20 ⟨rfl, hS21⟩
      simp only [List.cons_append, List.nil_append] at hS21
      refine wl_nil ?_
      refine c_inN ?_
      refine c_then ?_
      refine c_region ?_
      refine wl_val (r_addn (b := 1) rfl rfl (by omega)) rfl ?_
      refine wl_val (r_move (v := .int .i64 _) rfl) rfl ?_
      refine wl_nil ?_
      refine c_then ?_
      refine ⟨16 - (k + 1), _, by omega, rfl, ⟨k + 1, rfl, rfl, ?_, by omega⟩, ⟨rfl, rfl, rfl, trivial⟩⟩
      rw [← stateTo_step _ _ (by omega)]
      exact hS21.sub (List.sublist_cons_self _ _)
    refine wl_nil ?_
    refine c_then ?_
    refine c_seq ?_
    refine c_false rfl ?_
    refine wp_exit ?_
    refine c_thenE ?_
    refine c_thenE ?_
    refine c_inE ?_
    refine c_then ?_
    refine c_seq ?_
    refine c_region ?_
    refine wl_val (r_loadB ti98 rfl rfl (hS9.heap (.head _)) (by first | (simp [*]; done) | (simp [*] <;> omega) | omega)) rfl ?_
    refine wl_exs (x_storeW [_] hS9 ti98 rfl rfl (by first | (simp [*]; done) | (simp [*] <;> omega) | omega) (by first | (simp [*]; done) | (simp [*] <;> omega) | omega) (by repeat' first | exact one_nil | exact one_b8 _ | exact one_v32 _ | exact one_all rfl | refine one_cons rfl ?_ | refine one_app ?_ ?_)) rfl ?_
    intro w22 hS23
    simp only [List.cons_append, List.nil_append] at hS23
    refine wl_nil ?_
    refine c_then ?_
    refine wp_ret ?_
    refine retc Try.results116 ⟨_, rfl, run_loadVar_blk ti98 rfl (hS23.heap (.tail _ (.head _))) (by first | (simp [*]; done) | (simp [*] <;> omega) | omega)⟩ ?_
    obtain rfl : k = 16 := by omega
    exact ⟨by rw [stateTo_full], hS23.fin⟩

theorem hex_ok (bs : List UInt8) (a : Option Addr) (c : Nat) (w : World) (hb : Row w a (bs.map b8)) (hl : 2 * bs.length ≤ 140737488355328) :
    Ret Try.prog 26 [.slice a bs.length c] w (fun v w' => v = .string ⟨(hexL bs).toArray⟩ ∧ St w [] w' []) := by
  refine enter Try.func26 rfl Try.ntmps26 rfl ?_
  have hS := St.refl w []
  refine c_seq ?_
  refine c_region ?_
  refine wl_val (r_assign (v := .string ⟨#[]⟩) rfl) rfl ?_
  refine wl_nil ?_
  refine c_then ?_
  refine c_seq ?_
  refine c_region ?_
  refine wl_val (r_move (v := .slice _ _ _) rfl) rfl ?_
  refine wl_val (r_len (T := 65) rfl ti65.und rfl _ rfl) rfl ?_
  refine wl_val (r_muln (a := 2) rfl rfl (by omega)) rfl ?_
  refine wl_exv (x_make_row hS ti65.und ti5 rfl rfl (by first | omega | (simp [*]; done) | (simp [*] <;> omega)) (by first | omega | (simp [*]; done) | (simp [*] <;> omega))) rfl ?_
  rintro _ w1 ⟨a9, rfl, hS2⟩
  refine wl_val (r_assign (v := .slice _ _ _) rfl) rfl ?_
  refine wl_nil ?_
  refine c_then ?_
  refine c_seq ?_
  refine c_seq ?_
  refine c_region ?_
  refine wl_val (r_move (v := .slice _ _ _) rfl) rfl ?_
  refine wl_val (r_len (T := 65) rfl ti65.und rfl _ rfl) rfl ?_
  refine wl_val (r_move (v := .int .i64 0) rfl) rfl ?_
  refine wl_nil ?_
  refine c_then ?_
  refine c_block ?_
  refine c_loopE [2, 10, 11] (fun d e w' => ∃ (k : Nat) (a3 : Option Addr) (c3 : Nat), Kw.look e 12 = vi k ∧ Kw.look e 3 = .slice a3 (2 * k) c3 ∧ d = bs.length - k ∧ St w [] w' [.row (.slice a3 (2 * k) c3) 5 1 (2 * k) ((hexL (bs.take k)).map b8)] ∧ (k ≤ bs.length)) (bs.length - 0) ?_ ?_
  · exact ⟨0, _, _, rfl, rfl, rfl, by simpa [hexL] using hS2, by omega⟩
  · rintro d6 e3 w4 ⟨k, a3, c3, hc0_12, hc0_3, rfl, hS5, hI0_0⟩ -
    refine c_set (d := 12) hc0_12 ?_
    refine c_set (d := 3) hc0_3 ?_
    refine c_seq ?_
    refine c_region ?_
    refine wl_dec (r_lss rfl rfl) rfl (fun h3_0 => ?_) (fun h3_0 => ?_)
    · refine wl_nil ?_
      refine c_then ?_
      refine c_seq ?_
      refine c_true rfl ?_
      refine wp_skip ?_
      refine c_then ?_
      refine c_seq ?_
      refine c_block ?_
      refine c_seq ?_
      refine c_region ?_
      refine wl_val (r_ixS ti65.und ti5 rfl rfl (hb.st hS5) (by first | omega | (simp [*]; done) | (simp [*] <;> omega)) (by first | (simp [*]; done) | (simp [*] <;> omega) | omega)) rfl ?_
      refine wl_val (r_loadS1 ti5.und rfl rfl (hb.st hS5) (by rw [Nat.mul_one]; exact map_gt _ _ _ (by first | omega | (simp [*]; done) | (simp [*] <;> omega)))) rfl ?_
      refine wl_val (r_assign (v := .int .u8 _) rfl) rfl ?_
      refine wl_nil ?_
      refine c_then ?_
      refine c_drawS 8 hMixed hS5 ?_
      intro w7 hS8
      refine g_take 0 rfl (by decide +kernel) rfl (fun _ _ _ h => h) hS8 (fun wF hF => r_move (v := .slice _ _ _) rfl) ?_
      refine g_take 1 rfl (by decide +kernel) rfl (fun _ _ _ h => h) hS8 (fun wF hF => r_move (v := .int .u8 _) rfl) ?_
      refine g_take 2 rfl (by decide +kernel) rfl (fun _ _ _ h => h) hS8 (fun wF hF => r_shr8 (s := 4) rfl rfl (by first | omega | (simp [*]; done) | (simp [*] <;> omega))) ?_
      refine g_take 3 rfl (by decide +kernel) rfl (fun _ _ _ h => h) hS8 (fun wF hF => r_indexStr (s := ⟨hexDs.toArray⟩) ti9.und rfl rfl (get_gt hexDs _ (shr4_lt _))) ?_
      refine g_take 4 rfl (by decide +kernel) rfl (fun _ _ _ h => h) hS8 (fun wF hF => r_move (v := .int .u8 _) rfl) ?_
      refine g_take 5 rfl (by decide +kernel) rfl (fun _ _ _ h => h) hS8 (fun wF hF => r_and8 (b := 15) rfl rfl) ?_
      refine g_take 6 rfl (by decide +kernel) rfl (fun _ _ _ h => h) hS8 (fun wF hF => r_indexStr (s := ⟨hexDs.toArray⟩) ti9.und rfl rfl (get_gt hexDs _ (and15_lt _))) ?_
      refine g_one 7 (by decide +kernel) (by decide +kernel) ?_
      refine o_exv rfl (x_lit (vs := ((hexd (gt bs k)).map b8)) hS8 ti65.und ti5 rfl rfl rfl (by repeat' first | exact one_nil | exact one_b8 _ | exact one_v32 _ | exact one_all rfl | refine one_cons rfl ?_ | refine one_app ?_ ?_) (by decide)) rfl ?_
      rintro _ w9 ⟨b23, rfl, hS10⟩
      refine ⟨hS10.drop1, ?_⟩
      refine g_tail (by decide +kernel) rfl (by decide +kernel) ?_
      refine wl_exv (x_append [_] hS10 ti65.und ti5 rfl (by decide) rfl rfl (Row.of_at (at_all (hS10.heap (.head _)))) (by first | (simp [*]; done) | (simp [*] <;> omega) | omega) (by first | exact one_b8 _ | exact one_v32 _ | (intro c hc; simp only [List.mem_cons, List.not_mem_nil, or_false] at hc; (first | subst hc | rcases hc with rfl | rfl) <;> rfl)) (by first | omega | (simp [*]; done) | (simp [*] <;> omega)) (by first | omega | (simp [*]; done) | (simp [*] <;> omega)) _ rfl) rfl ?_
      rintro _ w11 ⟨aq13, cq13, rfl, hcq13, hS12⟩
      simp only [List.cons_append, List.nil_append] at hS12
      refine wl_val (r_assign (v := .slice _ _ _) rfl) rfl ?_
      refine wl_nil ?_
      refine c_inN ?_
      refine c_then ?_
      refine c_region ?_
      refine wl_val (r_addn (b := 1) rfl rfl (by omega)) rfl ?_
      refine wl_val (r_move (v := .int .i64 _) rfl) rfl ?_
      refine wl_nil ?_
      refine c_then ?_
      refine ⟨bs.length - (k + 1), _, by omega, rfl, ⟨k + 1, _, _, rfl, rfl, rfl, ?_, by omega⟩, ⟨rfl, rfl, rfl, trivial⟩⟩
      rw [hexL_step _ _ (by omega), List.map_append]
      exact hS12.drop1
    refine wl_nil ?_
    refine c_then ?_
    refine c_seq ?_
    refine c_false rfl ?_
    refine wp_exit ?_
    refine c_thenE ?_
    refine c_thenE ?_
    refine c_inE ?_
    refine c_then ?_
    refine c_seq ?_
    refine c_region ?_
    refine wl_val (r_move (v := .slice _ _ _) rfl) rfl ?_
    refine wl_val (r_bytesToStr ti9.und ti65.und ti5.und rfl (St.rowAt hS5 (.head _)) (by first | (simp [*]; done) | (simp [*] <;> omega) | omega)) rfl ?_
    refine wl_val (r_assign (v := .string _) rfl) rfl ?_
    refine wl_nil ?_
    refine c_then ?_
    refine wp_ret ?_
    refine ret1 Try.results26 ?_
    obtain rfl : k = bs.length := by omega
    exact ⟨by rw [List.take_length]; rfl, hS5.fin⟩

theorem landed_ok (w : World) :
    Ret Try.prog 7 [] w (fun v w' => v = .bool true ∧ St w [] w' []) := by
  refine enter Try.func7 rfl Try.ntmps7 rfl ?_
  have hS := St.refl w []
  refine c_seq ?_
  refine c_region ?_
  refine wl_val (r_assign (v := .bool false) rfl) rfl ?_
  refine wl_nil ?_
  refine c_then ?_
  refine c_seq ?_
  refine c_region ?_
  refine wl_exv (x_lit (vs := (([1] : List UInt8).map b8)) hS ti65.und ti5 rfl rfl rfl (by repeat' first | exact one_nil | exact one_b8 _ | exact one_v32 _ | exact one_all rfl | refine one_cons rfl ?_ | refine one_app ?_ ?_) (by decide)) rfl ?_
  rintro _ w1 ⟨b1, rfl, hS2⟩
  refine wl_call (r_call fn26 rfl rfl) rfl (hex_ok [1] _ _ _ (Row.of_at (at_all (hS2.heap (.head _)))) (by decide)) ?_
  rintro _ w3 ⟨rfl, hx4⟩
  have hS5 := hS2.ext hx4
  refine wl_dec_t (r_eqlStr rfl rfl) rfl (by decide) ?_
  refine wl_val (r_assign (v := .bool _) rfl) rfl ?_
  refine wl_nil ?_
  refine c_then ?_
  refine wp_ret ?_
  refine ret1 Try.results7 ?_
  exact ⟨rfl, hS5.fin⟩

end Go.Proofs.Ytafdmlpfgpaicaa
