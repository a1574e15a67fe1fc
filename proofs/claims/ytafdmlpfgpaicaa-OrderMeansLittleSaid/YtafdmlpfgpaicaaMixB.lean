/- The stirring, the program's and the reference's. No condition. -/
import Derived.Test.YtafdmlpfgpaicaaFacts
import Derived.Test.YtafdmlpfgpaicaaMixA
namespace Go.Proofs.Ytafdmlpfgpaicaa
open Go.Kw
set_option linter.unusedVariables false
set_option linter.unusedSimpArgs false
set_option maxRecDepth 100000
theorem stir_ok (s : List UInt8) (w : World) (hs : s.length = 64) :
    Ret Try.prog 112 [.agg (s.map b8).toArray] w (fun v w' => v = .agg ((stirL s).map b8).toArray ∧ St w [] w' []) := by
  refine enter Try.func112 rfl Try.ntmps112 rfl ?_
  have hS := St.refl w []
  refine c_seq ?_
  refine c_region ?_
  refine wl_exv (x_box hS (v := .agg _) rfl rfl) rfl ?_
  rintro _ w1 ⟨b1, rfl, hS2⟩
  refine wl_exv (x_alloc (C := ((List.replicate 64 (0 : UInt8)).map b8)) hS2 ti98 rfl) rfl ?_
  rintro _ w3 ⟨b2, rfl, hS4⟩
  refine wl_nil ?_
  refine c_then ?_
  refine c_seq ?_
  refine c_region ?_
  refine wl_val (r_loadB ti98 rfl rfl (hS4.heap (.tail _ (.head _))) (by first | (simp [*]; done) | (simp [*] <;> omega) | omega)) rfl ?_
  refine wl_call (r_call fn113 rfl rfl) rfl (wordsOf_ok _ _ (by first | (simp [*]; done) | (simp [*] <;> omega) | omega)) ?_
  rintro _ w5 ⟨rfl, hx6⟩
  have hS7 := hS4.ext hx6
  refine wl_exv (x_alloc (C := ((List.replicate 16 (0 : UInt32)).map v32)) hS7 ti126 rfl) rfl ?_
  rintro _ w8 ⟨b3, rfl, hS9⟩
  refine wl_exs (x_storeW [] hS9 ti126 rfl rfl (by first | (simp [*]; done) | (simp [*] <;> omega) | omega) (by first | (simp [*]; done) | (simp [*] <;> omega) | omega) (by repeat' first | exact one_nil | exact one_b8 _ | exact one_v32 _ | exact one_all rfl | refine one_cons rfl ?_ | refine one_app ?_ ?_)) rfl ?_
  intro w10 hS11
  simp only [List.cons_append, List.nil_append] at hS11
  refine wl_nil ?_
  refine c_then ?_
  refine c_seq ?_
  refine c_seq ?_
  refine c_region ?_
  refine wl_val (r_move (v := .int .i64 0) rfl) rfl ?_
  refine wl_nil ?_
  refine c_then ?_
  refine c_block ?_
  refine c_loopE [2, 3] (fun d e w' => ∃ (r : Nat), Kw.look e 8 = vi r ∧ d = 8 - r ∧ St w [] w' [.blk b3 (cl ((stirOut (wordsL s) r).map v32) 126), .blk b2 (cl ((List.replicate 64 (0 : UInt8)).map b8) 98), .blk b1 (cl (s.map b8) 98)] ∧ (r ≤ 8)) (8) ?_ ?_
  · exact ⟨0, rfl, rfl, hS11, by omega⟩
  · rintro d15 e12 w13 ⟨r, hc0_8, rfl, hS14, hI0_0⟩ -
    refine c_set (d := 8) hc0_8 ?_
    refine c_seq ?_
    refine c_region ?_
    refine wl_dec (r_lss rfl rfl) rfl (fun h3_0 => ?_) (fun h3_0 => ?_)
    · refine wl_nil ?_
      refine c_then ?_
      refine c_seq ?_
      refine c_true rfl ?_
      refine wp_skip ?_
      refine c_then ?_
      refine c_seq ?_
      refine c_block ?_
      refine c_seq ?_
      refine c_region ?_
      refine wl_val (r_move (v := .int .i64 _) rfl) rfl ?_
      refine wl_val (r_assign (v := .int .i64 _) rfl) rfl ?_
      refine wl_nil ?_
      refine c_then ?_
      refine c_seq ?_
      refine c_region ?_
      refine wl_val (r_move (v := .int .i64 0) rfl) rfl ?_
      refine wl_nil ?_
      refine c_then ?_
      refine c_block ?_
      refine c_loopE [2, 3, 4, 8] (fun d e w' => ∃ (i : Nat), Kw.look e 11 = vi i ∧ d = 16 - i ∧ St w [] w' [.blk b3 (cl ((stirIn (stirOut (wordsL s) r) r i).map v32) 126), .blk b2 (cl ((List.replicate 64 (0 : UInt8)).map b8) 98), .blk b1 (cl (s.map b8) 98)] ∧ (i ≤ 16)) (16) ?_ ?_
      · exact ⟨0, rfl, rfl, hS14, by omega⟩
      · rintro d19 e16 w17 ⟨i, hc1_11, rfl, hS18, hI1_0⟩ -
        refine c_set (d := 11) hc1_11 ?_
        refine c_seq ?_
        refine c_region ?_
        refine wl_dec (r_lss rfl rfl) rfl (fun h6_0 => ?_) (fun h6_0 => ?_)
        · refine wl_nil ?_
          refine c_then ?_
          refine c_seq ?_
          refine c_true rfl ?_
          refine wp_skip ?_
          refine c_then ?_
          refine c_seq ?_
          refine c_block ?_
          refine c_seq ?_
          refine c_region ?_
          refine wl_val (r_move (v := .int .i64 _) rfl) rfl ?_
          refine wl_val (r_assign (v := .int .i64 _) rfl) rfl ?_
          refine wl_nil ?_
          refine c_then ?_
          refine c_seq ?_
          refine c_drawS 6 hMixed hS18 ?_
          intro w20 hS21
          refine g_take 0 rfl (by decide +kernel) rfl (fun _ _ _ h => h) hS21 (fun wF hF => r_move (v := .int .i64 _) rfl) ?_
          refine g_take 1 rfl (by decide +kernel) rfl (fun _ _ _ h => h) hS21 (fun wF hF => r_ixA (sz := 1) ti126.und ti125 rfl rfl (by first | omega | (simp [*]; done) | (simp [*] <;> omega)) (Nat.zero_add _ |>.trans (Nat.mul_one _))) ?_
          refine g_take 2 rfl (by decide +kernel) rfl (fun _ _ _ h => h) hS21 (fun wF hF => r_loadB1 ti125.und rfl rfl (hF.heap (.head _)) (map_gt _ _ _ (by first | omega | (simp [*]; done) | (simp [*] <;> omega)))) ?_
          refine g_take 3 rfl (by decide +kernel) rfl (fun _ _ _ h => h) hS21 (fun wF hF => r_move (v := .int .i64 _) rfl) ?_
          refine g_take 4 rfl (by decide +kernel) rfl (fun _ _ _ h => h) hS21 (fun wF hF => r_move (v := .int .i64 _) rfl) ?_
          refine g_one 5 (by decide +kernel) (by decide +kernel) ?_
          refine o_call rfl (r_call fn114 rfl rfl) rfl (turn_ok _ _ _ _ _ (by first | (simp [*]; done) | (simp [*] <;> omega) | omega) (at_all (hS21.heap (.head _))) (by first | omega | (simp [*]; done) | (simp [*] <;> omega)) (by first | omega | (simp [*]; done) | (simp [*] <;> omega))) ?_
          rintro _ w22 ⟨rfl, hx23⟩
          have hS24 := hS21.ext hx23
          refine ⟨hS24, ?_⟩
          refine g_tail (by decide +kernel) rfl (by decide +kernel) ?_
          refine wl_val (r_add32 rfl rfl) rfl ?_
          refine wl_val (r_ixA (sz := 1) ti126.und ti125 rfl rfl (by first | omega | (simp [*]; done) | (simp [*] <;> omega)) (Nat.zero_add _ |>.trans (Nat.mul_one _))) rfl ?_
          refine wl_exs (x_store1m [] hS24 ti125 rfl rfl rfl (by first | omega | (simp [*]; done) | (simp [*] <;> omega))) rfl ?_
          intro w25 hS26
          simp only [List.cons_append, List.nil_append] at hS26
          refine wl_nil ?_
          refine c_then ?_
          refine c_drawS 9 hMixed hS26 ?_
          intro w27 hS28
          refine g_take 0 rfl (by decide +kernel) rfl (fun _ _ _ h => h) hS28 (fun wF hF => r_move (v := .int .i64 _) rfl) ?_
          refine g_take 1 rfl (by decide +kernel) rfl (fun _ _ _ h => h) hS28 (fun wF hF => r_addn (b := 9) rfl rfl (by omega)) ?_
          refine g_take 2 rfl (by decide +kernel) rfl (fun _ _ _ h => h) hS28 (fun wF hF => r_remn (b := 16) rfl rfl (by omega)) ?_
          refine g_take 3 rfl (by decide +kernel) rfl (fun _ _ _ h => h) hS28 (fun wF hF => r_ixA (sz := 1) ti126.und ti125 rfl rfl (by first | omega | (simp [*]; done) | (simp [*] <;> omega)) (Nat.zero_add _ |>.trans (Nat.mul_one _))) ?_
          refine g_take 4 rfl (by decide +kernel) rfl (fun _ _ _ h => h) hS28 (fun wF hF => r_loadB1 ti125.und rfl rfl (hF.heap (.head _)) (map_gt _ _ _ (by first | omega | (simp [*]; done) | (simp [*] <;> omega)))) ?_
          refine g_take 5 rfl (by decide +kernel) rfl (fun _ _ _ h => h) hS28 (fun wF hF => r_move (v := .int .i64 _) rfl) ?_
          refine g_take 6 rfl (by decide +kernel) rfl (fun _ _ _ h => h) hS28 (fun wF hF => r_ixA (sz := 1) ti126.und ti125 rfl rfl (by first | omega | (simp [*]; done) | (simp [*] <;> omega)) (Nat.zero_add _ |>.trans (Nat.mul_one _))) ?_
          refine g_take 7 rfl (by decide +kernel) rfl (fun _ _ _ h => h) hS28 (fun wF hF => r_loadB1 ti125.und rfl rfl (hF.heap (.head _)) (map_gt _ _ _ (by first | omega | (simp [*]; done) | (simp [*] <;> omega)))) ?_
          refine g_one 8 (by decide +kernel) (by decide +kernel) ?_
          refine o_call rfl (r_call fn115 rfl rfl) rfl (rotl_ok _ 11 _ (by first | omega | (simp [*]; done) | (simp [*] <;> omega)) (by first | omega | (simp [*]; done) | (simp [*] <;> omega))) ?_
          rintro _ w29 ⟨rfl, hx30⟩
          have hS31 := hS28.ext hx30
          refine ⟨hS31, ?_⟩
          refine g_tail (by decide +kernel) rfl (by decide +kernel) ?_
          refine wl_val (r_xor32 rfl rfl) rfl ?_
          refine wl_val (r_ixA (sz := 1) ti126.und ti125 rfl rfl (by first | omega | (simp [*]; done) | (simp [*] <;> omega)) (Nat.zero_add _ |>.trans (Nat.mul_one _))) rfl ?_
          refine wl_exs (x_store1m [] hS31 ti125 rfl rfl rfl (by first | omega | (simp [*]; done) | (simp [*] <;> omega))) rfl ?_
          intro w32 hS33
          simp only [List.cons_append, List.nil_append] at hS33
          refine wl_nil ?_
          refine c_inN ?_
          refine c_then ?_
          refine c_region ?_
          refine wl_val (r_addn (b := 1) rfl rfl (by omega)) rfl ?_
          refine wl_val (r_move (v := .int .i64 _) rfl) rfl ?_
          refine wl_nil ?_
          refine c_then ?_
          exact ⟨16 - (i + 1), _, by omega, rfl, ⟨i + 1, rfl, rfl, hS33, by omega⟩, ⟨rfl, rfl, rfl, rfl, trivial⟩⟩
        refine wl_nil ?_
        refine c_then ?_
        refine c_seq ?_
        refine c_false rfl ?_
        refine wp_exit ?_
        refine c_thenE ?_
        refine c_thenE ?_
        refine c_inE ?_
        refine c_inN ?_
        refine c_then ?_
        obtain rfl : i = 16 := by omega
        refine c_region ?_
        refine wl_val (r_addn (b := 1) rfl rfl (by omega)) rfl ?_
        refine wl_val (r_move (v := .int .i64 _) rfl) rfl ?_
        refine wl_nil ?_
        refine c_then ?_
        exact ⟨8 - (r + 1), _, by omega, rfl, ⟨r + 1, rfl, rfl, hS18, by omega⟩, ⟨rfl, rfl, trivial⟩⟩
    refine wl_nil ?_
    refine c_then ?_
    refine c_seq ?_
    refine c_false rfl ?_
    refine wp_exit ?_
    refine c_thenE ?_
    refine c_thenE ?_
    refine c_inE ?_
    refine c_then ?_
    refine c_seq ?_
    refine c_region ?_
    refine wl_val (r_loadB ti126 rfl rfl (hS14.heap (.head _)) (by first | (simp [*]; done) | (simp [*] <;> omega) | omega)) rfl ?_
    refine wl_call (r_call fn116 rfl rfl) rfl (stateOf_ok _ _ (by first | (simp [*]; done) | (simp [*] <;> omega) | omega)) ?_
    rintro _ w34 ⟨rfl, hx35⟩
    have hS36 := hS14.ext hx35
    refine wl_exs (x_storeW [_] hS36 ti98 rfl rfl (by first | (simp [*]; done) | (simp [*] <;> omega) | omega) (by first | (simp [*]; done) | (simp [*] <;> omega) | omega) (by repeat' first | exact one_nil | exact one_b8 _ | exact one_v32 _ | exact one_all rfl | refine one_cons rfl ?_ | refine one_app ?_ ?_)) rfl ?_
    intro w37 hS38
    simp only [List.cons_append, List.nil_append] at hS38
    refine wl_nil ?_
    refine c_then ?_
    refine wp_ret ?_
    refine retc Try.results112 ⟨_, rfl, run_loadVar_blk ti98 rfl (hS38.heap (.tail _ (.head _))) (by first | (simp [*]; done) | (simp [*] <;> omega) | omega)⟩ ?_
    obtain rfl : r = 8 := by omega
    exact ⟨rfl, hS38.fin⟩

theorem rwords_ok (s : List UInt8) (w : World) (hs : s.length = 64) :
    Ret Try.prog 106 [.agg (s.map b8).toArray] w (fun v w' => v = .agg ((wordsL s).map v32).toArray ∧ St w [] w' []) := by
  refine enter Try.func106 rfl Try.ntmps106 rfl ?_
  have hS := St.refl w []
  refine c_seq ?_
  refine c_region ?_
  refine wl_exv (x_box hS (v := .agg _) rfl rfl) rfl ?_
  rintro _ w1 ⟨b1, rfl, hS2⟩
  refine wl_exv (x_alloc (C := ((List.replicate 16 (0 : UInt32)).map v32)) hS2 ti126 rfl) rfl ?_
  rintro _ w3 ⟨b2, rfl, hS4⟩
  refine wl_nil ?_
  refine c_then ?_
  refine c_seq ?_
  refine c_region ?_
  refine wl_exv (x_alloc (C := ((List.replicate 16 (0 : UInt32)).map v32)) hS4 ti126 rfl) rfl ?_
  rintro _ w5 ⟨b3, rfl, hS6⟩
  refine wl_nil ?_
  refine c_then ?_
  refine c_seq ?_
  refine c_seq ?_
  refine c_region ?_
  refine wl_val (r_loadB ti98 rfl rfl (hS6.heap (.tail _ (.tail _ (.head _)))) (by first | (simp [*]; done) | (simp [*] <;> omega) | omega)) rfl ?_
  refine wl_val (r_move (v := .int .i64 0) rfl) rfl ?_
  refine wl_nil ?_
  refine c_then ?_
  refine c_block ?_
  refine c_loopE [2, 3, 6] (fun d e w' => ∃ (k : Nat), Kw.look e 7 = vi k ∧ d = 64 - k ∧ St w [] w' [.blk b3 (cl ((rwTo s k).map v32) 126), .blk b2 (cl ((List.replicate 16 (0 : UInt32)).map v32) 126), .blk b1 (cl (s.map b8) 98)] ∧ (k ≤ 64)) (64) ?_ ?_
  · exact ⟨0, rfl, rfl, hS6, by omega⟩
  · rintro d10 e7 w8 ⟨k, hc0_7, rfl, hS9, hI0_0⟩ -
    refine c_set (d := 7) hc0_7 ?_
    refine c_seq ?_
    refine c_region ?_
    refine wl_dec (r_lss rfl rfl) rfl (fun h3_0 => ?_) (fun h3_0 => ?_)
    · refine wl_nil ?_
      refine c_then ?_
      refine c_seq ?_
      refine c_true rfl ?_
      refine wp_skip ?_
      refine c_then ?_
      refine c_seq ?_
      refine c_block ?_
      refine c_seq ?_
      refine c_region ?_
      refine wl_val (r_move (v := .int .i64 _) rfl) rfl ?_
      refine wl_val (r_index1 ti98.und ti5 rfl rfl rfl (by first | omega | (simp [*]; done) | (simp [*] <;> omega)) (map_gt _ _ _ (by first | omega | (simp [*]; done) | (simp [*] <;> omega)))) rfl ?_
      refine wl_val (r_assign (v := .int .i64 _) rfl) rfl ?_
      refine wl_val (r_assign (v := .int .u8 _) rfl) rfl ?_
      refine wl_nil ?_
      refine c_then ?_
      refine c_region ?_
      refine wl_val (r_move (v := .int .i64 _) rfl) rfl ?_
      refine wl_val (r_quon (b := 4) rfl rfl (by omega) (by omega)) rfl ?_
      refine wl_val (r_move (v := .int .i64 _) rfl) rfl ?_
      refine wl_val (r_quon (b := 4) rfl rfl (by omega) (by omega)) rfl ?_
      refine wl_val (r_ixA (sz := 1) ti126.und ti125 rfl rfl (by first | omega | (simp [*]; done) | (simp [*] <;> omega)) (Nat.zero_add _ |>.trans (Nat.mul_one _))) rfl ?_
      refine wl_val (r_loadB1 ti125.und rfl rfl (hS9.heap (.head _)) (map_gt _ _ _ (by first | omega | (simp [*]; done) | (simp [*] <;> omega)))) rfl ?_
      refine wl_val (r_shl32 (s := 8) rfl rfl (by first | omega | (simp [*]; done) | (simp [*] <;> omega))) rfl ?_
      refine wl_val (r_move (v := .int .u8 _) rfl) rfl ?_
      refine wl_val (c_u8_u32 ti125.und ⟨_, ti5.und⟩ rfl) rfl ?_
      refine wl_val (r_or32 rfl rfl) rfl ?_
      refine wl_val (r_ixA (sz := 1) ti126.und ti125 rfl rfl (by first | omega | (simp [*]; done) | (simp [*] <;> omega)) (Nat.zero_add _ |>.trans (Nat.mul_one _))) rfl ?_
      refine wl_exs (x_store1m [] hS9 ti125 rfl rfl rfl (by first | omega | (simp [*]; done) | (simp [*] <;> omega))) rfl ?_
      intro w11 hS12
      simp only [List.cons_append, List.nil_append] at hS12
      refine wl_nil ?_
      refine c_inN ?_
      refine c_then ?_
      refine c_region ?_
      refine wl_val (r_addn (b := 1) rfl rfl (by omega)) rfl ?_
      refine wl_val (r_move (v := .int .i64 _) rfl) rfl ?_
      refine wl_nil ?_
      refine c_then ?_
      exact ⟨64 - (k + 1), _, by omega, rfl, ⟨k + 1, rfl, rfl, hS12, by omega⟩, ⟨rfl, rfl, rfl, trivial⟩⟩
    refine wl_nil ?_
    refine c_then ?_
    refine c_seq ?_
    refine c_false rfl ?_
    refine wp_exit ?_
    refine c_thenE ?_
    refine c_thenE ?_
    refine c_inE ?_
    refine c_then ?_
    refine c_seq ?_
    refine c_region ?_
    refine wl_val (r_loadB ti126 rfl rfl (hS9.heap (.head _)) (by first | (simp [*]; done) | (simp [*] <;> omega) | omega)) rfl ?_
    refine wl_exs (x_storeW [_] hS9 ti126 rfl rfl (by first | (simp [*]; done) | (simp [*] <;> omega) | omega) (by first | (simp [*]; done) | (simp [*] <;> omega) | omega) (by repeat' first | exact one_nil | exact one_b8 _ | exact one_v32 _ | exact one_all rfl | refine one_cons rfl ?_ | refine one_app ?_ ?_)) rfl ?_
    intro w13 hS14
    simp only [List.cons_append, List.nil_append] at hS14
    refine wl_nil ?_
    refine c_then ?_
    refine wp_ret ?_
    refine retc Try.results106 ⟨_, rfl, run_loadVar_blk ti126 rfl (hS14.heap (.tail _ (.head _))) (by first | (simp [*]; done) | (simp [*] <;> omega) | omega)⟩ ?_
    obtain rfl : k = 64 := by omega
    exact ⟨by rw [rwTo_full s hs], hS14.fin⟩

theorem roctets_ok (ws : List UInt32) (w : World) (hw : ws.length = 16) :
    Ret Try.prog 108 [.agg (ws.map v32).toArray] w (fun v w' => v = .agg ((stateL ws).map b8).toArray ∧ St w [] w' []) := by
  refine enter Try.func108 rfl Try.ntmps108 rfl ?_
  have hS := St.refl w []
  refine c_seq ?_
  refine c_region ?_
  refine wl_exv (x_box hS (v := .agg _) rfl rfl) rfl ?_
  rintro _ w1 ⟨b1, rfl, hS2⟩
  refine wl_exv (x_alloc (C := ((List.replicate 64 (0 : UInt8)).map b8)) hS2 ti98 rfl) rfl ?_
  rintro _ w3 ⟨b2, rfl, hS4⟩
  refine wl_nil ?_
  refine c_then ?_
  refine c_seq ?_
  refine c_region ?_
  refine wl_exv (x_alloc (C := ((List.replicate 64 (0 : UInt8)).map b8)) hS4 ti98 rfl) rfl ?_
  rintro _ w5 ⟨b3, rfl, hS6⟩
  refine wl_nil ?_
  refine c_then ?_
  refine c_seq ?_
  refine c_seq ?_
  refine c_region ?_
  refine wl_val (r_move (v := .int .i64 0) rfl) rfl ?_
  refine wl_nil ?_
  refine c_then ?_
  refine c_block ?_
  refine c_loopE [1, 2, 3] (fun d e w' => ∃ (k : Nat), Kw.look e 5 = vi k ∧ d = 64 - k ∧ St w [] w' [.blk b3 (cl ((upto 64 (roF ws) 0 k).map b8) 98), .blk b2 (cl ((List.replicate 64 (0 : UInt8)).map b8) 98), .blk b1 (cl (ws.map v32) 126)] ∧ (k ≤ 64)) (64) ?_ ?_
  · exact ⟨0, rfl, rfl, by rw [upto_zero]; exact hS6, by omega⟩
  · rintro d10 e7 w8 ⟨k, hc0_5, rfl, hS9, hI0_0⟩ -
    refine c_set (d := 5) hc0_5 ?_
    refine c_seq ?_
    refine c_region ?_
    refine wl_dec (r_lss rfl rfl) rfl (fun h3_0 => ?_) (fun h3_0 => ?_)
    · refine wl_nil ?_
      refine c_then ?_
      refine c_seq ?_
      refine c_true rfl ?_
      refine wp_skip ?_
      refine c_then ?_
      refine c_seq ?_
      refine c_block ?_
      refine c_seq ?_
      refine c_region ?_
      refine wl_val (r_move (v := .int .i64 _) rfl) rfl ?_
      refine wl_val (r_assign (v := .int .i64 _) rfl) rfl ?_
      refine wl_nil ?_
      refine c_then ?_
      refine c_region ?_
      refine wl_val (r_move (v := .int .i64 _) rfl) rfl ?_
      refine wl_val (r_move (v := .int .i64 _) rfl) rfl ?_
      refine wl_val (r_quon (b := 4) rfl rfl (by omega) (by omega)) rfl ?_
      refine wl_val (r_ixA (sz := 1) ti126.und ti125 rfl rfl (by first | omega | (simp [*]; done) | (simp [*] <;> omega)) (Nat.zero_add _ |>.trans (Nat.mul_one _))) rfl ?_
      refine wl_val (r_loadB1 ti125.und rfl rfl (hS9.heap (.tail _ (.tail _ (.head _)))) (map_gt _ _ _ (by first | omega | (simp [*]; done) | (simp [*] <;> omega)))) rfl ?_
      refine wl_val (r_move (v := .int .i64 _) rfl) rfl ?_
      refine wl_val (r_remn (b := 4) rfl rfl (by omega)) rfl ?_
      refine wl_val (r_muln (a := 8) rfl rfl (by omega)) rfl ?_
      refine wl_val (r_subn (a := 24) rfl rfl (by omega) (by omega)) rfl ?_
      refine wl_val (r_shr32 rfl rfl (by first | omega | (simp [*]; done) | (simp [*] <;> omega))) rfl ?_
      refine wl_val (c_u32_u8 ti5.und ⟨_, ti125.und⟩ rfl) rfl ?_
      refine wl_val (r_ixA (sz := 1) ti98.und ti5 rfl rfl (by first | omega | (simp [*]; done) | (simp [*] <;> omega)) (Nat.zero_add _ |>.trans (Nat.mul_one _))) rfl ?_
      refine wl_exs (x_store1m [] hS9 ti5 rfl rfl rfl (by first | omega | (simp [*]; done) | (simp [*] <;> omega))) rfl ?_
      intro w11 hS12
      simp only [List.cons_append, List.nil_append] at hS12
      refine wl_nil ?_
      refine c_inN ?_
      refine c_then ?_
      refine c_region ?_
      refine wl_val (r_addn (b := 1) rfl rfl (by omega)) rfl ?_
      refine wl_val (r_move (v := .int .i64 _) rfl) rfl ?_
      refine wl_nil ?_
      refine c_then ?_
      refine ⟨64 - (k + 1), _, by omega, rfl, ⟨k + 1, rfl, rfl, ?_, by omega⟩, ⟨rfl, rfl, rfl, trivial⟩⟩
      rw [← upto_set _ _ _ _ (by omega)]
      exact hS12
    refine wl_nil ?_
    refine c_then ?_
    refine c_seq ?_
    refine c_false rfl ?_
    refine wp_exit ?_
    refine c_thenE ?_
    refine c_thenE ?_
    refine c_inE ?_
    refine c_then ?_
    refine c_seq ?_
    refine c_region ?_
    refine wl_val (r_loadB ti98 rfl rfl (hS9.heap (.head _)) (by first | (simp [*]; done) | (simp [*] <;> omega) | omega)) rfl ?_
    refine wl_exs (x_storeW [_] hS9 ti98 rfl rfl (by first | (simp [*]; done) | (simp [*] <;> omega) | omega) (by first | (simp [*]; done) | (simp [*] <;> omega) | omega) (by repeat' first | exact one_nil | exact one_b8 _ | exact one_v32 _ | exact one_all rfl | refine one_cons rfl ?_ | refine one_app ?_ ?_)) rfl ?_
    intro w13 hS14
    simp only [List.cons_append, List.nil_append] at hS14
    refine wl_nil ?_
    refine c_then ?_
    refine wp_ret ?_
    refine retc Try.results108 ⟨_, rfl, run_loadVar_blk ti98 rfl (hS14.heap (.tail _ (.head _))) (by first | (simp [*]; done) | (simp [*] <;> omega) | omega)⟩ ?_
    obtain rfl : k = 64 := by omega
    exact ⟨by rw [upto_full, ro_full], hS14.fin⟩

theorem rturn_ok (n : UInt32) (k : Nat) (w : World) (h0 : 0 < k) (h : k < 32) :
    Ret Try.prog 107 [v32 n, vi k] w (fun v w' => v = v32 (rotl n k) ∧ St w [] w' []) := by
  refine enter Try.func107 rfl Try.ntmps107 rfl ?_
  have hS := St.refl w []
  refine c_seq ?_
  refine c_region ?_
  refine wl_val (r_assign (v := .int .u32 0) rfl) rfl ?_
  refine wl_nil ?_
  refine c_then ?_
  refine c_seq ?_
  refine c_drawS 7 hMixed hS ?_
  intro w1 hS2
  refine g_take 0 rfl (by decide +kernel) rfl (fun _ _ _ h => h) hS2 (fun wF hF => r_move (v := .int .u32 _) rfl) ?_
  refine g_take 1 rfl (by decide +kernel) rfl (fun _ _ _ h => h) hS2 (fun wF hF => r_move (v := .int .i64 _) rfl) ?_
  refine g_take 2 rfl (by decide +kernel) rfl (fun _ _ _ h => h) hS2 (fun wF hF => r_shl32 rfl rfl (by first | omega | (simp [*]; done) | (simp [*] <;> omega))) ?_
  refine g_take 3 rfl (by decide +kernel) rfl (fun _ _ _ h => h) hS2 (fun wF hF => r_move (v := .int .u32 _) rfl) ?_
  refine g_take 4 rfl (by decide +kernel) rfl (fun _ _ _ h => h) hS2 (fun wF hF => r_move (v := .int .i64 _) rfl) ?_
  refine g_take 5 rfl (by decide +kernel) rfl (fun _ _ _ h => h) hS2 (fun wF hF => r_subn (a := 32) rfl rfl (by omega) (by omega)) ?_
  refine g_take 6 rfl (by decide +kernel) rfl (fun _ _ _ h => h) hS2 (fun wF hF => r_shr32 rfl rfl (by first | omega | (simp [*]; done) | (simp [*] <;> omega))) ?_
  refine g_tail (by decide +kernel) rfl (by decide +kernel) ?_
  refine wl_val (r_or32 rfl rfl) rfl ?_
  refine wl_val (r_assign (v := .int .u32 _) rfl) rfl ?_
  refine wl_nil ?_
  refine c_then ?_
  refine wp_ret ?_
  refine ret1 Try.results107 ?_
  exact ⟨rfl, hS2.fin⟩

theorem rstir_ok (s : List UInt8) (w : World) (hs : s.length = 64) :
    Ret Try.prog 99 [.agg (s.map b8).toArray] w (fun v w' => v = .agg ((stirL s).map b8).toArray ∧ St w [] w' []) := by
  refine enter Try.func99 rfl Try.ntmps99 rfl ?_
  have hS := St.refl w []
  refine c_seq ?_
  refine c_region ?_
  refine wl_exv (x_box hS (v := .agg _) rfl rfl) rfl ?_
  rintro _ w1 ⟨b1, rfl, hS2⟩
  refine wl_exv (x_alloc (C := ((List.replicate 64 (0 : UInt8)).map b8)) hS2 ti98 rfl) rfl ?_
  rintro _ w3 ⟨b2, rfl, hS4⟩
  refine wl_nil ?_
  refine c_then ?_
  refine c_seq ?_
  refine c_region ?_
  refine wl_val (r_loadB ti98 rfl rfl (hS4.heap (.tail _ (.head _))) (by first | (simp [*]; done) | (simp [*] <;> omega) | omega)) rfl ?_
  refine wl_call (r_call fn106 rfl rfl) rfl (rwords_ok _ _ (by first | (simp [*]; done) | (simp [*] <;> omega) | omega)) ?_
  rintro _ w5 ⟨rfl, hx6⟩
  have hS7 := hS4.ext hx6
  refine wl_exv (x_alloc (C := ((List.replicate 16 (0 : UInt32)).map v32)) hS7 ti126 rfl) rfl ?_
  rintro _ w8 ⟨b3, rfl, hS9⟩
  refine wl_exs (x_storeW [] hS9 ti126 rfl rfl (by first | (simp [*]; done) | (simp [*] <;> omega) | omega) (by first | (simp [*]; done) | (simp [*] <;> omega) | omega) (by repeat' first | exact one_nil | exact one_b8 _ | exact one_v32 _ | exact one_all rfl | refine one_cons rfl ?_ | refine one_app ?_ ?_)) rfl ?_
  intro w10 hS11
  simp only [List.cons_append, List.nil_append] at hS11
  refine wl_nil ?_
  refine c_then ?_
  refine c_seq ?_
  refine c_seq ?_
  refine c_region ?_
  refine wl_val (r_move (v := .int .i64 0) rfl) rfl ?_
  refine wl_nil ?_
  refine c_then ?_
  refine c_block ?_
  refine c_loopE [2, 3] (fun d e w' => ∃ (r : Nat), Kw.look e 10 = vi r ∧ d = 8 - r ∧ St w [] w' [.blk b3 (cl ((stirOut (wordsL s) r).map v32) 126), .blk b2 (cl ((List.replicate 64 (0 : UInt8)).map b8) 98), .blk b1 (cl (s.map b8) 98)] ∧ (r ≤ 8)) (8) ?_ ?_
  · exact ⟨0, rfl, rfl, hS11, by omega⟩
  · rintro d15 e12 w13 ⟨r, hc0_10, rfl, hS14, hI0_0⟩ -
    refine c_set (d := 10) hc0_10 ?_
    refine c_seq ?_
    refine c_region ?_
    refine wl_dec (r_lss rfl rfl) rfl (fun h3_0 => ?_) (fun h3_0 => ?_)
    · refine wl_nil ?_
      refine c_then ?_
      refine c_seq ?_
      refine c_true rfl ?_
      refine wp_skip ?_
      refine c_then ?_
      refine c_seq ?_
      refine c_block ?_
      refine c_seq ?_
      refine c_region ?_
      refine wl_val (r_move (v := .int .i64 _) rfl) rfl ?_
      refine wl_val (r_assign (v := .int .i64 _) rfl) rfl ?_
      refine wl_nil ?_
      refine c_then ?_
      refine c_seq ?_
      refine c_region ?_
      refine wl_val (r_move (v := .int .i64 0) rfl) rfl ?_
      refine wl_nil ?_
      refine c_then ?_
      refine c_block ?_
      refine c_loopE [2, 3, 4, 10] (fun d e w' => ∃ (i : Nat), Kw.look e 13 = vi i ∧ d = 16 - i ∧ St w [] w' [.blk b3 (cl ((stirIn (stirOut (wordsL s) r) r i).map v32) 126), .blk b2 (cl ((List.replicate 64 (0 : UInt8)).map b8) 98), .blk b1 (cl (s.map b8) 98)] ∧ (i ≤ 16)) (16) ?_ ?_
      · exact ⟨0, rfl, rfl, hS14, by omega⟩
      · rintro d19 e16 w17 ⟨i, hc1_13, rfl, hS18, hI1_0⟩ -
        refine c_set (d := 13) hc1_13 ?_
        refine c_seq ?_
        refine c_region ?_
        refine wl_dec (r_lss rfl rfl) rfl (fun h6_0 => ?_) (fun h6_0 => ?_)
        · refine wl_nil ?_
          refine c_then ?_
          refine c_seq ?_
          refine c_true rfl ?_
          refine wp_skip ?_
          refine c_then ?_
          refine c_seq ?_
          refine c_block ?_
          refine c_seq ?_
          refine c_region ?_
          refine wl_val (r_move (v := .int .i64 _) rfl) rfl ?_
          refine wl_val (r_assign (v := .int .i64 _) rfl) rfl ?_
          refine wl_nil ?_
          refine c_then ?_
          refine c_seq ?_
          refine c_region ?_
          refine wl_val (r_move (v := .int .i64 _) rfl) rfl ?_
          refine wl_val (r_addn (b := 1) rfl rfl (by omega)) rfl ?_
          refine wl_val (r_move (v := .int .i64 _) rfl) rfl ?_
          refine wl_val (r_addn rfl rfl (by omega)) rfl ?_
          refine wl_val (r_remn (b := 16) rfl rfl (by omega)) rfl ?_
          refine wl_val (r_move (v := .int .i64 _) rfl) rfl ?_
          refine wl_val (r_addn (b := 9) rfl rfl (by omega)) rfl ?_
          refine wl_val (r_remn (b := 16) rfl rfl (by omega)) rfl ?_
          refine wl_val (r_assign (v := .int .i64 _) rfl) rfl ?_
          refine wl_val (r_assign (v := .int .i64 _) rfl) rfl ?_
          refine wl_nil ?_
          refine c_then ?_
          refine c_seq ?_
          refine c_drawS 17 hMixed hS18 ?_
          intro w20 hS21
          refine g_take 0 rfl (by decide +kernel) rfl (fun _ _ _ h => h) hS21 (fun wF hF => r_move (v := .int .i64 _) rfl) ?_
          refine g_take 1 rfl (by decide +kernel) rfl (fun _ _ _ h => h) hS21 (fun wF hF => r_ixA (sz := 1) ti126.und ti125 rfl rfl (by first | omega | (simp [*]; done) | (simp [*] <;> omega)) (Nat.zero_add _ |>.trans (Nat.mul_one _))) ?_
          refine g_take 2 rfl (by decide +kernel) rfl (fun _ _ _ h => h) hS21 (fun wF hF => r_loadB1 ti125.und rfl rfl (hF.heap (.head _)) (map_gt _ _ _ (by first | omega | (simp [*]; done) | (simp [*] <;> omega)))) ?_
          refine g_take 3 rfl (by decide +kernel) rfl (fun _ _ _ h => h) hS21 (fun wF hF => r_move (v := .int .i64 _) rfl) ?_
          refine g_take 4 rfl (by decide +kernel) rfl (fun _ _ _ h => h) hS21 (fun wF hF => r_ixA (sz := 1) ti126.und ti125 rfl rfl (by first | omega | (simp [*]; done) | (simp [*] <;> omega)) (Nat.zero_add _ |>.trans (Nat.mul_one _))) ?_
          refine g_take 5 rfl (by decide +kernel) rfl (fun _ _ _ h => h) hS21 (fun wF hF => r_loadB1 ti125.und rfl rfl (hF.heap (.head _)) (map_gt _ _ _ (by first | omega | (simp [*]; done) | (simp [*] <;> omega)))) ?_
          refine g_take 6 rfl (by decide +kernel) rfl (fun _ _ _ h => h) hS21 (fun wF hF => r_move (v := .int .i64 _) rfl) ?_
          refine g_take 7 rfl (by decide +kernel) rfl (fun _ _ _ h => h) hS21 (fun wF hF => r_addn (a := 5) rfl rfl (by omega)) ?_
          refine g_take 9 rfl (by decide +kernel) rfl (fun _ _ _ h => h) hS21 (fun wF hF => r_move (v := .int .i64 _) rfl) ?_
          refine g_take 10 rfl (by decide +kernel) rfl (fun _ _ _ h => h) hS21 (fun wF hF => r_muln (a := 16) rfl rfl (by omega)) ?_
          refine g_take 11 rfl (by decide +kernel) rfl (fun _ _ _ h => h) hS21 (fun wF hF => r_move (v := .int .i64 _) rfl) ?_
          refine g_take 12 rfl (by decide +kernel) rfl (fun _ _ _ h => h) hS21 (fun wF hF => r_addn rfl rfl (by omega)) ?_
          refine g_take 13 rfl (by decide +kernel) rfl (fun _ _ _ h => h) hS21 (fun wF hF => r_addn (b := 1) rfl rfl (by omega)) ?_
          refine g_take 14 rfl (by decide +kernel) rfl (fun _ _ _ h => h) hS21 (fun wF hF => c_i64_u32 ti125.und ⟨_, ti3.und⟩ rfl (by omega)) ?_
          refine g_take 15 rfl (by decide +kernel) rfl (fun _ _ _ h => h) hS21 (fun wF hF => r_mul32 (a := 2654435769) rfl rfl) ?_
          refine g_one 8 (by decide +kernel) (by decide +kernel) ?_
          refine o_call rfl (r_call fn107 rfl rfl) rfl (rturn_ok _ _ _ (by first | omega | (simp [*]; done) | (simp [*] <;> omega)) (by first | omega | (simp [*]; done) | (simp [*] <;> omega))) ?_
          rintro _ w22 ⟨rfl, hx23⟩
          have hS24 := hS21.ext hx23
          refine ⟨hS24, ?_⟩
          refine g_take 16 rfl (by decide +kernel) rfl (fun _ _ _ h => h) hS24 (fun wF hF => r_xor32 rfl rfl) ?_
          refine g_tail (by decide +kernel) rfl (by decide +kernel) ?_
          refine wl_val (r_add32 rfl rfl) rfl ?_
          refine wl_val (r_ixA (sz := 1) ti126.und ti125 rfl rfl (by first | omega | (simp [*]; done) | (simp [*] <;> omega)) (Nat.zero_add _ |>.trans (Nat.mul_one _))) rfl ?_
          refine wl_exs (x_store1m [] hS24 ti125 rfl rfl rfl (by first | omega | (simp [*]; done) | (simp [*] <;> omega))) rfl ?_
          intro w25 hS26
          simp only [List.cons_append, List.nil_append] at hS26
          refine wl_nil ?_
          refine c_then ?_
          refine c_drawS 7 hMixed hS26 ?_
          intro w27 hS28
          refine g_take 0 rfl (by decide +kernel) rfl (fun _ _ _ h => h) hS28 (fun wF hF => r_move (v := .int .i64 _) rfl) ?_
          refine g_take 1 rfl (by decide +kernel) rfl (fun _ _ _ h => h) hS28 (fun wF hF => r_ixA (sz := 1) ti126.und ti125 rfl rfl (by first | omega | (simp [*]; done) | (simp [*] <;> omega)) (Nat.zero_add _ |>.trans (Nat.mul_one _))) ?_
          refine g_take 2 rfl (by decide +kernel) rfl (fun _ _ _ h => h) hS28 (fun wF hF => r_loadB1 ti125.und rfl rfl (hF.heap (.head _)) (map_gt _ _ _ (by first | omega | (simp [*]; done) | (simp [*] <;> omega)))) ?_
          refine g_take 3 rfl (by decide +kernel) rfl (fun _ _ _ h => h) hS28 (fun wF hF => r_move (v := .int .i64 _) rfl) ?_
          refine g_take 4 rfl (by decide +kernel) rfl (fun _ _ _ h => h) hS28 (fun wF hF => r_ixA (sz := 1) ti126.und ti125 rfl rfl (by first | omega | (simp [*]; done) | (simp [*] <;> omega)) (Nat.zero_add _ |>.trans (Nat.mul_one _))) ?_
          refine g_take 5 rfl (by decide +kernel) rfl (fun _ _ _ h => h) hS28 (fun wF hF => r_loadB1 ti125.und rfl rfl (hF.heap (.head _)) (map_gt _ _ _ (by first | omega | (simp [*]; done) | (simp [*] <;> omega)))) ?_
          refine g_one 6 (by decide +kernel) (by decide +kernel) ?_
          refine o_call rfl (r_call fn107 rfl rfl) rfl (rturn_ok _ 11 _ (by first | omega | (simp [*]; done) | (simp [*] <;> omega)) (by first | omega | (simp [*]; done) | (simp [*] <;> omega))) ?_
          rintro _ w29 ⟨rfl, hx30⟩
          have hS31 := hS28.ext hx30
          refine ⟨hS31, ?_⟩
          refine g_tail (by decide +kernel) rfl (by decide +kernel) ?_
          refine wl_val (r_xor32 rfl rfl) rfl ?_
          refine wl_val (r_ixA (sz := 1) ti126.und ti125 rfl rfl (by first | omega | (simp [*]; done) | (simp [*] <;> omega)) (Nat.zero_add _ |>.trans (Nat.mul_one _))) rfl ?_
          refine wl_exs (x_store1m [] hS31 ti125 rfl rfl rfl (by first | omega | (simp [*]; done) | (simp [*] <;> omega))) rfl ?_
          intro w32 hS33
          simp only [List.cons_append, List.nil_append] at hS33
          refine wl_nil ?_
          refine c_inN ?_
          refine c_then ?_
          refine c_region ?_
          refine wl_val (r_addn (b := 1) rfl rfl (by omega)) rfl ?_
          refine wl_val (r_move (v := .int .i64 _) rfl) rfl ?_
          refine wl_nil ?_
          refine c_then ?_
          refine ⟨16 - (i + 1), _, by omega, rfl, ⟨i + 1, rfl, rfl, ?_, by omega⟩, ⟨rfl, rfl, rfl, rfl, trivial⟩⟩
          simp only [stirIn, stirStep, unIn, unStep, ← rTurnW_eq]
          exact hS33
        refine wl_nil ?_
        refine c_then ?_
        refine c_seq ?_
        refine c_false rfl ?_
        refine wp_exit ?_
        refine c_thenE ?_
        refine c_thenE ?_
        refine c_inE ?_
        refine c_inN ?_
        refine c_then ?_
        obtain rfl : i = 16 := by omega
        refine c_region ?_
        refine wl_val (r_addn (b := 1) rfl rfl (by omega)) rfl ?_
        refine wl_val (r_move (v := .int .i64 _) rfl) rfl ?_
        refine wl_nil ?_
        refine c_then ?_
        exact ⟨8 - (r + 1), _, by omega, rfl, ⟨r + 1, rfl, rfl, hS18, by omega⟩, ⟨rfl, rfl, trivial⟩⟩
    refine wl_nil ?_
    refine c_then ?_
    refine c_seq ?_
    refine c_false rfl ?_
    refine wp_exit ?_
    refine c_thenE ?_
    refine c_thenE ?_
    refine c_inE ?_
    refine c_then ?_
    refine c_seq ?_
    refine c_region ?_
    refine wl_val (r_loadB ti126 rfl rfl (hS14.heap (.head _)) (by first | (simp [*]; done) | (simp [*] <;> omega) | omega)) rfl ?_
    refine wl_call (r_call fn108 rfl rfl) rfl (roctets_ok _ _ (by first | (simp [*]; done) | (simp [*] <;> omega) | omega)) ?_
    rintro _ w34 ⟨rfl, hx35⟩
    have hS36 := hS14.ext hx35
    refine wl_exs (x_storeW [_] hS36 ti98 rfl rfl (by first | (simp [*]; done) | (simp [*] <;> omega) | omega) (by first | (simp [*]; done) | (simp [*] <;> omega) | omega) (by repeat' first | exact one_nil | exact one_b8 _ | exact one_v32 _ | exact one_all rfl | refine one_cons rfl ?_ | refine one_app ?_ ?_)) rfl ?_
    intro w37 hS38
    simp only [List.cons_append, List.nil_append] at hS38
    refine wl_nil ?_
    refine c_then ?_
    refine wp_ret ?_
    refine retc Try.results99 ⟨_, rfl, run_loadVar_blk ti98 rfl (hS38.heap (.tail _ (.head _))) (by first | (simp [*]; done) | (simp [*] <;> omega) | omega)⟩ ?_
    obtain rfl : r = 8 := by omega
    exact ⟨rfl, hS38.fin⟩

end Go.Proofs.Ytafdmlpfgpaicaa
