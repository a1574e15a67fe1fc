/- Octets as digits. No condition. -/
import Derived.Test.YtfohfnpehfcaaaaFacts
import Derived.Test.YtfohfnpehfcaaaaHex
import Derived.Test.YtfohfnpehfcaaaaMixC
namespace Go.Proofs.Ytfohfnpehfcaaaa
open Go.Kw
set_option linter.unusedVariables false
set_option linter.unusedSimpArgs false
set_option maxRecDepth 100000
theorem rhex_ok (l : List UInt8) (a : Option Addr) (n c : Nat) (w : World) (hb : Row w a (l.map b8)) (hl : l.length = n) (hn : n ≤ 140737488351232) :
    Ret Try.prog 88 [.slice a n c] w (fun v w' => v = .string ⟨(hexL l).toArray⟩ ∧ St w [] w' []) := by
  refine enter Try.func88 rfl Try.ntmps88 rfl ?_
  have hS := St.refl w []
  refine c_seq ?_; refine c_region ?_; refine wl_val (r_assign (v := .string ⟨#[]⟩) rfl) rfl ?_; refine wl_nil ?_; refine c_then ?_; refine c_seq ?_; refine c_region ?_; refine wl_val (r_assign (v := .string ⟨#[]⟩) rfl) rfl ?_; refine wl_nil ?_; refine c_then ?_; refine c_seq ?_; refine c_seq ?_; refine c_region ?_; refine wl_val (r_move (v := .slice _ _ _) rfl) rfl ?_; refine wl_val (r_len (T := 22) rfl ti22.und rfl _ rfl) rfl ?_; refine wl_val (r_move (v := .int .i64 0) rfl) rfl ?_; refine wl_nil ?_; refine c_then ?_; refine c_block ?_; refine c_loopE [2, 6, 7] (fun d e w' => ∃ (k : Nat), Kw.look e 8 = vi k ∧ Kw.look e 3 = .string ⟨(hexL (l.take k)).toArray⟩ ∧ d = n - k ∧ St w [] w' [] ∧ (k ≤ n)) (n - 0) ?_ ?_
  · exact ⟨0, rfl, rfl, rfl, hS, Nat.zero_le _⟩
  · rintro d4 e1 w2 ⟨k, hc0_8, hc0_3, rfl, hS3, hk⟩ -
    refine c_set (d := 8) hc0_8 ?_; refine c_set (d := 3) hc0_3 ?_; refine c_seq ?_; refine c_region ?_
    refine wl_dec (r_lss rfl rfl) rfl (fun h3_0 => ?_) (fun h3_0 => ?_)
    · refine wl_nil ?_
      refine c_then ?_; refine c_seq ?_; refine c_true rfl ?_; refine wp_skip ?_; refine c_then ?_; refine c_seq ?_; refine c_block ?_; refine c_seq ?_; refine c_region ?_; refine wl_val (r_ixS ti22.und ti5 rfl rfl (hb.st hS3) (by first | omega | (simp [*]; done) | (simp [*] <;> omega)) (by first | (simp [*]; done) | (simp [*] <;> omega) | omega)) rfl ?_; refine wl_val (r_loadS1 ti5.und rfl rfl (hb.st hS3) (by rw [Nat.mul_one]; exact map_gt _ _ _ (by first | omega | (simp [*]; done) | (simp [*] <;> omega)))) rfl ?_; refine wl_val (r_assign (v := .int .u8 _) rfl) rfl ?_; refine wl_nil ?_; refine c_then ?_; refine c_drawS 14 hMixed hS3 ?_; intro w5 hS6; refine g_take 0 rfl (by decide +kernel) rfl (fun _ _ _ h => h) hS6 (fun wF hF => r_move (v := .string _) rfl) ?_; refine g_take 1 rfl (by decide +kernel) rfl (fun _ _ _ h => h) hS6 (fun wF hF => r_move (v := .int .u8 _) rfl) ?_; refine g_take 2 rfl (by decide +kernel) rfl (fun _ _ _ h => h) hS6 (fun wF hF => r_shr8 (s := 4) rfl rfl (by first | omega | (simp [*]; done) | (simp [*] <;> omega))) ?_; refine g_take 3 rfl (by decide +kernel) rfl (fun _ _ _ h => h) hS6 (fun wF hF => r_move (v := .int .u8 _) rfl) ?_; refine g_take 4 rfl (by decide +kernel) rfl (fun _ _ _ h => h) hS6 (fun wF hF => r_shr8 (s := 4) rfl rfl (by first | omega | (simp [*]; done) | (simp [*] <;> omega))) ?_; refine g_take 5 rfl (by decide +kernel) rfl (fun _ _ _ h => h) hS6 (fun wF hF => r_add8 (b := 1) rfl rfl) ?_; refine g_take 6 rfl (by decide +kernel) rfl (fun _ _ _ h => h) hS6 (fun wF hF => r_digAt (by first | exact hi_lt _ | exact lo_lt _) ti9.und rfl rfl rfl) ?_
      refine g_take 7 rfl (by decide +kernel) rfl (fun _ _ _ h => h) hS6 (fun wF hF => r_move (v := .int .u8 _) rfl) ?_; refine g_take 8 rfl (by decide +kernel) rfl (fun _ _ _ h => h) hS6 (fun wF hF => r_and8 (b := 15) rfl rfl) ?_; refine g_take 9 rfl (by decide +kernel) rfl (fun _ _ _ h => h) hS6 (fun wF hF => r_move (v := .int .u8 _) rfl) ?_; refine g_take 10 rfl (by decide +kernel) rfl (fun _ _ _ h => h) hS6 (fun wF hF => r_and8 (b := 15) rfl rfl) ?_; refine g_take 11 rfl (by decide +kernel) rfl (fun _ _ _ h => h) hS6 (fun wF hF => r_add8 (b := 1) rfl rfl) ?_; refine g_take 12 rfl (by decide +kernel) rfl (fun _ _ _ h => h) hS6 (fun wF hF => r_digAt (by first | exact hi_lt _ | exact lo_lt _) ti9.und rfl rfl rfl) ?_; refine g_take 13 rfl (by decide +kernel) rfl (fun _ _ _ h => h) hS6 (fun wF hF => r_addStrL (by simp <;> omega) rfl rfl) ?_; refine g_tail (by decide +kernel) rfl (by decide +kernel) ?_; refine wl_val (r_addStrL (by simp <;> omega) rfl rfl) rfl ?_; refine wl_val (r_assign (v := .string _) rfl) rfl ?_; refine wl_nil ?_; refine c_inN ?_; refine c_then ?_; refine c_region ?_; refine wl_val (r_addn (b := 1) rfl rfl (by omega)) rfl ?_; refine wl_val (r_move (v := .int .i64 _) rfl) rfl ?_; refine wl_nil ?_; refine c_then ?_
      exact ⟨n - (k + 1), _, by omega, rfl, ⟨k + 1, rfl, (by rw [hexL_step _ _ (by omega)]; rfl), rfl, hS6, by omega⟩, ⟨rfl, rfl, rfl, trivial⟩⟩
    refine wl_nil ?_; refine c_then ?_; refine c_seq ?_; refine c_false rfl ?_; refine wp_exit ?_; refine c_thenE ?_; refine c_thenE ?_; refine c_inE ?_; refine c_then ?_; refine c_seq ?_; refine c_region ?_; refine wl_val (r_move (v := .string _) rfl) rfl ?_; refine wl_val (r_assign (v := .string _) rfl) rfl ?_; refine wl_nil ?_; refine c_then ?_; refine wp_ret ?_; refine ret1 Try.results88 ?_
    obtain rfl : k = n := by omega
    rw [← hl, List.take_length]
    exact ⟨rfl, hS3.fin⟩

theorem digit_ok (x : UInt8) (w : World) :
    Ret Try.prog 155 [b8 x] w (fun v w' => v = .int .i64 (digI x) ∧ St w [] w' []) := by
  refine enter Try.func155 rfl Try.ntmps155 rfl ?_
  have hS := St.refl w []
  refine c_seq ?_; refine c_region ?_; refine wl_val (r_assign (v := .int .i64 0) rfl) rfl ?_; refine wl_nil ?_; refine c_then ?_; refine c_seq ?_; refine c_block ?_; refine c_seq ?_; refine c_region ?_; refine wl_val (r_move (v := .int .u8 _) rfl) rfl ?_
  refine wl_dec (r_geq rfl rfl) rfl (fun h1_1 => ?_) (fun h1_1 => ?_)
  · refine wl_val (r_move (v := .bool _) rfl) rfl ?_
    refine wl_val (r_move (v := .int .u8 _) rfl) rfl ?_
    refine wl_dec (r_leq rfl rfl) rfl (fun h1_4 => ?_) (fun h1_4 => ?_)
    · refine wl_val (r_pick_t rfl (v := .bool _) rfl) rfl ?_
      refine wl_val (r_assign (v := .bool _) rfl) rfl ?_; refine wl_nil ?_; refine c_then ?_; refine c_true rfl ?_; refine c_seq ?_; refine c_region ?_; refine wl_val (r_move (v := .int .u8 _) rfl) rfl ?_; refine wl_val (r_sub8 (b := 48) rfl rfl) rfl ?_; refine wl_val (c_u8_i64 ti3.und ⟨_, ti5.und⟩ rfl) rfl ?_; refine wl_val (r_assign (v := .int .i64 _) rfl) rfl ?_; refine wl_nil ?_; refine c_then ?_; refine wp_ret ?_; refine c_inR ?_; refine c_thenR ?_; refine ret1 Try.results155 ?_
      first | exact ⟨congrArg (Value.int .i64) (digI_a (by omega) (by omega)).symm, hS.fin⟩ | exact ⟨congrArg (Value.int .i64) (digI_b (by omega) (by omega)).symm, hS.fin⟩ | exact ⟨congrArg (Value.int .i64) (digI_c (by omega) (by omega)).symm, hS.fin⟩
    refine wl_val (r_pick_t rfl (v := .bool _) rfl) rfl ?_; refine wl_val (r_assign (v := .bool _) rfl) rfl ?_; refine wl_nil ?_; refine c_then ?_; refine c_false rfl ?_; refine c_seq ?_; refine c_region ?_; refine wl_val (r_move (v := .int .u8 _) rfl) rfl ?_
    refine wl_dec (r_geq rfl rfl) rfl (fun h3_1 => ?_) (fun h3_1 => ?_)
    · refine wl_val (r_move (v := .bool _) rfl) rfl ?_
      refine wl_val (r_move (v := .int .u8 _) rfl) rfl ?_
      refine wl_dec (r_leq rfl rfl) rfl (fun h3_4 => ?_) (fun h3_4 => ?_)
      · refine wl_val (r_pick_t rfl (v := .bool _) rfl) rfl ?_
        refine wl_val (r_assign (v := .bool _) rfl) rfl ?_; refine wl_nil ?_; refine c_then ?_; refine c_true rfl ?_; refine c_seq ?_; refine c_region ?_; refine wl_val (r_move (v := .int .u8 _) rfl) rfl ?_; refine wl_val (r_sub8 (b := 97) rfl rfl) rfl ?_; refine wl_val (c_u8_i64 ti3.und ⟨_, ti5.und⟩ rfl) rfl ?_; refine wl_val (r_addn (b := 10) rfl rfl (by have := (x - 97).toNat_lt; omega)) rfl ?_; refine wl_val (r_assign (v := .int .i64 _) rfl) rfl ?_; refine wl_nil ?_; refine c_then ?_; refine wp_ret ?_; refine c_inR ?_; refine c_thenR ?_; refine ret1 Try.results155 ?_
        first | exact ⟨congrArg (Value.int .i64) (digI_a (by omega) (by omega)).symm, hS.fin⟩ | exact ⟨congrArg (Value.int .i64) (digI_b (by omega) (by omega)).symm, hS.fin⟩ | exact ⟨congrArg (Value.int .i64) (digI_c (by omega) (by omega)).symm, hS.fin⟩
      refine wl_val (r_pick_t rfl (v := .bool _) rfl) rfl ?_; refine wl_val (r_assign (v := .bool _) rfl) rfl ?_; refine wl_nil ?_; refine c_then ?_; refine c_false rfl ?_; refine wp_skip ?_; refine c_inN ?_; refine c_then ?_; refine c_seq ?_; refine c_region ?_; refine wl_val (r_assign (v := .int .i64 (-1)) rfl) rfl ?_; refine wl_nil ?_; refine c_then ?_; refine wp_ret ?_; refine ret1 Try.results155 ?_
      first | exact ⟨congrArg (Value.int .i64) (digI_a (by omega) (by omega)).symm, hS.fin⟩ | exact ⟨congrArg (Value.int .i64) (digI_b (by omega) (by omega)).symm, hS.fin⟩ | exact ⟨congrArg (Value.int .i64) (digI_c (by omega) (by omega)).symm, hS.fin⟩
    refine wl_val (r_move (v := .bool _) rfl) rfl ?_; refine wl_not rfl ?_; refine wl_not rfl ?_; refine wl_val (r_pick_f rfl (v := .bool false) rfl) rfl ?_; refine wl_val (r_assign (v := .bool _) rfl) rfl ?_; refine wl_nil ?_; refine c_then ?_; refine c_false rfl ?_; refine wp_skip ?_; refine c_inN ?_; refine c_then ?_; refine c_seq ?_; refine c_region ?_; refine wl_val (r_assign (v := .int .i64 (-1)) rfl) rfl ?_; refine wl_nil ?_; refine c_then ?_; refine wp_ret ?_; refine ret1 Try.results155 ?_
    first | exact ⟨congrArg (Value.int .i64) (digI_a (by omega) (by omega)).symm, hS.fin⟩ | exact ⟨congrArg (Value.int .i64) (digI_b (by omega) (by omega)).symm, hS.fin⟩ | exact ⟨congrArg (Value.int .i64) (digI_c (by omega) (by omega)).symm, hS.fin⟩
  refine wl_val (r_move (v := .bool _) rfl) rfl ?_; refine wl_not rfl ?_; refine wl_not rfl ?_; refine wl_val (r_pick_f rfl (v := .bool false) rfl) rfl ?_; refine wl_val (r_assign (v := .bool _) rfl) rfl ?_; refine wl_nil ?_; refine c_then ?_; refine c_false rfl ?_; refine c_seq ?_; refine c_region ?_; refine wl_val (r_move (v := .int .u8 _) rfl) rfl ?_
  refine wl_dec (r_geq rfl rfl) rfl (fun h3_1 => ?_) (fun h3_1 => ?_)
  · refine wl_val (r_move (v := .bool _) rfl) rfl ?_
    refine wl_val (r_move (v := .int .u8 _) rfl) rfl ?_
    refine wl_dec (r_leq rfl rfl) rfl (fun h3_4 => ?_) (fun h3_4 => ?_)
    · refine wl_val (r_pick_t rfl (v := .bool _) rfl) rfl ?_
      refine wl_val (r_assign (v := .bool _) rfl) rfl ?_; refine wl_nil ?_; refine c_then ?_; refine c_true rfl ?_; refine c_seq ?_; refine c_region ?_; refine wl_val (r_move (v := .int .u8 _) rfl) rfl ?_; refine wl_val (r_sub8 (b := 97) rfl rfl) rfl ?_; refine wl_val (c_u8_i64 ti3.und ⟨_, ti5.und⟩ rfl) rfl ?_; refine wl_val (r_addn (b := 10) rfl rfl (by have := (x - 97).toNat_lt; omega)) rfl ?_; refine wl_val (r_assign (v := .int .i64 _) rfl) rfl ?_; refine wl_nil ?_; refine c_then ?_; refine wp_ret ?_; refine c_inR ?_; refine c_thenR ?_; refine ret1 Try.results155 ?_
      first | exact ⟨congrArg (Value.int .i64) (digI_a (by omega) (by omega)).symm, hS.fin⟩ | exact ⟨congrArg (Value.int .i64) (digI_b (by omega) (by omega)).symm, hS.fin⟩ | exact ⟨congrArg (Value.int .i64) (digI_c (by omega) (by omega)).symm, hS.fin⟩
    refine wl_val (r_pick_t rfl (v := .bool _) rfl) rfl ?_; refine wl_val (r_assign (v := .bool _) rfl) rfl ?_; refine wl_nil ?_; refine c_then ?_; refine c_false rfl ?_; refine wp_skip ?_; refine c_inN ?_; refine c_then ?_; refine c_seq ?_; refine c_region ?_; refine wl_val (r_assign (v := .int .i64 (-1)) rfl) rfl ?_; refine wl_nil ?_; refine c_then ?_; refine wp_ret ?_; refine ret1 Try.results155 ?_
    first | exact ⟨congrArg (Value.int .i64) (digI_a (by omega) (by omega)).symm, hS.fin⟩ | exact ⟨congrArg (Value.int .i64) (digI_b (by omega) (by omega)).symm, hS.fin⟩ | exact ⟨congrArg (Value.int .i64) (digI_c (by omega) (by omega)).symm, hS.fin⟩
  refine wl_val (r_move (v := .bool _) rfl) rfl ?_; refine wl_not rfl ?_; refine wl_not rfl ?_; refine wl_val (r_pick_f rfl (v := .bool false) rfl) rfl ?_; refine wl_val (r_assign (v := .bool _) rfl) rfl ?_; refine wl_nil ?_; refine c_then ?_; refine c_false rfl ?_; refine wp_skip ?_; refine c_inN ?_; refine c_then ?_; refine c_seq ?_; refine c_region ?_; refine wl_val (r_assign (v := .int .i64 (-1)) rfl) rfl ?_; refine wl_nil ?_; refine c_then ?_; refine wp_ret ?_; refine ret1 Try.results155 ?_
  first | exact ⟨congrArg (Value.int .i64) (digI_a (by omega) (by omega)).symm, hS.fin⟩ | exact ⟨congrArg (Value.int .i64) (digI_b (by omega) (by omega)).symm, hS.fin⟩ | exact ⟨congrArg (Value.int .i64) (digI_c (by omega) (by omega)).symm, hS.fin⟩

theorem xor_ok (a b : List UInt8) (w : World) (ha : a.length = 32) (hb : b.length = 32) :
    Ret Try.prog 82 [.agg (a.map b8).toArray, .agg (b.map b8).toArray] w (fun v w' => v = .agg ((xor32 a b 32).map b8).toArray ∧ St w [] w' []) := by
  refine enter Try.func82 rfl Try.ntmps82 rfl ?_
  have hS := St.refl w []
  refine c_seq ?_; refine c_region ?_; refine wl_exv (x_box hS (v := .agg _) rfl rfl) rfl ?_; rintro _ w1 ⟨b2, rfl, hS2⟩; refine wl_exv (x_box hS2 (v := .agg _) rfl rfl) rfl ?_; rintro _ w3 ⟨b3, rfl, hS4⟩; refine wl_exv (x_alloc (C := ((List.replicate 32 (0 : UInt8)).map b8)) hS4 ti31 rfl) rfl ?_; rintro _ w5 ⟨b4, rfl, hS6⟩; refine wl_nil ?_; refine c_then ?_; refine c_seq ?_; refine c_seq ?_; refine c_region ?_; refine wl_val (r_move (v := .int .i64 0) rfl) rfl ?_; refine wl_nil ?_; refine c_then ?_; refine c_block ?_
  obtain ⟨LT7, hLT7, hS8⟩ := St.frame [_] [_, _] (hS6.perm ((List.Perm.cons _ (List.Perm.refl _)).trans (List.perm_middle (l₁ := [_, _])).symm))
  simp only [List.cons_append, List.nil_append] at hS8
  have hm7_b4 := inL hLT7 (.head _)
  have hm7_b3 := inL hLT7 (.tail _ (.head _))
  refine c_loopE [2, 3, 4] (fun d e w' => ∃ (k : Nat), Kw.look e 6 = vi k ∧ d = 32 - k ∧ St w [] w' (.blk b2 (cl ((xor32 a b k).map b8) 31) :: LT7) ∧ (k ≤ 32)) (32 - 0) ?_ ?_
  · exact ⟨0, rfl, rfl, (by rw [xor32_zero _ _ ha]; exact hS8), Nat.zero_le _⟩
  · rintro d12 e9 w10 ⟨k, hc0_6, rfl, hS11, hk⟩ -
    refine c_set (d := 6) hc0_6 ?_; refine c_seq ?_; refine c_region ?_
    refine wl_dec (r_lss rfl rfl) rfl (fun h2_0 => ?_) (fun h2_0 => ?_)
    · refine wl_nil ?_
      refine c_then ?_; refine c_seq ?_; refine c_true rfl ?_; refine wp_skip ?_; refine c_then ?_; refine c_seq ?_; refine c_block ?_; refine c_seq ?_; refine c_region ?_; refine wl_val (r_move (v := .int .i64 _) rfl) rfl ?_; refine wl_val (r_assign (v := .int .i64 _) rfl) rfl ?_; refine wl_nil ?_; refine c_then ?_; refine c_drawS 6 hMixed hS11 ?_; intro w13 hS14; refine g_take 0 rfl (by decide +kernel) rfl (fun _ _ _ h => h) hS14 (fun wF hF => r_move (v := .int .i64 _) rfl) ?_; refine g_take 1 rfl (by decide +kernel) rfl (fun _ _ _ h => h) hS14 (fun wF hF => r_ixA (sz := 1) ti31.und ti5 rfl rfl (by first | omega | (simp [*]; done) | (simp [*] <;> omega)) (Nat.zero_add _ |>.trans (Nat.mul_one _))) ?_; refine g_take 2 rfl (by decide +kernel) rfl (fun _ _ _ h => h) hS14 (fun wF hF => r_loadB1 ti5.und rfl rfl (hF.heap (.head _)) (map_gt _ _ _ (by first | omega | (simp [*]; done) | (simp [*] <;> omega)))) ?_; refine g_take 3 rfl (by decide +kernel) rfl (fun _ _ _ h => h) hS14 (fun wF hF => r_move (v := .int .i64 _) rfl) ?_; refine g_take 4 rfl (by decide +kernel) rfl (fun _ _ _ h => h) hS14 (fun wF hF => r_ixA (sz := 1) ti31.und ti5 rfl rfl (by first | omega | (simp [*]; done) | (simp [*] <;> omega)) (Nat.zero_add _ |>.trans (Nat.mul_one _))) ?_; refine g_take 5 rfl (by decide +kernel) rfl (fun _ _ _ h => h) hS14 (fun wF hF => r_loadB1 ti5.und rfl rfl (hF.heap (.tail _ hm7_b3)) (map_gt _ _ _ (by first | omega | (simp [*]; done) | (simp [*] <;> omega)))) ?_; refine g_tail (by decide +kernel) rfl (by decide +kernel) ?_
      refine wl_val (r_xor8 rfl rfl) rfl ?_; refine wl_val (r_ixA (sz := 1) ti31.und ti5 rfl rfl (by first | omega | (simp [*]; done) | (simp [*] <;> omega)) (Nat.zero_add _ |>.trans (Nat.mul_one _))) rfl ?_; refine wl_exs (x_store1m [] hS14 ti5 rfl rfl rfl (by first | omega | (simp [*]; done) | (simp [*] <;> omega))) rfl ?_; intro w15 hS16; simp only [List.cons_append, List.nil_append] at hS16; refine wl_nil ?_; refine c_inN ?_; refine c_then ?_; refine c_region ?_; refine wl_val (r_addn (b := 1) rfl rfl (by omega)) rfl ?_; refine wl_val (r_move (v := .int .i64 _) rfl) rfl ?_; refine wl_nil ?_; refine c_then ?_
      rw [xor32_set _ _ _ (by omega)] at hS16
      exact ⟨32 - (k + 1), _, by omega, rfl, ⟨k + 1, rfl, rfl, hS16, by omega⟩, ⟨rfl, rfl, rfl, trivial⟩⟩
    refine wl_nil ?_; refine c_then ?_; refine c_seq ?_; refine c_false rfl ?_; refine wp_exit ?_; refine c_thenE ?_; refine c_thenE ?_; refine c_inE ?_; refine c_then ?_; refine c_seq ?_; refine c_region ?_; refine wl_val (r_loadB ti31 rfl rfl (hS11.heap (.head _)) (by first | (simp [*]; done) | (simp [*] <;> omega) | omega)) rfl ?_
    subst hLT7
    refine wl_exs (x_storeW [_] hS11 ti31 rfl rfl (by first | (simp [*]; done) | (simp [*] <;> omega) | omega) (by first | (simp [*]; done) | (simp [*] <;> omega) | omega) (by repeat' first | exact one_nil | exact one_b8 _ | exact one_v32 _ | exact one_all rfl | refine one_cons rfl ?_ | refine one_app ?_ ?_)) rfl ?_; intro w17 hS18; simp only [List.cons_append, List.nil_append] at hS18; refine wl_nil ?_; refine c_then ?_; refine wp_ret ?_; refine retc Try.results82 ⟨_, rfl, run_loadVar_blk ti31 rfl (hS18.heap (.tail _ (.head _))) (by first | (simp [*]; done) | (simp [*] <;> omega) | omega)⟩ ?_
    obtain rfl : k = 32 := by omega
    exact ⟨rfl, hS18.fin⟩

theorem parseHex_ok (t : List UInt8) (many : Int) (w : World) (ht : t.length ≤ 9223372036854775807) (hm1 : -9223372036854775808 ≤ many) (hm2 : many ≤ 9223372036854775807) :
    Ret Try.prog 87 [.string ⟨t.toArray⟩, .int .i64 many] w (fun v w' => ((many < 0 ∨ 1048576 < many) ∧ v = .tuple #[.slice none 0 0, vi 4] ∧ St w [] w' []) ∨ (((0 ≤ many ∧ many ≤ 1048576) ∧ ¬ (t.length = 2 * many.toNat ∧ t.all hexC = true)) ∧ v = .tuple #[.slice none 0 0, vi 11] ∧ St w [] w' []) ∨ (((0 ≤ many ∧ many ≤ 1048576) ∧ t.length = 2 * many.toNat ∧ t.all hexC = true) ∧ ∃ a' c', v = .tuple #[.slice a' many.toNat c', vi 0] ∧ many.toNat ≤ c' ∧ St w [] w' [.row (.slice a' many.toNat c') 5 1 many.toNat ((unhexTo t many.toNat).map b8)])) := by
  refine enter Try.func87 rfl Try.ntmps87 rfl ?_
  have hS := St.refl w []
  refine c_seq ?_; refine c_region ?_; refine wl_val (r_assign (v := .slice none 0 0) rfl) rfl ?_; refine wl_val (r_assign (v := .int .i64 0) rfl) rfl ?_; refine wl_nil ?_; refine c_then ?_; refine c_seq ?_; refine c_seq ?_; refine c_region ?_; refine wl_val (r_move (v := .int .i64 _) rfl) rfl ?_
  refine wl_dec (r_lss rfl rfl) rfl (fun h1_1 => ?_) (fun h1_1 => ?_)
  · refine wl_val (r_move (v := .bool _) rfl) rfl ?_
    refine wl_not rfl ?_; refine wl_not rfl ?_; refine wl_val (r_pick_t rfl (v := .bool true) rfl) rfl ?_; refine wl_nil ?_; refine c_then ?_; refine c_true rfl ?_; refine c_seq ?_; refine c_region ?_; refine wl_val (r_assign (v := .slice none 0 0) rfl) rfl ?_; refine wl_val (r_assign (v := .int .i64 4) rfl) rfl ?_; refine wl_nil ?_; refine c_then ?_; refine wp_ret ?_; refine c_thenR ?_; refine ret2 Try.results87 rfl rfl ?_
    exact .inl ⟨by omega, rfl, hS.fin⟩
  refine wl_val (r_move (v := .bool _) rfl) rfl ?_; refine wl_val (r_move (v := .int .i64 _) rfl) rfl ?_
  refine wl_dec (r_gtr rfl rfl) rfl (fun h1_4 => ?_) (fun h1_4 => ?_)
  · refine wl_val (r_pick_f rfl (v := .bool _) rfl) rfl ?_
    refine wl_nil ?_; refine c_then ?_; refine c_true rfl ?_; refine c_seq ?_; refine c_region ?_; refine wl_val (r_assign (v := .slice none 0 0) rfl) rfl ?_; refine wl_val (r_assign (v := .int .i64 4) rfl) rfl ?_; refine wl_nil ?_; refine c_then ?_; refine wp_ret ?_; refine c_thenR ?_; refine ret2 Try.results87 rfl rfl ?_
    exact .inl ⟨by omega, rfl, hS.fin⟩
  refine wl_val (r_pick_f rfl (v := .bool _) rfl) rfl ?_; refine wl_nil ?_; refine c_then ?_; refine c_false rfl ?_; refine wp_skip ?_; refine c_then ?_; refine c_seq ?_; refine c_seq ?_
  obtain ⟨many', rfl⟩ : ∃ i : Nat, many = (i : Int) := ⟨many.toNat, (by omega)⟩
  refine c_region ?_; refine wl_val (r_move (v := .string _) rfl) rfl ?_; refine wl_val (r_lenStrL (T := 9) rfl ti9.und rfl _ rfl) rfl ?_; refine wl_val (r_move (v := .int .i64 _) rfl) rfl ?_; refine wl_val (r_muln (a := 2) rfl rfl (by omega)) rfl ?_
  refine wl_dec (r_neq rfl rfl) rfl (fun h3_4 => ?_) (fun h3_4 => ?_)
  · refine wl_nil ?_
    refine c_then ?_; refine c_true rfl ?_; refine c_seq ?_; refine c_region ?_; refine wl_val (r_assign (v := .slice none 0 0) rfl) rfl ?_; refine wl_val (r_assign (v := .int .i64 11) rfl) rfl ?_; refine wl_nil ?_; refine c_then ?_; refine wp_ret ?_; refine c_thenR ?_; refine ret2 Try.results87 rfl rfl ?_
    exact .inr (.inl ⟨⟨by omega, fun h => absurd h.1 (by omega)⟩, rfl, hS.fin⟩)
  refine wl_nil ?_; refine c_then ?_; refine c_false rfl ?_; refine wp_skip ?_; refine c_then ?_; refine c_seq ?_; refine c_region ?_; refine wl_val (r_move (v := .int .i64 _) rfl) rfl ?_; refine wl_exv (x_make_row hS ti22.und ti5 rfl rfl (by first | omega | (simp [*]; done) | (simp [*] <;> omega)) (by first | omega | (simp [*]; done) | (simp [*] <;> omega))) rfl ?_; rintro _ w1 ⟨a22, rfl, hS2⟩; refine wl_val (r_assign (v := .slice _ _ _) rfl) rfl ?_; refine wl_nil ?_; refine c_then ?_; refine c_seq ?_; refine c_seq ?_; refine c_region ?_; refine wl_val (r_assign (v := .int .i64 0) rfl) rfl ?_; refine wl_nil ?_; refine c_then ?_; refine c_block ?_; refine c_loopE [0] (fun d e w' => ∃ (k : Nat) (a6 : Option Addr) (c6 : Nat), Kw.look e 7 = vi (2 * k) ∧ Kw.look e 6 = .slice a6 k c6 ∧ d = many' - k ∧ St w [] w' [.row (.slice a6 k c6) 5 1 k ((unhexTo t k).map b8)] ∧ (k ≤ many') ∧ (k ≤ c6) ∧ ((t.take (2 * k)).all hexC = true)) (many' - 0) ?_ ?_
  · exact ⟨0, _, _, rfl, rfl, rfl, hS2, Nat.zero_le _, Nat.zero_le _, rfl⟩
  · rintro d6 e3 w4 ⟨k, a6, c6, hc0_7, hc0_6, rfl, hS5, hk, hc6, hall⟩ -
    refine c_set (d := 7) hc0_7 ?_; refine c_set (d := 6) hc0_6 ?_; refine c_seq ?_; refine c_seq ?_; refine c_region ?_; refine wl_val (r_move (v := .int .i64 _) rfl) rfl ?_; refine wl_val (r_move (v := .string _) rfl) rfl ?_; refine wl_val (r_lenStrL (T := 9) rfl ti9.und rfl _ rfl) rfl ?_
    refine wl_dec (r_lss rfl rfl) rfl (fun h7_3 => ?_) (fun h7_3 => ?_)
    · refine wl_nil ?_
      refine c_then ?_; refine c_true rfl ?_; refine wp_skip ?_; refine c_then ?_; refine c_seq ?_; refine c_block ?_; refine c_seq ?_; refine c_drawS 8 hMixed hS5 ?_; intro w7 hS8; refine g_take 0 rfl (by decide +kernel) rfl (fun _ _ _ h => h) hS8 (fun wF hF => r_move (v := .string _) rfl) ?_; refine g_take 1 rfl (by decide +kernel) rfl (fun _ _ _ h => h) hS8 (fun wF hF => r_move (v := .int .i64 _) rfl) ?_; refine g_take 2 rfl (by decide +kernel) rfl (fun _ _ _ h => h) hS8 (fun wF hF => r_indexStr (s := ⟨t.toArray⟩) ti9.und rfl rfl (get_gt t _ (by first | omega | (simp [*]; done) | (simp [*] <;> omega)))) ?_; refine g_take 4 rfl (by decide +kernel) rfl (fun _ _ _ h => h) hS8 (fun wF hF => r_move (v := .string _) rfl) ?_; refine g_take 5 rfl (by decide +kernel) rfl (fun _ _ _ h => h) hS8 (fun wF hF => r_move (v := .int .i64 _) rfl) ?_; refine g_take 6 rfl (by decide +kernel) rfl (fun _ _ _ h => h) hS8 (fun wF hF => r_addn (b := 1) rfl rfl (by omega)) ?_; refine g_take 7 rfl (by decide +kernel) rfl (fun _ _ _ h => h) hS8 (fun wF hF => r_indexStr (s := ⟨t.toArray⟩) ti9.und rfl rfl (get_gt t _ (by first | omega | (simp [*]; done) | (simp [*] <;> omega)))) ?_; refine g_one 3 (by decide +kernel) (by decide +kernel) ?_; refine o_call rfl (r_call fn155 rfl rfl) rfl (digit_ok _ _) ?_; rintro _ w9 ⟨rfl, hx10⟩
      have hS11 := hS8.ext hx10
      refine ⟨hS11, ?_⟩
      refine g_tail (by decide +kernel) rfl (by decide +kernel) ?_; refine wl_call (r_call fn155 rfl rfl) rfl (digit_ok _ _) ?_; rintro _ w12 ⟨rfl, hx13⟩
      have hS14 := hS11.ext hx13
      refine wl_val (r_assign (v := .int .i64 _) rfl) rfl ?_; refine wl_val (r_assign (v := .int .i64 _) rfl) rfl ?_; refine wl_nil ?_; refine c_then ?_; refine c_seq ?_; refine c_seq ?_; refine c_region ?_; refine wl_val (r_move (v := .int .i64 _) rfl) rfl ?_
      refine wl_dec (r_lss rfl rfl) rfl (fun h10_1 => ?_) (fun h10_1 => ?_)
      · refine wl_val (r_move (v := .bool _) rfl) rfl ?_
        refine wl_not rfl ?_; refine wl_not rfl ?_; refine wl_val (r_pick_t rfl (v := .bool true) rfl) rfl ?_; refine wl_nil ?_; refine c_then ?_; refine c_true rfl ?_; refine c_seq ?_; refine c_region ?_; refine wl_val (r_assign (v := .slice none 0 0) rfl) rfl ?_; refine wl_val (r_assign (v := .int .i64 11) rfl) rfl ?_; refine wl_nil ?_; refine c_then ?_; refine wp_ret ?_; refine c_thenR ?_; refine c_inR ?_; refine c_thenR ?_; refine c_thenR ?_; refine c_inR ?_; refine c_thenR ?_; refine ret2 Try.results87 rfl rfl ?_
        exact .inr (.inl ⟨⟨by omega, fun h => absurd h.2 (by rw [hexC_f (k := 2 * k) (by omega) (by unfold hexC; rw [decide_eq_true_iff]; omega)]; simp)⟩, rfl, hS14.fin⟩)
      refine wl_val (r_move (v := .bool _) rfl) rfl ?_; refine wl_val (r_move (v := .int .i64 _) rfl) rfl ?_
      refine wl_dec (r_lss rfl rfl) rfl (fun h10_4 => ?_) (fun h10_4 => ?_)
      · refine wl_val (r_pick_f rfl (v := .bool _) rfl) rfl ?_
        refine wl_nil ?_; refine c_then ?_; refine c_true rfl ?_; refine c_seq ?_; refine c_region ?_; refine wl_val (r_assign (v := .slice none 0 0) rfl) rfl ?_; refine wl_val (r_assign (v := .int .i64 11) rfl) rfl ?_; refine wl_nil ?_; refine c_then ?_; refine wp_ret ?_; refine c_thenR ?_; refine c_inR ?_; refine c_thenR ?_; refine c_thenR ?_; refine c_inR ?_; refine c_thenR ?_; refine ret2 Try.results87 rfl rfl ?_
        exact .inr (.inl ⟨⟨by omega, fun h => absurd h.2 (by rw [hexC_f (k := 2 * k + 1) (by omega) (by unfold hexC; rw [decide_eq_true_iff]; omega)]; simp)⟩, rfl, hS14.fin⟩)
      refine wl_val (r_pick_f rfl (v := .bool _) rfl) rfl ?_; refine wl_nil ?_; refine c_then ?_; refine c_false rfl ?_; refine wp_skip ?_; refine c_then ?_
      obtain ⟨dh, hdh⟩ : ∃ d : Nat, digI (gt t (2 * k)) = (d : Int) := ⟨_, (Int.toNat_of_nonneg (by omega)).symm⟩
      have hdh2 := digI_lt (gt t (2 * k))
      refine c_set (d := 8) (v := vi dh) (congrArg (Value.int .i64) hdh) ?_
      obtain ⟨dl, hdl⟩ : ∃ d : Nat, digI (gt t (2 * k + 1)) = (d : Int) := ⟨_, (Int.toNat_of_nonneg (by omega)).symm⟩
      have hdl2 := digI_lt (gt t (2 * k + 1))
      refine c_set (d := 9) (v := vi dl) (congrArg (Value.int .i64) hdl) ?_; refine c_region ?_; refine wl_val (r_move (v := .slice _ _ _) rfl) rfl ?_; refine wl_val (r_move (v := .int .i64 _) rfl) rfl ?_; refine wl_val (r_muln (a := 16) rfl rfl (by omega)) rfl ?_; refine wl_val (r_move (v := .int .i64 _) rfl) rfl ?_; refine wl_val (r_addn rfl rfl (by omega)) rfl ?_; refine wl_val (c_i64_u8 ti5.und ⟨_, ti3.und⟩ rfl) rfl ?_; refine wl_exv (x_lit (vs := [.int .u8 _]) hS14 ti22.und ti5 rfl rfl rfl (by intro c hc; simp only [List.mem_cons, List.not_mem_nil, or_false] at hc; rcases hc with rfl <;> rfl) (by decide)) rfl ?_; rintro _ w15 ⟨b50, rfl, hS16⟩; refine wl_exv (x_append [_] hS16 ti22.und ti5 rfl (by decide) rfl rfl (Row.of_at (at_all (hS16.heap (.head _)))) (by first | (simp [*]; done) | (simp [*] <;> omega) | omega) (by first | exact one_b8 _ | exact one_v32 _ | (intro c hc; simp only [List.mem_cons, List.not_mem_nil, or_false] at hc; (first | subst hc | rcases hc with rfl | rfl) <;> rfl)) (by first | omega | (simp [*]; done) | (simp [*] <;> omega)) (by first | omega | (simp [*]; done) | (simp [*] <;> omega)) _ rfl) rfl ?_; rintro _ w17 ⟨aq19, cq19, rfl, hcq19, hS18⟩; simp only [List.cons_append, List.nil_append] at hS18; refine wl_val (r_assign (v := .slice _ _ _) rfl) rfl ?_; refine wl_nil ?_; refine c_inN ?_; refine c_then ?_; refine c_region ?_; refine wl_val (r_move (v := .int .i64 _) rfl) rfl ?_; refine wl_val (r_addn (b := 2) rfl rfl (by omega)) rfl ?_; refine wl_val (r_assign (v := .int .i64 _) rfl) rfl ?_
      refine wl_nil ?_; refine c_then ?_
      have e1 : (unhexTo t k).map b8 ++ [b8 (UInt8.ofNat (16 * dh + dl))] = (unhexTo t (k + 1)).map b8 := by rw [unhexTo, List.map_append, show (digI (gt t (2 * k))).toNat = dh by omega, show (digI (gt t (2 * k + 1))).toNat = dl by omega]; rfl
      rw [e1] at hS18
      exact ⟨many' - (k + 1), _, by omega, rfl, ⟨k + 1, _, _, congrArg (Value.int .i64) (by omega), rfl, rfl, hS18.drop1, by omega, hcq19, (by rw [show 2 * (k + 1) = 2 * k + 1 + 1 by omega]; exact hexC_step (k := 2 * k + 1) (by omega) (hexC_step (k := 2 * k) (by omega) hall (by unfold hexC; rw [decide_eq_true_iff]; omega)) (by unfold hexC; rw [decide_eq_true_iff]; omega))⟩, ⟨rfl, trivial⟩⟩
    refine wl_nil ?_; refine c_then ?_; refine c_false rfl ?_; refine wp_exit ?_; refine c_thenE ?_; refine c_thenE ?_; refine c_inE ?_; refine c_then ?_; refine c_seq ?_; refine c_region ?_; refine wl_val (r_move (v := .slice _ _ _) rfl) rfl ?_; refine wl_val (r_assign (v := .slice _ _ _) rfl) rfl ?_; refine wl_val (r_assign (v := .int .i64 0) rfl) rfl ?_; refine wl_nil ?_; refine c_then ?_; refine wp_ret ?_; refine ret2 Try.results87 rfl rfl ?_
    obtain rfl : k = many' := by omega
    simp only [Int.toNat_natCast] at *
    exact .inr (.inr ⟨⟨by omega, by omega, by rw [show 2 * k = t.length by omega, List.take_length] at hall; exact hall⟩, _, _, rfl, hc6, hS5⟩)

theorem isHex_ok (t : List UInt8) (m : Nat) (w : World) (ht : t.length ≤ 9223372036854775807) (hm : m ≤ 1048576) :
    Ret Try.prog 89 [.string ⟨t.toArray⟩, vi m] w (fun v w' => v = .bool (decide (t.length = 2 * m) && t.all hexC) ∧ St w [] w' []) := by
  refine enter Try.func89 rfl Try.ntmps89 rfl ?_
  have hS := St.refl w []
  refine c_seq ?_; refine c_region ?_; refine wl_val (r_assign (v := .bool false) rfl) rfl ?_; refine wl_nil ?_; refine c_then ?_; refine c_seq ?_; refine c_seq ?_; refine c_region ?_; refine wl_val (r_move (v := .string _) rfl) rfl ?_; refine wl_val (r_lenStrL (T := 9) rfl ti9.und rfl _ rfl) rfl ?_; refine wl_val (r_move (v := .int .i64 _) rfl) rfl ?_; refine wl_val (r_muln (a := 2) rfl rfl (by omega)) rfl ?_
  refine wl_dec (r_neq rfl rfl) rfl (fun h1_4 => ?_) (fun h1_4 => ?_)
  · refine wl_nil ?_
    refine c_then ?_; refine c_true rfl ?_; refine c_seq ?_; refine c_region ?_; refine wl_val (r_assign (v := .bool false) rfl) rfl ?_; refine wl_nil ?_; refine c_then ?_; refine wp_ret ?_; refine c_thenR ?_; refine ret1 Try.results89 ?_
    exact ⟨congrArg Value.bool (by rw [decide_eq_false (by omega)]; rfl), hS.fin⟩
  refine wl_nil ?_; refine c_then ?_; refine c_false rfl ?_; refine wp_skip ?_; refine c_then ?_; refine c_seq ?_; refine c_seq ?_; refine c_region ?_; refine wl_val (r_move (v := .string _) rfl) rfl ?_; refine wl_val (r_lenStrL (T := 9) rfl ti9.und rfl _ rfl) rfl ?_; refine wl_val (r_move (v := .int .i64 0) rfl) rfl ?_; refine wl_nil ?_; refine c_then ?_; refine c_block ?_; refine c_loopE [0, 13] (fun d e w' => ∃ (k : Nat), Kw.look e 14 = vi k ∧ d = t.length - k ∧ St w [] w' [] ∧ (k ≤ t.length) ∧ ((t.take k).all hexC = true)) (t.length - 0) ?_ ?_
  · exact ⟨0, rfl, rfl, hS, Nat.zero_le _, rfl⟩
  · rintro d4 e1 w2 ⟨k, hc0_14, rfl, hS3, hk, hall⟩ -
    refine c_set (d := 14) hc0_14 ?_; refine c_seq ?_; refine c_region ?_
    refine wl_dec (r_lss rfl rfl) rfl (fun h4_0 => ?_) (fun h4_0 => ?_)
    · refine wl_nil ?_
      refine c_then ?_; refine c_seq ?_; refine c_true rfl ?_; refine wp_skip ?_; refine c_then ?_; refine c_seq ?_; refine c_block ?_; refine c_seq ?_; refine c_region ?_; refine wl_val (r_move (v := .int .i64 _) rfl) rfl ?_; refine wl_val (r_assign (v := .int .i64 _) rfl) rfl ?_; refine wl_nil ?_; refine c_then ?_; refine c_seq ?_; refine c_region ?_; refine wl_val (r_move (v := .string _) rfl) rfl ?_; refine wl_val (r_move (v := .int .i64 _) rfl) rfl ?_; refine wl_val (r_indexStr (s := ⟨t.toArray⟩) ti9.und rfl rfl (get_gt t _ (by first | omega | (simp [*]; done) | (simp [*] <;> omega)))) rfl ?_; refine wl_val (r_assign (v := .int .u8 _) rfl) rfl ?_; refine wl_nil ?_; refine c_then ?_; refine c_seq ?_; refine c_region ?_; refine wl_val (r_move (v := .int .u8 _) rfl) rfl ?_
      refine wl_dec (r_lss rfl rfl) rfl (fun h7_1 => ?_) (fun h7_1 => ?_)
      · refine wl_val (r_move (v := .bool _) rfl) rfl ?_
        refine wl_not rfl ?_; refine wl_not rfl ?_; refine wl_val (r_pick_t rfl (v := .bool true) rfl) rfl ?_; refine wl_val (r_move (v := .bool _) rfl) rfl ?_; refine wl_val (r_move (v := .int .u8 _) rfl) rfl ?_
        refine wl_dec (r_lss rfl rfl) rfl (fun h7_8 => ?_) (fun h7_8 => ?_)
        · refine wl_val (r_move (v := .bool _) rfl) rfl ?_
          refine wl_not rfl ?_; refine wl_not rfl ?_; refine wl_val (r_pick_t rfl (v := .bool true) rfl) rfl ?_; refine wl_val (r_pick_t rfl (v := .bool _) rfl) rfl ?_; refine wl_nil ?_; refine c_then ?_; refine c_true rfl ?_; refine c_seq ?_; refine c_region ?_; refine wl_val (r_assign (v := .bool false) rfl) rfl ?_; refine wl_nil ?_; refine c_then ?_; refine wp_ret ?_; refine c_inR ?_; refine c_thenR ?_; refine c_thenR ?_; refine c_inR ?_; refine c_thenR ?_; refine ret1 Try.results89 ?_
          exact ⟨congrArg Value.bool (by rw [hexC_f (k := k) (by omega) (by rw [hexC_iff]; omega), Bool.and_false]), hS3.fin⟩
        refine wl_val (r_move (v := .bool _) rfl) rfl ?_; refine wl_val (r_move (v := .int .u8 _) rfl) rfl ?_
        refine wl_dec (r_gtr rfl rfl) rfl (fun h7_11 => ?_) (fun h7_11 => ?_)
        · refine wl_val (r_pick_f rfl (v := .bool _) rfl) rfl ?_
          refine wl_val (r_pick_t rfl (v := .bool _) rfl) rfl ?_; refine wl_nil ?_; refine c_then ?_; refine c_true rfl ?_; refine c_seq ?_; refine c_region ?_; refine wl_val (r_assign (v := .bool false) rfl) rfl ?_; refine wl_nil ?_; refine c_then ?_; refine wp_ret ?_; refine c_inR ?_; refine c_thenR ?_; refine c_thenR ?_; refine c_inR ?_; refine c_thenR ?_; refine ret1 Try.results89 ?_
          exact ⟨congrArg Value.bool (by rw [hexC_f (k := k) (by omega) (by rw [hexC_iff]; omega), Bool.and_false]), hS3.fin⟩
        refine wl_val (r_pick_f rfl (v := .bool _) rfl) rfl ?_; refine wl_val (r_pick_t rfl (v := .bool _) rfl) rfl ?_; refine wl_nil ?_; refine c_then ?_; refine c_false rfl ?_; refine wp_skip ?_; refine c_inN ?_; refine c_then ?_; refine c_region ?_; refine wl_val (r_addn (b := 1) rfl rfl (by omega)) rfl ?_; refine wl_val (r_move (v := .int .i64 _) rfl) rfl ?_; refine wl_nil ?_; refine c_then ?_
        exact ⟨t.length - (k + 1), _, by omega, rfl, ⟨k + 1, rfl, rfl, hS3, by omega, hexC_step (by omega) hall ((hexC_iff _).2 (by omega))⟩, ⟨rfl, rfl, trivial⟩⟩
      refine wl_val (r_move (v := .bool _) rfl) rfl ?_; refine wl_val (r_move (v := .int .u8 _) rfl) rfl ?_
      refine wl_dec (r_gtr rfl rfl) rfl (fun h7_4 => ?_) (fun h7_4 => ?_)
      · refine wl_val (r_pick_f rfl (v := .bool _) rfl) rfl ?_
        refine wl_val (r_move (v := .bool _) rfl) rfl ?_; refine wl_val (r_move (v := .int .u8 _) rfl) rfl ?_
        refine wl_dec (r_lss rfl rfl) rfl (fun h7_8 => ?_) (fun h7_8 => ?_)
        · refine wl_val (r_move (v := .bool _) rfl) rfl ?_
          refine wl_not rfl ?_; refine wl_not rfl ?_; refine wl_val (r_pick_t rfl (v := .bool true) rfl) rfl ?_; refine wl_val (r_pick_t rfl (v := .bool _) rfl) rfl ?_; refine wl_nil ?_; refine c_then ?_; refine c_true rfl ?_; refine c_seq ?_; refine c_region ?_; refine wl_val (r_assign (v := .bool false) rfl) rfl ?_; refine wl_nil ?_; refine c_then ?_; refine wp_ret ?_; refine c_inR ?_; refine c_thenR ?_; refine c_thenR ?_; refine c_inR ?_; refine c_thenR ?_; refine ret1 Try.results89 ?_
          exact ⟨congrArg Value.bool (by rw [hexC_f (k := k) (by omega) (by rw [hexC_iff]; omega), Bool.and_false]), hS3.fin⟩
        refine wl_val (r_move (v := .bool _) rfl) rfl ?_; refine wl_val (r_move (v := .int .u8 _) rfl) rfl ?_
        refine wl_dec (r_gtr rfl rfl) rfl (fun h7_11 => ?_) (fun h7_11 => ?_)
        · refine wl_val (r_pick_f rfl (v := .bool _) rfl) rfl ?_
          refine wl_val (r_pick_t rfl (v := .bool _) rfl) rfl ?_; refine wl_nil ?_; refine c_then ?_; refine c_true rfl ?_; refine c_seq ?_; refine c_region ?_; refine wl_val (r_assign (v := .bool false) rfl) rfl ?_; refine wl_nil ?_; refine c_then ?_; refine wp_ret ?_; refine c_inR ?_; refine c_thenR ?_; refine c_thenR ?_; refine c_inR ?_; refine c_thenR ?_; refine ret1 Try.results89 ?_
          exact ⟨congrArg Value.bool (by rw [hexC_f (k := k) (by omega) (by rw [hexC_iff]; omega), Bool.and_false]), hS3.fin⟩
        refine wl_val (r_pick_f rfl (v := .bool _) rfl) rfl ?_; refine wl_val (r_pick_t rfl (v := .bool _) rfl) rfl ?_; refine wl_nil ?_; refine c_then ?_; refine c_false rfl ?_; refine wp_skip ?_; refine c_inN ?_; refine c_then ?_; refine c_region ?_; refine wl_val (r_addn (b := 1) rfl rfl (by omega)) rfl ?_; refine wl_val (r_move (v := .int .i64 _) rfl) rfl ?_; refine wl_nil ?_; refine c_then ?_
        exact ⟨t.length - (k + 1), _, by omega, rfl, ⟨k + 1, rfl, rfl, hS3, by omega, hexC_step (by omega) hall ((hexC_iff _).2 (by omega))⟩, ⟨rfl, rfl, trivial⟩⟩
      refine wl_val (r_pick_f rfl (v := .bool _) rfl) rfl ?_; refine wl_val (r_move (v := .bool _) rfl) rfl ?_; refine wl_not rfl ?_; refine wl_not rfl ?_; refine wl_not rfl ?_; refine wl_not rfl ?_; refine wl_not rfl ?_; refine wl_not rfl ?_; refine wl_val (r_pick_f rfl (v := .bool false) rfl) rfl ?_; refine wl_nil ?_; refine c_then ?_; refine c_false rfl ?_; refine wp_skip ?_; refine c_inN ?_; refine c_then ?_; refine c_region ?_; refine wl_val (r_addn (b := 1) rfl rfl (by omega)) rfl ?_; refine wl_val (r_move (v := .int .i64 _) rfl) rfl ?_; refine wl_nil ?_; refine c_then ?_
      exact ⟨t.length - (k + 1), _, by omega, rfl, ⟨k + 1, rfl, rfl, hS3, by omega, hexC_step (by omega) hall ((hexC_iff _).2 (by omega))⟩, ⟨rfl, rfl, trivial⟩⟩
    refine wl_nil ?_; refine c_then ?_; refine c_seq ?_; refine c_false rfl ?_; refine wp_exit ?_; refine c_thenE ?_; refine c_thenE ?_; refine c_inE ?_; refine c_then ?_; refine c_seq ?_; refine c_region ?_; refine wl_val (r_assign (v := .bool true) rfl) rfl ?_; refine wl_nil ?_; refine c_then ?_; refine wp_ret ?_; refine ret1 Try.results89 ?_
    obtain rfl : k = t.length := by omega
    rw [List.take_length] at hall
    exact ⟨congrArg Value.bool (by rw [decide_eq_true (by omega), hall]; rfl), hS3.fin⟩

end Go.Proofs.Ytfohfnpehfcaaaa
