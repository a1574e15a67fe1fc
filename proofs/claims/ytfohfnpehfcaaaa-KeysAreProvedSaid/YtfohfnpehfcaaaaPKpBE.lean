/- What the law's proof leans on. No condition. -/
import Derived.Test.YtfohfnpehfcaaaaPKpAH
import Derived.Test.YtfohfnpehfcaaaaPKpBD
import Derived.Test.YtfohfnpehfcaaaaPKpAS
section
namespace Go.Proofs.Ytfohfnpehfcaaaa
open Go.Kw
set_option linter.unusedVariables false
set_option linter.unusedSimpArgs false
set_option maxRecDepth 100000
theorem bit_ok (k : List UInt8) (i : Nat) (w : World) (hk : k.length = 32) (hi : i < 256) :
    Ret Try.prog 165 [.agg (k.map b8).toArray, vi i] w (fun v w' => v = vi (bitL k i) ∧ St w [] w' []) := by
  refine enter Try.func165 rfl Try.ntmps165 rfl ?_
  have hS := St.refl w []
  refine c_seq ?_; refine c_region ?_; refine wl_exv (x_box hS (v := .agg _) rfl rfl) rfl ?_; rintro _ w1 ⟨b2, rfl, hS2⟩; refine wl_val (r_assign (v := .int .i64 0) rfl) rfl ?_; refine wl_nil ?_; refine c_then ?_; refine c_seq ?_; refine c_region ?_; refine wl_val (r_move (v := .int .i64 _) rfl) rfl ?_; refine wl_val (r_quon (b := 8) rfl rfl (by omega) (by omega)) rfl ?_; refine wl_val (r_ixA (sz := 1) ti49.und ti5 rfl rfl (by first | omega | (simp [*]; done) | (simp [*] <;> omega)) (Nat.zero_add _ |>.trans (Nat.mul_one _))) rfl ?_; refine wl_val (r_loadB1 ti5.und rfl rfl (hS2.heap (.head _)) (map_gt _ _ _ (by first | omega | (simp [*]; done) | (simp [*] <;> omega)))) rfl ?_; refine wl_val (r_move (v := .int .i64 _) rfl) rfl ?_; refine wl_val (r_remn (b := 8) rfl rfl (by omega)) rfl ?_; refine wl_val (r_subn (a := 7) rfl rfl (by omega) (by omega)) rfl ?_; refine wl_val (r_shr8 rfl rfl (by first | omega | (simp [*]; done) | (simp [*] <;> omega))) rfl ?_; refine wl_val (c_u8_i64 ti3.und ⟨_, ti5.und⟩ rfl) rfl ?_; refine wl_val (r_andm (s := 1) (by decide) rfl rfl) rfl ?_; refine wl_val (r_assign (v := .int .i64 _) rfl) rfl ?_; refine wl_nil ?_; refine c_then ?_; refine wp_ret ?_; refine ret1 Try.results165 ?_
  exact ⟨congrArg vi (by unfold bitL; omega), hS2.fin⟩

theorem rbit_ok (k : List UInt8) (i : Nat) (w : World) (hk : k.length = 32) (hi : i < 256) :
    Ret Try.prog 166 [.agg (k.map b8).toArray, vi i] w (fun v w' => v = vi (bitL k i) ∧ St w [] w' []) := by
  refine enter Try.func166 rfl Try.ntmps166 rfl ?_
  have hS := St.refl w []
  refine c_seq ?_; refine c_region ?_; refine wl_exv (x_box hS (v := .agg _) rfl rfl) rfl ?_; rintro _ w1 ⟨b2, rfl, hS2⟩; refine wl_val (r_assign (v := .int .i64 0) rfl) rfl ?_; refine wl_nil ?_; refine c_then ?_; refine c_seq ?_; refine c_region ?_; refine wl_val (r_move (v := .int .i64 _) rfl) rfl ?_; refine wl_val (r_quon (b := 8) rfl rfl (by omega) (by omega)) rfl ?_; refine wl_val (r_ixA (sz := 1) ti49.und ti5 rfl rfl (by first | omega | (simp [*]; done) | (simp [*] <;> omega)) (Nat.zero_add _ |>.trans (Nat.mul_one _))) rfl ?_; refine wl_val (r_loadB1 ti5.und rfl rfl (hS2.heap (.head _)) (map_gt _ _ _ (by first | omega | (simp [*]; done) | (simp [*] <;> omega)))) rfl ?_; refine wl_val (r_move (v := .int .i64 _) rfl) rfl ?_; refine wl_val (r_remn (b := 8) rfl rfl (by omega)) rfl ?_; refine wl_val (r_subn (a := 7) rfl rfl (by omega) (by omega)) rfl ?_; refine wl_val (r_shr8 rfl rfl (by first | omega | (simp [*]; done) | (simp [*] <;> omega))) rfl ?_; refine wl_val (r_and8 (b := 1) rfl rfl) rfl ?_; refine wl_val (c_u8_i64 ti3.und ⟨_, ti5.und⟩ rfl) rfl ?_; refine wl_val (r_assign (v := .int .i64 _) rfl) rfl ?_; refine wl_nil ?_; refine c_then ?_; refine wp_ret ?_; refine ret1 Try.results166 ?_
  exact ⟨congrArg vi (by unfold bitL; rw [UInt8.toNat_and]; exact Nat.and_one_is_mod _), hS2.fin⟩

theorem differs_ok (a b : List UInt8) (w : World) (ha : a.length = 32) (hb : b.length = 32) :
    Ret Try.prog 144 [.agg (a.map b8).toArray, .agg (b.map b8).toArray] w (fun v w' => v = vi (differL a b) ∧ St w [] w' []) := by
  refine enter Try.func144 rfl Try.ntmps144 rfl ?_
  have hS := St.refl w []
  refine c_seq ?_; refine c_region ?_; refine wl_exv (x_box hS (v := .agg _) rfl rfl) rfl ?_; rintro _ w1 ⟨b2, rfl, hS2⟩; refine wl_exv (x_box hS2 (v := .agg _) rfl rfl) rfl ?_; rintro _ w3 ⟨b3, rfl, hS4⟩; refine wl_val (r_assign (v := .int .i64 0) rfl) rfl ?_; refine wl_nil ?_; refine c_then ?_; refine c_seq ?_; refine c_seq ?_; refine c_region ?_; refine wl_val (r_move (v := .int .i64 0) rfl) rfl ?_; refine wl_nil ?_; refine c_then ?_; refine c_block ?_
  obtain ⟨LT5, hLT5, hS6⟩ := St.frame [] [_, _] hS4
  simp only [List.cons_append, List.nil_append] at hS6
  have hm5_b3 := inL hLT5 (.head _)
  have hm5_b2 := inL hLT5 (.tail _ (.head _))
  refine c_loopE [2, 3] (fun d e w' => ∃ (i : Nat), Kw.look e 6 = vi i ∧ d = 256 - i ∧ St w [] w' (LT5) ∧ (i ≤ 256) ∧ (firstD a b (256 - i) i = differL a b)) (256) ?_ ?_
  · exact ⟨0, rfl, rfl, hS6, by omega, rfl⟩
  · rintro d10 e7 w8 ⟨i, hc0_6, rfl, hS9, hi, hf⟩ -
    refine c_set (d := 6) hc0_6 ?_; refine c_seq ?_; refine c_region ?_
    refine wl_dec (r_lss rfl rfl) rfl (fun h2_0 => ?_) (fun h2_0 => ?_)
    · refine wl_nil ?_
      refine c_then ?_; refine c_seq ?_; refine c_true rfl ?_; refine wp_skip ?_; refine c_then ?_; refine c_seq ?_; refine c_block ?_; refine c_seq ?_; refine c_region ?_; refine wl_val (r_move (v := .int .i64 _) rfl) rfl ?_; refine wl_val (r_assign (v := .int .i64 _) rfl) rfl ?_; refine wl_nil ?_; refine c_then ?_; refine c_seq ?_; refine c_drawS 5 hMixed hS9 ?_; intro w11 hS12; refine g_take 0 rfl (by decide +kernel) rfl (fun _ _ _ h => h) hS12 (fun wF hF => r_loadB ti49 rfl rfl (hF.heap hm5_b2) (by first | (simp [*]; done) | (simp [*] <;> omega) | omega)) ?_; refine g_take 1 rfl (by decide +kernel) rfl (fun _ _ _ h => h) hS12 (fun wF hF => r_move (v := .int .i64 _) rfl) ?_; refine g_take 3 rfl (by decide +kernel) rfl (fun _ _ _ h => h) hS12 (fun wF hF => r_loadB ti49 rfl rfl (hF.heap hm5_b3) (by first | (simp [*]; done) | (simp [*] <;> omega) | omega)) ?_; refine g_take 4 rfl (by decide +kernel) rfl (fun _ _ _ h => h) hS12 (fun wF hF => r_move (v := .int .i64 _) rfl) ?_; refine g_one 2 (by decide +kernel) (by decide +kernel) ?_; refine o_call rfl (r_call fn165 rfl rfl) rfl (bit_ok _ _ _ (by first | (simp [*]; done) | (simp [*] <;> omega) | omega) (by first | omega | (simp [*]; done) | (simp [*] <;> omega))) ?_; rintro _ w13 ⟨rfl, hx14⟩
      have hS15 := hS12.ext hx14
      refine ⟨hS15, ?_⟩
      refine g_tail (by decide +kernel) rfl (by decide +kernel) ?_; refine wl_call (r_call fn165 rfl rfl) rfl (bit_ok _ _ _ (by first | (simp [*]; done) | (simp [*] <;> omega) | omega) (by first | omega | (simp [*]; done) | (simp [*] <;> omega))) ?_; rintro _ w16 ⟨rfl, hx17⟩
      have hS18 := hS15.ext hx17
      refine wl_dec (r_neq rfl rfl) rfl (fun h4_6 => ?_) (fun h4_6 => ?_)
      · refine wl_nil ?_
        refine c_then ?_; refine c_true rfl ?_; refine c_seq ?_; refine c_region ?_; refine wl_val (r_move (v := .int .i64 _) rfl) rfl ?_; refine wl_val (r_assign (v := .int .i64 _) rfl) rfl ?_; refine wl_nil ?_; refine c_then ?_; refine wp_ret ?_; refine c_inR ?_; refine c_thenR ?_; refine c_thenR ?_; refine c_inR ?_; refine c_thenR ?_; refine ret1 Try.results144 ?_
        obtain ⟨f, hf'⟩ : ∃ f, 256 - i = f + 1 := ⟨255 - i, by omega⟩
        exact ⟨congrArg vi (by rw [← hf, hf', firstD_here (by omega)]), hS18.fin⟩
      refine wl_nil ?_; refine c_then ?_; refine c_false rfl ?_; refine wp_skip ?_; refine c_inN ?_; refine c_then ?_; refine c_region ?_; refine wl_val (r_addn (b := 1) rfl rfl (by omega)) rfl ?_; refine wl_val (r_move (v := .int .i64 _) rfl) rfl ?_; refine wl_nil ?_; refine c_then ?_
      obtain ⟨f, hf'⟩ : ∃ f, 256 - i = f + 1 := ⟨255 - i, by omega⟩
      exact ⟨256 - (i + 1), _, by omega, rfl, ⟨i + 1, rfl, rfl, hS18, by omega, by rw [← hf, hf', firstD_step (by omega), show 256 - (i + 1) = f by omega]⟩, ⟨rfl, rfl, trivial⟩⟩
    refine wl_nil ?_; refine c_then ?_; refine c_seq ?_; refine c_false rfl ?_; refine wp_exit ?_; refine c_thenE ?_; refine c_thenE ?_; refine c_inE ?_; refine c_then ?_; refine c_seq ?_; refine c_region ?_; refine wl_val (r_assign (v := .int .i64 256) rfl) rfl ?_; refine wl_nil ?_; refine c_then ?_; refine wp_ret ?_; refine ret1 Try.results144 ?_
    obtain rfl : i = 256 := by omega
    exact ⟨congrArg vi hf, hS9.fin⟩

theorem rdiffer_ok (a b : List UInt8) (w : World) (ha : a.length = 32) (hb : b.length = 32) :
    Ret Try.prog 145 [.agg (a.map b8).toArray, .agg (b.map b8).toArray] w (fun v w' => v = vi (differL a b) ∧ St w [] w' []) := by
  refine enter Try.func145 rfl Try.ntmps145 rfl ?_
  have hS := St.refl w []
  refine c_seq ?_; refine c_region ?_; refine wl_exv (x_box hS (v := .agg _) rfl rfl) rfl ?_; rintro _ w1 ⟨b2, rfl, hS2⟩; refine wl_exv (x_box hS2 (v := .agg _) rfl rfl) rfl ?_; rintro _ w3 ⟨b3, rfl, hS4⟩; refine wl_val (r_assign (v := .int .i64 0) rfl) rfl ?_; refine wl_nil ?_; refine c_then ?_; refine c_seq ?_; refine c_seq ?_; refine c_region ?_; refine wl_val (r_move (v := .int .i64 0) rfl) rfl ?_; refine wl_nil ?_; refine c_then ?_; refine c_block ?_
  obtain ⟨LT5, hLT5, hS6⟩ := St.frame [] [_, _] hS4
  simp only [List.cons_append, List.nil_append] at hS6
  have hm5_b3 := inL hLT5 (.head _)
  have hm5_b2 := inL hLT5 (.tail _ (.head _))
  refine c_loopE [2, 3] (fun d e w' => ∃ (i : Nat), Kw.look e 6 = vi i ∧ d = 256 - i ∧ St w [] w' (LT5) ∧ (i ≤ 256) ∧ (firstD a b (256 - i) i = differL a b)) (256) ?_ ?_
  · exact ⟨0, rfl, rfl, hS6, by omega, rfl⟩
  · rintro d10 e7 w8 ⟨i, hc0_6, rfl, hS9, hi, hf⟩ -
    refine c_set (d := 6) hc0_6 ?_; refine c_seq ?_; refine c_region ?_
    refine wl_dec (r_lss rfl rfl) rfl (fun h2_0 => ?_) (fun h2_0 => ?_)
    · refine wl_nil ?_
      refine c_then ?_; refine c_seq ?_; refine c_true rfl ?_; refine wp_skip ?_; refine c_then ?_; refine c_seq ?_; refine c_block ?_; refine c_seq ?_; refine c_region ?_; refine wl_val (r_move (v := .int .i64 _) rfl) rfl ?_; refine wl_val (r_assign (v := .int .i64 _) rfl) rfl ?_; refine wl_nil ?_; refine c_then ?_; refine c_seq ?_; refine c_drawS 5 hMixed hS9 ?_; intro w11 hS12; refine g_take 0 rfl (by decide +kernel) rfl (fun _ _ _ h => h) hS12 (fun wF hF => r_loadB ti49 rfl rfl (hF.heap hm5_b2) (by first | (simp [*]; done) | (simp [*] <;> omega) | omega)) ?_; refine g_take 1 rfl (by decide +kernel) rfl (fun _ _ _ h => h) hS12 (fun wF hF => r_move (v := .int .i64 _) rfl) ?_; refine g_take 3 rfl (by decide +kernel) rfl (fun _ _ _ h => h) hS12 (fun wF hF => r_loadB ti49 rfl rfl (hF.heap hm5_b3) (by first | (simp [*]; done) | (simp [*] <;> omega) | omega)) ?_; refine g_take 4 rfl (by decide +kernel) rfl (fun _ _ _ h => h) hS12 (fun wF hF => r_move (v := .int .i64 _) rfl) ?_; refine g_one 2 (by decide +kernel) (by decide +kernel) ?_; refine o_call rfl (r_call fn166 rfl rfl) rfl (rbit_ok _ _ _ (by first | (simp [*]; done) | (simp [*] <;> omega) | omega) (by first | omega | (simp [*]; done) | (simp [*] <;> omega))) ?_; rintro _ w13 ⟨rfl, hx14⟩
      have hS15 := hS12.ext hx14
      refine ⟨hS15, ?_⟩
      refine g_tail (by decide +kernel) rfl (by decide +kernel) ?_; refine wl_call (r_call fn166 rfl rfl) rfl (rbit_ok _ _ _ (by first | (simp [*]; done) | (simp [*] <;> omega) | omega) (by first | omega | (simp [*]; done) | (simp [*] <;> omega))) ?_; rintro _ w16 ⟨rfl, hx17⟩
      have hS18 := hS15.ext hx17
      refine wl_dec (r_neq rfl rfl) rfl (fun h4_6 => ?_) (fun h4_6 => ?_)
      · refine wl_nil ?_
        refine c_then ?_; refine c_true rfl ?_; refine c_seq ?_; refine c_region ?_; refine wl_val (r_move (v := .int .i64 _) rfl) rfl ?_; refine wl_val (r_assign (v := .int .i64 _) rfl) rfl ?_; refine wl_nil ?_; refine c_then ?_; refine wp_ret ?_; refine c_inR ?_; refine c_thenR ?_; refine c_thenR ?_; refine c_inR ?_; refine c_thenR ?_; refine ret1 Try.results145 ?_
        obtain ⟨f, hf'⟩ : ∃ f, 256 - i = f + 1 := ⟨255 - i, by omega⟩
        exact ⟨congrArg vi (by rw [← hf, hf', firstD_here (by omega)]), hS18.fin⟩
      refine wl_nil ?_; refine c_then ?_; refine c_false rfl ?_; refine wp_skip ?_; refine c_inN ?_; refine c_then ?_; refine c_region ?_; refine wl_val (r_addn (b := 1) rfl rfl (by omega)) rfl ?_; refine wl_val (r_move (v := .int .i64 _) rfl) rfl ?_; refine wl_nil ?_; refine c_then ?_
      obtain ⟨f, hf'⟩ : ∃ f, 256 - i = f + 1 := ⟨255 - i, by omega⟩
      exact ⟨256 - (i + 1), _, by omega, rfl, ⟨i + 1, rfl, rfl, hS18, by omega, by rw [← hf, hf', firstD_step (by omega), show 256 - (i + 1) = f by omega]⟩, ⟨rfl, rfl, trivial⟩⟩
    refine wl_nil ?_; refine c_then ?_; refine c_seq ?_; refine c_false rfl ?_; refine wp_exit ?_; refine c_thenE ?_; refine c_thenE ?_; refine c_inE ?_; refine c_then ?_; refine c_seq ?_; refine c_region ?_; refine wl_val (r_assign (v := .int .i64 256) rfl) rfl ?_; refine wl_nil ?_; refine c_then ?_; refine wp_ret ?_; refine ret1 Try.results145 ?_
    obtain rfl : i = 256 := by omega
    exact ⟨congrArg vi hf, hS9.fin⟩

theorem ones8_ok (c : UInt8) (w : World) :
    Ret Try.prog 178 [b8 c] w (fun v w' => v = vi (gt popTab c.toNat).toNat ∧ St w [] w' []) := by
  refine enter Try.func178 rfl Try.ntmps178 rfl ?_
  have hS := St.refl w []
  refine c_seq ?_; refine c_region ?_; refine wl_val (r_assign (v := .int .i64 0) rfl) rfl ?_; refine wl_nil ?_; refine c_then ?_; refine c_seq ?_; refine c_region ?_; refine wl_val (r_move (v := .int .u8 _) rfl) rfl ?_; refine wl_val (r_indexStr (s := ⟨popTab.toArray⟩) ti9.und rfl rfl (get_gt popTab _ (by have : popTab.length = 256 := rfl; have := c.toNat_lt; omega))) rfl ?_; refine wl_val (c_u8_i64 ti3.und ⟨_, ti5.und⟩ rfl) rfl ?_; refine wl_val (r_assign (v := .int .i64 _) rfl) rfl ?_; refine wl_nil ?_; refine c_then ?_; refine wp_ret ?_; refine ret1 Try.results178 ?_
  exact ⟨rfl, hS.fin⟩

theorem tz8_ok (c : UInt8) (w : World) :
    Ret Try.prog 179 [b8 c] w (fun v w' => v = vi (gt tzTab c.toNat).toNat ∧ St w [] w' []) := by
  refine enter Try.func179 rfl Try.ntmps179 rfl ?_
  have hS := St.refl w []
  refine c_seq ?_; refine c_region ?_; refine wl_val (r_assign (v := .int .i64 0) rfl) rfl ?_; refine wl_nil ?_; refine c_then ?_; refine c_seq ?_; refine c_region ?_; refine wl_val (r_move (v := .int .u8 _) rfl) rfl ?_; refine wl_val (r_indexStr (s := ⟨tzTab.toArray⟩) ti9.und rfl rfl (get_gt tzTab _ (by have : tzTab.length = 256 := rfl; have := c.toNat_lt; omega))) rfl ?_; refine wl_val (c_u8_i64 ti3.und ⟨_, ti5.und⟩ rfl) rfl ?_; refine wl_val (r_assign (v := .int .i64 _) rfl) rfl ?_; refine wl_nil ?_; refine c_then ?_; refine wp_ret ?_; refine ret1 Try.results179 ?_
  exact ⟨rfl, hS.fin⟩

theorem marked_ok (lv : List UInt8) (w : World) (hlv : lv.length = 32) :
    Ret Try.prog 138 [.agg (lv.map b8).toArray] w (fun v w' => v = .tuple #[vi (manyTo lv 256), vi (depthTo lv 256)] ∧ St w [] w' []) := by
  refine enter Try.func138 rfl Try.ntmps138 rfl ?_
  have hS := St.refl w []
  refine c_seq ?_; refine c_region ?_; refine wl_exv (x_box hS (v := .agg _) rfl rfl) rfl ?_; rintro _ w1 ⟨b1, rfl, hS2⟩; refine wl_val (r_assign (v := .int .i64 0) rfl) rfl ?_; refine wl_val (r_assign (v := .int .i64 0) rfl) rfl ?_; refine wl_nil ?_; refine c_then ?_; refine c_seq ?_; refine c_seq ?_; refine c_region ?_; refine wl_val (r_loadB ti31 rfl rfl (hS2.heap (.head _)) (by first | (simp [*]; done) | (simp [*] <;> omega) | omega)) rfl ?_; refine wl_val (r_move (v := .int .i64 0) rfl) rfl ?_; refine wl_nil ?_; refine c_then ?_; refine c_block ?_
  obtain ⟨LT3, hLT3, hS4⟩ := St.frame [] [_] hS2
  simp only [List.cons_append, List.nil_append] at hS4
  have hm3_b1 := inL hLT3 (.head _)
  refine c_loopE [6] (fun d e w' => ∃ (i : Nat), Kw.look e 7 = vi i ∧ Kw.look e 2 = vi (manyTo lv (8 * i)) ∧ Kw.look e 3 = vi (depthTo lv (8 * i)) ∧ d = 32 - i ∧ St w [] w' (LT3) ∧ (i ≤ 32)) (32) ?_ ?_
  · exact ⟨0, rfl, rfl, rfl, rfl, hS4, by omega⟩
  · rintro d8 e5 w6 ⟨i, hc0_7, hc0_2, hc0_3, rfl, hS7, hi⟩ -
    refine c_set (d := 7) hc0_7 ?_; refine c_set (d := 2) hc0_2 ?_; refine c_set (d := 3) hc0_3 ?_; refine c_seq ?_; refine c_region ?_
    refine wl_dec (r_lss rfl rfl) rfl (fun h2_0 => ?_) (fun h2_0 => ?_)
    · refine wl_nil ?_
      refine c_then ?_; refine c_seq ?_; refine c_true rfl ?_; refine wp_skip ?_; refine c_then ?_; refine c_seq ?_; refine c_block ?_; refine c_seq ?_; refine c_region ?_; refine wl_val (r_move (v := .int .i64 _) rfl) rfl ?_; refine wl_val (r_index1 ti31.und ti5 rfl rfl rfl (by first | omega | (simp [*]; done) | (simp [*] <;> omega)) (map_gt _ _ _ (by first | omega | (simp [*]; done) | (simp [*] <;> omega)))) rfl ?_; refine wl_val (r_assign (v := .int .i64 _) rfl) rfl ?_; refine wl_val (r_assign (v := .int .u8 _) rfl) rfl ?_; refine wl_nil ?_; refine c_then ?_; refine c_seq ?_
      have hmt := manyTo_le lv (8 * i)
      have hpp := (gt popTab (gt lv i).toNat).toNat_lt
      refine c_region ?_; refine wl_val (r_move (v := .int .i64 _) rfl) rfl ?_; refine wl_val (r_move (v := .int .u8 _) rfl) rfl ?_; refine wl_call (r_call fn178 rfl rfl) rfl (ones8_ok _ _) ?_; rintro _ w9 ⟨rfl, hx10⟩
      have hS11 := hS7.ext hx10
      refine wl_val (r_addn rfl rfl (by omega)) rfl ?_; refine wl_val (r_assign (v := .int .i64 _) rfl) rfl ?_; refine wl_nil ?_; refine c_then ?_; refine c_seq ?_; refine c_region ?_; refine wl_val (r_move (v := .int .u8 _) rfl) rfl ?_
      refine wl_dec (r_neq rfl rfl) rfl (fun h5_1 => ?_) (fun h5_1 => ?_)
      · refine wl_nil ?_
        refine c_then ?_; refine c_true rfl ?_
        have htz := tz_le (gt lv i).toNat (gt lv i).toNat_lt
        refine c_region ?_; refine wl_val (r_move (v := .int .i64 _) rfl) rfl ?_; refine wl_val (r_muln (a := 8) rfl rfl (by omega)) rfl ?_; refine wl_val (r_addn (b := 8) rfl rfl (by omega)) rfl ?_; refine wl_val (r_move (v := .int .u8 _) rfl) rfl ?_; refine wl_call (r_call fn179 rfl rfl) rfl (tz8_ok _ _) ?_; rintro _ w12 ⟨rfl, hx13⟩
        have hS14 := hS11.ext hx13
        refine wl_val (r_subn rfl rfl (by omega) (by omega)) rfl ?_; refine wl_val (r_assign (v := .int .i64 _) rfl) rfl ?_; refine wl_nil ?_; refine c_inN ?_; refine c_then ?_; refine c_region ?_; refine wl_val (r_addn (b := 1) rfl rfl (by omega)) rfl ?_; refine wl_val (r_move (v := .int .i64 _) rfl) rfl ?_; refine wl_nil ?_; refine c_then ?_
        exact ⟨32 - (i + 1), _, by omega, rfl, ⟨i + 1, rfl, congrArg vi (many_byte lv i).symm, congrArg vi (by rw [depth_byte, if_neg (by omega)]), rfl, hS14, by omega⟩, ⟨rfl, trivial⟩⟩
      refine wl_nil ?_; refine c_then ?_; refine c_false rfl ?_; refine wp_skip ?_; refine c_inN ?_; refine c_then ?_; refine c_region ?_; refine wl_val (r_addn (b := 1) rfl rfl (by omega)) rfl ?_; refine wl_val (r_move (v := .int .i64 _) rfl) rfl ?_; refine wl_nil ?_; refine c_then ?_
      exact ⟨32 - (i + 1), _, by omega, rfl, ⟨i + 1, rfl, congrArg vi (many_byte lv i).symm, congrArg vi (by rw [depth_byte, if_pos (by omega)]), rfl, hS11, by omega⟩, ⟨rfl, trivial⟩⟩
    refine wl_nil ?_; refine c_then ?_; refine c_seq ?_; refine c_false rfl ?_; refine wp_exit ?_; refine c_thenE ?_; refine c_thenE ?_; refine c_inE ?_; refine c_then ?_; refine c_seq ?_; refine c_region ?_; refine wl_val (r_move (v := .int .i64 _) rfl) rfl ?_; refine wl_val (r_move (v := .int .i64 _) rfl) rfl ?_; refine wl_val (r_assign (v := .int .i64 _) rfl) rfl ?_; refine wl_val (r_assign (v := .int .i64 _) rfl) rfl ?_; refine wl_nil ?_; refine c_then ?_; refine wp_ret ?_; refine ret2 Try.results138 rfl rfl ?_
    obtain rfl : i = 32 := by omega
    exact ⟨rfl, hS7.fin⟩

theorem depth_ok (lv : List UInt8) (pa : Option Addr) (pc : Nat) (pl : List (List UInt8)) (w : World) (hlv : lv.length = 32) (hp : Row w pa (pl.flatten.map b8)) (h32 : S32 pl) (hpc : pl.length ≤ pc) (hpm : pl.length ≤ 4398046511104) :
    Ret Try.prog 141 [.agg (lv.map b8 ++ [Value.slice pa pl.length pc]).toArray] w (fun v w' => v = .tuple #[vi (depthTo lv 256), vi (manyTo lv 256)] ∧ St w [] w' []) := by
  refine enter Try.func141 rfl Try.ntmps141 rfl ?_
  have hS := St.refl w []
  refine c_seq ?_; refine c_region ?_; refine wl_exv (x_box hS (v := .agg _) rfl rfl) rfl ?_; rintro _ w1 ⟨b1, rfl, hS2⟩; refine wl_val (r_assign (v := .int .i64 0) rfl) rfl ?_; refine wl_val (r_assign (v := .int .i64 0) rfl) rfl ?_; refine wl_nil ?_; refine c_then ?_; refine c_seq ?_; refine c_seq ?_; refine c_region ?_; refine wl_val (r_move (v := .int .i64 0) rfl) rfl ?_; refine wl_nil ?_; refine c_then ?_; refine c_block ?_
  obtain ⟨LT3, hLT3, hS4⟩ := St.frame [] [_] hS2
  simp only [List.cons_append, List.nil_append] at hS4
  have hm3_b1 := inL hLT3 (.head _)
  refine c_loopE [1] (fun d e w' => ∃ (i : Nat), Kw.look e 5 = vi i ∧ Kw.look e 2 = vi (depthTo lv i) ∧ Kw.look e 3 = vi (manyTo lv i) ∧ d = 256 - i ∧ St w [] w' (LT3) ∧ (i ≤ 256)) (256) ?_ ?_
  · exact ⟨0, rfl, rfl, rfl, rfl, hS4, by omega⟩
  · rintro d8 e5 w6 ⟨i, hc0_5, hc0_2, hc0_3, rfl, hS7, hi⟩ -
    refine c_set (d := 5) hc0_5 ?_; refine c_set (d := 2) hc0_2 ?_; refine c_set (d := 3) hc0_3 ?_; refine c_seq ?_; refine c_region ?_
    refine wl_dec (r_lss rfl rfl) rfl (fun h2_0 => ?_) (fun h2_0 => ?_)
    · refine wl_nil ?_
      refine c_then ?_; refine c_seq ?_; refine c_true rfl ?_; refine wp_skip ?_; refine c_then ?_; refine c_seq ?_; refine c_block ?_; refine c_seq ?_; refine c_region ?_; refine wl_val (r_move (v := .int .i64 _) rfl) rfl ?_; refine wl_val (r_assign (v := .int .i64 _) rfl) rfl ?_; refine wl_nil ?_; refine c_then ?_; refine c_seq ?_
      have hmt := manyTo_le lv i
      refine c_region ?_; refine wl_val (r_field fa95_0 rfl) rfl ?_; refine wl_val (r_loadPre ti31 rfl rfl (hS7.heap hm3_b1) (by first | (simp [*]; done) | (simp [*] <;> omega) | omega)) rfl ?_; refine wl_val (r_move (v := .int .i64 _) rfl) rfl ?_; refine wl_call (r_call fn166 rfl rfl) rfl (rbit_ok _ _ _ (by first | (simp [*]; done) | (simp [*] <;> omega) | omega) (by first | omega | (simp [*]; done) | (simp [*] <;> omega))) ?_; rintro _ w9 ⟨rfl, hx10⟩
      have hS11 := hS7.ext hx10
      refine wl_dec (r_eql rfl rfl) rfl (fun h4_4 => ?_) (fun h4_4 => ?_)
      · refine wl_nil ?_
        refine c_then ?_; refine c_true rfl ?_; refine c_seq ?_; refine c_region ?_; refine wl_val (r_move (v := .int .i64 _) rfl) rfl ?_; refine wl_val (r_addn (b := 1) rfl rfl (by omega)) rfl ?_; refine wl_val (r_assign (v := .int .i64 _) rfl) rfl ?_; refine wl_nil ?_; refine c_then ?_; refine c_region ?_; refine wl_val (r_move (v := .int .i64 _) rfl) rfl ?_; refine wl_val (r_addn (b := 1) rfl rfl (by omega)) rfl ?_; refine wl_val (r_assign (v := .int .i64 _) rfl) rfl ?_; refine wl_nil ?_; refine c_inN ?_; refine c_then ?_; refine c_region ?_; refine wl_val (r_addn (b := 1) rfl rfl (by omega)) rfl ?_; refine wl_val (r_move (v := .int .i64 _) rfl) rfl ?_; refine wl_nil ?_; refine c_then ?_
        have hbb := bitL_01 lv i
        exact ⟨256 - (i + 1), _, by omega, rfl, ⟨i + 1, rfl, congrArg vi (by rw [depthTo, if_pos (by omega)]), congrArg vi (by rw [manyTo]; omega), rfl, hS11, by omega⟩, ⟨rfl, trivial⟩⟩
      refine wl_nil ?_; refine c_then ?_; refine c_false rfl ?_; refine wp_skip ?_; refine c_inN ?_; refine c_then ?_; refine c_region ?_; refine wl_val (r_addn (b := 1) rfl rfl (by omega)) rfl ?_; refine wl_val (r_move (v := .int .i64 _) rfl) rfl ?_; refine wl_nil ?_; refine c_then ?_
      have hbb := bitL_01 lv i
      exact ⟨256 - (i + 1), _, by omega, rfl, ⟨i + 1, rfl, congrArg vi (by rw [depthTo, if_neg (by omega)]), congrArg vi (by rw [manyTo]; omega), rfl, hS11, by omega⟩, ⟨rfl, trivial⟩⟩
    refine wl_nil ?_; refine c_then ?_; refine c_seq ?_; refine c_false rfl ?_; refine wp_exit ?_; refine c_thenE ?_; refine c_thenE ?_; refine c_inE ?_; refine c_then ?_; refine c_seq ?_; refine c_region ?_; refine wl_val (r_move (v := .int .i64 _) rfl) rfl ?_; refine wl_val (r_move (v := .int .i64 _) rfl) rfl ?_; refine wl_val (r_assign (v := .int .i64 _) rfl) rfl ?_; refine wl_val (r_assign (v := .int .i64 _) rfl) rfl ?_; refine wl_nil ?_; refine c_then ?_; refine wp_ret ?_; refine ret2 Try.results141 rfl rfl ?_
    obtain rfl : i = 256 := by omega
    exact ⟨rfl, hS7.fin⟩

theorem side_ok (k : List UInt8) (i : Nat) (s o : List UInt8) (w : World) (hk : k.length = 32) (hi : i < 256) (hs : s.length = 32) (ho : o.length = 32) :
    Ret Try.prog 146 [.agg (k.map b8).toArray, vi i, .agg (s.map b8).toArray, .agg (o.map b8).toArray] w (fun v w' => v = .agg ((sideL k i s o).map b8).toArray ∧ St w [] w' []) := by
  refine enter Try.func146 rfl Try.ntmps146 rfl ?_
  have hS := St.refl w []
  refine c_seq ?_; refine c_region ?_; refine wl_exv (x_box hS (v := .agg _) rfl rfl) rfl ?_; rintro _ w1 ⟨b4, rfl, hS2⟩; refine wl_exv (x_box hS2 (v := .agg _) rfl rfl) rfl ?_; rintro _ w3 ⟨b6, rfl, hS4⟩; refine wl_exv (x_box hS4 (v := .agg _) rfl rfl) rfl ?_; rintro _ w5 ⟨b7, rfl, hS6⟩; refine wl_exv (x_alloc (C := ((List.replicate 32 (0 : UInt8)).map b8)) hS6 ti49 rfl) rfl ?_; rintro _ w7 ⟨bb8, rfl, hS8⟩; refine wl_nil ?_; refine c_then ?_; refine c_seq ?_; refine c_seq ?_; refine c_region ?_; refine wl_val (r_loadB ti49 rfl rfl (hS8.heap (.tail _ (.tail _ (.tail _ (.head _))))) (by first | (simp [*]; done) | (simp [*] <;> omega) | omega)) rfl ?_; refine wl_val (r_move (v := .int .i64 _) rfl) rfl ?_; refine wl_call (r_call fn165 rfl rfl) rfl (bit_ok _ _ _ (by first | (simp [*]; done) | (simp [*] <;> omega) | omega) (by first | omega | (simp [*]; done) | (simp [*] <;> omega))) ?_; rintro _ w9 ⟨rfl, hx10⟩
  have hS11 := hS8.ext hx10
  refine wl_dec (r_eql rfl rfl) rfl (fun h1_3 => ?_) (fun h1_3 => ?_)
  · refine wl_nil ?_
    refine c_then ?_; refine c_true rfl ?_; refine c_seq ?_; refine c_region ?_; refine wl_val (r_loadB ti49 rfl rfl (hS11.heap (.tail _ (.tail _ (.head _)))) (by first | (simp [*]; done) | (simp [*] <;> omega) | omega)) rfl ?_; refine wl_val (r_loadB ti49 rfl rfl (hS11.heap (.tail _ (.head _))) (by first | (simp [*]; done) | (simp [*] <;> omega) | omega)) rfl ?_; refine wl_call (r_call fn52 rfl rfl) rfl (node_ok _ _ _ (by first | (simp [*]; done) | (simp [*] <;> omega) | omega) (by first | (simp [*]; done) | (simp [*] <;> omega) | omega)) ?_; rintro _ w12 ⟨rfl, hx13⟩
    have hS14 := hS11.ext hx13
    refine wl_exs (x_storeW [] hS14 ti49 rfl rfl (by first | (simp [*]; done) | (simp [*] <;> omega) | omega) (by first | (simp [*]; done) | (simp [*] <;> omega) | omega) (by repeat' first | exact one_nil | exact one_b8 _ | exact one_v32 _ | exact one_all rfl | refine one_cons rfl ?_ | refine one_app ?_ ?_)) rfl ?_; intro w15 hS16; simp only [List.cons_append, List.nil_append] at hS16; refine wl_nil ?_; refine c_then ?_; refine wp_ret ?_; refine c_thenR ?_; refine retc Try.results146 ⟨_, rfl, run_loadVar_blk ti49 rfl (hS16.heap (.head _)) (by first | (simp [*]; done) | (simp [*] <;> omega) | omega)⟩ ?_
    exact ⟨by rw [sideL, if_pos (by omega)], hS16.fin⟩
  refine wl_nil ?_; refine c_then ?_; refine c_false rfl ?_; refine wp_skip ?_; refine c_then ?_; refine c_seq ?_; refine c_region ?_; refine wl_val (r_loadB ti49 rfl rfl (hS11.heap (.tail _ (.head _))) (by first | (simp [*]; done) | (simp [*] <;> omega) | omega)) rfl ?_; refine wl_val (r_loadB ti49 rfl rfl (hS11.heap (.tail _ (.tail _ (.head _)))) (by first | (simp [*]; done) | (simp [*] <;> omega) | omega)) rfl ?_; refine wl_call (r_call fn52 rfl rfl) rfl (node_ok _ _ _ (by first | (simp [*]; done) | (simp [*] <;> omega) | omega) (by first | (simp [*]; done) | (simp [*] <;> omega) | omega)) ?_; rintro _ w17 ⟨rfl, hx18⟩
  have hS19 := hS11.ext hx18
  refine wl_exs (x_storeW [] hS19 ti49 rfl rfl (by first | (simp [*]; done) | (simp [*] <;> omega) | omega) (by first | (simp [*]; done) | (simp [*] <;> omega) | omega) (by repeat' first | exact one_nil | exact one_b8 _ | exact one_v32 _ | exact one_all rfl | refine one_cons rfl ?_ | refine one_app ?_ ?_)) rfl ?_; intro w20 hS21; simp only [List.cons_append, List.nil_append] at hS21; refine wl_nil ?_; refine c_then ?_; refine wp_ret ?_; refine retc Try.results146 ⟨_, rfl, run_loadVar_blk ti49 rfl (hS21.heap (.head _)) (by first | (simp [*]; done) | (simp [*] <;> omega) | omega)⟩ ?_
  exact ⟨by rw [sideL, if_neg (by omega)], hS21.fin⟩

theorem up_ok (k s0 : List UInt8) (lv : List UInt8) (pa : Option Addr) (pc : Nat) (pl : List (List UInt8)) (w : World) (hk : k.length = 32) (hs0 : s0.length = 32) (hlv : lv.length = 32) (hp : Row w pa (pl.flatten.map b8)) (h32 : S32 pl) (hpc : pl.length ≤ pc) (hpm : pl.length ≤ 4398046511104) (hmn : manyTo lv 256 ≤ pl.length) :
    Ret Try.prog 139 [.agg (k.map b8).toArray, .agg (s0.map b8).toArray, .agg (lv.map b8 ++ [Value.slice pa pl.length pc]).toArray] w (fun v w' => v = .agg ((upAll k s0 lv pl).map b8).toArray ∧ St w [] w' []) := by
  refine enter Try.func139 rfl Try.ntmps139 rfl ?_
  have hS := St.refl w []
  refine c_seq ?_; refine c_region ?_; refine wl_exv (x_box hS (v := .agg _) rfl rfl) rfl ?_; rintro _ w1 ⟨b3, rfl, hS2⟩; refine wl_exv (x_box hS2 (v := .agg _) rfl rfl) rfl ?_; rintro _ w3 ⟨b4, rfl, hS4⟩; refine wl_exv (x_box hS4 (v := .agg _) rfl rfl) rfl ?_; rintro _ w5 ⟨b5, rfl, hS6⟩; refine wl_exv (x_alloc (C := ((List.replicate 32 (0 : UInt8)).map b8)) hS6 ti49 rfl) rfl ?_; rintro _ w7 ⟨b6, rfl, hS8⟩; refine wl_nil ?_; refine c_then ?_; refine c_seq ?_; refine c_region ?_; refine wl_val (r_field fa95_0 rfl) rfl ?_; refine wl_val (r_loadPre ti31 rfl rfl (hS8.heap (.tail _ (.head _))) (by first | (simp [*]; done) | (simp [*] <;> omega) | omega)) rfl ?_; refine wl_call (r_call fn138 rfl rfl) rfl (marked_ok _ _ (by first | (simp [*]; done) | (simp [*] <;> omega) | omega)) ?_; rintro _ w9 ⟨rfl, hx10⟩
  have hS11 := hS8.ext hx10
  refine wl_val (r_move (v := .tuple _) rfl) rfl ?_; refine wl_val (r_extract (v := .int .i64 _) rfl rfl) rfl ?_; refine wl_val (r_extract (v := .int .i64 _) rfl rfl) rfl ?_; refine wl_val (r_assign (v := .int .i64 _) rfl) rfl ?_; refine wl_val (r_assign (v := .int .i64 _) rfl) rfl ?_; refine wl_nil ?_; refine c_then ?_; refine c_seq ?_; refine c_seq ?_
  have hdl := depthTo_le lv 256
  refine c_region ?_; refine wl_val (r_move (v := .int .i64 _) rfl) rfl ?_; refine wl_val (r_subi rfl rfl (by omega) (by omega)) rfl ?_; refine wl_val (r_assign (v := .int .i64 _) rfl) rfl ?_; refine wl_nil ?_; refine c_then ?_; refine c_block ?_
  obtain ⟨LT12, hLT12, hS13⟩ := St.frame [_] [_, _, _] (hS11.perm ((List.Perm.cons _ (List.Perm.refl _)).trans (List.perm_middle (l₁ := [_, _])).symm))
  simp only [List.cons_append, List.nil_append] at hS13
  have hm12_b6 := inL hLT12 (.head _)
  have hm12_b5 := inL hLT12 (.tail _ (.head _))
  have hm12_b3 := inL hLT12 (.tail _ (.tail _ (.head _)))
  refine c_loopE [3, 4, 5, 6] (fun d e w' => ∃ (i : Nat) (s : List UInt8), Kw.look e 9 = .int .i64 ((i : Int) - 1) ∧ Kw.look e 7 = vi (manyTo lv i) ∧ d = 0 + i ∧ St w [] w' (.blk b4 (cl (s.map b8) 49) :: LT12) ∧ (i ≤ 256) ∧ (s.length = 32) ∧ (upL k lv pl i s = upAll k s0 lv pl)) (0 + depthTo lv 256) ?_ ?_
  · exact ⟨depthTo lv 256, s0, rfl, congrArg vi (many_depth lv 256).symm, rfl, hS13, hdl, hs0, rfl⟩
  · rintro d17 e14 w15 ⟨i, s, hc0_9, hc0_7, rfl, hS16, hi, hsl, hup⟩ -
    refine c_set (d := 9) hc0_9 ?_; refine c_set (d := 7) hc0_7 ?_; refine c_seq ?_; refine c_seq ?_; refine c_region ?_; refine wl_val (r_move (v := .int .i64 _) rfl) rfl ?_
    refine wl_dec (r_geq rfl rfl) rfl (fun h3_1 => ?_) (fun h3_1 => ?_)
    · refine wl_nil ?_
      refine c_then ?_; refine c_true rfl ?_; refine wp_skip ?_; refine c_then ?_; refine c_seq ?_; refine c_block ?_; refine c_seq ?_
      obtain ⟨j, rfl⟩ : ∃ j, i = j + 1 := ⟨i - 1, by omega⟩
      refine c_set (d := 9) (v := vi j) (congrArg (Value.int .i64) (by omega)) ?_
      have hmo := manyTo_mono lv (i := j + 1) (j := 256) (by omega)
      have hmj : manyTo lv (j + 1) = manyTo lv j + bitL lv j := rfl
      refine c_region ?_; refine wl_val (r_build0 (cs := ((List.replicate 32 (0 : UInt8)).map b8)) ti49.und ti49 ti5) rfl ?_; refine wl_exv (x_alloc (C := ((List.replicate 32 (0 : UInt8)).map b8)) hS16 ti49 rfl) rfl ?_; rintro _ w18 ⟨b10, rfl, hS19⟩; refine wl_exs (x_storeW [] hS19 ti49 rfl rfl (by first | (simp [*]; done) | (simp [*] <;> omega) | omega) (by first | (simp [*]; done) | (simp [*] <;> omega) | omega) (by repeat' first | exact one_nil | exact one_b8 _ | exact one_v32 _ | exact one_all rfl | refine one_cons rfl ?_ | refine one_app ?_ ?_)) rfl ?_; intro w20 hS21; simp only [List.cons_append, List.nil_append] at hS21; refine wl_nil ?_; refine c_then ?_; refine c_seq ?_; refine c_seq ?_; refine c_region ?_; refine wl_val (r_field fa95_0 rfl) rfl ?_; refine wl_val (r_loadPre ti31 rfl rfl (hS21.heap (.tail _ (.tail _ hm12_b5))) (by first | (simp [*]; done) | (simp [*] <;> omega) | omega)) rfl ?_; refine wl_val (r_move (v := .int .i64 _) rfl) rfl ?_; refine wl_call (r_call fn165 rfl rfl) rfl (bit_ok _ _ _ (by first | (simp [*]; done) | (simp [*] <;> omega) | omega) (by first | omega | (simp [*]; done) | (simp [*] <;> omega))) ?_; rintro _ w22 ⟨rfl, hx23⟩
      have hS24 := hS21.ext hx23
      refine wl_dec (r_eql rfl rfl) rfl (fun h6_4 => ?_) (fun h6_4 => ?_)
      · refine wl_nil ?_
        refine c_then ?_; refine c_true rfl ?_; refine c_seq ?_; refine c_region ?_; refine wl_val (r_move (v := .int .i64 _) rfl) rfl ?_; refine wl_val (r_subn (b := 1) rfl rfl (by omega) (by omega)) rfl ?_; refine wl_val (r_assign (v := .int .i64 _) rfl) rfl ?_; refine wl_nil ?_; refine c_then ?_; refine c_region ?_; refine wl_val (r_field fa95_1 rfl) rfl ?_; refine wl_val (r_loadB1 ti53.und rfl rfl (hS24.heap (.tail _ (.tail _ hm12_b5))) (mp_get hlv)) rfl ?_; refine wl_val (r_move (v := .int .i64 _) rfl) rfl ?_; refine wl_val (r_ix32 ti53.und ti49 rfl rfl (hp.st hS24) h32 rfl (by omega)) rfl ?_; refine wl_val (r_load32 ti49 rfl rfl (hp.st hS24) h32 (by omega)) rfl ?_; refine wl_exs (x_storeW [] hS24 ti49 rfl rfl (by rw [List.length_map]; exact h32.gt (by omega)) (by simp) (one_b8 _)) rfl ?_; intro w25 hS26; simp only [List.cons_append, List.nil_append] at hS26; refine wl_nil ?_; refine c_then ?_; refine c_region ?_; refine wl_val (r_loadB ti49 rfl rfl (hS26.heap (.tail _ (.tail _ hm12_b3))) (by first | (simp [*]; done) | (simp [*] <;> omega) | omega)) rfl ?_; refine wl_val (r_move (v := .int .i64 _) rfl) rfl ?_; refine wl_val (r_loadB ti49 rfl rfl (hS26.heap (.tail _ (.head _))) (by first | (simp [*]; done) | (simp [*] <;> omega) | omega)) rfl ?_; refine wl_val (r_loadB ti49 rfl rfl (hS26.heap (.head _)) (by first | (rw [List.length_map]; exact h32.gt (by omega)) | simp)) rfl ?_; refine wl_call (r_call fn146 rfl rfl) rfl (side_ok k j s _ _ hk (by omega) hsl (by first | (exact h32.gt (by omega)) | simp)) ?_
        rintro _ w27 ⟨rfl, hx28⟩
        have hS29 := hS26.ext hx28
        refine wl_exs (x_storeW [_] hS29 ti49 rfl rfl (by first | (simp [*]; done) | (simp [*] <;> omega) | omega) (by first | (simp [*]; done) | (simp [*] <;> omega) | omega) (by repeat' first | exact one_nil | exact one_b8 _ | exact one_v32 _ | exact one_all rfl | refine one_cons rfl ?_ | refine one_app ?_ ?_)) rfl ?_; intro w30 hS31; simp only [List.cons_append, List.nil_append] at hS31; refine wl_nil ?_; refine c_inN ?_; refine c_then ?_; refine c_region ?_; refine wl_val (r_move (v := .int .i64 _) rfl) rfl ?_; refine wl_val (r_subi rfl rfl (by omega) (by omega)) rfl ?_; refine wl_val (r_assign (v := .int .i64 _) rfl) rfl ?_; refine wl_nil ?_; refine c_then ?_
        have hbb := bitL_01 lv j
        have hmj : manyTo lv (j + 1) = manyTo lv j + bitL lv j := rfl
        rw [show manyTo lv (j + 1) - 1 = manyTo lv j by omega] at hS31
        exact ⟨0 + j, _, by omega, rfl, ⟨j, sideL k j s (gt pl (manyTo lv j)), rfl, congrArg vi (by omega), rfl, hS31.drop1, by omega, sideL_len _ _ _ _, by rw [← hup, upL, if_pos (by omega)]⟩, ⟨rfl, rfl, rfl, rfl, trivial⟩⟩
      refine wl_nil ?_; refine c_then ?_; refine c_false rfl ?_; refine wp_skip ?_; refine c_then ?_; refine c_region ?_; refine wl_val (r_loadB ti49 rfl rfl (hS24.heap (.tail _ (.tail _ hm12_b3))) (by first | (simp [*]; done) | (simp [*] <;> omega) | omega)) rfl ?_; refine wl_val (r_move (v := .int .i64 _) rfl) rfl ?_; refine wl_val (r_loadB ti49 rfl rfl (hS24.heap (.tail _ (.head _))) (by first | (simp [*]; done) | (simp [*] <;> omega) | omega)) rfl ?_; refine wl_val (r_loadB ti49 rfl rfl (hS24.heap (.head _)) (by first | (rw [List.length_map]; exact h32.gt (by omega)) | simp)) rfl ?_; refine wl_call (r_call fn146 rfl rfl) rfl (side_ok k j s _ _ hk (by omega) hsl (by first | (exact h32.gt (by omega)) | simp)) ?_; rintro _ w32 ⟨rfl, hx33⟩
      have hS34 := hS24.ext hx33
      refine wl_exs (x_storeW [_] hS34 ti49 rfl rfl (by first | (simp [*]; done) | (simp [*] <;> omega) | omega) (by first | (simp [*]; done) | (simp [*] <;> omega) | omega) (by repeat' first | exact one_nil | exact one_b8 _ | exact one_v32 _ | exact one_all rfl | refine one_cons rfl ?_ | refine one_app ?_ ?_)) rfl ?_; intro w35 hS36; simp only [List.cons_append, List.nil_append] at hS36; refine wl_nil ?_; refine c_inN ?_; refine c_then ?_; refine c_region ?_; refine wl_val (r_move (v := .int .i64 _) rfl) rfl ?_; refine wl_val (r_subi rfl rfl (by omega) (by omega)) rfl ?_; refine wl_val (r_assign (v := .int .i64 _) rfl) rfl ?_; refine wl_nil ?_; refine c_then ?_
      have hbb := bitL_01 lv j
      have hmj : manyTo lv (j + 1) = manyTo lv j + bitL lv j := rfl
      exact ⟨0 + j, _, by omega, rfl, ⟨j, sideL k j s (Z32L), rfl, congrArg vi (by omega), rfl, hS36.drop1, by omega, sideL_len _ _ _ _, by rw [← hup, upL, if_neg (by omega)]⟩, ⟨rfl, rfl, rfl, rfl, trivial⟩⟩
    refine wl_nil ?_; refine c_then ?_; refine c_false rfl ?_; refine wp_exit ?_; refine c_thenE ?_; refine c_thenE ?_; refine c_inE ?_; refine c_then ?_; refine c_seq ?_; refine c_region ?_; refine wl_val (r_loadB ti49 rfl rfl (hS16.heap (.head _)) (by first | (simp [*]; done) | (simp [*] <;> omega) | omega)) rfl ?_
    subst hLT12
    refine wl_exs (x_storeW [_] hS16 ti49 rfl rfl (by first | (simp [*]; done) | (simp [*] <;> omega) | omega) (by first | (simp [*]; done) | (simp [*] <;> omega) | omega) (by repeat' first | exact one_nil | exact one_b8 _ | exact one_v32 _ | exact one_all rfl | refine one_cons rfl ?_ | refine one_app ?_ ?_)) rfl ?_; intro w37 hS38; simp only [List.cons_append, List.nil_append] at hS38; refine wl_nil ?_; refine c_then ?_; refine wp_ret ?_; refine retc Try.results139 ⟨_, rfl, run_loadVar_blk ti49 rfl (hS38.heap (.tail _ (.head _))) (by first | (simp [*]; done) | (simp [*] <;> omega) | omega)⟩ ?_
    obtain rfl : i = 0 := by omega
    rw [upL] at hup
    subst hup
    exact ⟨rfl, hS38.fin⟩

theorem rup_ok (k s0 : List UInt8) (lv : List UInt8) (pa : Option Addr) (pc : Nat) (pl : List (List UInt8)) (w : World) (hk : k.length = 32) (hs0 : s0.length = 32) (hlv : lv.length = 32) (hp : Row w pa (pl.flatten.map b8)) (h32 : S32 pl) (hpc : pl.length ≤ pc) (hpm : pl.length ≤ 4398046511104) (hmn : manyTo lv 256 ≤ pl.length) :
    Ret Try.prog 142 [.agg (k.map b8).toArray, .agg (s0.map b8).toArray, .agg (lv.map b8 ++ [Value.slice pa pl.length pc]).toArray] w (fun v w' => v = .agg ((upAll k s0 lv pl).map b8).toArray ∧ St w [] w' []) := by
  refine enter Try.func142 rfl Try.ntmps142 rfl ?_
  have hS := St.refl w []
  refine c_seq ?_; refine c_region ?_; refine wl_exv (x_box hS (v := .agg _) rfl rfl) rfl ?_; rintro _ w1 ⟨b3, rfl, hS2⟩; refine wl_exv (x_box hS2 (v := .agg _) rfl rfl) rfl ?_; rintro _ w3 ⟨b4, rfl, hS4⟩; refine wl_exv (x_box hS4 (v := .agg _) rfl rfl) rfl ?_; rintro _ w5 ⟨b5, rfl, hS6⟩; refine wl_exv (x_alloc (C := ((List.replicate 32 (0 : UInt8)).map b8)) hS6 ti49 rfl) rfl ?_; rintro _ w7 ⟨b6, rfl, hS8⟩; refine wl_nil ?_; refine c_then ?_; refine c_seq ?_; refine c_region ?_; refine wl_val (r_loadB ti95 ag95 rfl (hS8.heap (.tail _ (.head _))) (by first | (simp [*]; done) | (simp [*] <;> omega) | omega)) rfl ?_; refine wl_call (r_call fn141 rfl rfl) rfl (depth_ok lv pa pc pl _ hlv (hp.st hS8) h32 hpc hpm) ?_; rintro _ w9 ⟨rfl, hx10⟩
  have hS11 := hS8.ext hx10
  refine wl_val (r_move (v := .tuple _) rfl) rfl ?_; refine wl_val (r_extract (v := .int .i64 _) rfl rfl) rfl ?_; refine wl_val (r_extract (v := .int .i64 _) rfl rfl) rfl ?_; refine wl_val (r_assign (v := .int .i64 _) rfl) rfl ?_; refine wl_val (r_assign (v := .int .i64 _) rfl) rfl ?_; refine wl_nil ?_; refine c_then ?_; refine c_seq ?_; refine c_seq ?_
  have hdl := depthTo_le lv 256
  refine c_region ?_; refine wl_val (r_move (v := .int .i64 _) rfl) rfl ?_; refine wl_val (r_subi rfl rfl (by omega) (by omega)) rfl ?_; refine wl_val (r_assign (v := .int .i64 _) rfl) rfl ?_; refine wl_nil ?_; refine c_then ?_; refine c_block ?_
  obtain ⟨LT12, hLT12, hS13⟩ := St.frame [_] [_, _, _] (hS11.perm ((List.Perm.cons _ (List.Perm.refl _)).trans (List.perm_middle (l₁ := [_, _])).symm))
  simp only [List.cons_append, List.nil_append] at hS13
  have hm12_b6 := inL hLT12 (.head _)
  have hm12_b5 := inL hLT12 (.tail _ (.head _))
  have hm12_b3 := inL hLT12 (.tail _ (.tail _ (.head _)))
  refine c_loopE [3, 4, 5, 6] (fun d e w' => ∃ (i : Nat) (s : List UInt8), Kw.look e 9 = .int .i64 ((i : Int) - 1) ∧ Kw.look e 8 = vi (manyTo lv i) ∧ d = 0 + i ∧ St w [] w' (.blk b4 (cl (s.map b8) 49) :: LT12) ∧ (i ≤ 256) ∧ (s.length = 32) ∧ (upL k lv pl i s = upAll k s0 lv pl)) (0 + depthTo lv 256) ?_ ?_
  · exact ⟨depthTo lv 256, s0, rfl, congrArg vi (many_depth lv 256).symm, rfl, hS13, hdl, hs0, rfl⟩
  · rintro d17 e14 w15 ⟨i, s, hc0_9, hc0_8, rfl, hS16, hi, hsl, hup⟩ -
    refine c_set (d := 9) hc0_9 ?_; refine c_set (d := 8) hc0_8 ?_; refine c_seq ?_; refine c_seq ?_; refine c_region ?_; refine wl_val (r_move (v := .int .i64 _) rfl) rfl ?_
    refine wl_dec (r_geq rfl rfl) rfl (fun h3_1 => ?_) (fun h3_1 => ?_)
    · refine wl_nil ?_
      refine c_then ?_; refine c_true rfl ?_; refine wp_skip ?_; refine c_then ?_; refine c_seq ?_; refine c_block ?_; refine c_seq ?_
      obtain ⟨j, rfl⟩ : ∃ j, i = j + 1 := ⟨i - 1, by omega⟩
      refine c_set (d := 9) (v := vi j) (congrArg (Value.int .i64) (by omega)) ?_
      have hmo := manyTo_mono lv (i := j + 1) (j := 256) (by omega)
      have hmj : manyTo lv (j + 1) = manyTo lv j + bitL lv j := rfl
      refine c_region ?_; refine wl_exv (x_alloc (C := ((List.replicate 32 (0 : UInt8)).map b8)) hS16 ti49 rfl) rfl ?_; rintro _ w18 ⟨b10, rfl, hS19⟩; refine wl_nil ?_; refine c_then ?_; refine c_seq ?_; refine c_seq ?_; refine c_region ?_; refine wl_val (r_field fa95_0 rfl) rfl ?_; refine wl_val (r_loadPre ti31 rfl rfl (hS19.heap (.tail _ (.tail _ hm12_b5))) (by first | (simp [*]; done) | (simp [*] <;> omega) | omega)) rfl ?_; refine wl_val (r_move (v := .int .i64 _) rfl) rfl ?_; refine wl_call (r_call fn166 rfl rfl) rfl (rbit_ok _ _ _ (by first | (simp [*]; done) | (simp [*] <;> omega) | omega) (by first | omega | (simp [*]; done) | (simp [*] <;> omega))) ?_; rintro _ w20 ⟨rfl, hx21⟩
      have hS22 := hS19.ext hx21
      refine wl_dec (r_eql rfl rfl) rfl (fun h6_4 => ?_) (fun h6_4 => ?_)
      · refine wl_nil ?_
        refine c_then ?_; refine c_true rfl ?_; refine c_seq ?_; refine c_region ?_; refine wl_val (r_move (v := .int .i64 _) rfl) rfl ?_; refine wl_val (r_subn (b := 1) rfl rfl (by omega) (by omega)) rfl ?_; refine wl_val (r_assign (v := .int .i64 _) rfl) rfl ?_; refine wl_nil ?_; refine c_then ?_; refine c_region ?_; refine wl_val (r_field fa95_1 rfl) rfl ?_; refine wl_val (r_loadB1 ti53.und rfl rfl (hS22.heap (.tail _ (.tail _ hm12_b5))) (mp_get hlv)) rfl ?_; refine wl_val (r_move (v := .int .i64 _) rfl) rfl ?_; refine wl_val (r_ix32 ti53.und ti49 rfl rfl (hp.st hS22) h32 rfl (by omega)) rfl ?_; refine wl_val (r_load32 ti49 rfl rfl (hp.st hS22) h32 (by omega)) rfl ?_; refine wl_exs (x_storeW [] hS22 ti49 rfl rfl (by rw [List.length_map]; exact h32.gt (by omega)) (by simp) (one_b8 _)) rfl ?_; intro w23 hS24; simp only [List.cons_append, List.nil_append] at hS24; refine wl_nil ?_; refine c_then ?_; refine c_seq ?_; refine c_region ?_; refine wl_val (r_loadB ti49 rfl rfl (hS24.heap (.tail _ (.tail _ hm12_b3))) (by first | (simp [*]; done) | (simp [*] <;> omega) | omega)) rfl ?_; refine wl_val (r_move (v := .int .i64 _) rfl) rfl ?_; refine wl_call (r_call fn166 rfl rfl) rfl (rbit_ok _ _ _ (by first | (simp [*]; done) | (simp [*] <;> omega) | omega) (by first | omega | (simp [*]; done) | (simp [*] <;> omega))) ?_; rintro _ w25 ⟨rfl, hx26⟩
        have hS27 := hS24.ext hx26
        refine wl_dec (r_eql rfl rfl) rfl (fun h9_3 => ?_) (fun h9_3 => ?_)
        · refine wl_nil ?_
          refine c_then ?_; refine c_true rfl ?_; refine c_region ?_; refine wl_val (r_loadB ti49 rfl rfl (hS27.heap (.tail _ (.head _))) (by first | (simp [*]; done) | (simp [*] <;> omega) | omega)) rfl ?_; refine wl_val (r_loadB ti49 rfl rfl (hS27.heap (.head _)) (by first | (rw [List.length_map]; exact h32.gt (by omega)) | simp)) rfl ?_; refine wl_call (r_call fn53 rfl rfl) rfl (rnode_ok _ _ _ hsl (by first | (exact h32.gt (by omega)) | simp)) ?_; rintro _ w28 ⟨rfl, hx29⟩
          have hS30 := hS27.ext hx29
          refine wl_exs (x_storeW [_] hS30 ti49 rfl rfl (by first | (simp [*]; done) | (simp [*] <;> omega) | omega) (by first | (simp [*]; done) | (simp [*] <;> omega) | omega) (by repeat' first | exact one_nil | exact one_b8 _ | exact one_v32 _ | exact one_all rfl | refine one_cons rfl ?_ | refine one_app ?_ ?_)) rfl ?_; intro w31 hS32; simp only [List.cons_append, List.nil_append] at hS32; refine wl_nil ?_; refine c_inN ?_; refine c_then ?_; refine c_region ?_; refine wl_val (r_move (v := .int .i64 _) rfl) rfl ?_; refine wl_val (r_subi rfl rfl (by omega) (by omega)) rfl ?_; refine wl_val (r_assign (v := .int .i64 _) rfl) rfl ?_; refine wl_nil ?_; refine c_then ?_
          have hbb := bitL_01 lv j
          have hmj : manyTo lv (j + 1) = manyTo lv j + bitL lv j := rfl
          rw [show manyTo lv (j + 1) - 1 = manyTo lv j by omega] at hS32
          have es : sideL k j s (gt pl (manyTo lv j)) = nodeL s (gt pl (manyTo lv j)) := by rw [sideL, if_pos (by omega)]
          rw [← es] at hS32
          exact ⟨0 + j, _, by omega, rfl, ⟨j, sideL k j s (gt pl (manyTo lv j)), rfl, congrArg vi (by omega), rfl, hS32.drop1, by omega, sideL_len _ _ _ _, by rw [← hup, upL, if_pos (by omega)]⟩, ⟨rfl, rfl, rfl, rfl, trivial⟩⟩
        refine wl_nil ?_; refine c_then ?_; refine c_false rfl ?_; refine c_region ?_; refine wl_val (r_loadB ti49 rfl rfl (hS27.heap (.head _)) (by first | (rw [List.length_map]; exact h32.gt (by omega)) | simp)) rfl ?_; refine wl_val (r_loadB ti49 rfl rfl (hS27.heap (.tail _ (.head _))) (by first | (simp [*]; done) | (simp [*] <;> omega) | omega)) rfl ?_; refine wl_call (r_call fn53 rfl rfl) rfl (rnode_ok _ _ _ (by first | (exact h32.gt (by omega)) | simp) hsl) ?_; rintro _ w33 ⟨rfl, hx34⟩
        have hS35 := hS27.ext hx34
        refine wl_exs (x_storeW [_] hS35 ti49 rfl rfl (by first | (simp [*]; done) | (simp [*] <;> omega) | omega) (by first | (simp [*]; done) | (simp [*] <;> omega) | omega) (by repeat' first | exact one_nil | exact one_b8 _ | exact one_v32 _ | exact one_all rfl | refine one_cons rfl ?_ | refine one_app ?_ ?_)) rfl ?_; intro w36 hS37; simp only [List.cons_append, List.nil_append] at hS37; refine wl_nil ?_; refine c_inN ?_; refine c_then ?_; refine c_region ?_; refine wl_val (r_move (v := .int .i64 _) rfl) rfl ?_; refine wl_val (r_subi rfl rfl (by omega) (by omega)) rfl ?_; refine wl_val (r_assign (v := .int .i64 _) rfl) rfl ?_; refine wl_nil ?_; refine c_then ?_
        have hbb := bitL_01 lv j
        have hmj : manyTo lv (j + 1) = manyTo lv j + bitL lv j := rfl
        rw [show manyTo lv (j + 1) - 1 = manyTo lv j by omega] at hS37
        have es : sideL k j s (gt pl (manyTo lv j)) = nodeL (gt pl (manyTo lv j)) s := by rw [sideL, if_neg (by omega)]
        rw [← es] at hS37
        exact ⟨0 + j, _, by omega, rfl, ⟨j, sideL k j s (gt pl (manyTo lv j)), rfl, congrArg vi (by omega), rfl, hS37.drop1, by omega, sideL_len _ _ _ _, by rw [← hup, upL, if_pos (by omega)]⟩, ⟨rfl, rfl, rfl, rfl, trivial⟩⟩
      refine wl_nil ?_; refine c_then ?_; refine c_false rfl ?_; refine wp_skip ?_; refine c_then ?_; refine c_seq ?_; refine c_region ?_; refine wl_val (r_loadB ti49 rfl rfl (hS22.heap (.tail _ (.tail _ hm12_b3))) (by first | (simp [*]; done) | (simp [*] <;> omega) | omega)) rfl ?_; refine wl_val (r_move (v := .int .i64 _) rfl) rfl ?_; refine wl_call (r_call fn166 rfl rfl) rfl (rbit_ok _ _ _ (by first | (simp [*]; done) | (simp [*] <;> omega) | omega) (by first | omega | (simp [*]; done) | (simp [*] <;> omega))) ?_; rintro _ w38 ⟨rfl, hx39⟩
      have hS40 := hS22.ext hx39
      refine wl_dec (r_eql rfl rfl) rfl (fun h9_3 => ?_) (fun h9_3 => ?_)
      · refine wl_nil ?_
        refine c_then ?_; refine c_true rfl ?_; refine c_region ?_; refine wl_val (r_loadB ti49 rfl rfl (hS40.heap (.tail _ (.head _))) (by first | (simp [*]; done) | (simp [*] <;> omega) | omega)) rfl ?_; refine wl_val (r_loadB ti49 rfl rfl (hS40.heap (.head _)) (by first | (rw [List.length_map]; exact h32.gt (by omega)) | simp)) rfl ?_; refine wl_call (r_call fn53 rfl rfl) rfl (rnode_ok _ _ _ hsl (by first | (exact h32.gt (by omega)) | simp)) ?_; rintro _ w41 ⟨rfl, hx42⟩
        have hS43 := hS40.ext hx42
        refine wl_exs (x_storeW [_] hS43 ti49 rfl rfl (by first | (simp [*]; done) | (simp [*] <;> omega) | omega) (by first | (simp [*]; done) | (simp [*] <;> omega) | omega) (by repeat' first | exact one_nil | exact one_b8 _ | exact one_v32 _ | exact one_all rfl | refine one_cons rfl ?_ | refine one_app ?_ ?_)) rfl ?_; intro w44 hS45; simp only [List.cons_append, List.nil_append] at hS45; refine wl_nil ?_; refine c_inN ?_; refine c_then ?_; refine c_region ?_; refine wl_val (r_move (v := .int .i64 _) rfl) rfl ?_; refine wl_val (r_subi rfl rfl (by omega) (by omega)) rfl ?_; refine wl_val (r_assign (v := .int .i64 _) rfl) rfl ?_; refine wl_nil ?_; refine c_then ?_
        have hbb := bitL_01 lv j
        have hmj : manyTo lv (j + 1) = manyTo lv j + bitL lv j := rfl
        have es : sideL k j s (Z32L) = nodeL s (Z32L) := by rw [sideL, if_pos (by omega)]
        rw [← es] at hS45
        exact ⟨0 + j, _, by omega, rfl, ⟨j, sideL k j s (Z32L), rfl, congrArg vi (by omega), rfl, hS45.drop1, by omega, sideL_len _ _ _ _, by rw [← hup, upL, if_neg (by omega)]⟩, ⟨rfl, rfl, rfl, rfl, trivial⟩⟩
      refine wl_nil ?_; refine c_then ?_; refine c_false rfl ?_; refine c_region ?_; refine wl_val (r_loadB ti49 rfl rfl (hS40.heap (.head _)) (by first | (rw [List.length_map]; exact h32.gt (by omega)) | simp)) rfl ?_; refine wl_val (r_loadB ti49 rfl rfl (hS40.heap (.tail _ (.head _))) (by first | (simp [*]; done) | (simp [*] <;> omega) | omega)) rfl ?_; refine wl_call (r_call fn53 rfl rfl) rfl (rnode_ok _ _ _ (by first | (exact h32.gt (by omega)) | simp) hsl) ?_; rintro _ w46 ⟨rfl, hx47⟩
      have hS48 := hS40.ext hx47
      refine wl_exs (x_storeW [_] hS48 ti49 rfl rfl (by first | (simp [*]; done) | (simp [*] <;> omega) | omega) (by first | (simp [*]; done) | (simp [*] <;> omega) | omega) (by repeat' first | exact one_nil | exact one_b8 _ | exact one_v32 _ | exact one_all rfl | refine one_cons rfl ?_ | refine one_app ?_ ?_)) rfl ?_; intro w49 hS50; simp only [List.cons_append, List.nil_append] at hS50; refine wl_nil ?_; refine c_inN ?_; refine c_then ?_; refine c_region ?_; refine wl_val (r_move (v := .int .i64 _) rfl) rfl ?_; refine wl_val (r_subi rfl rfl (by omega) (by omega)) rfl ?_; refine wl_val (r_assign (v := .int .i64 _) rfl) rfl ?_; refine wl_nil ?_; refine c_then ?_
      have hbb := bitL_01 lv j
      have hmj : manyTo lv (j + 1) = manyTo lv j + bitL lv j := rfl
      have es : sideL k j s (Z32L) = nodeL (Z32L) s := by rw [sideL, if_neg (by omega)]
      rw [← es] at hS50
      exact ⟨0 + j, _, by omega, rfl, ⟨j, sideL k j s (Z32L), rfl, congrArg vi (by omega), rfl, hS50.drop1, by omega, sideL_len _ _ _ _, by rw [← hup, upL, if_neg (by omega)]⟩, ⟨rfl, rfl, rfl, rfl, trivial⟩⟩
    refine wl_nil ?_; refine c_then ?_; refine c_false rfl ?_; refine wp_exit ?_; refine c_thenE ?_; refine c_thenE ?_; refine c_inE ?_; refine c_then ?_; refine c_seq ?_; refine c_region ?_; refine wl_val (r_loadB ti49 rfl rfl (hS16.heap (.head _)) (by first | (simp [*]; done) | (simp [*] <;> omega) | omega)) rfl ?_
    subst hLT12
    refine wl_exs (x_storeW [_] hS16 ti49 rfl rfl (by first | (simp [*]; done) | (simp [*] <;> omega) | omega) (by first | (simp [*]; done) | (simp [*] <;> omega) | omega) (by repeat' first | exact one_nil | exact one_b8 _ | exact one_v32 _ | exact one_all rfl | refine one_cons rfl ?_ | refine one_app ?_ ?_)) rfl ?_; intro w51 hS52; simp only [List.cons_append, List.nil_append] at hS52; refine wl_nil ?_; refine c_then ?_; refine wp_ret ?_; refine retc Try.results142 ⟨_, rfl, run_loadVar_blk ti49 rfl (hS52.heap (.tail _ (.head _))) (by first | (simp [*]; done) | (simp [*] <;> omega) | omega)⟩ ?_
    obtain rfl : i = 0 := by omega
    rw [upL] at hup
    subst hup
    exact ⟨rfl, hS52.fin⟩

theorem single_ok (a b : List UInt8) (w : World) (ha : a.length = 32) (hb : b.length = 32) :
    Ret Try.prog 140 [.agg (a.map b8).toArray, .agg (b.map b8).toArray] w (fun v w' => v = .agg ((leafM (a ++ b)).map b8).toArray ∧ St w [] w' []) := by
  refine enter Try.func140 rfl Try.ntmps140 rfl ?_
  have hS := St.refl w []
  refine c_seq ?_; refine c_region ?_; refine wl_exv (x_box hS (v := .agg _) rfl rfl) rfl ?_; rintro _ w1 ⟨b2, rfl, hS2⟩; refine wl_exv (x_box hS2 (v := .agg _) rfl rfl) rfl ?_; rintro _ w3 ⟨b3, rfl, hS4⟩; refine wl_exv (x_alloc (C := ((List.replicate 32 (0 : UInt8)).map b8)) hS4 ti49 rfl) rfl ?_; rintro _ w5 ⟨b4, rfl, hS6⟩; refine wl_nil ?_; refine c_then ?_; refine c_seq ?_; refine c_drawS 10 hMixed hS6 ?_; intro w7 hS8; refine g_take 0 rfl (by decide +kernel) rfl (fun _ _ _ h => h) hS8 (fun wF hF => r_sa1_0 ti49.und ti5 rfl ) ?_; refine g_take 1 rfl (by decide +kernel) rfl (fun _ _ _ h => h) hS8 (fun wF hF => r_sa1_0 ti49.und ti5 rfl ) ?_; refine g_all (rs := [2, 8]) (by decide +kernel) (by decide +kernel) rfl ?_
  simp only [List.forall_mem_cons, List.not_mem_nil, false_imp_iff, implies_true, and_true]
  refine ⟨?_, ?_⟩
  · refine o_exv rfl (x_lit (vs := [.slice _ _ _, .slice _ _ _]) hS8 ti43.und ti22 rfl rfl rfl (by intro c hc; simp only [List.mem_cons, List.not_mem_nil, or_false] at hc; rcases hc with rfl | rfl <;> rfl) (by decide)) rfl ?_
    rintro _ w9 ⟨b10, rfl, hS10⟩
    refine ⟨hS10.drop1, ?_⟩
    refine g_all (rs := [3, 8]) (by decide +kernel) (by decide +kernel) rfl ?_
    simp only [List.forall_mem_cons, List.not_mem_nil, false_imp_iff, implies_true, and_true]
    refine ⟨?_, ?_⟩
    · refine o_call rfl (r_call fn130 rfl rfl) rfl (concat2_n a b _ _ _ _ _ _ _ _ _ (Row.of_at (at_all (hS10.heap (.head _)))) (Row.of_at (at_all (hS10.heap (.tail _ (.tail _ (.tail _ (.head _))))))) (Row.of_at (at_all (hS10.heap (.tail _ (.tail _ (.head _)))))) (by first | (simp [*]; done) | (simp [*] <;> omega) | omega) (by first | (simp [*]; done) | (simp [*] <;> omega) | omega) (by decide)) ?_
      rintro _ w11 ⟨a11, c11, rfl, hc11, hx12⟩
      have hS13 := hS10.call hx12
      simp only [List.cons_append, List.nil_append] at hS13
      refine ⟨hS13.drop1.drop1, ?_⟩
      refine g_all (rs := [4, 8]) (by decide +kernel) (by decide +kernel) rfl ?_
      simp only [List.forall_mem_cons, List.not_mem_nil, false_imp_iff, implies_true, and_true]
      refine ⟨?_, ?_⟩
      · refine o_call rfl (r_call fn44 rfl rfl) rfl (sumOf_in 4 (a ++ b) _ _ _ _ (by decide) (St.rowAt hS13 (.head _)) (by simp [ha, hb]) hc11 (by decide)) ?_
        rintro _ w14 ⟨rfl, hx15⟩
        have hS16 := hS13.ext hx15
        refine ⟨hS16.drop1.drop1, ?_⟩
        refine g_take 5 rfl (by decide +kernel) rfl (fun _ _ _ h => h) hS16.drop1.drop1 (fun wF hF => r_move (v := .tuple _) rfl) ?_; refine g_take 6 rfl (by decide +kernel) rfl (fun _ _ _ h => h) hS16.drop1.drop1 (fun wF hF => r_extract (v := .agg _) rfl rfl) ?_; refine g_take 7 rfl (by decide +kernel) rfl (fun _ _ _ h => h) hS16.drop1.drop1 (fun wF hF => r_extract (v := .int .i64 _) rfl rfl) ?_; refine g_one 8 (by decide +kernel) (by decide +kernel) ?_; refine o_exv rfl (x_alloc (C := ((List.replicate 32 (0 : UInt8)).map b8)) hS16 ti49 rfl) rfl ?_; rintro _ w17 ⟨b5, rfl, hS18⟩
        refine ⟨hS18.drop1.drop1.drop1, ?_⟩
        refine g_one 9 (by decide +kernel) (by decide +kernel) ?_; refine o_exs rfl (x_storeW [] hS18 ti49 rfl rfl (by first | (simp [*]; done) | (simp [*] <;> omega) | omega) (by first | (simp [*]; done) | (simp [*] <;> omega) | omega) (by repeat' first | exact one_nil | exact one_b8 _ | exact one_v32 _ | exact one_all rfl | refine one_cons rfl ?_ | refine one_app ?_ ?_)) rfl ?_; intro w19 hS20; simp only [List.cons_append, List.nil_append] at hS20
        refine ⟨hS20.drop1.drop1.drop1, ?_⟩
        refine g_tail (by decide +kernel) rfl (by decide +kernel) ?_; refine wl_val (r_assign (v := .int .i64 _) rfl) rfl ?_; refine wl_nil ?_; refine c_then ?_; refine c_seq ?_; refine c_region ?_; refine wl_val (r_loadB ti49 rfl rfl (hS20.heap (.head _)) (by first | (simp [*]; done) | (simp [*] <;> omega) | omega)) rfl ?_; refine wl_exs (x_storeW [_, _, _] hS20 ti49 rfl rfl (by first | (simp [*]; done) | (simp [*] <;> omega) | omega) (by first | (simp [*]; done) | (simp [*] <;> omega) | omega) (by repeat' first | exact one_nil | exact one_b8 _ | exact one_v32 _ | exact one_all rfl | refine one_cons rfl ?_ | refine one_app ?_ ?_)) rfl ?_; intro w21 hS22; simp only [List.cons_append, List.nil_append] at hS22; refine wl_nil ?_; refine c_then ?_; refine wp_ret ?_; refine retc Try.results140 ⟨_, rfl, run_loadVar_blk ti49 rfl (hS22.heap (.tail _ (.tail _ (.tail _ (.head _))))) (by first | (simp [*]; done) | (simp [*] <;> omega) | omega)⟩ ?_
        exact ⟨rfl, hS22.fin⟩
      · refine o_exv rfl (x_alloc (C := ((List.replicate 32 (0 : UInt8)).map b8)) hS13 ti49 rfl) rfl ?_
        rintro _ w23 ⟨b5, rfl, hS24⟩
        refine ⟨hS24.drop1.drop1.drop1, ?_⟩
        refine g_one 4 (by decide +kernel) (by decide +kernel) ?_; refine o_call rfl (r_call fn44 rfl rfl) rfl (sumOf_in 4 (a ++ b) _ _ _ _ (by decide) (St.rowAt hS24 (.tail _ (.head _))) (by simp [ha, hb]) hc11 (by decide)) ?_; rintro _ w25 ⟨rfl, hx26⟩
        have hS27 := hS24.ext hx26
        refine ⟨hS27.drop1.drop1.drop1, ?_⟩
        refine g_take 5 rfl (by decide +kernel) rfl (fun _ _ _ h => h) hS27.drop1.drop1.drop1 (fun wF hF => r_move (v := .tuple _) rfl) ?_; refine g_take 6 rfl (by decide +kernel) rfl (fun _ _ _ h => h) hS27.drop1.drop1.drop1 (fun wF hF => r_extract (v := .agg _) rfl rfl) ?_; refine g_take 7 rfl (by decide +kernel) rfl (fun _ _ _ h => h) hS27.drop1.drop1.drop1 (fun wF hF => r_extract (v := .int .i64 _) rfl rfl) ?_; refine g_one 9 (by decide +kernel) (by decide +kernel) ?_; refine o_exs rfl (x_storeW [] hS27 ti49 rfl rfl (by first | (simp [*]; done) | (simp [*] <;> omega) | omega) (by first | (simp [*]; done) | (simp [*] <;> omega) | omega) (by repeat' first | exact one_nil | exact one_b8 _ | exact one_v32 _ | exact one_all rfl | refine one_cons rfl ?_ | refine one_app ?_ ?_)) rfl ?_; intro w28 hS29; simp only [List.cons_append, List.nil_append] at hS29
        refine ⟨hS29.drop1.drop1.drop1, ?_⟩
        refine g_tail (by decide +kernel) rfl (by decide +kernel) ?_; refine wl_val (r_assign (v := .int .i64 _) rfl) rfl ?_; refine wl_nil ?_; refine c_then ?_; refine c_seq ?_; refine c_region ?_; refine wl_val (r_loadB ti49 rfl rfl (hS29.heap (.head _)) (by first | (simp [*]; done) | (simp [*] <;> omega) | omega)) rfl ?_; refine wl_exs (x_storeW [_, _, _] hS29 ti49 rfl rfl (by first | (simp [*]; done) | (simp [*] <;> omega) | omega) (by first | (simp [*]; done) | (simp [*] <;> omega) | omega) (by repeat' first | exact one_nil | exact one_b8 _ | exact one_v32 _ | exact one_all rfl | refine one_cons rfl ?_ | refine one_app ?_ ?_)) rfl ?_; intro w30 hS31; simp only [List.cons_append, List.nil_append] at hS31; refine wl_nil ?_; refine c_then ?_; refine wp_ret ?_; refine retc Try.results140 ⟨_, rfl, run_loadVar_blk ti49 rfl (hS31.heap (.tail _ (.tail _ (.tail _ (.head _))))) (by first | (simp [*]; done) | (simp [*] <;> omega) | omega)⟩ ?_
        exact ⟨rfl, hS31.fin⟩
    · refine o_exv rfl (x_alloc (C := ((List.replicate 32 (0 : UInt8)).map b8)) hS10 ti49 rfl) rfl ?_
      rintro _ w32 ⟨b5, rfl, hS33⟩
      refine ⟨hS33.drop1.drop1, ?_⟩
      refine g_one 3 (by decide +kernel) (by decide +kernel) ?_; refine o_call rfl (r_call fn130 rfl rfl) rfl (concat2_n a b _ _ _ _ _ _ _ _ _ (Row.of_at (at_all (hS33.heap (.tail _ (.head _))))) (Row.of_at (at_all (hS33.heap (.tail _ (.tail _ (.tail _ (.tail _ (.head _)))))))) (Row.of_at (at_all (hS33.heap (.tail _ (.tail _ (.tail _ (.head _))))))) (by first | (simp [*]; done) | (simp [*] <;> omega) | omega) (by first | (simp [*]; done) | (simp [*] <;> omega) | omega) (by decide)) ?_; rintro _ w34 ⟨a11, c11, rfl, hc11, hx35⟩
      have hS36 := hS33.call hx35
      simp only [List.cons_append, List.nil_append] at hS36
      refine ⟨hS36.drop1.drop1.drop1, ?_⟩
      refine g_one 4 (by decide +kernel) (by decide +kernel) ?_; refine o_call rfl (r_call fn44 rfl rfl) rfl (sumOf_in 4 (a ++ b) _ _ _ _ (by decide) (St.rowAt hS36 (.head _)) (by simp [ha, hb]) hc11 (by decide)) ?_; rintro _ w37 ⟨rfl, hx38⟩
      have hS39 := hS36.ext hx38
      refine ⟨hS39.drop1.drop1.drop1, ?_⟩
      refine g_take 5 rfl (by decide +kernel) rfl (fun _ _ _ h => h) hS39.drop1.drop1.drop1 (fun wF hF => r_move (v := .tuple _) rfl) ?_; refine g_take 6 rfl (by decide +kernel) rfl (fun _ _ _ h => h) hS39.drop1.drop1.drop1 (fun wF hF => r_extract (v := .agg _) rfl rfl) ?_; refine g_take 7 rfl (by decide +kernel) rfl (fun _ _ _ h => h) hS39.drop1.drop1.drop1 (fun wF hF => r_extract (v := .int .i64 _) rfl rfl) ?_; refine g_one 9 (by decide +kernel) (by decide +kernel) ?_; refine o_exs rfl (x_storeW [_] hS39 ti49 rfl rfl (by first | (simp [*]; done) | (simp [*] <;> omega) | omega) (by first | (simp [*]; done) | (simp [*] <;> omega) | omega) (by repeat' first | exact one_nil | exact one_b8 _ | exact one_v32 _ | exact one_all rfl | refine one_cons rfl ?_ | refine one_app ?_ ?_)) rfl ?_; intro w40 hS41; simp only [List.cons_append, List.nil_append] at hS41
      refine ⟨hS41.drop1.drop1.drop1, ?_⟩
      refine g_tail (by decide +kernel) rfl (by decide +kernel) ?_; refine wl_val (r_assign (v := .int .i64 _) rfl) rfl ?_; refine wl_nil ?_; refine c_then ?_; refine c_seq ?_; refine c_region ?_; refine wl_val (r_loadB ti49 rfl rfl (hS41.heap (.tail _ (.head _))) (by first | (simp [*]; done) | (simp [*] <;> omega) | omega)) rfl ?_; refine wl_exs (x_storeW [_, _, _] hS41 ti49 rfl rfl (by first | (simp [*]; done) | (simp [*] <;> omega) | omega) (by first | (simp [*]; done) | (simp [*] <;> omega) | omega) (by repeat' first | exact one_nil | exact one_b8 _ | exact one_v32 _ | exact one_all rfl | refine one_cons rfl ?_ | refine one_app ?_ ?_)) rfl ?_; intro w42 hS43; simp only [List.cons_append, List.nil_append] at hS43; refine wl_nil ?_; refine c_then ?_; refine wp_ret ?_; refine retc Try.results140 ⟨_, rfl, run_loadVar_blk ti49 rfl (hS43.heap (.tail _ (.tail _ (.tail _ (.head _))))) (by first | (simp [*]; done) | (simp [*] <;> omega) | omega)⟩ ?_
      exact ⟨rfl, hS43.fin⟩
  · refine o_exv rfl (x_alloc (C := ((List.replicate 32 (0 : UInt8)).map b8)) hS8 ti49 rfl) rfl ?_
    rintro _ w44 ⟨b5, rfl, hS45⟩
    refine ⟨hS45.drop1, ?_⟩
    refine g_one 2 (by decide +kernel) (by decide +kernel) ?_; refine o_exv rfl (x_lit (vs := [.slice _ _ _, .slice _ _ _]) hS45 ti43.und ti22 rfl rfl rfl (by intro c hc; simp only [List.mem_cons, List.not_mem_nil, or_false] at hc; rcases hc with rfl | rfl <;> rfl) (by decide)) rfl ?_; rintro _ w46 ⟨b10, rfl, hS47⟩
    refine ⟨hS47.drop1.drop1, ?_⟩
    refine g_one 3 (by decide +kernel) (by decide +kernel) ?_; refine o_call rfl (r_call fn130 rfl rfl) rfl (concat2_n a b _ _ _ _ _ _ _ _ _ (Row.of_at (at_all (hS47.heap (.head _)))) (Row.of_at (at_all (hS47.heap (.tail _ (.tail _ (.tail _ (.tail _ (.head _)))))))) (Row.of_at (at_all (hS47.heap (.tail _ (.tail _ (.tail _ (.head _))))))) (by first | (simp [*]; done) | (simp [*] <;> omega) | omega) (by first | (simp [*]; done) | (simp [*] <;> omega) | omega) (by decide)) ?_; rintro _ w48 ⟨a11, c11, rfl, hc11, hx49⟩
    have hS50 := hS47.call hx49
    simp only [List.cons_append, List.nil_append] at hS50
    refine ⟨hS50.drop1.drop1.drop1, ?_⟩
    refine g_one 4 (by decide +kernel) (by decide +kernel) ?_; refine o_call rfl (r_call fn44 rfl rfl) rfl (sumOf_in 4 (a ++ b) _ _ _ _ (by decide) (St.rowAt hS50 (.head _)) (by simp [ha, hb]) hc11 (by decide)) ?_; rintro _ w51 ⟨rfl, hx52⟩
    have hS53 := hS50.ext hx52
    refine ⟨hS53.drop1.drop1.drop1, ?_⟩
    refine g_take 5 rfl (by decide +kernel) rfl (fun _ _ _ h => h) hS53.drop1.drop1.drop1 (fun wF hF => r_move (v := .tuple _) rfl) ?_; refine g_take 6 rfl (by decide +kernel) rfl (fun _ _ _ h => h) hS53.drop1.drop1.drop1 (fun wF hF => r_extract (v := .agg _) rfl rfl) ?_; refine g_take 7 rfl (by decide +kernel) rfl (fun _ _ _ h => h) hS53.drop1.drop1.drop1 (fun wF hF => r_extract (v := .int .i64 _) rfl rfl) ?_; refine g_one 9 (by decide +kernel) (by decide +kernel) ?_; refine o_exs rfl (x_storeW [_, _] hS53 ti49 rfl rfl (by first | (simp [*]; done) | (simp [*] <;> omega) | omega) (by first | (simp [*]; done) | (simp [*] <;> omega) | omega) (by repeat' first | exact one_nil | exact one_b8 _ | exact one_v32 _ | exact one_all rfl | refine one_cons rfl ?_ | refine one_app ?_ ?_)) rfl ?_; intro w54 hS55; simp only [List.cons_append, List.nil_append] at hS55
    refine ⟨hS55.drop1.drop1.drop1, ?_⟩
    refine g_tail (by decide +kernel) rfl (by decide +kernel) ?_; refine wl_val (r_assign (v := .int .i64 _) rfl) rfl ?_; refine wl_nil ?_; refine c_then ?_; refine c_seq ?_; refine c_region ?_; refine wl_val (r_loadB ti49 rfl rfl (hS55.heap (.tail _ (.tail _ (.head _)))) (by first | (simp [*]; done) | (simp [*] <;> omega) | omega)) rfl ?_; refine wl_exs (x_storeW [_, _, _] hS55 ti49 rfl rfl (by first | (simp [*]; done) | (simp [*] <;> omega) | omega) (by first | (simp [*]; done) | (simp [*] <;> omega) | omega) (by repeat' first | exact one_nil | exact one_b8 _ | exact one_v32 _ | exact one_all rfl | refine one_cons rfl ?_ | refine one_app ?_ ?_)) rfl ?_; intro w56 hS57; simp only [List.cons_append, List.nil_append] at hS57; refine wl_nil ?_; refine c_then ?_; refine wp_ret ?_; refine retc Try.results140 ⟨_, rfl, run_loadVar_blk ti49 rfl (hS57.heap (.tail _ (.tail _ (.tail _ (.head _))))) (by first | (simp [*]; done) | (simp [*] <;> omega) | omega)⟩ ?_
    exact ⟨rfl, hS57.fin⟩

theorem leafOf_ok (a b : List UInt8) (w : World) (ha : a.length = 32) (hb : b.length = 32) :
    Ret Try.prog 143 [.agg (a.map b8).toArray, .agg (b.map b8).toArray] w (fun v w' => v = .agg ((leafM (a ++ b)).map b8).toArray ∧ St w [] w' []) := by
  refine enter Try.func143 rfl Try.ntmps143 rfl ?_
  have hS := St.refl w []
  refine c_seq ?_; refine c_region ?_; refine wl_exv (x_box hS (v := .agg _) rfl rfl) rfl ?_; rintro _ w1 ⟨b2, rfl, hS2⟩; refine wl_exv (x_box hS2 (v := .agg _) rfl rfl) rfl ?_; rintro _ w3 ⟨b3, rfl, hS4⟩; refine wl_exv (x_alloc (C := ((List.replicate 32 (0 : UInt8)).map b8)) hS4 ti49 rfl) rfl ?_; rintro _ w5 ⟨b4, rfl, hS6⟩; refine wl_nil ?_; refine c_then ?_; refine c_seq ?_; refine c_drawS 3 hMixed hS6 ?_; intro w7 hS8; refine g_take 0 rfl (by decide +kernel) rfl (fun _ _ _ h => h) hS8 (fun wF hF => r_sa1_0 ti49.und ti5 rfl ) ?_; refine g_take 2 rfl (by decide +kernel) rfl (fun _ _ _ h => h) hS8 (fun wF hF => r_sa1_0 ti49.und ti5 rfl ) ?_; refine g_one 1 (by decide +kernel) (by decide +kernel) ?_; refine o_call rfl (r_call fn21 rfl rfl) rfl (clone_n _ _ _ _ _ (Row.of_at (at_all (hS8.heap (.tail _ (.tail _ (.head _)))))) (by first | (simp [*]; done) | (simp [*] <;> omega) | omega) (by first | (simp [*]; done) | (simp [*] <;> omega) | omega)) ?_; rintro _ w9 ⟨a6, c6, rfl, hc6, hx10⟩
  have hS11 := hS8.call hx10
  simp only [List.cons_append, List.nil_append] at hS11
  refine ⟨hS11.drop1, ?_⟩
  refine g_tail (by decide +kernel) rfl (by decide +kernel) ?_; refine wl_exv (x_append [] hS11 ti22.und ti5 rfl (by decide) rfl rfl (Row.of_at (at_all (hS11.heap (.tail _ (.tail _ (.head _)))))) (by first | (simp [*]; done) | (simp [*] <;> omega) | omega) (by first | exact one_b8 _ | exact one_v32 _ | (intro c hc; simp only [List.mem_cons, List.not_mem_nil, or_false] at hc; (first | subst hc | rcases hc with rfl | rfl) <;> rfl)) (by first | omega | (simp [*]; done) | (simp [*] <;> omega)) (by first | omega | (simp [*]; done) | (simp [*] <;> omega)) _ rfl) rfl ?_; rintro _ w12 ⟨aq14, cq14, rfl, hcq14, hS13⟩; simp only [List.cons_append, List.nil_append] at hS13; refine wl_call (r_call fn33 rfl rfl) rfl (rsum_ok 4 (a ++ b) _ _ _ _ (by rw [List.map_append]; exact (St.rowAt hS13 (.head _))) (by simp [ha, hb]) (by decide)) ?_; rintro _ w15 ⟨rfl, hx16⟩
  have hS17 := hS13.ext hx16
  refine wl_exs (x_storeW [_] hS17 ti49 rfl rfl (by first | (simp [*]; done) | (simp [*] <;> omega) | omega) (by first | (simp [*]; done) | (simp [*] <;> omega) | omega) (by repeat' first | exact one_nil | exact one_b8 _ | exact one_v32 _ | exact one_all rfl | refine one_cons rfl ?_ | refine one_app ?_ ?_)) rfl ?_; intro w18 hS19; simp only [List.cons_append, List.nil_append] at hS19; refine wl_nil ?_; refine c_then ?_; refine wp_ret ?_; refine retc Try.results143 ⟨_, rfl, run_loadVar_blk ti49 rfl (hS19.heap (.tail _ (.head _))) (by first | (simp [*]; done) | (simp [*] <;> omega) | omega)⟩ ?_
  exact ⟨rfl, hS19.fin⟩

theorem there_ok (root k v : List UInt8) (lv : List UInt8) (pa : Option Addr) (pc : Nat) (pl : List (List UInt8)) (w : World) (hr : root.length = 32) (hk : k.length = 32) (hv : v.length = 32) (hlv : lv.length = 32) (hp : Row w pa (pl.flatten.map b8)) (h32 : S32 pl) (hpc : pl.length ≤ pc) (hpm : pl.length ≤ 4398046511104) :
    Ret Try.prog 65 [.agg (root.map b8).toArray, .agg (k.map b8).toArray, .agg (v.map b8).toArray, .agg (lv.map b8 ++ [Value.slice pa pl.length pc]).toArray] w (fun x w' => x = vi (thereE root k v lv pl) ∧ St w [] w' []) := by
  refine enter Try.func65 rfl Try.ntmps65 rfl ?_
  have hS := St.refl w []
  refine c_seq ?_; refine c_region ?_; refine wl_exv (x_box hS (v := .agg _) rfl rfl) rfl ?_; rintro _ w1 ⟨b4, rfl, hS2⟩; refine wl_exv (x_box hS2 (v := .agg _) rfl rfl) rfl ?_; rintro _ w3 ⟨b5, rfl, hS4⟩; refine wl_exv (x_box hS4 (v := .agg _) rfl rfl) rfl ?_; rintro _ w5 ⟨b6, rfl, hS6⟩; refine wl_exv (x_box hS6 (v := .agg _) rfl rfl) rfl ?_; rintro _ w7 ⟨b7, rfl, hS8⟩; refine wl_val (r_assign (v := .int .i64 0) rfl) rfl ?_; refine wl_nil ?_; refine c_then ?_; refine c_seq ?_; refine c_seq ?_; refine c_region ?_; refine wl_val (r_loadB ti49 rfl rfl (hS8.heap (.tail _ (.head _))) (by first | (simp [*]; done) | (simp [*] <;> omega) | omega)) rfl ?_; refine wl_val (r_build0 (cs := ((List.replicate 32 (0 : UInt8)).map b8)) ti49.und ti49 ti5) rfl ?_
  refine wl_dec (r_eqlA (u := undef) eg49 rfl rfl (eqIs_b8 ti49.und ti5 _ _ hv (by simp))) rfl (fun h1_2 => ?_) (fun h1_2 => ?_)
  · refine wl_nil ?_
    refine c_then ?_; refine c_true rfl ?_; refine c_seq ?_; refine c_region ?_; refine wl_val (r_assign (v := .int .i64 2) rfl) rfl ?_; refine wl_nil ?_; refine c_then ?_; refine wp_ret ?_; refine c_thenR ?_; refine ret1 Try.results65 ?_
    exact ⟨congrArg vi (by unfold thereE; rw [if_pos h1_2]), hS8.fin⟩
  refine wl_nil ?_; refine c_then ?_; refine c_false rfl ?_; refine wp_skip ?_; refine c_then ?_; refine c_seq ?_; refine c_seq ?_; refine c_region ?_; refine wl_val (r_field fa95_0 rfl) rfl ?_; refine wl_val (r_loadPre ti31 rfl rfl (hS8.heap (.head _)) (by first | (simp [*]; done) | (simp [*] <;> omega) | omega)) rfl ?_; refine wl_call (r_call fn138 rfl rfl) rfl (marked_ok _ _ (by first | (simp [*]; done) | (simp [*] <;> omega) | omega)) ?_; rintro _ w9 ⟨rfl, hx10⟩
  have hS11 := hS8.ext hx10
  refine wl_val (r_move (v := .tuple _) rfl) rfl ?_; refine wl_val (r_extract (v := .int .i64 _) rfl rfl) rfl ?_; refine wl_val (r_extract (v := .int .i64 _) rfl rfl) rfl ?_; refine wl_val (r_assign (v := .int .i64 _) rfl) rfl ?_; refine wl_val (r_assign (v := .int .i64 _) rfl) rfl ?_; refine wl_nil ?_; refine c_then ?_; refine c_seq ?_; refine c_drawS 13 hMixed hS11 ?_; intro w12 hS13; refine g_take 0 rfl (by decide +kernel) rfl (fun _ _ _ h => h) hS13 (fun wF hF => r_field fa95_1 rfl) ?_; refine g_take 1 rfl (by decide +kernel) rfl (fun _ _ _ h => h) hS13 (fun wF hF => r_loadB1 ti53.und rfl rfl (hF.heap (.head _)) (mp_get hlv)) ?_; refine g_take 2 rfl (by decide +kernel) rfl (fun _ _ _ h => h) hS13 (fun wF hF => r_len (T := 53) rfl ti53.und rfl _ rfl) ?_; refine g_take 3 rfl (by decide +kernel) rfl (fun _ _ _ h => h) hS13 (fun wF hF => r_move (v := .int .i64 _) rfl) ?_
  refine g_dec 4 rfl (by decide +kernel) rfl (fun _ _ _ _ h => h) hS13 (fun wF hF => r_neq rfl rfl) (fun h4_4 => ?_) (fun h4_4 => ?_)
  · refine g_take 5 rfl (by decide +kernel) rfl (fun _ _ _ h => h) hS13 (fun wF hF => r_move (v := .bool _) rfl) ?_
    refine g_takeN 6 rfl (by decide +kernel) rfl (fun _ _ _ h => h) hS13 ?_; refine g_takeN 7 rfl (by decide +kernel) rfl (fun _ _ _ h => h) hS13 ?_; refine g_takeN 8 rfl (by decide +kernel) rfl (fun _ _ _ h => h) hS13 ?_; refine g_takeN 9 rfl (by decide +kernel) rfl (fun _ _ _ h => h) hS13 ?_; refine g_takeN 10 rfl (by decide +kernel) rfl (fun _ _ _ h => h) hS13 ?_; refine g_takeN 11 rfl (by decide +kernel) rfl (fun _ _ _ h => h) hS13 ?_; refine g_takeN 12 rfl (by decide +kernel) rfl (fun _ _ _ h => h) hS13 ?_; refine g_tail (by decide +kernel) rfl (by decide +kernel) ?_; refine wl_not rfl ?_; refine wl_val (r_pick_t rfl (v := .bool true) rfl) rfl ?_; refine wl_nil ?_; refine c_then ?_; refine c_true rfl ?_; refine c_seq ?_; refine c_region ?_; refine wl_val (r_assign (v := .int .i64 12) rfl) rfl ?_; refine wl_nil ?_; refine c_then ?_; refine wp_ret ?_; refine c_thenR ?_; refine ret1 Try.results65 ?_
    exact ⟨congrArg vi (by unfold thereE; rw [if_neg h1_2, if_neg (fun h => h4_4 (by have := h.1; omega))]), hS13.fin⟩
  refine g_take 5 rfl (by decide +kernel) rfl (fun _ _ _ h => h) hS13 (fun wF hF => r_move (v := .bool _) rfl) ?_; refine g_take 6 rfl (by decide +kernel) rfl (fun _ _ _ h => h) hS13 (fun wF hF => r_loadB ti49 rfl rfl (hF.heap (.tail _ (.tail _ (.head _)))) (by first | (simp [*]; done) | (simp [*] <;> omega) | omega)) ?_; refine g_take 7 rfl (by decide +kernel) rfl (fun _ _ _ h => h) hS13 (fun wF hF => r_loadB ti49 rfl rfl (hF.heap (.tail _ (.tail _ (.head _)))) (by first | (simp [*]; done) | (simp [*] <;> omega) | omega)) ?_; refine g_take 8 rfl (by decide +kernel) rfl (fun _ _ _ h => h) hS13 (fun wF hF => r_loadB ti49 rfl rfl (hF.heap (.tail _ (.head _))) (by first | (simp [*]; done) | (simp [*] <;> omega) | omega)) ?_; refine g_take 10 rfl (by decide +kernel) rfl (fun _ _ _ h => h) hS13 (fun wF hF => r_loadB ti95 ag95 rfl (hF.heap (.head _)) (by first | (simp [*]; done) | (simp [*] <;> omega) | omega)) ?_; refine g_take 12 rfl (by decide +kernel) rfl (fun _ _ _ h => h) hS13 (fun wF hF => r_loadB ti49 rfl rfl (hF.heap (.tail _ (.tail _ (.tail _ (.head _))))) (by first | (simp [*]; done) | (simp [*] <;> omega) | omega)) ?_; refine g_one 9 (by decide +kernel) (by decide +kernel) ?_; refine o_call rfl (r_call fn140 rfl rfl) rfl (single_ok _ _ _ (by first | (simp [*]; done) | (simp [*] <;> omega) | omega) (by first | (simp [*]; done) | (simp [*] <;> omega) | omega)) ?_; rintro _ w14 ⟨rfl, hx15⟩
  have hS16 := hS13.ext hx15
  refine ⟨hS16, ?_⟩
  refine g_one 11 (by decide +kernel) (by decide +kernel) ?_; refine o_call rfl (r_call fn139 rfl rfl) rfl (up_ok k (leafM (k ++ v)) lv pa pc pl _ hk (leafM_len _) hlv (hp.st hS16) h32 hpc hpm (by omega)) ?_; rintro _ w17 ⟨rfl, hx18⟩
  have hS19 := hS16.ext hx18
  refine ⟨hS19, ?_⟩
  refine g_tail (by decide +kernel) rfl (by decide +kernel) ?_
  refine wl_dec (r_neqA (u := undef) eg49 rfl rfl (eqIs_b8 ti49.und ti5 _ _ (upAll_len _ _ _ _ (leafM_len _)) hr)) rfl (fun h4_13 => ?_) (fun h4_13 => ?_)
  · refine wl_val (r_pick_f rfl (v := .bool _) rfl) rfl ?_
    refine wl_nil ?_; refine c_then ?_; refine c_true rfl ?_; refine c_seq ?_; refine c_region ?_; refine wl_val (r_assign (v := .int .i64 12) rfl) rfl ?_; refine wl_nil ?_; refine c_then ?_; refine wp_ret ?_; refine c_thenR ?_; refine ret1 Try.results65 ?_
    exact ⟨congrArg vi (by unfold thereE; rw [if_neg h1_2, if_neg (fun h => h4_13 h.2)]), hS19.fin⟩
  refine wl_val (r_pick_f rfl (v := .bool _) rfl) rfl ?_; refine wl_nil ?_; refine c_then ?_; refine c_false rfl ?_; refine wp_skip ?_; refine c_then ?_; refine c_seq ?_; refine c_region ?_; refine wl_val (r_assign (v := .int .i64 0) rfl) rfl ?_; refine wl_nil ?_; refine c_then ?_; refine wp_ret ?_; refine ret1 Try.results65 ?_
  exact ⟨congrArg vi (by unfold thereE; rw [if_neg h1_2, if_pos ⟨by omega, Classical.not_not.1 h4_13⟩]), hS19.fin⟩

theorem rthere_ok (root k v : List UInt8) (lv : List UInt8) (pa : Option Addr) (pc : Nat) (pl : List (List UInt8)) (w : World) (hr : root.length = 32) (hk : k.length = 32) (hv : v.length = 32) (hlv : lv.length = 32) (hp : Row w pa (pl.flatten.map b8)) (h32 : S32 pl) (hpc : pl.length ≤ pc) (hpm : pl.length ≤ 4398046511104) :
    Ret Try.prog 66 [.agg (root.map b8).toArray, .agg (k.map b8).toArray, .agg (v.map b8).toArray, .agg (lv.map b8 ++ [Value.slice pa pl.length pc]).toArray] w (fun x w' => x = vi (thereE root k v lv pl) ∧ St w [] w' []) := by
  refine enter Try.func66 rfl Try.ntmps66 rfl ?_
  have hS := St.refl w []
  refine c_seq ?_; refine c_region ?_; refine wl_exv (x_box hS (v := .agg _) rfl rfl) rfl ?_; rintro _ w1 ⟨b4, rfl, hS2⟩; refine wl_exv (x_box hS2 (v := .agg _) rfl rfl) rfl ?_; rintro _ w3 ⟨b5, rfl, hS4⟩; refine wl_exv (x_box hS4 (v := .agg _) rfl rfl) rfl ?_; rintro _ w5 ⟨b6, rfl, hS6⟩; refine wl_exv (x_box hS6 (v := .agg _) rfl rfl) rfl ?_; rintro _ w7 ⟨b7, rfl, hS8⟩; refine wl_val (r_assign (v := .int .i64 0) rfl) rfl ?_; refine wl_nil ?_; refine c_then ?_; refine c_seq ?_; refine c_seq ?_; refine c_region ?_; refine wl_val (r_loadB ti49 rfl rfl (hS8.heap (.tail _ (.head _))) (by first | (simp [*]; done) | (simp [*] <;> omega) | omega)) rfl ?_; refine wl_val (r_build0 (cs := ((List.replicate 32 (0 : UInt8)).map b8)) ti49.und ti49 ti5) rfl ?_
  refine wl_dec (r_eqlA (u := undef) eg49 rfl rfl (eqIs_b8 ti49.und ti5 _ _ hv (by simp))) rfl (fun h1_2 => ?_) (fun h1_2 => ?_)
  · refine wl_nil ?_
    refine c_then ?_; refine c_true rfl ?_; refine c_seq ?_; refine c_region ?_; refine wl_val (r_assign (v := .int .i64 2) rfl) rfl ?_; refine wl_nil ?_; refine c_then ?_; refine wp_ret ?_; refine c_thenR ?_; refine ret1 Try.results66 ?_
    exact ⟨congrArg vi (by unfold thereE; rw [if_pos h1_2]), hS8.fin⟩
  refine wl_nil ?_; refine c_then ?_; refine c_false rfl ?_; refine wp_skip ?_; refine c_then ?_; refine c_seq ?_; refine c_seq ?_; refine c_region ?_; refine wl_val (r_loadB ti95 ag95 rfl (hS8.heap (.head _)) (by first | (simp [*]; done) | (simp [*] <;> omega) | omega)) rfl ?_; refine wl_call (r_call fn141 rfl rfl) rfl (depth_ok lv pa pc pl _ hlv (hp.st hS8) h32 hpc hpm) ?_; rintro _ w9 ⟨rfl, hx10⟩
  have hS11 := hS8.ext hx10
  refine wl_val (r_move (v := .tuple _) rfl) rfl ?_; refine wl_val (r_extract (v := .int .i64 _) rfl rfl) rfl ?_; refine wl_val (r_extract (v := .int .i64 _) rfl rfl) rfl ?_; refine wl_val (r_assign (v := .int .i64 _) rfl) rfl ?_; refine wl_val (r_assign (v := .int .i64 _) rfl) rfl ?_; refine wl_nil ?_; refine c_then ?_; refine c_seq ?_; refine c_drawS 13 hMixed hS11 ?_; intro w12 hS13; refine g_take 0 rfl (by decide +kernel) rfl (fun _ _ _ h => h) hS13 (fun wF hF => r_move (v := .int .i64 _) rfl) ?_; refine g_take 1 rfl (by decide +kernel) rfl (fun _ _ _ h => h) hS13 (fun wF hF => r_field fa95_1 rfl) ?_; refine g_take 2 rfl (by decide +kernel) rfl (fun _ _ _ h => h) hS13 (fun wF hF => r_loadB1 ti53.und rfl rfl (hF.heap (.head _)) (mp_get hlv)) ?_; refine g_take 3 rfl (by decide +kernel) rfl (fun _ _ _ h => h) hS13 (fun wF hF => r_len (T := 53) rfl ti53.und rfl _ rfl) ?_
  refine g_dec 4 rfl (by decide +kernel) rfl (fun _ _ _ _ h => h) hS13 (fun wF hF => r_neq rfl rfl) (fun h4_4 => ?_) (fun h4_4 => ?_)
  · refine g_take 5 rfl (by decide +kernel) rfl (fun _ _ _ h => h) hS13 (fun wF hF => r_move (v := .bool _) rfl) ?_
    refine g_takeN 6 rfl (by decide +kernel) rfl (fun _ _ _ h => h) hS13 ?_; refine g_takeN 7 rfl (by decide +kernel) rfl (fun _ _ _ h => h) hS13 ?_; refine g_takeN 8 rfl (by decide +kernel) rfl (fun _ _ _ h => h) hS13 ?_; refine g_takeN 9 rfl (by decide +kernel) rfl (fun _ _ _ h => h) hS13 ?_; refine g_takeN 10 rfl (by decide +kernel) rfl (fun _ _ _ h => h) hS13 ?_; refine g_takeN 11 rfl (by decide +kernel) rfl (fun _ _ _ h => h) hS13 ?_; refine g_takeN 12 rfl (by decide +kernel) rfl (fun _ _ _ h => h) hS13 ?_; refine g_tail (by decide +kernel) rfl (by decide +kernel) ?_; refine wl_not rfl ?_; refine wl_val (r_pick_t rfl (v := .bool true) rfl) rfl ?_; refine wl_nil ?_; refine c_then ?_; refine c_true rfl ?_; refine c_seq ?_; refine c_region ?_; refine wl_val (r_assign (v := .int .i64 12) rfl) rfl ?_; refine wl_nil ?_; refine c_then ?_; refine wp_ret ?_; refine c_thenR ?_; refine ret1 Try.results66 ?_
    exact ⟨congrArg vi (by unfold thereE; rw [if_neg h1_2, if_neg (fun h => h4_4 (by have := h.1; omega))]), hS13.fin⟩
  refine g_take 5 rfl (by decide +kernel) rfl (fun _ _ _ h => h) hS13 (fun wF hF => r_move (v := .bool _) rfl) ?_; refine g_take 6 rfl (by decide +kernel) rfl (fun _ _ _ h => h) hS13 (fun wF hF => r_loadB ti49 rfl rfl (hF.heap (.tail _ (.tail _ (.head _)))) (by first | (simp [*]; done) | (simp [*] <;> omega) | omega)) ?_; refine g_take 7 rfl (by decide +kernel) rfl (fun _ _ _ h => h) hS13 (fun wF hF => r_loadB ti49 rfl rfl (hF.heap (.tail _ (.tail _ (.head _)))) (by first | (simp [*]; done) | (simp [*] <;> omega) | omega)) ?_; refine g_take 8 rfl (by decide +kernel) rfl (fun _ _ _ h => h) hS13 (fun wF hF => r_loadB ti49 rfl rfl (hF.heap (.tail _ (.head _))) (by first | (simp [*]; done) | (simp [*] <;> omega) | omega)) ?_; refine g_take 10 rfl (by decide +kernel) rfl (fun _ _ _ h => h) hS13 (fun wF hF => r_loadB ti95 ag95 rfl (hF.heap (.head _)) (by first | (simp [*]; done) | (simp [*] <;> omega) | omega)) ?_; refine g_take 12 rfl (by decide +kernel) rfl (fun _ _ _ h => h) hS13 (fun wF hF => r_loadB ti49 rfl rfl (hF.heap (.tail _ (.tail _ (.tail _ (.head _))))) (by first | (simp [*]; done) | (simp [*] <;> omega) | omega)) ?_; refine g_one 9 (by decide +kernel) (by decide +kernel) ?_; refine o_call rfl (r_call fn143 rfl rfl) rfl (leafOf_ok _ _ _ (by first | (simp [*]; done) | (simp [*] <;> omega) | omega) (by first | (simp [*]; done) | (simp [*] <;> omega) | omega)) ?_; rintro _ w14 ⟨rfl, hx15⟩
  have hS16 := hS13.ext hx15
  refine ⟨hS16, ?_⟩
  refine g_one 11 (by decide +kernel) (by decide +kernel) ?_; refine o_call rfl (r_call fn142 rfl rfl) rfl (rup_ok k (leafM (k ++ v)) lv pa pc pl _ hk (leafM_len _) hlv (hp.st hS16) h32 hpc hpm (by omega)) ?_; rintro _ w17 ⟨rfl, hx18⟩
  have hS19 := hS16.ext hx18
  refine ⟨hS19, ?_⟩
  refine g_tail (by decide +kernel) rfl (by decide +kernel) ?_
  refine wl_dec (r_neqA (u := undef) eg49 rfl rfl (eqIs_b8 ti49.und ti5 _ _ (upAll_len _ _ _ _ (leafM_len _)) hr)) rfl (fun h4_13 => ?_) (fun h4_13 => ?_)
  · refine wl_val (r_pick_f rfl (v := .bool _) rfl) rfl ?_
    refine wl_nil ?_; refine c_then ?_; refine c_true rfl ?_; refine c_seq ?_; refine c_region ?_; refine wl_val (r_assign (v := .int .i64 12) rfl) rfl ?_; refine wl_nil ?_; refine c_then ?_; refine wp_ret ?_; refine c_thenR ?_; refine ret1 Try.results66 ?_
    exact ⟨congrArg vi (by unfold thereE; rw [if_neg h1_2, if_neg (fun h => h4_13 h.2)]), hS19.fin⟩
  refine wl_val (r_pick_f rfl (v := .bool _) rfl) rfl ?_; refine wl_nil ?_; refine c_then ?_; refine c_false rfl ?_; refine wp_skip ?_; refine c_then ?_; refine c_seq ?_; refine c_region ?_; refine wl_val (r_assign (v := .int .i64 0) rfl) rfl ?_; refine wl_nil ?_; refine c_then ?_; refine wp_ret ?_; refine ret1 Try.results66 ?_
  exact ⟨congrArg vi (by unfold thereE; rw [if_neg h1_2, if_pos ⟨by omega, Classical.not_not.1 h4_13⟩]), hS19.fin⟩

end Go.Proofs.Ytfohfnpehfcaaaa
end
section
namespace Go.Proofs.Ytfohfnpehfcaaaa
open Go.Kw
set_option linter.unusedVariables false
set_option linter.unusedSimpArgs false
set_option maxRecDepth 100000
theorem absent_ok (root k : List UInt8) (lv : List UInt8) (pa : Option Addr) (pc : Nat) (pl : List (List UInt8)) (w : World) (hr : root.length = 32) (hk : k.length = 32) (hlv : lv.length = 32) (hp : Row w pa (pl.flatten.map b8)) (h32 : S32 pl) (hpc : pl.length ≤ pc) (hpm : pl.length ≤ 4398046511104) :
    Ret Try.prog 67 [.agg (root.map b8).toArray, .agg (k.map b8).toArray, .agg (lv.map b8 ++ [Value.slice pa pl.length pc]).toArray] w (fun x w' => x = vi (absentE root k lv pl) ∧ St w [] w' []) := by
  refine enter Try.func67 rfl Try.ntmps67 rfl ?_
  have hS := St.refl w []
  refine c_seq ?_; refine c_region ?_; refine wl_exv (x_box hS (v := .agg _) rfl rfl) rfl ?_; rintro _ w1 ⟨b3, rfl, hS2⟩; refine wl_exv (x_box hS2 (v := .agg _) rfl rfl) rfl ?_; rintro _ w3 ⟨b4, rfl, hS4⟩; refine wl_exv (x_box hS4 (v := .agg _) rfl rfl) rfl ?_; rintro _ w5 ⟨b5, rfl, hS6⟩; refine wl_val (r_assign (v := .int .i64 0) rfl) rfl ?_; refine wl_nil ?_; refine c_then ?_; refine c_seq ?_; refine c_region ?_; refine wl_val (r_field fa95_0 rfl) rfl ?_; refine wl_val (r_loadPre ti31 rfl rfl (hS6.heap (.head _)) (by first | (simp [*]; done) | (simp [*] <;> omega) | omega)) rfl ?_; refine wl_call (r_call fn138 rfl rfl) rfl (marked_ok _ _ (by first | (simp [*]; done) | (simp [*] <;> omega) | omega)) ?_; rintro _ w7 ⟨rfl, hx8⟩
  have hS9 := hS6.ext hx8
  refine wl_val (r_move (v := .tuple _) rfl) rfl ?_; refine wl_val (r_extract (v := .int .i64 _) rfl rfl) rfl ?_; refine wl_val (r_extract (v := .int .i64 _) rfl rfl) rfl ?_; refine wl_val (r_assign (v := .int .i64 _) rfl) rfl ?_; refine wl_val (r_assign (v := .int .i64 _) rfl) rfl ?_; refine wl_nil ?_; refine c_then ?_; refine c_seq ?_; refine c_region ?_; refine wl_val (r_build0 (cs := ((List.replicate 32 (0 : UInt8)).map b8)) ti49.und ti49 ti5) rfl ?_; refine wl_exv (x_alloc (C := ((List.replicate 32 (0 : UInt8)).map b8)) hS9 ti49 rfl) rfl ?_; rintro _ w10 ⟨b9, rfl, hS11⟩; refine wl_exs (x_storeW [] hS11 ti49 rfl rfl (by first | (simp [*]; done) | (simp [*] <;> omega) | omega) (by first | (simp [*]; done) | (simp [*] <;> omega) | omega) (by repeat' first | exact one_nil | exact one_b8 _ | exact one_v32 _ | exact one_all rfl | refine one_cons rfl ?_ | refine one_app ?_ ?_)) rfl ?_; intro w12 hS13; simp only [List.cons_append, List.nil_append] at hS13; refine wl_nil ?_; refine c_then ?_; refine c_seq ?_; refine c_seq ?_
  have hmt := manyTo_le lv 256
  refine c_region ?_; refine wl_val (r_field fa95_1 rfl) rfl ?_; refine wl_val (r_loadB1 ti53.und rfl rfl (hS13.heap (.tail _ (.head _))) (mp_get hlv)) rfl ?_; refine wl_val (r_len (T := 53) rfl ti53.und rfl _ rfl) rfl ?_; refine wl_val (r_move (v := .int .i64 _) rfl) rfl ?_; refine wl_val (r_subi rfl rfl (by omega) (by omega)) rfl ?_; refine wl_nil ?_; refine c_then ?_; refine c_block ?_; refine c_seq ?_; refine c_region ?_
  refine wl_dec (r_eql rfl rfl) rfl (fun h5_0 => ?_) (fun h5_0 => ?_)
  · refine wl_val (r_assign (v := .bool _) rfl) rfl ?_
    refine wl_nil ?_; refine c_then ?_; refine c_true rfl ?_; refine wp_skip ?_; refine c_inN ?_; refine c_then ?_; refine c_seq ?_; refine c_seq ?_; refine c_drawS 5 hMixed hS13 ?_; intro w14 hS15; refine g_take 0 rfl (by decide +kernel) rfl (fun _ _ _ h => h) hS15 (fun wF hF => r_loadB ti49 rfl rfl (hF.heap (.tail _ (.tail _ (.head _)))) (by first | (simp [*]; done) | (simp [*] <;> omega) | omega)) ?_; refine g_take 1 rfl (by decide +kernel) rfl (fun _ _ _ h => h) hS15 (fun wF hF => r_loadB ti49 rfl rfl (hF.heap (.head _)) (by first | (simp [*]; done) | (simp [*] <;> omega) | omega)) ?_; refine g_take 2 rfl (by decide +kernel) rfl (fun _ _ _ h => h) hS15 (fun wF hF => r_loadB ti95 ag95 rfl (hF.heap (.tail _ (.head _))) (by first | (simp [*]; done) | (simp [*] <;> omega) | omega)) ?_; refine g_take 4 rfl (by decide +kernel) rfl (fun _ _ _ h => h) hS15 (fun wF hF => r_loadB ti49 rfl rfl (hF.heap (.tail _ (.tail _ (.tail _ (.head _))))) (by first | (simp [*]; done) | (simp [*] <;> omega) | omega)) ?_; refine g_one 3 (by decide +kernel) (by decide +kernel) ?_; refine o_call rfl (r_call fn139 rfl rfl) rfl (up_ok k (_) lv pa pc pl _ hk (by simp) hlv (hp.st hS15) h32 hpc hpm (by omega)) ?_; rintro _ w16 ⟨rfl, hx17⟩
    have hS18 := hS15.ext hx17
    refine ⟨hS18, ?_⟩
    refine g_tail (by decide +kernel) rfl (by decide +kernel) ?_
    refine wl_dec (r_neqA (u := undef) eg49 rfl rfl (eqIs_b8 ti49.und ti5 _ _ (upAll_len _ _ _ _ (by simp)) hr)) rfl (fun h11_5 => ?_) (fun h11_5 => ?_)
    · refine wl_nil ?_
      refine c_then ?_; refine c_true rfl ?_; refine c_seq ?_; refine c_region ?_; refine wl_val (r_assign (v := .int .i64 12) rfl) rfl ?_; refine wl_nil ?_; refine c_then ?_; refine wp_ret ?_; refine c_thenR ?_; refine ret1 Try.results67 ?_
      exact ⟨congrArg vi (by unfold absentE; rw [if_pos (by omega), if_neg h11_5]), hS18.fin⟩
    refine wl_nil ?_; refine c_then ?_; refine c_false rfl ?_; refine wp_skip ?_; refine c_then ?_; refine c_seq ?_; refine c_region ?_; refine wl_val (r_assign (v := .int .i64 0) rfl) rfl ?_; refine wl_nil ?_; refine c_then ?_; refine wp_ret ?_; refine ret1 Try.results67 ?_
    exact ⟨congrArg vi (by unfold absentE; rw [if_pos (by omega), if_pos (Classical.not_not.1 h11_5)]), hS18.fin⟩
  refine wl_val (r_assign (v := .bool _) rfl) rfl ?_; refine wl_nil ?_; refine c_then ?_; refine c_false rfl ?_; refine c_seq ?_; refine c_region ?_
  refine wl_dec (r_eql rfl rfl) rfl (fun h6_0 => ?_) (fun h6_0 => ?_)
  · refine wl_val (r_assign (v := .bool _) rfl) rfl ?_
    refine wl_nil ?_; refine c_then ?_; refine c_true rfl ?_; refine c_seq ?_; refine c_drawS 14 hMixed hS13 ?_; intro w19 hS20; refine g_take 0 rfl (by decide +kernel) rfl (fun _ _ _ h => h) hS20 (fun wF hF => r_field fa95_1 rfl) ?_; refine g_take 1 rfl (by decide +kernel) rfl (fun _ _ _ h => h) hS20 (fun wF hF => r_loadB1 ti53.und rfl rfl (hF.heap (.tail _ (.head _))) (mp_get hlv)) ?_; refine g_take 2 rfl (by decide +kernel) rfl (fun _ _ _ h => h) hS20 (fun wF hF => r_move (v := .int .i64 _) rfl) ?_; refine g_take 3 rfl (by decide +kernel) rfl (fun _ _ _ h => h) hS20 (fun wF hF => r_ix32 ti53.und ti49 rfl rfl (hp.st hF) h32 rfl (by omega)) ?_; refine g_take 4 rfl (by decide +kernel) rfl (fun _ _ _ h => h) hS20 (fun wF hF => r_load32 ti49 rfl rfl (hp.st hF) h32 (by omega)) ?_; refine g_take 5 rfl (by decide +kernel) rfl (fun _ _ _ h => h) hS20 (fun wF hF => r_field fa95_1 rfl) ?_; refine g_take 6 rfl (by decide +kernel) rfl (fun _ _ _ h => h) hS20 (fun wF hF => r_loadB1 ti53.und rfl rfl (hF.heap (.tail _ (.head _))) (mp_get hlv)) ?_; refine g_take 7 rfl (by decide +kernel) rfl (fun _ _ _ h => h) hS20 (fun wF hF => r_move (v := .int .i64 _) rfl) ?_; refine g_take 8 rfl (by decide +kernel) rfl (fun _ _ _ h => h) hS20 (fun wF hF => r_addn (b := 1) rfl rfl (by omega)) ?_; refine g_take 9 rfl (by decide +kernel) rfl (fun _ _ _ h => h) hS20 (fun wF hF => r_ix32 ti53.und ti49 rfl rfl (hp.st hF) h32 rfl (by omega)) ?_; refine g_take 10 rfl (by decide +kernel) rfl (fun _ _ _ h => h) hS20 (fun wF hF => r_load32 ti49 rfl rfl (hp.st hF) h32 (by omega)) ?_
    refine g_all (rs := [11, 12]) (by decide +kernel) (by decide +kernel) rfl ?_
    simp only [List.forall_mem_cons, List.not_mem_nil, false_imp_iff, implies_true, and_true]
    refine ⟨?_, ?_⟩
    · refine o_exv rfl (x_alloc (C := ((List.replicate 32 (0 : UInt8)).map b8)) hS20 ti49 rfl) rfl ?_
      rintro _ w21 ⟨b10, rfl, hS22⟩
      refine ⟨hS22.drop1, ?_⟩
      refine g_one 12 (by decide +kernel) (by decide +kernel) ?_; refine o_exv rfl (x_alloc (C := ((List.replicate 32 (0 : UInt8)).map b8)) hS22 ti49 rfl) rfl ?_; rintro _ w23 ⟨b11, rfl, hS24⟩
      refine ⟨hS24.drop1.drop1, ?_⟩
      refine g_one 13 (by decide +kernel) (by decide +kernel) ?_; refine o_exs rfl (x_storeW [_] hS24 ti49 rfl rfl (by rw [List.length_map]; exact h32.gt (by omega)) (by simp) (one_b8 _)) rfl ?_; intro w25 hS26; simp only [List.cons_append, List.nil_append] at hS26
      refine ⟨hS26.drop1.drop1, ?_⟩
      refine g_tail (by decide +kernel) rfl (by decide +kernel) ?_; refine wl_exs (x_storeW [] hS26 ti49 rfl rfl (by rw [List.length_map]; exact h32.gt (by omega)) (by simp) (one_b8 _)) rfl ?_; intro w27 hS28; simp only [List.cons_append, List.nil_append] at hS28; refine wl_nil ?_; refine c_then ?_; refine c_seq ?_; refine c_seq ?_; refine c_region ?_; refine wl_val (r_loadB ti49 rfl rfl (hS28.heap (.tail _ (.head _))) (by rw [List.length_map]; exact h32.gt (by omega))) rfl ?_; refine wl_val (r_loadB ti49 rfl rfl (hS28.heap (.tail _ (.tail _ (.tail _ (.tail _ (.head _)))))) (by first | (simp [*]; done) | (simp [*] <;> omega) | omega)) rfl ?_
      refine wl_dec (r_eqlA (u := undef) eg49 rfl rfl (eqIs_b8 ti49.und ti5 _ _ (h32.gt (by omega)) hk)) rfl (fun h8_2 => ?_) (fun h8_2 => ?_)
      · refine wl_val (r_move (v := .bool _) rfl) rfl ?_
        refine wl_not rfl ?_; refine wl_not rfl ?_; refine wl_not rfl ?_; refine wl_not rfl ?_; refine wl_not rfl ?_; refine wl_val (r_pick_t rfl (v := .bool true) rfl) rfl ?_; refine wl_val (r_move (v := .bool _) rfl) rfl ?_; refine wl_not rfl ?_; refine wl_not rfl ?_; refine wl_not rfl ?_; refine wl_val (r_pick_t rfl (v := .bool true) rfl) rfl ?_; refine wl_nil ?_; refine c_then ?_; refine c_true rfl ?_; refine c_seq ?_; refine c_region ?_; refine wl_val (r_assign (v := .int .i64 12) rfl) rfl ?_; refine wl_nil ?_; refine c_then ?_; refine wp_ret ?_; refine c_thenR ?_; refine c_inR ?_; refine c_thenR ?_; refine ret1 Try.results67 ?_
        exact ⟨congrArg vi (by unfold absentE; rw [if_neg (by omega), if_pos (by omega), if_pos (.inl h8_2)]), hS28.fin⟩
      refine wl_val (r_move (v := .bool _) rfl) rfl ?_; refine wl_val (r_loadB ti49 rfl rfl (hS28.heap (.tail _ (.head _))) (by rw [List.length_map]; exact h32.gt (by omega))) rfl ?_; refine wl_val (r_loadB ti49 rfl rfl (hS28.heap (.tail _ (.tail _ (.tail _ (.tail _ (.head _)))))) (by first | (simp [*]; done) | (simp [*] <;> omega) | omega)) rfl ?_; refine wl_call (r_call fn144 rfl rfl) rfl (differs_ok _ _ _ (h32.gt (by omega)) hk) ?_; rintro _ w29 ⟨rfl, hx30⟩
      have hS31 := hS28.ext hx30
      refine wl_val (r_move (v := .int .i64 _) rfl) rfl ?_
      refine wl_dec (r_lss rfl rfl) rfl (fun h8_8 => ?_) (fun h8_8 => ?_)
      · refine wl_val (r_pick_f rfl (v := .bool _) rfl) rfl ?_
        refine wl_val (r_move (v := .bool _) rfl) rfl ?_; refine wl_not rfl ?_; refine wl_not rfl ?_; refine wl_not rfl ?_; refine wl_val (r_pick_t rfl (v := .bool true) rfl) rfl ?_; refine wl_nil ?_; refine c_then ?_; refine c_true rfl ?_; refine c_seq ?_; refine c_region ?_; refine wl_val (r_assign (v := .int .i64 12) rfl) rfl ?_; refine wl_nil ?_; refine c_then ?_; refine wp_ret ?_; refine c_thenR ?_; refine c_inR ?_; refine c_thenR ?_; refine ret1 Try.results67 ?_
        exact ⟨congrArg vi (by unfold absentE; rw [if_neg (by omega), if_pos (by omega), if_pos (.inr (.inl (by omega)))]), hS31.fin⟩
      refine wl_val (r_pick_f rfl (v := .bool _) rfl) rfl ?_; refine wl_val (r_move (v := .bool _) rfl) rfl ?_; refine wl_val (r_loadB ti49 rfl rfl (hS31.heap (.head _)) (by rw [List.length_map]; exact h32.gt (by omega))) rfl ?_; refine wl_val (r_build0 (cs := ((List.replicate 32 (0 : UInt8)).map b8)) ti49.und ti49 ti5) rfl ?_
      refine wl_dec (r_eqlA (u := undef) eg49 rfl rfl (eqIs_b8 ti49.und ti5 _ _ (h32.gt (by omega)) (by simp))) rfl (fun h8_13 => ?_) (fun h8_13 => ?_)
      · refine wl_val (r_pick_f rfl (v := .bool _) rfl) rfl ?_
        refine wl_nil ?_; refine c_then ?_; refine c_true rfl ?_; refine c_seq ?_; refine c_region ?_; refine wl_val (r_assign (v := .int .i64 12) rfl) rfl ?_; refine wl_nil ?_; refine c_then ?_; refine wp_ret ?_; refine c_thenR ?_; refine c_inR ?_; refine c_thenR ?_; refine ret1 Try.results67 ?_
        exact ⟨congrArg vi (by unfold absentE; rw [if_neg (by omega), if_pos (by omega), if_pos (.inr (.inr h8_13))]), hS31.fin⟩
      refine wl_val (r_pick_f rfl (v := .bool _) rfl) rfl ?_; refine wl_nil ?_; refine c_then ?_; refine c_false rfl ?_; refine wp_skip ?_; refine c_then ?_; refine c_region ?_; refine wl_val (r_loadB ti49 rfl rfl (hS31.heap (.tail _ (.head _))) (by rw [List.length_map]; exact h32.gt (by omega))) rfl ?_; refine wl_val (r_loadB ti49 rfl rfl (hS31.heap (.head _)) (by rw [List.length_map]; exact h32.gt (by omega))) rfl ?_; refine wl_call (r_call fn140 rfl rfl) rfl (single_ok _ _ _ (h32.gt (by omega)) (h32.gt (by omega))) ?_; rintro _ w32 ⟨rfl, hx33⟩
      have hS34 := hS31.ext hx33
      refine wl_exs (x_storeW [_, _] hS34 ti49 rfl rfl (by first | (simp [*]; done) | (simp [*] <;> omega) | omega) (by first | (simp [*]; done) | (simp [*] <;> omega) | omega) (by repeat' first | exact one_nil | exact one_b8 _ | exact one_v32 _ | exact one_all rfl | refine one_cons rfl ?_ | refine one_app ?_ ?_)) rfl ?_; intro w35 hS36; simp only [List.cons_append, List.nil_append] at hS36; refine wl_nil ?_; refine c_inN ?_; refine c_then ?_; refine c_seq ?_; refine c_seq ?_; refine c_drawS 5 hMixed hS36 ?_; intro w37 hS38; refine g_take 0 rfl (by decide +kernel) rfl (fun _ _ _ h => h) hS38 (fun wF hF => r_loadB ti49 rfl rfl (hF.heap (.tail _ (.tail _ (.tail _ (.tail _ (.head _)))))) (by first | (simp [*]; done) | (simp [*] <;> omega) | omega)) ?_; refine g_take 1 rfl (by decide +kernel) rfl (fun _ _ _ h => h) hS38 (fun wF hF => r_loadB ti49 rfl rfl (hF.heap (.tail _ (.tail _ (.head _)))) (by first | (simp [*]; done) | (simp [*] <;> omega) | omega)) ?_; refine g_take 2 rfl (by decide +kernel) rfl (fun _ _ _ h => h) hS38 (fun wF hF => r_loadB ti95 ag95 rfl (hF.heap (.tail _ (.tail _ (.tail _ (.head _))))) (by first | (simp [*]; done) | (simp [*] <;> omega) | omega)) ?_; refine g_take 4 rfl (by decide +kernel) rfl (fun _ _ _ h => h) hS38 (fun wF hF => r_loadB ti49 rfl rfl (hF.heap (.tail _ (.tail _ (.tail _ (.tail _ (.tail _ (.head _))))))) (by first | (simp [*]; done) | (simp [*] <;> omega) | omega)) ?_; refine g_one 3 (by decide +kernel) (by decide +kernel) ?_; refine o_call rfl (r_call fn139 rfl rfl) rfl (up_ok k (_) lv pa pc pl _ hk (by simp) hlv (hp.st hS38) h32 hpc hpm (by omega)) ?_
      rintro _ w39 ⟨rfl, hx40⟩
      have hS41 := hS38.ext hx40
      refine ⟨hS41, ?_⟩
      refine g_tail (by decide +kernel) rfl (by decide +kernel) ?_
      refine wl_dec (r_neqA (u := undef) eg49 rfl rfl (eqIs_b8 ti49.und ti5 _ _ (upAll_len _ _ _ _ (by simp)) hr)) rfl (fun h11_5 => ?_) (fun h11_5 => ?_)
      · refine wl_nil ?_
        refine c_then ?_; refine c_true rfl ?_; refine c_seq ?_; refine c_region ?_; refine wl_val (r_assign (v := .int .i64 12) rfl) rfl ?_; refine wl_nil ?_; refine c_then ?_; refine wp_ret ?_; refine c_thenR ?_; refine ret1 Try.results67 ?_
        exact ⟨congrArg vi (by unfold absentE; rw [if_neg (by omega), if_pos (by omega), if_neg (fun h => h.elim h8_2 (fun h => h.elim (fun h => h8_8 (by omega)) h8_13)), if_neg h11_5]), hS41.fin⟩
      refine wl_nil ?_; refine c_then ?_; refine c_false rfl ?_; refine wp_skip ?_; refine c_then ?_; refine c_seq ?_; refine c_region ?_; refine wl_val (r_assign (v := .int .i64 0) rfl) rfl ?_; refine wl_nil ?_; refine c_then ?_; refine wp_ret ?_; refine ret1 Try.results67 ?_
      exact ⟨congrArg vi (by unfold absentE; rw [if_neg (by omega), if_pos (by omega), if_neg (fun h => h.elim h8_2 (fun h => h.elim (fun h => h8_8 (by omega)) h8_13)), if_pos (Classical.not_not.1 h11_5)]), hS41.fin⟩
    · refine o_exv rfl (x_alloc (C := ((List.replicate 32 (0 : UInt8)).map b8)) hS20 ti49 rfl) rfl ?_
      rintro _ w42 ⟨b11, rfl, hS43⟩
      refine ⟨hS43.drop1, ?_⟩
      refine g_one 11 (by decide +kernel) (by decide +kernel) ?_; refine o_exv rfl (x_alloc (C := ((List.replicate 32 (0 : UInt8)).map b8)) hS43 ti49 rfl) rfl ?_; rintro _ w44 ⟨b10, rfl, hS45⟩
      refine ⟨hS45.drop1.drop1, ?_⟩
      refine g_one 13 (by decide +kernel) (by decide +kernel) ?_; refine o_exs rfl (x_storeW [] hS45 ti49 rfl rfl (by rw [List.length_map]; exact h32.gt (by omega)) (by simp) (one_b8 _)) rfl ?_; intro w46 hS47; simp only [List.cons_append, List.nil_append] at hS47
      refine ⟨hS47.drop1.drop1, ?_⟩
      refine g_tail (by decide +kernel) rfl (by decide +kernel) ?_; refine wl_exs (x_storeW [_] hS47 ti49 rfl rfl (by rw [List.length_map]; exact h32.gt (by omega)) (by simp) (one_b8 _)) rfl ?_; intro w48 hS49; simp only [List.cons_append, List.nil_append] at hS49; refine wl_nil ?_; refine c_then ?_; refine c_seq ?_; refine c_seq ?_; refine c_region ?_; refine wl_val (r_loadB ti49 rfl rfl (hS49.heap (.head _)) (by rw [List.length_map]; exact h32.gt (by omega))) rfl ?_; refine wl_val (r_loadB ti49 rfl rfl (hS49.heap (.tail _ (.tail _ (.tail _ (.tail _ (.head _)))))) (by first | (simp [*]; done) | (simp [*] <;> omega) | omega)) rfl ?_
      refine wl_dec (r_eqlA (u := undef) eg49 rfl rfl (eqIs_b8 ti49.und ti5 _ _ (h32.gt (by omega)) hk)) rfl (fun h8_2 => ?_) (fun h8_2 => ?_)
      · refine wl_val (r_move (v := .bool _) rfl) rfl ?_
        refine wl_not rfl ?_; refine wl_not rfl ?_; refine wl_not rfl ?_; refine wl_not rfl ?_; refine wl_not rfl ?_; refine wl_val (r_pick_t rfl (v := .bool true) rfl) rfl ?_; refine wl_val (r_move (v := .bool _) rfl) rfl ?_; refine wl_not rfl ?_; refine wl_not rfl ?_; refine wl_not rfl ?_; refine wl_val (r_pick_t rfl (v := .bool true) rfl) rfl ?_; refine wl_nil ?_; refine c_then ?_; refine c_true rfl ?_; refine c_seq ?_; refine c_region ?_; refine wl_val (r_assign (v := .int .i64 12) rfl) rfl ?_; refine wl_nil ?_; refine c_then ?_; refine wp_ret ?_; refine c_thenR ?_; refine c_inR ?_; refine c_thenR ?_; refine ret1 Try.results67 ?_
        exact ⟨congrArg vi (by unfold absentE; rw [if_neg (by omega), if_pos (by omega), if_pos (.inl h8_2)]), hS49.fin⟩
      refine wl_val (r_move (v := .bool _) rfl) rfl ?_; refine wl_val (r_loadB ti49 rfl rfl (hS49.heap (.head _)) (by rw [List.length_map]; exact h32.gt (by omega))) rfl ?_; refine wl_val (r_loadB ti49 rfl rfl (hS49.heap (.tail _ (.tail _ (.tail _ (.tail _ (.head _)))))) (by first | (simp [*]; done) | (simp [*] <;> omega) | omega)) rfl ?_; refine wl_call (r_call fn144 rfl rfl) rfl (differs_ok _ _ _ (h32.gt (by omega)) hk) ?_; rintro _ w50 ⟨rfl, hx51⟩
      have hS52 := hS49.ext hx51
      refine wl_val (r_move (v := .int .i64 _) rfl) rfl ?_
      refine wl_dec (r_lss rfl rfl) rfl (fun h8_8 => ?_) (fun h8_8 => ?_)
      · refine wl_val (r_pick_f rfl (v := .bool _) rfl) rfl ?_
        refine wl_val (r_move (v := .bool _) rfl) rfl ?_; refine wl_not rfl ?_; refine wl_not rfl ?_; refine wl_not rfl ?_; refine wl_val (r_pick_t rfl (v := .bool true) rfl) rfl ?_; refine wl_nil ?_; refine c_then ?_; refine c_true rfl ?_; refine c_seq ?_; refine c_region ?_; refine wl_val (r_assign (v := .int .i64 12) rfl) rfl ?_; refine wl_nil ?_; refine c_then ?_; refine wp_ret ?_; refine c_thenR ?_; refine c_inR ?_; refine c_thenR ?_; refine ret1 Try.results67 ?_
        exact ⟨congrArg vi (by unfold absentE; rw [if_neg (by omega), if_pos (by omega), if_pos (.inr (.inl (by omega)))]), hS52.fin⟩
      refine wl_val (r_pick_f rfl (v := .bool _) rfl) rfl ?_; refine wl_val (r_move (v := .bool _) rfl) rfl ?_; refine wl_val (r_loadB ti49 rfl rfl (hS52.heap (.tail _ (.head _))) (by rw [List.length_map]; exact h32.gt (by omega))) rfl ?_; refine wl_val (r_build0 (cs := ((List.replicate 32 (0 : UInt8)).map b8)) ti49.und ti49 ti5) rfl ?_
      refine wl_dec (r_eqlA (u := undef) eg49 rfl rfl (eqIs_b8 ti49.und ti5 _ _ (h32.gt (by omega)) (by simp))) rfl (fun h8_13 => ?_) (fun h8_13 => ?_)
      · refine wl_val (r_pick_f rfl (v := .bool _) rfl) rfl ?_
        refine wl_nil ?_; refine c_then ?_; refine c_true rfl ?_; refine c_seq ?_; refine c_region ?_; refine wl_val (r_assign (v := .int .i64 12) rfl) rfl ?_; refine wl_nil ?_; refine c_then ?_; refine wp_ret ?_; refine c_thenR ?_; refine c_inR ?_; refine c_thenR ?_; refine ret1 Try.results67 ?_
        exact ⟨congrArg vi (by unfold absentE; rw [if_neg (by omega), if_pos (by omega), if_pos (.inr (.inr h8_13))]), hS52.fin⟩
      refine wl_val (r_pick_f rfl (v := .bool _) rfl) rfl ?_; refine wl_nil ?_; refine c_then ?_; refine c_false rfl ?_; refine wp_skip ?_; refine c_then ?_; refine c_region ?_; refine wl_val (r_loadB ti49 rfl rfl (hS52.heap (.head _)) (by rw [List.length_map]; exact h32.gt (by omega))) rfl ?_; refine wl_val (r_loadB ti49 rfl rfl (hS52.heap (.tail _ (.head _))) (by rw [List.length_map]; exact h32.gt (by omega))) rfl ?_; refine wl_call (r_call fn140 rfl rfl) rfl (single_ok _ _ _ (h32.gt (by omega)) (h32.gt (by omega))) ?_; rintro _ w53 ⟨rfl, hx54⟩
      have hS55 := hS52.ext hx54
      refine wl_exs (x_storeW [_, _] hS55 ti49 rfl rfl (by first | (simp [*]; done) | (simp [*] <;> omega) | omega) (by first | (simp [*]; done) | (simp [*] <;> omega) | omega) (by repeat' first | exact one_nil | exact one_b8 _ | exact one_v32 _ | exact one_all rfl | refine one_cons rfl ?_ | refine one_app ?_ ?_)) rfl ?_; intro w56 hS57; simp only [List.cons_append, List.nil_append] at hS57; refine wl_nil ?_; refine c_inN ?_; refine c_then ?_; refine c_seq ?_; refine c_seq ?_; refine c_drawS 5 hMixed hS57 ?_; intro w58 hS59; refine g_take 0 rfl (by decide +kernel) rfl (fun _ _ _ h => h) hS59 (fun wF hF => r_loadB ti49 rfl rfl (hF.heap (.tail _ (.tail _ (.tail _ (.tail _ (.head _)))))) (by first | (simp [*]; done) | (simp [*] <;> omega) | omega)) ?_; refine g_take 1 rfl (by decide +kernel) rfl (fun _ _ _ h => h) hS59 (fun wF hF => r_loadB ti49 rfl rfl (hF.heap (.tail _ (.tail _ (.head _)))) (by first | (simp [*]; done) | (simp [*] <;> omega) | omega)) ?_; refine g_take 2 rfl (by decide +kernel) rfl (fun _ _ _ h => h) hS59 (fun wF hF => r_loadB ti95 ag95 rfl (hF.heap (.tail _ (.tail _ (.tail _ (.head _))))) (by first | (simp [*]; done) | (simp [*] <;> omega) | omega)) ?_; refine g_take 4 rfl (by decide +kernel) rfl (fun _ _ _ h => h) hS59 (fun wF hF => r_loadB ti49 rfl rfl (hF.heap (.tail _ (.tail _ (.tail _ (.tail _ (.tail _ (.head _))))))) (by first | (simp [*]; done) | (simp [*] <;> omega) | omega)) ?_; refine g_one 3 (by decide +kernel) (by decide +kernel) ?_; refine o_call rfl (r_call fn139 rfl rfl) rfl (up_ok k (_) lv pa pc pl _ hk (by simp) hlv (hp.st hS59) h32 hpc hpm (by omega)) ?_
      rintro _ w60 ⟨rfl, hx61⟩
      have hS62 := hS59.ext hx61
      refine ⟨hS62, ?_⟩
      refine g_tail (by decide +kernel) rfl (by decide +kernel) ?_
      refine wl_dec (r_neqA (u := undef) eg49 rfl rfl (eqIs_b8 ti49.und ti5 _ _ (upAll_len _ _ _ _ (by simp)) hr)) rfl (fun h11_5 => ?_) (fun h11_5 => ?_)
      · refine wl_nil ?_
        refine c_then ?_; refine c_true rfl ?_; refine c_seq ?_; refine c_region ?_; refine wl_val (r_assign (v := .int .i64 12) rfl) rfl ?_; refine wl_nil ?_; refine c_then ?_; refine wp_ret ?_; refine c_thenR ?_; refine ret1 Try.results67 ?_
        exact ⟨congrArg vi (by unfold absentE; rw [if_neg (by omega), if_pos (by omega), if_neg (fun h => h.elim h8_2 (fun h => h.elim (fun h => h8_8 (by omega)) h8_13)), if_neg h11_5]), hS62.fin⟩
      refine wl_nil ?_; refine c_then ?_; refine c_false rfl ?_; refine wp_skip ?_; refine c_then ?_; refine c_seq ?_; refine c_region ?_; refine wl_val (r_assign (v := .int .i64 0) rfl) rfl ?_; refine wl_nil ?_; refine c_then ?_; refine wp_ret ?_; refine ret1 Try.results67 ?_
      exact ⟨congrArg vi (by unfold absentE; rw [if_neg (by omega), if_pos (by omega), if_neg (fun h => h.elim h8_2 (fun h => h.elim (fun h => h8_8 (by omega)) h8_13)), if_pos (Classical.not_not.1 h11_5)]), hS62.fin⟩
  refine wl_val (r_assign (v := .bool _) rfl) rfl ?_; refine wl_nil ?_; refine c_then ?_; refine c_false rfl ?_; refine c_seq ?_; refine c_region ?_; refine wl_val (r_assign (v := .int .i64 12) rfl) rfl ?_; refine wl_nil ?_; refine c_then ?_; refine wp_ret ?_; refine c_inR ?_; refine c_thenR ?_; refine ret1 Try.results67 ?_
  exact ⟨congrArg vi (by unfold absentE; rw [if_neg (by omega), if_neg (by omega)]), hS13.fin⟩

theorem rabsent_ok (root k : List UInt8) (lv : List UInt8) (pa : Option Addr) (pc : Nat) (pl : List (List UInt8)) (w : World) (hr : root.length = 32) (hk : k.length = 32) (hlv : lv.length = 32) (hp : Row w pa (pl.flatten.map b8)) (h32 : S32 pl) (hpc : pl.length ≤ pc) (hpm : pl.length ≤ 4398046511104) :
    Ret Try.prog 68 [.agg (root.map b8).toArray, .agg (k.map b8).toArray, .agg (lv.map b8 ++ [Value.slice pa pl.length pc]).toArray] w (fun x w' => x = vi (absentE root k lv pl) ∧ St w [] w' []) := by
  refine enter Try.func68 rfl Try.ntmps68 rfl ?_
  have hS := St.refl w []
  refine c_seq ?_; refine c_region ?_; refine wl_exv (x_box hS (v := .agg _) rfl rfl) rfl ?_; rintro _ w1 ⟨b3, rfl, hS2⟩; refine wl_exv (x_box hS2 (v := .agg _) rfl rfl) rfl ?_; rintro _ w3 ⟨b4, rfl, hS4⟩; refine wl_exv (x_box hS4 (v := .agg _) rfl rfl) rfl ?_; rintro _ w5 ⟨b5, rfl, hS6⟩; refine wl_val (r_assign (v := .int .i64 0) rfl) rfl ?_; refine wl_nil ?_; refine c_then ?_; refine c_seq ?_; refine c_region ?_; refine wl_val (r_loadB ti95 ag95 rfl (hS6.heap (.head _)) (by first | (simp [*]; done) | (simp [*] <;> omega) | omega)) rfl ?_; refine wl_call (r_call fn141 rfl rfl) rfl (depth_ok lv pa pc pl _ hlv (hp.st hS6) h32 hpc hpm) ?_; rintro _ w7 ⟨rfl, hx8⟩
  have hS9 := hS6.ext hx8
  refine wl_val (r_move (v := .tuple _) rfl) rfl ?_; refine wl_val (r_extract (v := .int .i64 _) rfl rfl) rfl ?_; refine wl_val (r_extract (v := .int .i64 _) rfl rfl) rfl ?_; refine wl_val (r_assign (v := .int .i64 _) rfl) rfl ?_; refine wl_val (r_assign (v := .int .i64 _) rfl) rfl ?_; refine wl_nil ?_; refine c_then ?_; refine c_seq ?_; refine c_region ?_; refine wl_exv (x_alloc (C := ((List.replicate 32 (0 : UInt8)).map b8)) hS9 ti49 rfl) rfl ?_; rintro _ w10 ⟨b9, rfl, hS11⟩; refine wl_nil ?_; refine c_then ?_; refine c_seq ?_; refine c_seq ?_
  have hmt := manyTo_le lv 256
  refine c_region ?_; refine wl_val (r_field fa95_1 rfl) rfl ?_; refine wl_val (r_loadB1 ti53.und rfl rfl (hS11.heap (.tail _ (.head _))) (mp_get hlv)) rfl ?_; refine wl_val (r_len (T := 53) rfl ti53.und rfl _ rfl) rfl ?_; refine wl_nil ?_; refine c_then ?_; refine c_block ?_; refine c_seq ?_; refine c_region ?_; refine wl_val (r_move (v := .int .i64 _) rfl) rfl ?_
  refine wl_dec (r_eql rfl rfl) rfl (fun h5_1 => ?_) (fun h5_1 => ?_)
  · refine wl_val (r_assign (v := .bool _) rfl) rfl ?_
    refine wl_nil ?_; refine c_then ?_; refine c_true rfl ?_; refine wp_skip ?_; refine c_inN ?_; refine c_then ?_; refine c_seq ?_; refine c_seq ?_; refine c_drawS 5 hMixed hS11 ?_; intro w12 hS13; refine g_take 0 rfl (by decide +kernel) rfl (fun _ _ _ h => h) hS13 (fun wF hF => r_loadB ti49 rfl rfl (hF.heap (.tail _ (.tail _ (.head _)))) (by first | (simp [*]; done) | (simp [*] <;> omega) | omega)) ?_; refine g_take 1 rfl (by decide +kernel) rfl (fun _ _ _ h => h) hS13 (fun wF hF => r_loadB ti49 rfl rfl (hF.heap (.head _)) (by first | (simp [*]; done) | (simp [*] <;> omega) | omega)) ?_; refine g_take 2 rfl (by decide +kernel) rfl (fun _ _ _ h => h) hS13 (fun wF hF => r_loadB ti95 ag95 rfl (hF.heap (.tail _ (.head _))) (by first | (simp [*]; done) | (simp [*] <;> omega) | omega)) ?_; refine g_take 4 rfl (by decide +kernel) rfl (fun _ _ _ h => h) hS13 (fun wF hF => r_loadB ti49 rfl rfl (hF.heap (.tail _ (.tail _ (.tail _ (.head _))))) (by first | (simp [*]; done) | (simp [*] <;> omega) | omega)) ?_; refine g_one 3 (by decide +kernel) (by decide +kernel) ?_; refine o_call rfl (r_call fn142 rfl rfl) rfl (rup_ok k (_) lv pa pc pl _ hk (by simp) hlv (hp.st hS13) h32 hpc hpm (by omega)) ?_; rintro _ w14 ⟨rfl, hx15⟩
    have hS16 := hS13.ext hx15
    refine ⟨hS16, ?_⟩
    refine g_tail (by decide +kernel) rfl (by decide +kernel) ?_
    refine wl_dec (r_neqA (u := undef) eg49 rfl rfl (eqIs_b8 ti49.und ti5 _ _ (upAll_len _ _ _ _ (by simp)) hr)) rfl (fun h11_5 => ?_) (fun h11_5 => ?_)
    · refine wl_nil ?_
      refine c_then ?_; refine c_true rfl ?_; refine c_seq ?_; refine c_region ?_; refine wl_val (r_assign (v := .int .i64 12) rfl) rfl ?_; refine wl_nil ?_; refine c_then ?_; refine wp_ret ?_; refine c_thenR ?_; refine ret1 Try.results68 ?_
      exact ⟨congrArg vi (by unfold absentE; rw [if_pos (by omega), if_neg h11_5]), hS16.fin⟩
    refine wl_nil ?_; refine c_then ?_; refine c_false rfl ?_; refine wp_skip ?_; refine c_then ?_; refine c_seq ?_; refine c_region ?_; refine wl_val (r_assign (v := .int .i64 0) rfl) rfl ?_; refine wl_nil ?_; refine c_then ?_; refine wp_ret ?_; refine ret1 Try.results68 ?_
    exact ⟨congrArg vi (by unfold absentE; rw [if_pos (by omega), if_pos (Classical.not_not.1 h11_5)]), hS16.fin⟩
  refine wl_val (r_assign (v := .bool _) rfl) rfl ?_; refine wl_nil ?_; refine c_then ?_; refine c_false rfl ?_; refine c_seq ?_; refine c_region ?_; refine wl_val (r_move (v := .int .i64 _) rfl) rfl ?_; refine wl_val (r_addn (b := 2) rfl rfl (by omega)) rfl ?_
  refine wl_dec (r_eql rfl rfl) rfl (fun h6_2 => ?_) (fun h6_2 => ?_)
  · refine wl_val (r_assign (v := .bool _) rfl) rfl ?_
    refine wl_nil ?_; refine c_then ?_; refine c_true rfl ?_; refine c_seq ?_; refine c_drawS 14 hMixed hS11 ?_; intro w17 hS18; refine g_take 0 rfl (by decide +kernel) rfl (fun _ _ _ h => h) hS18 (fun wF hF => r_field fa95_1 rfl) ?_; refine g_take 1 rfl (by decide +kernel) rfl (fun _ _ _ h => h) hS18 (fun wF hF => r_loadB1 ti53.und rfl rfl (hF.heap (.tail _ (.head _))) (mp_get hlv)) ?_; refine g_take 2 rfl (by decide +kernel) rfl (fun _ _ _ h => h) hS18 (fun wF hF => r_move (v := .int .i64 _) rfl) ?_; refine g_take 3 rfl (by decide +kernel) rfl (fun _ _ _ h => h) hS18 (fun wF hF => r_ix32 ti53.und ti49 rfl rfl (hp.st hF) h32 rfl (by omega)) ?_; refine g_take 4 rfl (by decide +kernel) rfl (fun _ _ _ h => h) hS18 (fun wF hF => r_load32 ti49 rfl rfl (hp.st hF) h32 (by omega)) ?_; refine g_take 5 rfl (by decide +kernel) rfl (fun _ _ _ h => h) hS18 (fun wF hF => r_field fa95_1 rfl) ?_; refine g_take 6 rfl (by decide +kernel) rfl (fun _ _ _ h => h) hS18 (fun wF hF => r_loadB1 ti53.und rfl rfl (hF.heap (.tail _ (.head _))) (mp_get hlv)) ?_; refine g_take 7 rfl (by decide +kernel) rfl (fun _ _ _ h => h) hS18 (fun wF hF => r_move (v := .int .i64 _) rfl) ?_; refine g_take 8 rfl (by decide +kernel) rfl (fun _ _ _ h => h) hS18 (fun wF hF => r_addn (b := 1) rfl rfl (by omega)) ?_; refine g_take 9 rfl (by decide +kernel) rfl (fun _ _ _ h => h) hS18 (fun wF hF => r_ix32 ti53.und ti49 rfl rfl (hp.st hF) h32 rfl (by omega)) ?_; refine g_take 10 rfl (by decide +kernel) rfl (fun _ _ _ h => h) hS18 (fun wF hF => r_load32 ti49 rfl rfl (hp.st hF) h32 (by omega)) ?_
    refine g_all (rs := [11, 12]) (by decide +kernel) (by decide +kernel) rfl ?_
    simp only [List.forall_mem_cons, List.not_mem_nil, false_imp_iff, implies_true, and_true]
    refine ⟨?_, ?_⟩
    · refine o_exv rfl (x_alloc (C := ((List.replicate 32 (0 : UInt8)).map b8)) hS18 ti49 rfl) rfl ?_
      rintro _ w19 ⟨b10, rfl, hS20⟩
      refine ⟨hS20.drop1, ?_⟩
      refine g_one 12 (by decide +kernel) (by decide +kernel) ?_; refine o_exv rfl (x_alloc (C := ((List.replicate 32 (0 : UInt8)).map b8)) hS20 ti49 rfl) rfl ?_; rintro _ w21 ⟨b11, rfl, hS22⟩
      refine ⟨hS22.drop1.drop1, ?_⟩
      refine g_one 13 (by decide +kernel) (by decide +kernel) ?_; refine o_exs rfl (x_storeW [_] hS22 ti49 rfl rfl (by rw [List.length_map]; exact h32.gt (by omega)) (by simp) (one_b8 _)) rfl ?_; intro w23 hS24; simp only [List.cons_append, List.nil_append] at hS24
      refine ⟨hS24.drop1.drop1, ?_⟩
      refine g_tail (by decide +kernel) rfl (by decide +kernel) ?_; refine wl_exs (x_storeW [] hS24 ti49 rfl rfl (by rw [List.length_map]; exact h32.gt (by omega)) (by simp) (one_b8 _)) rfl ?_; intro w25 hS26; simp only [List.cons_append, List.nil_append] at hS26; refine wl_nil ?_; refine c_then ?_; refine c_seq ?_; refine c_seq ?_; refine c_region ?_; refine wl_val (r_loadB ti49 rfl rfl (hS26.heap (.tail _ (.head _))) (by rw [List.length_map]; exact h32.gt (by omega))) rfl ?_; refine wl_val (r_loadB ti49 rfl rfl (hS26.heap (.tail _ (.tail _ (.tail _ (.tail _ (.head _)))))) (by first | (simp [*]; done) | (simp [*] <;> omega) | omega)) rfl ?_
      refine wl_dec (r_eqlA (u := undef) eg49 rfl rfl (eqIs_b8 ti49.und ti5 _ _ (h32.gt (by omega)) hk)) rfl (fun h8_2 => ?_) (fun h8_2 => ?_)
      · refine wl_val (r_move (v := .bool _) rfl) rfl ?_
        refine wl_not rfl ?_; refine wl_not rfl ?_; refine wl_not rfl ?_; refine wl_val (r_pick_t rfl (v := .bool true) rfl) rfl ?_; refine wl_val (r_move (v := .bool _) rfl) rfl ?_; refine wl_not rfl ?_; refine wl_not rfl ?_; refine wl_not rfl ?_; refine wl_not rfl ?_; refine wl_not rfl ?_; refine wl_val (r_pick_t rfl (v := .bool true) rfl) rfl ?_; refine wl_nil ?_; refine c_then ?_; refine c_true rfl ?_; refine c_seq ?_; refine c_region ?_; refine wl_val (r_assign (v := .int .i64 12) rfl) rfl ?_; refine wl_nil ?_; refine c_then ?_; refine wp_ret ?_; refine c_thenR ?_; refine c_inR ?_; refine c_thenR ?_; refine ret1 Try.results68 ?_
        exact ⟨congrArg vi (by unfold absentE; rw [if_neg (by omega), if_pos (by omega), if_pos (.inl h8_2)]), hS26.fin⟩
      refine wl_val (r_move (v := .bool _) rfl) rfl ?_; refine wl_val (r_loadB ti49 rfl rfl (hS26.heap (.head _)) (by rw [List.length_map]; exact h32.gt (by omega))) rfl ?_; refine wl_val (r_build0 (cs := ((List.replicate 32 (0 : UInt8)).map b8)) ti49.und ti49 ti5) rfl ?_
      refine wl_dec (r_eqlA (u := undef) eg49 rfl rfl (eqIs_b8 ti49.und ti5 _ _ (h32.gt (by omega)) (by simp))) rfl (fun h8_6 => ?_) (fun h8_6 => ?_)
      · refine wl_val (r_pick_f rfl (v := .bool _) rfl) rfl ?_
        refine wl_val (r_move (v := .bool _) rfl) rfl ?_; refine wl_not rfl ?_; refine wl_not rfl ?_; refine wl_not rfl ?_; refine wl_not rfl ?_; refine wl_not rfl ?_; refine wl_val (r_pick_t rfl (v := .bool true) rfl) rfl ?_; refine wl_nil ?_; refine c_then ?_; refine c_true rfl ?_; refine c_seq ?_; refine c_region ?_; refine wl_val (r_assign (v := .int .i64 12) rfl) rfl ?_; refine wl_nil ?_; refine c_then ?_; refine wp_ret ?_; refine c_thenR ?_; refine c_inR ?_; refine c_thenR ?_; refine ret1 Try.results68 ?_
        exact ⟨congrArg vi (by unfold absentE; rw [if_neg (by omega), if_pos (by omega), if_pos (.inr (.inr h8_6))]), hS26.fin⟩
      refine wl_val (r_pick_f rfl (v := .bool _) rfl) rfl ?_; refine wl_val (r_move (v := .bool _) rfl) rfl ?_; refine wl_val (r_loadB ti49 rfl rfl (hS26.heap (.tail _ (.head _))) (by rw [List.length_map]; exact h32.gt (by omega))) rfl ?_; refine wl_val (r_loadB ti49 rfl rfl (hS26.heap (.tail _ (.tail _ (.tail _ (.tail _ (.head _)))))) (by first | (simp [*]; done) | (simp [*] <;> omega) | omega)) rfl ?_; refine wl_call (r_call fn145 rfl rfl) rfl (rdiffer_ok _ _ _ (h32.gt (by omega)) hk) ?_; rintro _ w27 ⟨rfl, hx28⟩
      have hS29 := hS26.ext hx28
      refine wl_val (r_move (v := .int .i64 _) rfl) rfl ?_
      refine wl_dec (r_lss rfl rfl) rfl (fun h8_13 => ?_) (fun h8_13 => ?_)
      · refine wl_val (r_pick_f rfl (v := .bool _) rfl) rfl ?_
        refine wl_nil ?_; refine c_then ?_; refine c_true rfl ?_; refine c_seq ?_; refine c_region ?_; refine wl_val (r_assign (v := .int .i64 12) rfl) rfl ?_; refine wl_nil ?_; refine c_then ?_; refine wp_ret ?_; refine c_thenR ?_; refine c_inR ?_; refine c_thenR ?_; refine ret1 Try.results68 ?_
        exact ⟨congrArg vi (by unfold absentE; rw [if_neg (by omega), if_pos (by omega), if_pos (.inr (.inl (by omega)))]), hS29.fin⟩
      refine wl_val (r_pick_f rfl (v := .bool _) rfl) rfl ?_; refine wl_nil ?_; refine c_then ?_; refine c_false rfl ?_; refine wp_skip ?_; refine c_then ?_; refine c_region ?_; refine wl_val (r_loadB ti49 rfl rfl (hS29.heap (.tail _ (.head _))) (by rw [List.length_map]; exact h32.gt (by omega))) rfl ?_; refine wl_val (r_loadB ti49 rfl rfl (hS29.heap (.head _)) (by rw [List.length_map]; exact h32.gt (by omega))) rfl ?_; refine wl_call (r_call fn143 rfl rfl) rfl (leafOf_ok _ _ _ (h32.gt (by omega)) (h32.gt (by omega))) ?_; rintro _ w30 ⟨rfl, hx31⟩
      have hS32 := hS29.ext hx31
      refine wl_exs (x_storeW [_, _] hS32 ti49 rfl rfl (by first | (simp [*]; done) | (simp [*] <;> omega) | omega) (by first | (simp [*]; done) | (simp [*] <;> omega) | omega) (by repeat' first | exact one_nil | exact one_b8 _ | exact one_v32 _ | exact one_all rfl | refine one_cons rfl ?_ | refine one_app ?_ ?_)) rfl ?_; intro w33 hS34; simp only [List.cons_append, List.nil_append] at hS34; refine wl_nil ?_; refine c_inN ?_; refine c_then ?_; refine c_seq ?_; refine c_seq ?_; refine c_drawS 5 hMixed hS34 ?_; intro w35 hS36; refine g_take 0 rfl (by decide +kernel) rfl (fun _ _ _ h => h) hS36 (fun wF hF => r_loadB ti49 rfl rfl (hF.heap (.tail _ (.tail _ (.tail _ (.tail _ (.head _)))))) (by first | (simp [*]; done) | (simp [*] <;> omega) | omega)) ?_; refine g_take 1 rfl (by decide +kernel) rfl (fun _ _ _ h => h) hS36 (fun wF hF => r_loadB ti49 rfl rfl (hF.heap (.tail _ (.tail _ (.head _)))) (by first | (simp [*]; done) | (simp [*] <;> omega) | omega)) ?_; refine g_take 2 rfl (by decide +kernel) rfl (fun _ _ _ h => h) hS36 (fun wF hF => r_loadB ti95 ag95 rfl (hF.heap (.tail _ (.tail _ (.tail _ (.head _))))) (by first | (simp [*]; done) | (simp [*] <;> omega) | omega)) ?_; refine g_take 4 rfl (by decide +kernel) rfl (fun _ _ _ h => h) hS36 (fun wF hF => r_loadB ti49 rfl rfl (hF.heap (.tail _ (.tail _ (.tail _ (.tail _ (.tail _ (.head _))))))) (by first | (simp [*]; done) | (simp [*] <;> omega) | omega)) ?_; refine g_one 3 (by decide +kernel) (by decide +kernel) ?_; refine o_call rfl (r_call fn142 rfl rfl) rfl (rup_ok k (_) lv pa pc pl _ hk (by simp) hlv (hp.st hS36) h32 hpc hpm (by omega)) ?_
      rintro _ w37 ⟨rfl, hx38⟩
      have hS39 := hS36.ext hx38
      refine ⟨hS39, ?_⟩
      refine g_tail (by decide +kernel) rfl (by decide +kernel) ?_
      refine wl_dec (r_neqA (u := undef) eg49 rfl rfl (eqIs_b8 ti49.und ti5 _ _ (upAll_len _ _ _ _ (by simp)) hr)) rfl (fun h11_5 => ?_) (fun h11_5 => ?_)
      · refine wl_nil ?_
        refine c_then ?_; refine c_true rfl ?_; refine c_seq ?_; refine c_region ?_; refine wl_val (r_assign (v := .int .i64 12) rfl) rfl ?_; refine wl_nil ?_; refine c_then ?_; refine wp_ret ?_; refine c_thenR ?_; refine ret1 Try.results68 ?_
        exact ⟨congrArg vi (by unfold absentE; rw [if_neg (by omega), if_pos (by omega), if_neg (fun h => h.elim h8_2 (fun h => h.elim (fun h => h8_13 (by omega)) h8_6)), if_neg h11_5]), hS39.fin⟩
      refine wl_nil ?_; refine c_then ?_; refine c_false rfl ?_; refine wp_skip ?_; refine c_then ?_; refine c_seq ?_; refine c_region ?_; refine wl_val (r_assign (v := .int .i64 0) rfl) rfl ?_; refine wl_nil ?_; refine c_then ?_; refine wp_ret ?_; refine ret1 Try.results68 ?_
      exact ⟨congrArg vi (by unfold absentE; rw [if_neg (by omega), if_pos (by omega), if_neg (fun h => h.elim h8_2 (fun h => h.elim (fun h => h8_13 (by omega)) h8_6)), if_pos (Classical.not_not.1 h11_5)]), hS39.fin⟩
    · refine o_exv rfl (x_alloc (C := ((List.replicate 32 (0 : UInt8)).map b8)) hS18 ti49 rfl) rfl ?_
      rintro _ w40 ⟨b11, rfl, hS41⟩
      refine ⟨hS41.drop1, ?_⟩
      refine g_one 11 (by decide +kernel) (by decide +kernel) ?_; refine o_exv rfl (x_alloc (C := ((List.replicate 32 (0 : UInt8)).map b8)) hS41 ti49 rfl) rfl ?_; rintro _ w42 ⟨b10, rfl, hS43⟩
      refine ⟨hS43.drop1.drop1, ?_⟩
      refine g_one 13 (by decide +kernel) (by decide +kernel) ?_; refine o_exs rfl (x_storeW [] hS43 ti49 rfl rfl (by rw [List.length_map]; exact h32.gt (by omega)) (by simp) (one_b8 _)) rfl ?_; intro w44 hS45; simp only [List.cons_append, List.nil_append] at hS45
      refine ⟨hS45.drop1.drop1, ?_⟩
      refine g_tail (by decide +kernel) rfl (by decide +kernel) ?_; refine wl_exs (x_storeW [_] hS45 ti49 rfl rfl (by rw [List.length_map]; exact h32.gt (by omega)) (by simp) (one_b8 _)) rfl ?_; intro w46 hS47; simp only [List.cons_append, List.nil_append] at hS47; refine wl_nil ?_; refine c_then ?_; refine c_seq ?_; refine c_seq ?_; refine c_region ?_; refine wl_val (r_loadB ti49 rfl rfl (hS47.heap (.head _)) (by rw [List.length_map]; exact h32.gt (by omega))) rfl ?_; refine wl_val (r_loadB ti49 rfl rfl (hS47.heap (.tail _ (.tail _ (.tail _ (.tail _ (.head _)))))) (by first | (simp [*]; done) | (simp [*] <;> omega) | omega)) rfl ?_
      refine wl_dec (r_eqlA (u := undef) eg49 rfl rfl (eqIs_b8 ti49.und ti5 _ _ (h32.gt (by omega)) hk)) rfl (fun h8_2 => ?_) (fun h8_2 => ?_)
      · refine wl_val (r_move (v := .bool _) rfl) rfl ?_
        refine wl_not rfl ?_; refine wl_not rfl ?_; refine wl_not rfl ?_; refine wl_val (r_pick_t rfl (v := .bool true) rfl) rfl ?_; refine wl_val (r_move (v := .bool _) rfl) rfl ?_; refine wl_not rfl ?_; refine wl_not rfl ?_; refine wl_not rfl ?_; refine wl_not rfl ?_; refine wl_not rfl ?_; refine wl_val (r_pick_t rfl (v := .bool true) rfl) rfl ?_; refine wl_nil ?_; refine c_then ?_; refine c_true rfl ?_; refine c_seq ?_; refine c_region ?_; refine wl_val (r_assign (v := .int .i64 12) rfl) rfl ?_; refine wl_nil ?_; refine c_then ?_; refine wp_ret ?_; refine c_thenR ?_; refine c_inR ?_; refine c_thenR ?_; refine ret1 Try.results68 ?_
        exact ⟨congrArg vi (by unfold absentE; rw [if_neg (by omega), if_pos (by omega), if_pos (.inl h8_2)]), hS47.fin⟩
      refine wl_val (r_move (v := .bool _) rfl) rfl ?_; refine wl_val (r_loadB ti49 rfl rfl (hS47.heap (.tail _ (.head _))) (by rw [List.length_map]; exact h32.gt (by omega))) rfl ?_; refine wl_val (r_build0 (cs := ((List.replicate 32 (0 : UInt8)).map b8)) ti49.und ti49 ti5) rfl ?_
      refine wl_dec (r_eqlA (u := undef) eg49 rfl rfl (eqIs_b8 ti49.und ti5 _ _ (h32.gt (by omega)) (by simp))) rfl (fun h8_6 => ?_) (fun h8_6 => ?_)
      · refine wl_val (r_pick_f rfl (v := .bool _) rfl) rfl ?_
        refine wl_val (r_move (v := .bool _) rfl) rfl ?_; refine wl_not rfl ?_; refine wl_not rfl ?_; refine wl_not rfl ?_; refine wl_not rfl ?_; refine wl_not rfl ?_; refine wl_val (r_pick_t rfl (v := .bool true) rfl) rfl ?_; refine wl_nil ?_; refine c_then ?_; refine c_true rfl ?_; refine c_seq ?_; refine c_region ?_; refine wl_val (r_assign (v := .int .i64 12) rfl) rfl ?_; refine wl_nil ?_; refine c_then ?_; refine wp_ret ?_; refine c_thenR ?_; refine c_inR ?_; refine c_thenR ?_; refine ret1 Try.results68 ?_
        exact ⟨congrArg vi (by unfold absentE; rw [if_neg (by omega), if_pos (by omega), if_pos (.inr (.inr h8_6))]), hS47.fin⟩
      refine wl_val (r_pick_f rfl (v := .bool _) rfl) rfl ?_; refine wl_val (r_move (v := .bool _) rfl) rfl ?_; refine wl_val (r_loadB ti49 rfl rfl (hS47.heap (.head _)) (by rw [List.length_map]; exact h32.gt (by omega))) rfl ?_; refine wl_val (r_loadB ti49 rfl rfl (hS47.heap (.tail _ (.tail _ (.tail _ (.tail _ (.head _)))))) (by first | (simp [*]; done) | (simp [*] <;> omega) | omega)) rfl ?_; refine wl_call (r_call fn145 rfl rfl) rfl (rdiffer_ok _ _ _ (h32.gt (by omega)) hk) ?_; rintro _ w48 ⟨rfl, hx49⟩
      have hS50 := hS47.ext hx49
      refine wl_val (r_move (v := .int .i64 _) rfl) rfl ?_
      refine wl_dec (r_lss rfl rfl) rfl (fun h8_13 => ?_) (fun h8_13 => ?_)
      · refine wl_val (r_pick_f rfl (v := .bool _) rfl) rfl ?_
        refine wl_nil ?_; refine c_then ?_; refine c_true rfl ?_; refine c_seq ?_; refine c_region ?_; refine wl_val (r_assign (v := .int .i64 12) rfl) rfl ?_; refine wl_nil ?_; refine c_then ?_; refine wp_ret ?_; refine c_thenR ?_; refine c_inR ?_; refine c_thenR ?_; refine ret1 Try.results68 ?_
        exact ⟨congrArg vi (by unfold absentE; rw [if_neg (by omega), if_pos (by omega), if_pos (.inr (.inl (by omega)))]), hS50.fin⟩
      refine wl_val (r_pick_f rfl (v := .bool _) rfl) rfl ?_; refine wl_nil ?_; refine c_then ?_; refine c_false rfl ?_; refine wp_skip ?_; refine c_then ?_; refine c_region ?_; refine wl_val (r_loadB ti49 rfl rfl (hS50.heap (.head _)) (by rw [List.length_map]; exact h32.gt (by omega))) rfl ?_; refine wl_val (r_loadB ti49 rfl rfl (hS50.heap (.tail _ (.head _))) (by rw [List.length_map]; exact h32.gt (by omega))) rfl ?_; refine wl_call (r_call fn143 rfl rfl) rfl (leafOf_ok _ _ _ (h32.gt (by omega)) (h32.gt (by omega))) ?_; rintro _ w51 ⟨rfl, hx52⟩
      have hS53 := hS50.ext hx52
      refine wl_exs (x_storeW [_, _] hS53 ti49 rfl rfl (by first | (simp [*]; done) | (simp [*] <;> omega) | omega) (by first | (simp [*]; done) | (simp [*] <;> omega) | omega) (by repeat' first | exact one_nil | exact one_b8 _ | exact one_v32 _ | exact one_all rfl | refine one_cons rfl ?_ | refine one_app ?_ ?_)) rfl ?_; intro w54 hS55; simp only [List.cons_append, List.nil_append] at hS55; refine wl_nil ?_; refine c_inN ?_; refine c_then ?_; refine c_seq ?_; refine c_seq ?_; refine c_drawS 5 hMixed hS55 ?_; intro w56 hS57; refine g_take 0 rfl (by decide +kernel) rfl (fun _ _ _ h => h) hS57 (fun wF hF => r_loadB ti49 rfl rfl (hF.heap (.tail _ (.tail _ (.tail _ (.tail _ (.head _)))))) (by first | (simp [*]; done) | (simp [*] <;> omega) | omega)) ?_; refine g_take 1 rfl (by decide +kernel) rfl (fun _ _ _ h => h) hS57 (fun wF hF => r_loadB ti49 rfl rfl (hF.heap (.tail _ (.tail _ (.head _)))) (by first | (simp [*]; done) | (simp [*] <;> omega) | omega)) ?_; refine g_take 2 rfl (by decide +kernel) rfl (fun _ _ _ h => h) hS57 (fun wF hF => r_loadB ti95 ag95 rfl (hF.heap (.tail _ (.tail _ (.tail _ (.head _))))) (by first | (simp [*]; done) | (simp [*] <;> omega) | omega)) ?_; refine g_take 4 rfl (by decide +kernel) rfl (fun _ _ _ h => h) hS57 (fun wF hF => r_loadB ti49 rfl rfl (hF.heap (.tail _ (.tail _ (.tail _ (.tail _ (.tail _ (.head _))))))) (by first | (simp [*]; done) | (simp [*] <;> omega) | omega)) ?_; refine g_one 3 (by decide +kernel) (by decide +kernel) ?_; refine o_call rfl (r_call fn142 rfl rfl) rfl (rup_ok k (_) lv pa pc pl _ hk (by simp) hlv (hp.st hS57) h32 hpc hpm (by omega)) ?_
      rintro _ w58 ⟨rfl, hx59⟩
      have hS60 := hS57.ext hx59
      refine ⟨hS60, ?_⟩
      refine g_tail (by decide +kernel) rfl (by decide +kernel) ?_
      refine wl_dec (r_neqA (u := undef) eg49 rfl rfl (eqIs_b8 ti49.und ti5 _ _ (upAll_len _ _ _ _ (by simp)) hr)) rfl (fun h11_5 => ?_) (fun h11_5 => ?_)
      · refine wl_nil ?_
        refine c_then ?_; refine c_true rfl ?_; refine c_seq ?_; refine c_region ?_; refine wl_val (r_assign (v := .int .i64 12) rfl) rfl ?_; refine wl_nil ?_; refine c_then ?_; refine wp_ret ?_; refine c_thenR ?_; refine ret1 Try.results68 ?_
        exact ⟨congrArg vi (by unfold absentE; rw [if_neg (by omega), if_pos (by omega), if_neg (fun h => h.elim h8_2 (fun h => h.elim (fun h => h8_13 (by omega)) h8_6)), if_neg h11_5]), hS60.fin⟩
      refine wl_nil ?_; refine c_then ?_; refine c_false rfl ?_; refine wp_skip ?_; refine c_then ?_; refine c_seq ?_; refine c_region ?_; refine wl_val (r_assign (v := .int .i64 0) rfl) rfl ?_; refine wl_nil ?_; refine c_then ?_; refine wp_ret ?_; refine ret1 Try.results68 ?_
      exact ⟨congrArg vi (by unfold absentE; rw [if_neg (by omega), if_pos (by omega), if_neg (fun h => h.elim h8_2 (fun h => h.elim (fun h => h8_13 (by omega)) h8_6)), if_pos (Classical.not_not.1 h11_5)]), hS60.fin⟩
  refine wl_val (r_assign (v := .bool _) rfl) rfl ?_; refine wl_nil ?_; refine c_then ?_; refine c_false rfl ?_; refine c_seq ?_; refine c_region ?_; refine wl_val (r_assign (v := .int .i64 12) rfl) rfl ?_; refine wl_nil ?_; refine c_then ?_; refine wp_ret ?_; refine c_inR ?_; refine c_thenR ?_; refine ret1 Try.results68 ?_
  exact ⟨congrArg vi (by unfold absentE; rw [if_neg (by omega), if_neg (by omega)]), hS11.fin⟩

theorem rsplit_ok (l : List (List UInt8)) (lev : Nat) (a : Option Addr) (n c : Nat) (w : World) (hb : Row w a (l.flatten.map b8)) (h64 : SN 64 l) (hl : l.length = n) (hc : n ≤ c) (hn : n ≤ 1099511627776) (hlev : lev < 256) :
    Ret Try.prog 160 [.slice a n c, vi lev] w (fun v w' => ∃ a1 n1 c1 a2 n2 c2, v = .tuple #[.slice a1 n1 c1, .slice a2 n2 c2] ∧ (l.filter (fun e => bitL e lev == 0)).length = n1 ∧ n1 ≤ c1 ∧ (l.filter (fun e => !(bitL e lev == 0))).length = n2 ∧ n2 ≤ c2 ∧ n1 ≤ n ∧ n2 ≤ n ∧ St w [] w' [.row (.slice a1 n1 c1) 131 64 n1 ((l.filter (fun e => bitL e lev == 0)).flatten.map b8), .row (.slice a2 n2 c2) 131 64 n2 ((l.filter (fun e => !(bitL e lev == 0))).flatten.map b8)]) := by
  refine enter Try.func160 rfl Try.ntmps160 rfl ?_
  have hS := St.refl w []
  refine c_seq ?_; refine c_region ?_; refine wl_val (r_assign (v := .slice none 0 0) rfl) rfl ?_; refine wl_val (r_assign (v := .slice none 0 0) rfl) rfl ?_; refine wl_nil ?_; refine c_then ?_; refine c_seq ?_; refine c_seq ?_; refine c_region ?_; refine wl_val (r_move (v := .slice _ _ _) rfl) rfl ?_; refine wl_val (r_len (T := 124) rfl ti124.und rfl _ rfl) rfl ?_; refine wl_val (r_move (v := .int .i64 0) rfl) rfl ?_; refine wl_nil ?_; refine c_then ?_; refine c_block ?_; refine c_loopE [1, 8, 9] (fun d e w' => ∃ (i : Nat) (a4 : Option Addr) (n4 : Nat) (c4 : Nat) (a5 : Option Addr) (n5 : Nat) (c5 : Nat), Kw.look e 10 = vi i ∧ Kw.look e 4 = .slice a4 n4 c4 ∧ Kw.look e 5 = .slice a5 n5 c5 ∧ d = n - i ∧ St w [] w' [.row (.slice a4 n4 c4) 131 64 n4 (((l.take i).filter (fun e => bitL e lev == 0)).flatten.map b8), .row (.slice a5 n5 c5) 131 64 n5 (((l.take i).filter (fun e => !(bitL e lev == 0))).flatten.map b8)] ∧ (i ≤ n) ∧ (((l.take i).filter (fun e => bitL e lev == 0)).length = n4) ∧ (((l.take i).filter (fun e => !(bitL e lev == 0))).length = n5) ∧ (n4 ≤ c4) ∧ (n5 ≤ c5) ∧ (n4 ≤ i ∧ n5 ≤ i)) (n - 0) ?_ ?_
  · exact ⟨0, none, 0, 0, none, 0, 0, rfl, rfl, rfl, rfl, hS.nilRow.nilRow, Nat.zero_le _, rfl, rfl, Nat.le_refl _, Nat.le_refl _, Nat.le_refl _, Nat.le_refl _⟩
  · rintro d4 e1 w2 ⟨i, a4, n4, c4, a5, n5, c5, hc0_10, hc0_4, hc0_5, rfl, hS3, hi, hn4, hn5, hc4, hc5, hni⟩ -
    refine c_set (d := 10) hc0_10 ?_; refine c_set (d := 4) hc0_4 ?_; refine c_set (d := 5) hc0_5 ?_; refine c_seq ?_; refine c_region ?_
    refine wl_dec (r_lss rfl rfl) rfl (fun h2_0 => ?_) (fun h2_0 => ?_)
    · refine wl_nil ?_
      refine c_then ?_; refine c_seq ?_; refine c_true rfl ?_; refine wp_skip ?_; refine c_then ?_; refine c_seq ?_; refine c_block ?_; refine c_seq ?_; refine c_region ?_; refine wl_val (r_ixN ti124.und ti131 rfl rfl (hb.st hS3) h64 hl (by omega) (by decide)) rfl ?_; refine wl_val (r_loadN ti131 ag131 rfl (hb.st hS3) h64 (by omega) (by decide)) rfl ?_; refine wl_exv (x_alloc (C := ((List.replicate 64 (0 : UInt8)).map b8)) hS3 ti131 rfl) rfl ?_; rintro _ w5 ⟨b7, rfl, hS6⟩; refine wl_exs (x_storeW [] hS6 ti131 rfl rfl (by rw [List.length_map]; exact h64.gt (by omega)) (by simp) (one_b8 _)) rfl ?_; intro w7 hS8; simp only [List.cons_append, List.nil_append] at hS8; refine wl_nil ?_; refine c_then ?_; refine c_seq ?_; refine c_region ?_; refine wl_val (r_field fa131_0 rfl) rfl ?_; refine wl_val (r_loadBPm ti49 rfl rfl (hS8.heap (.head _)) (by rw [h64.gt (by omega)]; decide)) rfl ?_; refine wl_val (r_move (v := .int .i64 _) rfl) rfl ?_; refine wl_call (r_call fn166 rfl rfl) rfl (rbit_ok _ _ _ (by rw [List.length_take, List.length_drop, h64.gt (by omega)]; decide) hlev) ?_; rintro _ w9 ⟨rfl, hx10⟩
      have hS11 := hS8.ext hx10
      refine wl_dec (r_eql rfl rfl) rfl (fun h4_4 => ?_) (fun h4_4 => ?_)
      · refine wl_nil ?_
        refine c_then ?_; refine c_true rfl ?_; refine c_region ?_; refine wl_val (r_move (v := .slice _ _ _) rfl) rfl ?_; refine wl_val (r_loadB ti131 ag131 rfl (hS11.heap (.head _)) (by rw [List.length_map]; exact h64.gt (by omega))) rfl ?_; refine wl_exv (x_litA1 hS11 ti124.und ti131 rfl (by rw [List.length_map]; exact h64.gt (by omega)) rfl (by decide) (by decide)) rfl ?_; rintro _ w12 ⟨b21, rfl, hS13⟩; refine wl_exv (x_append [_, _] hS13 ti124.und ti131 rfl (by decide) rfl rfl (Row.of_at (at_all (hS13.heap (.head _)))) (by rw [List.length_map]; exact h64.gt (by omega)) (by first | exact one_b8 _ | exact one_v32 _ | (intro c hc; simp only [List.mem_cons, List.not_mem_nil, or_false] at hc; (first | subst hc | rcases hc with rfl | rfl) <;> rfl)) (by first | omega | (simp [*]; done) | (simp [*] <;> omega)) (by first | omega | (simp [*]; done) | (simp [*] <;> omega)) _ rfl) rfl ?_; rintro _ w14 ⟨aq16, cq16, rfl, hcq16, hS15⟩; simp only [List.cons_append, List.nil_append] at hS15; refine wl_val (r_assign (v := .slice _ _ _) rfl) rfl ?_; refine wl_nil ?_; refine c_inN ?_; refine c_then ?_; refine c_region ?_; refine wl_val (r_addn (b := 1) rfl rfl (by omega)) rfl ?_; refine wl_val (r_move (v := .int .i64 _) rfl) rfl ?_; refine wl_nil ?_; refine c_then ?_
        rw [bitL_take (by omega)] at h4_4
        have hp : (bitL (gt l i) lev == 0) = true := by rw [beq_iff_eq]; omega
        have e0 := filt_t (p := (fun e => bitL e lev == 0)) (l := l) (i := i) (by omega) (by first | exact hp | simp [hp])
        have e1 := filt_f (p := (fun e => !(bitL e lev == 0))) (l := l) (i := i) (by omega) (by first | exact hp | simp [hp])
        rw [← List.map_append, ← flat_snoc, ← e0] at hS15
        rw [← e1] at hS15
        refine ⟨n - (i + 1), _, by omega, rfl, ⟨i + 1, _, _, _, _, _, _, rfl, rfl, rfl, rfl, hS15.drop1.drop1, by omega, ?_, ?_, hcq16, hc5, by omega⟩, ⟨rfl, rfl, rfl, trivial⟩⟩
        · rw [e0]; rw [List.length_append, hn4]; rfl
        · rw [e1]; exact hn5
      refine wl_nil ?_; refine c_then ?_; refine c_false rfl ?_; refine c_region ?_; refine wl_val (r_move (v := .slice _ _ _) rfl) rfl ?_; refine wl_val (r_loadB ti131 ag131 rfl (hS11.heap (.head _)) (by rw [List.length_map]; exact h64.gt (by omega))) rfl ?_; refine wl_exv (x_litA1 hS11 ti124.und ti131 rfl (by rw [List.length_map]; exact h64.gt (by omega)) rfl (by decide) (by decide)) rfl ?_; rintro _ w17 ⟨b25, rfl, hS18⟩; refine wl_exv (x_append [_, _, _] hS18 ti124.und ti131 rfl (by decide) rfl rfl (Row.of_at (at_all (hS18.heap (.head _)))) (by rw [List.length_map]; exact h64.gt (by omega)) (by first | exact one_b8 _ | exact one_v32 _ | (intro c hc; simp only [List.mem_cons, List.not_mem_nil, or_false] at hc; (first | subst hc | rcases hc with rfl | rfl) <;> rfl)) (by first | omega | (simp [*]; done) | (simp [*] <;> omega)) (by first | omega | (simp [*]; done) | (simp [*] <;> omega)) _ rfl) rfl ?_; rintro _ w19 ⟨aq21, cq21, rfl, hcq21, hS20⟩; simp only [List.cons_append, List.nil_append] at hS20; refine wl_val (r_assign (v := .slice _ _ _) rfl) rfl ?_; refine wl_nil ?_; refine c_inN ?_; refine c_then ?_; refine c_region ?_; refine wl_val (r_addn (b := 1) rfl rfl (by omega)) rfl ?_; refine wl_val (r_move (v := .int .i64 _) rfl) rfl ?_; refine wl_nil ?_; refine c_then ?_
      rw [bitL_take (by omega)] at h4_4
      have hp : (bitL (gt l i) lev == 0) = false := by rw [beq_eq_false_iff_ne]; omega
      have e0 := filt_f (p := (fun e => bitL e lev == 0)) (l := l) (i := i) (by omega) (by first | exact hp | simp [hp])
      have e1 := filt_t (p := (fun e => !(bitL e lev == 0))) (l := l) (i := i) (by omega) (by first | exact hp | simp [hp])
      rw [← List.map_append, ← flat_snoc, ← e1] at hS20
      rw [← e0] at hS20
      refine ⟨n - (i + 1), _, by omega, rfl, ⟨i + 1, _, _, _, _, _, _, rfl, rfl, rfl, rfl, hS20.drop1.drop1, by omega, ?_, ?_, hc4, hcq21, by omega⟩, ⟨rfl, rfl, rfl, trivial⟩⟩
      · rw [e0]; exact hn4
      · rw [e1]; rw [List.length_append, hn5]; rfl
    refine wl_nil ?_; refine c_then ?_; refine c_seq ?_; refine c_false rfl ?_; refine wp_exit ?_; refine c_thenE ?_; refine c_thenE ?_; refine c_inE ?_; refine c_then ?_; refine c_seq ?_; refine c_region ?_; refine wl_val (r_move (v := .slice _ _ _) rfl) rfl ?_; refine wl_val (r_move (v := .slice _ _ _) rfl) rfl ?_; refine wl_val (r_assign (v := .slice _ _ _) rfl) rfl ?_; refine wl_val (r_assign (v := .slice _ _ _) rfl) rfl ?_; refine wl_nil ?_; refine c_then ?_; refine wp_ret ?_; refine ret2 Try.results160 rfl rfl ?_
    obtain rfl : i = n := by omega
    rw [List.take_of_length_le (by omega)] at hS3 hn4 hn5
    exact ⟨_, _, _, _, _, _, rfl, hn4, hc4, hn5, hc5, hni.1, hni.2, hS3⟩

theorem rmapRoot_step (f : Nat) (IH : ∀ g, f = g + 1 → ∀ (l : List (List UInt8)) (lev : Nat) (a : Option Addr) (n c : Nat) (w : World), lev + g = 256 → Row w a (l.flatten.map b8) → SN 64 l → l.length = n → n ≤ c → n ≤ 1099511627776 → Parts lev l → Ret Try.prog 92 [.slice a n c, vi lev] w (fun v w' => v = .agg ((mapRootF g l lev).map b8).toArray ∧ St w [] w' [])) (l : List (List UInt8)) (lev : Nat) (a : Option Addr) (n c : Nat) (w : World) (hlf : lev + f = 256) (hb : Row w a (l.flatten.map b8)) (h64 : SN 64 l) (hl : l.length = n) (hc : n ≤ c) (hn : n ≤ 1099511627776) (hpt : Parts lev l) :
    Ret Try.prog 92 [.slice a n c, vi lev] w (fun v w' => v = .agg ((mapRootF f l lev).map b8).toArray ∧ St w [] w' []) := by
  refine enter Try.func92 rfl Try.ntmps92 rfl ?_
  have hS := St.refl w []
  refine c_seq ?_; refine c_region ?_; refine wl_exv (x_alloc (C := ((List.replicate 32 (0 : UInt8)).map b8)) hS ti49 rfl) rfl ?_; rintro _ w1 ⟨b4, rfl, hS2⟩; refine wl_nil ?_; refine c_then ?_; refine c_seq ?_; refine c_seq ?_; refine c_region ?_; refine wl_val (r_move (v := .slice _ _ _) rfl) rfl ?_; refine wl_val (r_len (T := 124) rfl ti124.und rfl _ rfl) rfl ?_; refine wl_nil ?_; refine c_then ?_; refine c_block ?_; refine c_seq ?_; refine c_region ?_
  refine wl_dec (r_eql rfl rfl) rfl (fun h2_0 => ?_) (fun h2_0 => ?_)
  · refine wl_val (r_assign (v := .bool _) rfl) rfl ?_
    refine wl_nil ?_; refine c_then ?_; refine c_true rfl ?_; refine c_seq ?_; refine c_region ?_; refine wl_val (r_build0 (cs := ((List.replicate 32 (0 : UInt8)).map b8)) ti49.und ti49 ti5) rfl ?_; refine wl_exs (x_storeW [] hS2 ti49 rfl rfl (by first | (simp [*]; done) | (simp [*] <;> omega) | omega) (by first | (simp [*]; done) | (simp [*] <;> omega) | omega) (by repeat' first | exact one_nil | exact one_b8 _ | exact one_v32 _ | exact one_all rfl | refine one_cons rfl ?_ | refine one_app ?_ ?_)) rfl ?_; intro w3 hS4; simp only [List.cons_append, List.nil_append] at hS4; refine wl_nil ?_; refine c_then ?_; refine wp_ret ?_; refine c_inR ?_; refine c_thenR ?_; refine retc Try.results92 ⟨_, rfl, run_loadVar_blk ti49 rfl (hS4.heap (.head _)) (by first | (rw [List.length_map]; exact mapRootF_len _ _ _) | simp)⟩ ?_
    obtain rfl : l = [] := List.eq_nil_of_length_eq_zero (by omega)
    exact ⟨by rw [mapRootF_0], hS4.fin⟩
  refine wl_val (r_assign (v := .bool _) rfl) rfl ?_; refine wl_nil ?_; refine c_then ?_; refine c_false rfl ?_; refine c_seq ?_; refine c_region ?_
  refine wl_dec (r_eql rfl rfl) rfl (fun h4_0 => ?_) (fun h4_0 => ?_)
  · refine wl_val (r_assign (v := .bool _) rfl) rfl ?_
    refine wl_nil ?_; refine c_then ?_; refine c_true rfl ?_; refine c_seq ?_; refine c_drawS 8 hMixed hS2 ?_; intro w5 hS6; refine g_take 0 rfl (by decide +kernel) rfl (fun _ _ _ h => h) hS6 (fun wF hF => r_move (v := .slice _ _ _) rfl) ?_; refine g_take 1 rfl (by decide +kernel) rfl (fun _ _ _ h => h) hS6 (fun wF hF => r_ixN (m := 0) ti124.und ti131 rfl rfl (hb.st hF) h64 hl (by omega) (by decide)) ?_; refine g_take 2 rfl (by decide +kernel) rfl (fun _ _ _ h => h) hS6 (fun wF hF => r_fieldR fa131_0 rfl (hb.st hF) (by rw [flatN_lenV h64]; omega)) ?_; refine g_take 3 rfl (by decide +kernel) rfl (fun _ _ _ h => h) hS6 (fun wF hF => r_loadNF (off := 0) ti49 rfl rfl (hb.st hF) h64 (by omega) (by decide) (by decide)) ?_; refine g_take 4 rfl (by decide +kernel) rfl (fun _ _ _ h => h) hS6 (fun wF hF => r_move (v := .slice _ _ _) rfl) ?_; refine g_take 5 rfl (by decide +kernel) rfl (fun _ _ _ h => h) hS6 (fun wF hF => r_ixN (m := 0) ti124.und ti131 rfl rfl (hb.st hF) h64 hl (by omega) (by decide)) ?_; refine g_take 6 rfl (by decide +kernel) rfl (fun _ _ _ h => h) hS6 (fun wF hF => r_fieldR fa131_1 rfl (hb.st hF) (by rw [flatN_lenV h64]; omega)) ?_; refine g_take 7 rfl (by decide +kernel) rfl (fun _ _ _ h => h) hS6 (fun wF hF => r_loadNF (off := 32) ti49 rfl rfl (hb.st hF) h64 (by omega) (by decide) (by decide)) ?_; refine g_tail (by decide +kernel) rfl (by decide +kernel) ?_; refine wl_call (r_call fn143 rfl rfl) rfl (leafOf_ok _ _ _ (by simp only [List.length_take, List.length_drop, h64.gt (show 0 < l.length by omega)]; decide) (by simp only [List.length_take, List.length_drop, h64.gt (show 0 < l.length by omega)]; decide)) ?_
    rintro _ w7 ⟨rfl, hx8⟩
    have hS9 := hS6.ext hx8
    refine wl_exs (x_storeW [] hS9 ti49 rfl rfl (by first | (simp [*]; done) | (simp [*] <;> omega) | omega) (by first | (simp [*]; done) | (simp [*] <;> omega) | omega) (by repeat' first | exact one_nil | exact one_b8 _ | exact one_v32 _ | exact one_all rfl | refine one_cons rfl ?_ | refine one_app ?_ ?_)) rfl ?_; intro w10 hS11; simp only [List.cons_append, List.nil_append] at hS11; refine wl_nil ?_; refine c_then ?_; refine wp_ret ?_; refine c_inR ?_; refine c_thenR ?_; refine retc Try.results92 ⟨_, rfl, run_loadVar_blk ti49 rfl (hS11.heap (.head _)) (by first | (rw [List.length_map]; exact mapRootF_len _ _ _) | simp)⟩ ?_
    obtain ⟨e, rfl⟩ : ∃ e, l = [e] := List.length_eq_one_iff.1 (by omega)
    rw [ent_split (h64.gt (by omega))]
    exact ⟨by rw [mapRootF_1]; rfl, hS11.fin⟩
  refine wl_val (r_assign (v := .bool _) rfl) rfl ?_; refine wl_nil ?_; refine c_then ?_; refine c_false rfl ?_; refine wp_skip ?_; refine c_inN ?_; refine c_then ?_; refine c_seq ?_
  obtain ⟨g, rfl⟩ := hpt.more hlf (by omega)
  refine c_region ?_; refine wl_val (r_move (v := .slice _ _ _) rfl) rfl ?_; refine wl_val (r_move (v := .int .i64 _) rfl) rfl ?_; refine wl_call (r_call fn160 rfl rfl) rfl (rsplit_ok l lev _ _ _ _ (hb.st hS2) h64 hl hc hn (by omega)) ?_; rintro _ w12 ⟨a1, n1, c1, a2, n2, c2, rfl, hn1, hc1, hn2, hc2, hm1, hm2, hx13⟩
  have hS14 := hS2.call hx13
  simp only [List.cons_append, List.nil_append] at hS14; refine wl_val (r_move (v := .tuple _) rfl) rfl ?_; refine wl_val (r_extract (v := .slice _ _ _) rfl rfl) rfl ?_; refine wl_val (r_extract (v := .slice _ _ _) rfl rfl) rfl ?_; refine wl_val (r_assign (v := .slice _ _ _) rfl) rfl ?_; refine wl_val (r_assign (v := .slice _ _ _) rfl) rfl ?_; refine wl_nil ?_; refine c_then ?_; refine c_seq ?_; refine c_region ?_; refine wl_val (r_move (v := .slice _ _ _) rfl) rfl ?_; refine wl_val (r_move (v := .int .i64 _) rfl) rfl ?_; refine wl_val (r_addn (b := 1) rfl rfl (by omega)) rfl ?_; refine wl_call (r_call fn92 rfl rfl) rfl (IH g rfl _ _ _ _ _ _ (by omega) (St.rowAt hS14 (.head _)) (h64.filter _) hn1 hc1 (by omega) hpt.zero) ?_; rintro _ w15 ⟨rfl, hx16⟩
  have hS17 := hS14.ext hx16
  refine wl_val (r_move (v := .slice _ _ _) rfl) rfl ?_; refine wl_val (r_move (v := .int .i64 _) rfl) rfl ?_; refine wl_val (r_addn (b := 1) rfl rfl (by omega)) rfl ?_; refine wl_call (r_call fn92 rfl rfl) rfl (IH g rfl _ _ _ _ _ _ (by omega) (St.rowAt hS17 (.tail _ (.head _))) (h64.filter _) hn2 hc2 (by omega) hpt.one) ?_; rintro _ w18 ⟨rfl, hx19⟩
  have hS20 := hS17.ext hx19
  refine wl_call (r_call fn53 rfl rfl) rfl (rnode_ok _ _ _ (mapRootF_len _ _ _) (mapRootF_len _ _ _)) ?_; rintro _ w21 ⟨rfl, hx22⟩
  have hS23 := hS20.ext hx22
  refine wl_exs (x_storeW [_, _] hS23 ti49 rfl rfl (by first | (simp [*]; done) | (simp [*] <;> omega) | omega) (by first | (simp [*]; done) | (simp [*] <;> omega) | omega) (by repeat' first | exact one_nil | exact one_b8 _ | exact one_v32 _ | exact one_all rfl | refine one_cons rfl ?_ | refine one_app ?_ ?_)) rfl ?_; intro w24 hS25; simp only [List.cons_append, List.nil_append] at hS25; refine wl_nil ?_; refine c_then ?_; refine wp_ret ?_; refine retc Try.results92 ⟨_, rfl, run_loadVar_blk ti49 rfl (hS25.heap (.tail _ (.tail _ (.head _)))) (by first | (rw [List.length_map]; exact mapRootF_len _ _ _) | simp)⟩ ?_
  exact ⟨by rw [mapRootF, if_neg (by omega), if_neg (by omega)], hS25.fin⟩

theorem rmapRoot_ok : ∀ (f : Nat) (l : List (List UInt8)) (lev : Nat) (a : Option Addr) (n c : Nat) (w : World) (hlf : lev + f = 256) (hb : Row w a (l.flatten.map b8)) (h64 : SN 64 l) (hl : l.length = n) (hc : n ≤ c) (hn : n ≤ 1099511627776) (hpt : Parts lev l), Ret Try.prog 92 [.slice a n c, vi lev] w (fun v w' => v = .agg ((mapRootF f l lev).map b8).toArray ∧ St w [] w' []) := by
  intro f
  induction f with
  | zero => exact fun l lev a n c w h1 h2 h3 h4 h5 h6 h7 => rmapRoot_step 0 (fun g hg => by omega) l lev a n c w h1 h2 h3 h4 h5 h6 h7
  | succ f ih => exact fun l lev a n c w h1 h2 h3 h4 h5 h6 h7 => rmapRoot_step (f + 1) (fun g hg => (Nat.succ.inj hg) ▸ ih) l lev a n c w h1 h2 h3 h4 h5 h6 h7

end Go.Proofs.Ytfohfnpehfcaaaa
end
