/- What the law's proof leans on. No condition. -/
import Derived.Test.YtflfocmfdlmjiaaPTcAH
import Derived.Test.YtflfocmfdlmjiaaPTcAS
import Derived.Test.YtflfocmfdlmjiaaPTcAU
section
namespace Go.Proofs.Ytflfocmfdlmjiaa
open Go.Kw
set_option linter.unusedVariables false
set_option linter.unusedSimpArgs false
set_option maxRecDepth 100000
theorem landedT_ok (w : World) :
    Ret Try.prog 4 [] w (fun v w' => v = .bool true ∧ St w [] w' []) := by
  refine enter Try.func4 rfl Try.ntmps4 rfl ?_
  have hS := St.refl w []
  refine c_seq ?_; refine c_region ?_; refine wl_val (r_assign (v := .bool false) rfl) rfl ?_; refine wl_nil ?_; refine c_then ?_; refine c_seq ?_; refine c_region ?_; refine wl_exv (x_lit (vs := (([1] : List UInt8).map b8)) hS ti22.und ti5 rfl rfl rfl (by repeat' first | exact one_nil | exact one_b8 _ | exact one_v32 _ | exact one_all rfl | refine one_cons rfl ?_ | refine one_app ?_ ?_) (by decide)) rfl ?_; rintro _ w1 ⟨b1, rfl, hS2⟩; refine wl_call (r_call fn14 rfl rfl) rfl (hex_ok [1] _ _ _ (Row.of_at (at_all (hS2.heap (.head _)))) (by decide)) ?_; rintro _ w3 ⟨rfl, hx4⟩
  have hS5 := hS2.ext hx4
  refine wl_dec_t (r_eqlStr rfl rfl) rfl (by decide) ?_; refine wl_val (r_assign (v := .bool _) rfl) rfl ?_; refine wl_nil ?_; refine c_then ?_; refine wp_ret ?_; refine ret1 Try.results4 ?_
  exact ⟨rfl, hS5.fin⟩

theorem rangeOf_ok (n : Nat) (w : World) (hn : n ≤ 1048576) :
    Ret Try.prog 7 [vi n] w (fun v w' => ∃ a' c', v = .slice a' n c' ∧ n ≤ c' ∧ St w [] w' [.row (.slice a' n c') 3 1 n (((List.range n).map fun k : Nat => iz (k : Int)))]) := by
  refine enter Try.func7 rfl Try.ntmps7 rfl ?_
  have hS := St.refl w []
  refine c_seq ?_; refine c_region ?_; refine wl_val (r_assign (v := .slice none 0 0) rfl) rfl ?_; refine wl_nil ?_; refine c_then ?_; refine c_seq ?_; refine c_region ?_; refine wl_val (r_assign (v := .slice none 0 0) rfl) rfl ?_; refine wl_nil ?_; refine c_then ?_; refine c_seq ?_; refine c_seq ?_; refine c_region ?_; refine wl_val (r_move (v := .int .i64 _) rfl) rfl ?_; refine wl_val (r_move (v := .int .i64 0) rfl) rfl ?_; refine wl_nil ?_; refine c_then ?_; refine c_block ?_; refine c_loopE [2, 5] (fun d e w' => ∃ (k : Nat) (a3 : Option Addr) (c3 : Nat), Kw.look e 6 = vi k ∧ Kw.look e 3 = .slice a3 k c3 ∧ d = n - k ∧ St w [] w' [.row (.slice a3 k c3) 3 1 k (((List.range k).map fun k : Nat => iz (k : Int)))] ∧ (k ≤ n) ∧ (k ≤ c3)) (n - 0) ?_ ?_
  · exact ⟨0, none, 0, rfl, rfl, rfl, hS.nilRow, Nat.zero_le _, Nat.zero_le _⟩
  · rintro d4 e1 w2 ⟨k, a3, c3, hc0_6, hc0_3, rfl, hS3, hk, hk3⟩ -
    refine c_set (d := 6) hc0_6 ?_; refine c_set (d := 3) hc0_3 ?_; refine c_seq ?_; refine c_region ?_
    refine wl_dec (r_lss rfl rfl) rfl (fun h3_0 => ?_) (fun h3_0 => ?_)
    · refine wl_nil ?_
      refine c_then ?_; refine c_seq ?_; refine c_true rfl ?_; refine wp_skip ?_; refine c_then ?_; refine c_seq ?_; refine c_block ?_; refine c_seq ?_; refine c_region ?_; refine wl_val (r_move (v := .int .i64 _) rfl) rfl ?_; refine wl_val (r_assign (v := .int .i64 _) rfl) rfl ?_; refine wl_nil ?_; refine c_then ?_; refine c_region ?_; refine wl_val (r_move (v := .slice _ _ _) rfl) rfl ?_; refine wl_val (r_move (v := .int .i64 _) rfl) rfl ?_; refine wl_exv (x_lit (vs := [.int .i64 _]) hS3 ti23.und ti3 rfl rfl rfl (by intro c hc; simp only [List.mem_cons, List.not_mem_nil, or_false] at hc; rcases hc with rfl <;> rfl) (by decide)) rfl ?_; rintro _ w5 ⟨b11, rfl, hS6⟩; refine wl_exv (x_append [_] hS6 ti23.und ti3 rfl (by decide) rfl rfl (Row.of_at (at_all (hS6.heap (.head _)))) (by first | (simp [*]; done) | (simp [*] <;> omega) | omega) (by intro c hc; simp only [List.mem_cons, List.not_mem_nil, or_false] at hc; subst hc; rfl) (by first | omega | (simp [*]; done) | (simp [*] <;> omega)) (by first | omega | (simp [*]; done) | (simp [*] <;> omega)) _ rfl) rfl ?_; rintro _ w7 ⟨aq9, cq9, rfl, hcq9, hS8⟩; simp only [List.cons_append, List.nil_append] at hS8; refine wl_val (r_assign (v := .slice _ _ _) rfl) rfl ?_; refine wl_nil ?_; refine c_inN ?_; refine c_then ?_; refine c_region ?_; refine wl_val (r_addn (b := 1) rfl rfl (by omega)) rfl ?_; refine wl_val (r_move (v := .int .i64 _) rfl) rfl ?_; refine wl_nil ?_; refine c_then ?_
      have eR : ((List.range k).map fun k : Nat => iz (k : Int)) ++ [vi k] = ((List.range (k + 1)).map fun k : Nat => iz (k : Int)) := by rw [List.range_succ, List.map_append]; rfl
      rw [eR] at hS8
      exact ⟨n - (k + 1), _, by omega, rfl, ⟨k + 1, _, _, rfl, rfl, rfl, hS8.drop1, by omega, hcq9⟩, ⟨rfl, rfl, trivial⟩⟩
    refine wl_nil ?_; refine c_then ?_; refine c_seq ?_; refine c_false rfl ?_; refine wp_exit ?_; refine c_thenE ?_; refine c_thenE ?_; refine c_inE ?_; refine c_then ?_; refine c_seq ?_; refine c_region ?_; refine wl_val (r_move (v := .slice _ _ _) rfl) rfl ?_; refine wl_val (r_assign (v := .slice _ _ _) rfl) rfl ?_; refine wl_nil ?_; refine c_then ?_; refine wp_ret ?_; refine ret1 Try.results7 ?_
    obtain rfl : k = n := by omega
    exact ⟨_, _, rfl, hk3, hS3⟩

theorem cloneI_ok (xs : List Int) (a : Option Addr) (n c : Nat) (w : World) (hb : Row w a (xs.map iz)) (hl : xs.length = n) (hn : n ≤ 17592186044416) :
    Ret Try.prog 6 [.slice a n c] w (fun v w' => ∃ a' c', v = .slice a' n c' ∧ n ≤ c' ∧ St w [] w' [.row (.slice a' n c') 3 1 n (xs.map iz)]) := by
  refine enter Try.func6 rfl Try.ntmps6 rfl ?_
  have hS := St.refl w []
  refine c_seq ?_; refine c_region ?_; refine wl_val (r_assign (v := .slice none 0 0) rfl) rfl ?_; refine wl_nil ?_; refine c_then ?_; refine c_seq ?_; refine c_seq ?_; refine c_region ?_; refine wl_val (r_move (v := .slice _ _ _) rfl) rfl ?_
  refine wl_dec (r_eqlSn ti23.und rfl rfl) rfl (fun h1_1 => ?_) (fun h1_1 => ?_)
  · refine wl_nil ?_
    refine c_then ?_; refine c_true rfl ?_; refine c_seq ?_; refine c_region ?_; refine wl_val (r_assign (v := .slice none 0 0) rfl) rfl ?_; refine wl_nil ?_; refine c_then ?_; refine wp_ret ?_; refine c_thenR ?_; refine ret1 Try.results6 ?_
    have h0 : xs = [] := by cases xs with | nil => rfl | cons x l => exact absurd (by subst h1_1; exact row_none hb) (by simp)
    subst h0
    obtain rfl : n = 0 := hl.symm
    exact ⟨none, 0, rfl, Nat.le_refl _, hS.nilRow⟩
  refine wl_nil ?_; refine c_then ?_; refine c_false rfl ?_; refine wp_skip ?_; refine c_then ?_; refine c_seq ?_; refine c_region ?_; refine wl_exv (x_lit (vs := []) hS ti23.und ti3 rfl rfl rfl one_nil (by decide)) rfl ?_; rintro _ w1 ⟨b5, rfl, hS2⟩
  have hS3 := St.toRow (l1 := []) (sz := 1) (n := 0) (cap := 0) hS2 (Nat.le_refl _) (by decide) rfl
  simp only [List.nil_append, Nat.zero_mul, List.take_zero] at hS3
  refine wl_val (r_move (v := .slice _ _ _) rfl) rfl ?_; refine wl_exv (x_append [] hS3 ti23.und ti3 rfl (by decide) rfl rfl (hb.st hS3) (by first | (simp [*]; done) | (simp [*] <;> omega) | omega) (one_map xs fun _ => rfl) (by omega) (by omega) _ rfl) rfl ?_; rintro _ w4 ⟨aq6, cq6, rfl, hcq6, hS5⟩; simp only [List.cons_append, List.nil_append] at hS5; refine wl_val (r_assign (v := .slice _ _ _) rfl) rfl ?_; refine wl_nil ?_; refine c_then ?_; refine wp_ret ?_; refine ret1 Try.results6 ?_
  rw [Nat.zero_add] at *
  exact ⟨_, _, rfl, hcq6, hS5⟩

end Go.Proofs.Ytflfocmfdlmjiaa
end
section
namespace Go.Proofs.Ytflfocmfdlmjiaa
open Go.Kw
set_option linter.unusedVariables false
set_option linter.unusedSimpArgs false
set_option maxRecDepth 100000
set_option maxHeartbeats 1000000 in
theorem chunkIt_ok (we w : World) (l n c bs bn : Nat) (a : Option Addr) (b : List UInt8) (J : Nat → World → Prop) (hS0 : St we [] w []) (hb : Row we a (b.map b8)) (hl : b.length = n) (hn : n ≤ 1048576) (hcc : n ≤ c) (hAs : At we bs 0 [.slice a n c]) (hAn : At we bn 0 [vi 1024]) (hJS : ∀ k W, J k W → St we [] W []) (hJD : ∀ k W, J k W → J k W.drew) (hY : ∀ k W, k < chN n → J k W → YieldAt Fence.wide 0 Try.prog l #[(chP a c b k).v] W fun en W' => en = .returned (.bool true) ∧ J (k + 1) W') (h0 : J 0 w) :
    Ret Try.prog 35 [.func (.yield l) #[] #[], pt bs 0, pt bn 0] w (fun _ w' => J (chN n) w') := by
  refine enter Try.func35 rfl Try.ntmps35 rfl ?_
  have hS := hS0
  refine c_seq ?_; refine c_region ?_; refine wl_val (r_assign (v := .int .i64 0) rfl) rfl ?_; refine wl_nil ?_; refine c_then ?_; refine c_block ?_; refine c_loopE [0, 1, 2] (fun d e w' => ∃ (k : Nat), Kw.look e 4 = vi (1024 * k) ∧ d = chN n - k ∧ St we [] w' [] ∧ (J k w') ∧ (k ≤ chN n)) (chN n - 0) ?_ ?_
  · exact ⟨0, rfl, rfl, hS, h0, Nat.zero_le _⟩
  · rintro d4 e1 w2 ⟨k, hc0_4, rfl, hS3, hjk, hk⟩ -
    refine c_set (d := 4) hc0_4 ?_; refine c_seq ?_; refine c_seq ?_; refine c_region ?_; refine wl_val (r_move (v := .int .i64 _) rfl) rfl ?_; refine wl_val (r_loadAt1 (j := 0) ti22.und rfl rfl (hAs.st hS3) rfl rfl) rfl ?_; refine wl_val (r_len (T := 22) rfl ti22.und rfl _ rfl) rfl ?_
    refine wl_dec (r_lss rfl rfl) rfl (fun h1_3 => ?_) (fun h1_3 => ?_)
    · refine wl_nil ?_
      refine c_then ?_; refine c_true rfl ?_; refine wp_skip ?_; refine c_then ?_; refine c_seq ?_; refine c_block ?_; refine c_seq ?_
      have hkN : k < chN n := chN_lt.2 (by omega)
      refine c_drawD 5 hMixed hS3 (hJD _ _ hjk) ?_; intro w5 hjk hS6; refine g_take 0 rfl (by decide +kernel) rfl (fun _ _ _ h => h) hS6 (fun wF hF => r_loadAt1 (j := 0) ti3.und rfl rfl (hAn.st hF) rfl rfl) ?_; refine g_take 1 rfl (by decide +kernel) rfl (fun _ _ _ h => h) hS6 (fun wF hF => r_loadAt1 (j := 0) ti22.und rfl rfl (hAs.st hF) rfl rfl) ?_; refine g_take 2 rfl (by decide +kernel) rfl (fun _ _ _ h => h) hS6 (fun wF hF => r_move (v := .int .i64 _) rfl) ?_; refine g_take 3 rfl (by decide +kernel) rfl (fun _ _ _ h => h) hS6 (fun wF hF => r_sl_l ti22.und ti5 rfl rfl (by omega)) ?_; refine g_take 4 rfl (by decide +kernel) rfl (fun _ _ _ h => h) hS6 (fun wF hF => r_len (T := 22) rfl ti22.und rfl _ rfl) ?_; refine g_tail (by decide +kernel) rfl (by decide +kernel) ?_; refine wl_val (r_min2n (a := 1024) rfl rfl _ rfl) rfl ?_; refine wl_val (r_assign (v := .int .i64 _) rfl) rfl ?_; refine wl_nil ?_; refine c_then ?_; refine c_seq ?_
      refine c_wide (m := 1) (i_region (ds := []) ?_)
      refine wi_val lets_wide rfl (r_move rfl) rfl ?_; refine wi_val lets_wide rfl (r_loadAt1 (j := 0) ti22.und rfl rfl (hAs.st hS6) rfl rfl) rfl ?_; refine wi_val lets_wide rfl (r_move (v := .int .i64 _) rfl) rfl ?_; refine wi_val lets_wide rfl (r_move (v := .int .i64 _) rfl) rfl ?_; refine wi_val lets_wide rfl (r_move (v := .int .i64 _) rfl) rfl ?_; refine wi_val lets_wide rfl (r_addn rfl rfl (by omega)) rfl ?_; refine wi_val lets_wide rfl (r_move (v := .int .i64 _) rfl) rfl ?_; refine wi_val lets_wide rfl (r_move (v := .int .i64 _) rfl) rfl ?_; refine wi_val lets_wide rfl (r_addn rfl rfl (by omega)) rfl ?_; refine wi_val lets_wide rfl (r_chunk (bs := b) (i := k) ti22.und ti5 rfl rfl rfl rfl hl (by omega) hcc) rfl ?_
      obtain ⟨fnY, tmY, asY, boY, hyY, hRY⟩ := hY k _ (by omega) hjk
      refine wi_round lets_wide rfl (r_yield rfl rfl hyY) rfl hRY ?_; rintro _ w7 ⟨rfl, hj9⟩
      refine ⟨_, rfl, ?_⟩
      have hS8 := hJS _ _ hj9
      refine wi_val lets_wide rfl (r_not rfl) rfl ?_; refine wi_nil0 ?_; refine c_then ?_; refine c_false rfl ?_; refine wp_skip ?_; refine c_inN ?_; refine c_then ?_; refine c_region ?_; refine wl_val (r_move (v := .int .i64 _) rfl) rfl ?_; refine wl_val (r_loadAt1 (j := 0) ti3.und rfl rfl (hAn.st hS8) rfl rfl) rfl ?_; refine wl_val (r_addn (b := 1024) rfl rfl (by omega)) rfl ?_; refine wl_val (r_assign (v := .int .i64 _) rfl) rfl ?_; refine wl_nil ?_; refine c_then ?_
      exact ⟨chN n - (k + 1), _, by omega, rfl, ⟨k + 1, rfl, rfl, hS8, hj9, by omega⟩, ⟨rfl, rfl, rfl, trivial⟩⟩
    refine wl_nil ?_; refine c_then ?_; refine c_false rfl ?_; refine wp_exit ?_; refine c_thenE ?_; refine c_thenE ?_; refine c_inE ?_; refine ret0n Try.results35 ?_
    obtain rfl : k = chN n := by unfold chN at *; omega
    exact hjk

theorem chunkF_ok (a : Option Addr) (n c : Nat) (w : World) :
    Ret Try.prog 26 [.slice a n c, vi 1024] w (fun v w' => ∃ bs bn, v = .func (.func 35) #[] #[pt bs 0, pt bn 0] ∧ St w [] w' [.blk bn (cl [vi 1024] 3), .blk bs (cl [.slice a n c] 22)]) := by
  refine enter Try.func26 rfl Try.ntmps26 rfl ?_
  have hS := St.refl w []
  refine c_seq ?_; refine c_region ?_; refine wl_exv (x_box hS (v := .slice _ _ _) rfl rfl) rfl ?_; rintro _ w1 ⟨b2, rfl, hS2⟩; refine wl_exv (x_box hS2 (v := .int .i64 _) rfl rfl) rfl ?_; rintro _ w3 ⟨b3, rfl, hS4⟩; refine wl_val (r_assign (v := .nilFunc) rfl) rfl ?_; refine wl_nil ?_; refine c_then ?_; refine c_seq ?_; refine c_seq ?_; refine c_region ?_; refine wl_val (r_loadB1 ti3.und rfl rfl (hS4.heap (.head _)) rfl) rfl ?_; refine wl_dec_f (r_lss rfl rfl) rfl (by decide) ?_; refine wl_nil ?_; refine c_then ?_; refine c_false rfl ?_; refine wp_skip ?_; refine c_then ?_; refine c_seq ?_; refine c_region ?_; refine wl_val (r_makeF (vs := [pt b2 0, pt b3 0]) rfl) rfl ?_; refine wl_val (r_assign rfl) rfl ?_; refine wl_nil ?_; refine c_then ?_; refine wp_ret ?_; refine ret1 Try.results26 ?_
  exact ⟨_, _, rfl, hS4⟩

set_option maxHeartbeats 1000000 in
theorem appendSeq_ok (n c bs bn : Nat) (a : Option Addr) (b : List UInt8) (w : World) (hb : Row w a (b.map b8)) (hl : b.length = n) (hn : n ≤ 1048576) (hc : n ≤ c) (hAs : At w bs 0 [.slice a n c]) (hAn : At w bn 0 [vi 1024]) :
    Ret Try.prog 34 [.slice none 0 0, .func (.func 35) #[] #[pt bs 0, pt bn 0]] w (fun v w' => ∃ a' c', v = .slice a' (chN n) c' ∧ chN n ≤ c' ∧ St w [] w' [.row (.slice a' (chN n) c') 22 1 (chN n) ((chS a c b).map Piece.v)]) := by
  refine enterM 0 Try.func34 rfl Try.ntmps34 rfl ?_
  have hS := St.refl w []
  refine c_seq ?_; refine c_region ?_; refine wl_exv (x_box hS (v := .slice _ _ _) rfl rfl) rfl ?_; rintro _ w1 ⟨b2, rfl, hS2⟩; refine wl_val (r_assign (v := .slice none 0 0) rfl) rfl ?_; refine wl_nil ?_; refine c_then ?_; refine c_seq ?_; refine c_seq ?_; refine c_region ?_; refine wl_val (r_move rfl) rfl ?_; refine wl_nil ?_; refine c_then ?_; refine c_block ?_
  have hS3 := St.nilRow (E := 22) (sz := 1) hS2
  refine c_range1 (lb := [pt bs 0, pt bn 0]) rfl fn35 (fun k Y => ∃ (a' : Option Addr) (c' : Nat), k ≤ c' ∧ Y = [.blk b2 (cl [.slice a' k c'] 30), .row (.slice a' k c') 22 1 k (((chS a c b).take k).map Piece.v)]) ⟨none, 0, Nat.zero_le _, rfl⟩ (hS3.perm ((List.Perm.cons _ (List.Perm.refl _)).trans (List.perm_middle (l₁ := [_])).symm)) (fun k => (chP a c b k).v) (chN n) (fun W => St w [] W []) (fun k W Y B _ h => h.fin) ?_ ?_ ?_
  · intro l W J hJZ hJD hYY hJ0
    exact chunkIt_ok w W l n c bs bn a b J (hJZ 0 W hJ0) hb hl hn hc hAs hAn hJZ hJD hYY hJ0
  · rintro l k w6 _ B hk ⟨a', c', hkc, rfl⟩ hS4
    simp only [List.cons_append, List.nil_append] at hS4
    have hch := chL_le b k
    have hkb : chN n ≤ 1024 := by unfold chN; omega
    have est : ((chS a c b).take k).map Piece.v ++ [(chP a c b k).v] = ((chS a c b).take (k + 1)).map Piece.v := by rw [take_gt _ _ (by rw [chS_len, hl]; exact hk), chS_gt (by rw [hl]; exact hk), List.map_append]; rfl
    refine i_region ?_; refine wi_val (lets_round _) rfl (r_assign (v := .slice _ _ _) rfl) rfl ?_; refine wi_nil0 ?_; refine c_then ?_
    refine ⟨_, [_, _], rfl, hS4, ?_⟩
    intro w7 B2 hS8; simp only [List.cons_append, List.nil_append] at hS8; refine wpIn_block ?_; refine i_region ?_; refine wi_val (lets_round _) rfl (r_loadB1 ti30.und rfl rfl (hS8.heap (.head _)) rfl) rfl ?_; refine wi_val (lets_round _) rfl (r_move (v := .slice _ _ _) rfl) rfl ?_; refine wi_exv (lets_round _) rfl (x_lit (vs := [.slice _ _ _]) hS8 ti30.und ti22 rfl rfl rfl (by intro c hc; simp only [List.mem_cons, List.not_mem_nil, or_false] at hc; rcases hc with rfl <;> rfl) (by decide)) rfl ?_; rintro _ w9 ⟨b10, rfl, hS10⟩; refine wi_exv (lets_round _) rfl (x_append [_, _] hS10 ti30.und ti22 rfl (by decide) rfl rfl (Row.of_at (at_all (hS10.heap (.head _)))) (by first | (simp [*]; done) | (simp [*] <;> omega) | omega) (by first | exact one_b8 _ | exact one_v32 _ | (intro c hc; simp only [List.mem_cons, List.not_mem_nil, or_false] at hc; (first | subst hc | rcases hc with rfl | rfl) <;> rfl)) (by first | omega | (simp [*]; done) | (simp [*] <;> omega)) (by first | omega | (simp [*]; done) | (simp [*] <;> omega)) _ rfl) rfl ?_; rintro _ w11 ⟨aq13, cq13, rfl, hcq13, hS12⟩; simp only [List.cons_append, List.nil_append] at hS12; refine wi_exs (lets_round _) rfl (x_store1 [_] hS12 ti30 rfl rfl rfl (by simp)) rfl ?_; intro w14 hS15; simp only [List.cons_append, List.nil_append] at hS15; refine wi_nil0 ?_; refine c_inN ?_
    refine ⟨rfl, _, ⟨aq13, _, hcq13, rfl⟩, ?_⟩
    rw [← est]
    exact hS15.drop1
  · rintro D w16 _ ⟨a', c', hkc, rfl⟩ hS17
    simp only [List.cons_append, List.nil_append] at hS17
    rw [List.take_of_length_le (by rw [chS_len, hl]; exact Nat.le_refl _)] at hS17
    refine c_inN ?_; refine c_then ?_; refine c_seq ?_
    refine c_wideD (m := 0) (i_region ?_)
    refine wi_val lets_wide rfl (r_loadB1 ti30.und rfl rfl (hS17.heap (.head _)) rfl) rfl ?_; refine wi_val lets_wide rfl (r_assign (v := .slice _ _ _) rfl) rfl ?_; refine wi_nil ?_; refine c_then ?_; refine wp_ret ?_
    have hSz := St.putObj (.deferred none) (l1 := [_, _]) hS17
    refine retM Try.results34 (hS17.heap (.tail _ (.tail _ (.head _)))) rfl ?_
    exact ⟨_, _, rfl, hkc, (hSz.perm (List.Perm.cons _ ((List.Perm.cons _ (List.Perm.refl _)).trans (List.perm_middle (l₁ := [_])).symm))).drop1.drop1⟩

theorem collect_ok (n c bs bn : Nat) (a : Option Addr) (b : List UInt8) (w : World) (hb : Row w a (b.map b8)) (hl : b.length = n) (hn : n ≤ 1048576) (hc : n ≤ c) (hAs : At w bs 0 [.slice a n c]) (hAn : At w bn 0 [vi 1024]) :
    Ret Try.prog 25 [.func (.func 35) #[] #[pt bs 0, pt bn 0]] w (fun v w' => ∃ a' c', v = .slice a' (chN n) c' ∧ chN n ≤ c' ∧ St w [] w' [.row (.slice a' (chN n) c') 22 1 (chN n) ((chS a c b).map Piece.v)]) := by
  refine enter Try.func25 rfl Try.ntmps25 rfl ?_
  have hS := St.refl w []
  refine c_seq ?_; refine c_region ?_; refine wl_val (r_assign (v := .slice none 0 0) rfl) rfl ?_; refine wl_nil ?_; refine c_then ?_; refine c_seq ?_; refine c_region ?_; refine wl_val (r_move rfl) rfl ?_; refine wl_call (r_call fn34 rfl rfl) rfl (appendSeq_ok n c bs bn a b _ (hb.st hS) hl hn hc (hAs.st hS) (hAn.st hS)) ?_; rintro _ w1 ⟨a4, c4, rfl, hc4, hx2⟩
  have hS3 := hS.call hx2
  simp only [List.cons_append, List.nil_append] at hS3; refine wl_val (r_assign (v := .slice _ _ _) rfl) rfl ?_; refine wl_nil ?_; refine c_then ?_; refine wp_ret ?_; refine ret1 Try.results25 ?_
  exact ⟨_, _, rfl, hc4, hS3⟩

end Go.Proofs.Ytflfocmfdlmjiaa
end
section
namespace Go.Proofs.Ytflfocmfdlmjiaa
open Go.Kw
set_option linter.unusedVariables false
set_option linter.unusedSimpArgs false
set_option maxRecDepth 100000
set_option maxHeartbeats 1000000 in
theorem chunks_ok (n c : Nat) (a : Option Addr) (b : List UInt8) (w : World) (hb : Row w a (b.map b8)) (hl : b.length = n) (hc : n ≤ c) :
    Ret Try.prog 15 [.slice a n c] w (fun v w' => (n = 0 ∧ v = .tuple #[.slice none 0 0, vi 10] ∧ St w [] w' []) ∨ (1048576 < n ∧ v = .tuple #[.slice none 0 0, vi 5] ∧ St w [] w' []) ∨ ((0 < n ∧ n ≤ 1048576) ∧ ∃ a' c', v = .tuple #[.slice a' (chN n) c', vi 0] ∧ chN n ≤ c' ∧ St w [] w' [.row (.slice a' (chN n) c') 22 1 (chN n) ((chS a c b).map Piece.v)])) := by
  refine enter Try.func15 rfl Try.ntmps15 rfl ?_
  have hS := St.refl w []
  refine c_seq ?_; refine c_region ?_; refine wl_val (r_assign (v := .slice none 0 0) rfl) rfl ?_; refine wl_val (r_assign (v := .int .i64 0) rfl) rfl ?_; refine wl_nil ?_; refine c_then ?_; refine c_seq ?_; refine c_seq ?_; refine c_region ?_; refine wl_val (r_move (v := .slice _ _ _) rfl) rfl ?_; refine wl_val (r_len (T := 22) rfl ti22.und rfl _ rfl) rfl ?_
  refine wl_dec (r_eql rfl rfl) rfl (fun h1_2 => ?_) (fun h1_2 => ?_)
  · refine wl_nil ?_
    refine c_then ?_; refine c_true rfl ?_; refine c_seq ?_; refine c_region ?_; refine wl_val (r_assign (v := .slice none 0 0) rfl) rfl ?_; refine wl_val (r_assign (v := .int .i64 10) rfl) rfl ?_; refine wl_nil ?_; refine c_then ?_; refine wp_ret ?_; refine c_thenR ?_; refine ret2 Try.results15 rfl rfl ?_
    first | exact .inl ⟨by omega, rfl, hS.fin⟩ | exact .inr (.inl ⟨by omega, rfl, hS.fin⟩)
  refine wl_nil ?_; refine c_then ?_; refine c_false rfl ?_; refine wp_skip ?_; refine c_then ?_; refine c_seq ?_; refine c_seq ?_; refine c_region ?_; refine wl_val (r_move (v := .slice _ _ _) rfl) rfl ?_; refine wl_val (r_len (T := 22) rfl ti22.und rfl _ rfl) rfl ?_
  refine wl_dec (r_gtr rfl rfl) rfl (fun h3_2 => ?_) (fun h3_2 => ?_)
  · refine wl_nil ?_
    refine c_then ?_; refine c_true rfl ?_; refine c_seq ?_; refine c_region ?_; refine wl_val (r_assign (v := .slice none 0 0) rfl) rfl ?_; refine wl_val (r_assign (v := .int .i64 5) rfl) rfl ?_; refine wl_nil ?_; refine c_then ?_; refine wp_ret ?_; refine c_thenR ?_; refine ret2 Try.results15 rfl rfl ?_
    first | exact .inl ⟨by omega, rfl, hS.fin⟩ | exact .inr (.inl ⟨by omega, rfl, hS.fin⟩)
  refine wl_nil ?_; refine c_then ?_; refine c_false rfl ?_; refine wp_skip ?_; refine c_then ?_; refine c_seq ?_; refine c_region ?_; refine wl_val (r_move (v := .slice _ _ _) rfl) rfl ?_; refine wl_call (r_call fn26 rfl rfl) rfl (chunkF_ok _ _ _ _) ?_; rintro _ w1 ⟨bs, bn, rfl, hx2⟩
  have hS3 := hS.call hx2
  simp only [List.cons_append, List.nil_append] at hS3; refine wl_call (r_call fn25 rfl rfl) rfl (collect_ok n c bs bn a b _ (hb.st hS3) hl (by omega) hc (at_all (hS3.heap (.tail _ (.head _)))) (at_all (hS3.heap (.head _)))) ?_; rintro _ w4 ⟨a12, c12, rfl, hc12, hx5⟩
  have hS6 := hS3.call hx5
  simp only [List.cons_append, List.nil_append] at hS6; refine wl_val (r_assign (v := .slice _ _ _) rfl) rfl ?_; refine wl_val (r_assign (v := .int .i64 0) rfl) rfl ?_; refine wl_nil ?_; refine c_then ?_; refine wp_ret ?_; refine ret2 Try.results15 rfl rfl ?_
  exact .inr (.inr ⟨by omega, _, _, rfl, hc12, (hS6.perm ((List.Perm.cons _ ((List.Perm.cons _ (List.Perm.refl _)).trans (List.perm_middle (l₁ := [_])).symm)).trans (List.perm_middle (l₁ := [_])).symm)).drop1.drop1⟩)

set_option maxHeartbeats 1000000 in
theorem vleaves_ok (ps : List Piece) (a : Option Addr) (n c : Nat) (w : World) (hb : Row w a (ps.map Piece.v)) (hr : ∀ q ∈ ps, Row w q.a (q.xs.map b8) ∧ q.xs.length ≤ q.c ∧ q.xs.length ≤ 1048576) (hn : ps.length = n) (hm : n ≤ 1048576) :
    Ret Try.prog 17 [.slice a n c] w (fun v w' => ∃ a' c', v = .slice a' n c' ∧ n ≤ c' ∧ St w [] w' [.row (.slice a' n c') 26 32 n (((ps.map fun q => leafL q.xs)).flatten.map b8)]) := by
  refine enter Try.func17 rfl Try.ntmps17 rfl ?_
  have hS := St.refl w []
  refine c_seq ?_; refine c_region ?_; refine wl_val (r_assign (v := .slice none 0 0) rfl) rfl ?_; refine wl_nil ?_; refine c_then ?_; refine c_seq ?_; refine c_region ?_; refine wl_val (r_assign (v := .slice none 0 0) rfl) rfl ?_; refine wl_nil ?_; refine c_then ?_; refine c_seq ?_; refine c_seq ?_; refine c_region ?_; refine wl_val (r_move (v := .slice _ _ _) rfl) rfl ?_; refine wl_val (r_len (T := 30) rfl ti30.und rfl _ rfl) rfl ?_; refine wl_val (r_move (v := .int .i64 0) rfl) rfl ?_; refine wl_nil ?_; refine c_then ?_; refine c_block ?_; refine c_loopE [2, 8, 9] (fun d e w' => ∃ (k : Nat) (a3 : Option Addr) (c3 : Nat), Kw.look e 10 = vi k ∧ Kw.look e 3 = .slice a3 k c3 ∧ d = n - k ∧ St w [] w' [.row (.slice a3 k c3) 26 32 k (((ps.map fun q => leafL q.xs).take k).flatten.map b8)] ∧ (k ≤ n) ∧ (k ≤ c3)) (n - 0) ?_ ?_
  · exact ⟨0, none, 0, rfl, rfl, rfl, hS.nilRow, Nat.zero_le _, Nat.zero_le _⟩
  · rintro d4 e1 w2 ⟨k, a3, c3, hc0_10, hc0_3, rfl, hS3, hk, hk3⟩ -
    refine c_set (d := 10) hc0_10 ?_; refine c_set (d := 3) hc0_3 ?_; refine c_seq ?_; refine c_region ?_
    refine wl_dec (r_lss rfl rfl) rfl (fun h3_0 => ?_) (fun h3_0 => ?_)
    · refine wl_nil ?_
      refine c_then ?_; refine c_seq ?_; refine c_true rfl ?_; refine wp_skip ?_; refine c_then ?_; refine c_seq ?_; refine c_block ?_; refine c_seq ?_
      have hrk := hr (gt ps k) (gt_mem ps k (by omega))
      refine c_region ?_; refine wl_val (r_ixS ti30.und ti22 rfl rfl (hb.st hS3) (by first | omega | (simp [*]; done) | (simp [*] <;> omega)) (by first | (simp [*]; done) | (simp [*] <;> omega) | omega)) rfl ?_; refine wl_val (r_loadS1 ti22.und rfl rfl (hb.st hS3) (by rw [Nat.mul_one]; exact map_gt _ _ _ (by first | omega | (simp [*]; done) | (simp [*] <;> omega)))) rfl ?_; refine wl_val (r_assign (v := .slice _ _ _) rfl) rfl ?_; refine wl_nil ?_; refine c_then ?_; refine c_seq ?_; refine c_region ?_; refine wl_val (r_move (v := .slice _ _ _) rfl) rfl ?_; refine wl_call (r_call fn23 rfl rfl) rfl (leaf_ok (gt ps k).xs _ _ _ _ (hrk.1.st hS3) rfl hrk.2.1 hrk.2.2) ?_; rintro _ w5 ⟨rfl, hx6⟩
      have hS7 := hS3.ext hx6
      refine wl_val (r_move (v := .tuple _) rfl) rfl ?_; refine wl_val (r_extract (v := .agg _) rfl rfl) rfl ?_; refine wl_val (r_extract (v := .int .i64 _) rfl rfl) rfl ?_; refine wl_exv (x_alloc (C := ((List.replicate 32 (0 : UInt8)).map b8)) hS7 ti26 rfl) rfl ?_; rintro _ w8 ⟨b6, rfl, hS9⟩; refine wl_exs (x_storeW [] hS9 ti26 rfl rfl (by first | (simp [*]; done) | (simp [*] <;> omega) | omega) (by first | (simp [*]; done) | (simp [*] <;> omega) | omega) (by repeat' first | exact one_nil | exact one_b8 _ | exact one_v32 _ | exact one_all rfl | refine one_cons rfl ?_ | refine one_app ?_ ?_)) rfl ?_; intro w10 hS11; simp only [List.cons_append, List.nil_append] at hS11; refine wl_val (r_assign (v := .int .i64 _) rfl) rfl ?_; refine wl_nil ?_; refine c_then ?_; refine c_region ?_; refine wl_val (r_move (v := .slice _ _ _) rfl) rfl ?_; refine wl_val (r_loadB ti26 rfl rfl (hS11.heap (.head _)) (by first | (simp [*]; done) | (simp [*] <;> omega) | omega)) rfl ?_; refine wl_exv (x_litA1 hS11 ti35.und ti26 rfl (by first | (simp [*]; done) | (simp [*] <;> omega) | omega) rfl (by decide) (by decide)) rfl ?_; rintro _ w12 ⟨b21, rfl, hS13⟩; refine wl_exv (x_append [_, _] hS13 ti35.und ti26 rfl (by decide) rfl rfl (Row.of_at (at_all (hS13.heap (.head _)))) (by first | (simp [*]; done) | (simp [*] <;> omega) | omega) (by first | exact one_b8 _ | exact one_v32 _ | (intro c hc; simp only [List.mem_cons, List.not_mem_nil, or_false] at hc; (first | subst hc | rcases hc with rfl | rfl) <;> rfl)) (by first | omega | (simp [*]; done) | (simp [*] <;> omega)) (by first | omega | (simp [*]; done) | (simp [*] <;> omega)) _ rfl) rfl ?_
      rintro _ w14 ⟨aq16, cq16, rfl, hcq16, hS15⟩; simp only [List.cons_append, List.nil_append] at hS15; refine wl_val (r_assign (v := .slice _ _ _) rfl) rfl ?_; refine wl_nil ?_; refine c_inN ?_; refine c_then ?_; refine c_region ?_; refine wl_val (r_addn (b := 1) rfl rfl (by omega)) rfl ?_; refine wl_val (r_move (v := .int .i64 _) rfl) rfl ?_; refine wl_nil ?_; refine c_then ?_
      have eL : gt (ps.map fun q => leafL q.xs) k = leafL (gt ps k).xs := by rw [gt_eq _ _ (by rw [List.length_map]; omega), List.getElem_map, gt_eq ps k (by omega)]
      rw [← List.map_append, ← eL, ← flat_take1 _ k (by rw [List.length_map]; omega)] at hS15
      exact ⟨n - (k + 1), _, by omega, rfl, ⟨k + 1, _, _, rfl, rfl, rfl, hS15.drop1.drop1, by omega, hcq16⟩, ⟨rfl, rfl, rfl, trivial⟩⟩
    refine wl_nil ?_; refine c_then ?_; refine c_seq ?_; refine c_false rfl ?_; refine wp_exit ?_; refine c_thenE ?_; refine c_thenE ?_; refine c_inE ?_; refine c_then ?_; refine c_seq ?_; refine c_region ?_; refine wl_val (r_move (v := .slice _ _ _) rfl) rfl ?_; refine wl_val (r_assign (v := .slice _ _ _) rfl) rfl ?_; refine wl_nil ?_; refine c_then ?_; refine wp_ret ?_; refine ret1 Try.results17 ?_
    obtain rfl : k = n := by omega
    rw [List.take_of_length_le (by rw [List.length_map]; omega)] at hS3
    exact ⟨_, _, rfl, hk3, hS3⟩

set_option maxHeartbeats 1000000 in
theorem rootOfV_ok (n c : Nat) (a : Option Addr) (b : List UInt8) (w : World) (hb : Row w a (b.map b8)) (hl : b.length = n) (hc : n ≤ c) :
    Ret Try.prog 5 [.slice a n c] w (fun v w' => (n = 0 ∧ v = .tuple #[.agg ((List.replicate 32 (0 : UInt8)).map b8).toArray, vi 0, vi 10] ∧ St w [] w' []) ∨ (1048576 < n ∧ v = .tuple #[.agg ((List.replicate 32 (0 : UInt8)).map b8).toArray, vi 0, vi 5] ∧ St w [] w' []) ∨ ((0 < n ∧ n ≤ 1048576) ∧ v = .tuple #[.agg ((rootL (chLv b)).map b8).toArray, vi (chN n), vi 0] ∧ St w [] w' [])) := by
  refine enter Try.func5 rfl Try.ntmps5 rfl ?_
  have hS := St.refl w []
  refine c_seq ?_; refine c_region ?_; refine wl_exv (x_alloc (C := ((List.replicate 32 (0 : UInt8)).map b8)) hS ti26 rfl) rfl ?_; rintro _ w1 ⟨b2, rfl, hS2⟩; refine wl_val (r_assign (v := .int .i64 0) rfl) rfl ?_; refine wl_val (r_assign (v := .int .i64 0) rfl) rfl ?_; refine wl_nil ?_; refine c_then ?_; refine c_seq ?_; refine c_region ?_; refine wl_val (r_move (v := .slice _ _ _) rfl) rfl ?_; refine wl_call (r_call fn15 rfl rfl) rfl (chunks_ok n c a b _ (hb.st hS2) hl hc) ?_
  rintro _ w3 (⟨hq, rfl, hx4⟩ | ⟨hq, rfl, hx4⟩ | ⟨hq, aP, cP, rfl, hcP, hx4⟩)
  · have hS5 := hS2.ext hx4
    refine wl_val (r_move (v := .tuple _) rfl) rfl ?_; refine wl_val (r_extract (v := .slice _ _ _) rfl rfl) rfl ?_; refine wl_val (r_extract (v := .int .i64 _) rfl rfl) rfl ?_; refine wl_val (r_assign (v := .slice _ _ _) rfl) rfl ?_; refine wl_val (r_assign (v := .int .i64 _) rfl) rfl ?_; refine wl_nil ?_; refine c_then ?_; refine c_seq ?_; refine c_seq ?_; refine c_region ?_; refine wl_val (r_move (v := .int .i64 _) rfl) rfl ?_; refine wl_dec_t (r_neq rfl rfl) rfl (by decide) ?_; refine wl_nil ?_; refine c_then ?_; refine c_true rfl ?_; refine c_seq ?_; refine c_region ?_; refine wl_val (r_build0 (cs := ((List.replicate 32 (0 : UInt8)).map b8)) ti26.und ti26 ti5) rfl ?_; refine wl_val (r_move (v := .int .i64 _) rfl) rfl ?_; refine wl_exs (x_storeW [] hS5 ti26 rfl rfl (by first | (simp [*]; done) | (simp [*] <;> omega) | omega) (by first | (simp [*]; done) | (simp [*] <;> omega) | omega) (by repeat' first | exact one_nil | exact one_b8 _ | exact one_v32 _ | exact one_all rfl | refine one_cons rfl ?_ | refine one_app ?_ ?_)) rfl ?_; intro w6 hS7; simp only [List.cons_append, List.nil_append] at hS7; refine wl_val (r_assign (v := .int .i64 0) rfl) rfl ?_; refine wl_val (r_assign (v := .int .i64 _) rfl) rfl ?_; refine wl_nil ?_; refine c_then ?_; refine wp_ret ?_; refine c_thenR ?_; refine ret3 Try.results5 ⟨_, rfl, run_loadVar_blk ti26 rfl (hS7.heap (.head _)) (by first | (rw [List.length_map]; exact (rootL_len _ hL32 (by omega))) | simp)⟩ rfl rfl ?_
    first | exact .inl ⟨hq, rfl, hS7.fin⟩ | exact .inr (.inl ⟨hq, rfl, hS7.fin⟩) | exact .inr (.inr ⟨hq, rfl, hS7.fin⟩)
  · have hS5 := hS2.ext hx4
    refine wl_val (r_move (v := .tuple _) rfl) rfl ?_; refine wl_val (r_extract (v := .slice _ _ _) rfl rfl) rfl ?_; refine wl_val (r_extract (v := .int .i64 _) rfl rfl) rfl ?_; refine wl_val (r_assign (v := .slice _ _ _) rfl) rfl ?_; refine wl_val (r_assign (v := .int .i64 _) rfl) rfl ?_; refine wl_nil ?_; refine c_then ?_; refine c_seq ?_; refine c_seq ?_; refine c_region ?_; refine wl_val (r_move (v := .int .i64 _) rfl) rfl ?_; refine wl_dec_t (r_neq rfl rfl) rfl (by decide) ?_; refine wl_nil ?_; refine c_then ?_; refine c_true rfl ?_; refine c_seq ?_; refine c_region ?_; refine wl_val (r_build0 (cs := ((List.replicate 32 (0 : UInt8)).map b8)) ti26.und ti26 ti5) rfl ?_; refine wl_val (r_move (v := .int .i64 _) rfl) rfl ?_; refine wl_exs (x_storeW [] hS5 ti26 rfl rfl (by first | (simp [*]; done) | (simp [*] <;> omega) | omega) (by first | (simp [*]; done) | (simp [*] <;> omega) | omega) (by repeat' first | exact one_nil | exact one_b8 _ | exact one_v32 _ | exact one_all rfl | refine one_cons rfl ?_ | refine one_app ?_ ?_)) rfl ?_; intro w8 hS9; simp only [List.cons_append, List.nil_append] at hS9; refine wl_val (r_assign (v := .int .i64 0) rfl) rfl ?_; refine wl_val (r_assign (v := .int .i64 _) rfl) rfl ?_; refine wl_nil ?_; refine c_then ?_; refine wp_ret ?_; refine c_thenR ?_; refine ret3 Try.results5 ⟨_, rfl, run_loadVar_blk ti26 rfl (hS9.heap (.head _)) (by first | (rw [List.length_map]; exact (rootL_len _ hL32 (by omega))) | simp)⟩ rfl rfl ?_
    first | exact .inl ⟨hq, rfl, hS9.fin⟩ | exact .inr (.inl ⟨hq, rfl, hS9.fin⟩) | exact .inr (.inr ⟨hq, rfl, hS9.fin⟩)
  have hS5 := hS2.call hx4
  simp only [List.cons_append, List.nil_append] at hS5; refine wl_val (r_move (v := .tuple _) rfl) rfl ?_; refine wl_val (r_extract (v := .slice _ _ _) rfl rfl) rfl ?_; refine wl_val (r_extract (v := .int .i64 _) rfl rfl) rfl ?_; refine wl_val (r_assign (v := .slice _ _ _) rfl) rfl ?_; refine wl_val (r_assign (v := .int .i64 _) rfl) rfl ?_; refine wl_nil ?_; refine c_then ?_; refine c_seq ?_; refine c_seq ?_; refine c_region ?_; refine wl_val (r_move (v := .int .i64 _) rfl) rfl ?_; refine wl_dec_f (r_neq rfl rfl) rfl (by decide) ?_; refine wl_nil ?_; refine c_then ?_; refine c_false rfl ?_; refine wp_skip ?_; refine c_then ?_; refine c_seq ?_
  have hL32 := chLv_32 b
  have hLl : (chLv b).length = chN n := by rw [chLv_len, hl]
  have hN0 : 0 < chN n ∧ chN n ≤ 1024 := by unfold chN; omega
  refine c_region ?_; refine wl_val (r_move (v := .slice _ _ _) rfl) rfl ?_; refine wl_call (r_call fn17 rfl rfl) rfl (vleaves_ok (chS a c b) _ (chN n) _ _ (St.rowAt hS5 (.head _)) (chS_ok (hb.st hS5) (by rw [hl]; exact hc)) (by rw [chS_len, hl]) (by unfold chN; omega)) ?_; rintro _ w10 ⟨a19, c19, rfl, hc19, hx11⟩
  have hS12 := hS5.call hx11
  simp only [List.cons_append, List.nil_append] at hS12
  rw [chLv_eq] at hS12
  refine wl_call (r_call fn16 rfl rfl) rfl (root_ok (chLv b) _ (chN n) _ _ (St.rowAt hS12 (.head _)) hL32 hLl hc19) ?_
  rintro _ w13 (⟨hz, rfl, hx14⟩ | ⟨hz, rfl, hx14⟩ | ⟨hz, rfl, hx14⟩)
  · exfalso; omega
  · exfalso; omega
  have hS15 := hS12.ext hx14
  refine wl_val (r_move (v := .tuple _) rfl) rfl ?_; refine wl_val (r_extract (v := .agg _) rfl rfl) rfl ?_; refine wl_val (r_extract (v := .int .i64 _) rfl rfl) rfl ?_; refine wl_exv (x_alloc (C := ((List.replicate 32 (0 : UInt8)).map b8)) hS15 ti26 rfl) rfl ?_; rintro _ w16 ⟨b7, rfl, hS17⟩; refine wl_exs (x_storeW [] hS17 ti26 rfl rfl (by rw [List.length_map]; exact (rootL_len _ hL32 (by omega))) (by simp) (one_b8 _)) rfl ?_; intro w18 hS19; simp only [List.cons_append, List.nil_append] at hS19; refine wl_val (r_assign (v := .int .i64 _) rfl) rfl ?_; refine wl_nil ?_; refine c_then ?_; refine c_seq ?_; refine c_region ?_; refine wl_val (r_loadB ti26 rfl rfl (hS19.heap (.head _)) (by rw [List.length_map]; exact (rootL_len _ hL32 (by omega)))) rfl ?_; refine wl_val (r_move (v := .slice _ _ _) rfl) rfl ?_; refine wl_val (r_len (T := 30) rfl ti30.und rfl _ rfl) rfl ?_; refine wl_val (r_move (v := .int .i64 _) rfl) rfl ?_; refine wl_exs (x_storeW [_, _, _] hS19 ti26 rfl rfl (by rw [List.length_map]; exact (rootL_len _ hL32 (by omega))) (by simp) (one_b8 _)) rfl ?_; intro w20 hS21; simp only [List.cons_append, List.nil_append] at hS21; refine wl_val (r_assign (v := .int .i64 _) rfl) rfl ?_; refine wl_val (r_assign (v := .int .i64 _) rfl) rfl ?_; refine wl_nil ?_; refine c_then ?_; refine wp_ret ?_; refine ret3 Try.results5 ⟨_, rfl, run_loadVar_blk ti26 rfl (hS21.heap (.tail _ (.tail _ (.tail _ (.head _))))) (by first | (rw [List.length_map]; exact (rootL_len _ hL32 (by omega))) | simp)⟩ rfl rfl ?_
  first | exact .inl ⟨hq, rfl, hS21.fin⟩ | exact .inr (.inl ⟨hq, rfl, hS21.fin⟩) | exact .inr (.inr ⟨hq, rfl, hS21.fin⟩)

end Go.Proofs.Ytflfocmfdlmjiaa
end
section
namespace Go.Proofs.Ytflfocmfdlmjiaa
open Go.Kw
set_option linter.unusedVariables false
set_option linter.unusedSimpArgs false
set_option maxRecDepth 100000
theorem proveN_ok (l : List (List UInt8)) (a : Option Addr) (n c k : Nat) (w : World) (hb : Row w a (l.flatten.map b8)) (h32 : S32 l) (hl : l.length = n) (hc : n ≤ c) (hk : k < n) (hn : n ≤ 65536) : Ret Try.prog 18 [.slice a n c, vi k] w (fun v w' => ∃ a' c', v = .tuple #[.agg #[vi k, vi n, .slice a' (stepsL k n) c'], vi 0] ∧ stepsL k n ≤ c' ∧ St w [] w' [.row (.slice a' (stepsL k n) c') 26 32 (stepsL k n) ((pathL l k).flatten.map b8)]) := by
  refine (prove_ok l a n c k w hb h32 hl hc (by omega) (by omega)).mono ?_
  rintro v w' (⟨h, _⟩ | ⟨h, _⟩ | ⟨h, _⟩ | ⟨_, h⟩)
  · omega
  · omega
  · omega
  · exact h

set_option maxHeartbeats 1000000 in
theorem chunkV_ok (n c k : Nat) (a : Option Addr) (b : List UInt8) (w : World) (hb : Row w a (b.map b8)) (hl : b.length = n) (hc : n ≤ c) (hk : 0 < n → k < chN n) :
    Ret Try.prog 8 [.slice a n c, vi k] w (fun v w' => (n = 0 ∧ v = .tuple #[.slice none 0 0, .agg #[.int .i64 0, .int .i64 0, .slice none 0 0], vi 10] ∧ St w [] w' []) ∨ (1048576 < n ∧ v = .tuple #[.slice none 0 0, .agg #[.int .i64 0, .int .i64 0, .slice none 0 0], vi 5] ∧ St w [] w' []) ∨ ((0 < n ∧ n ≤ 1048576) ∧ (∃ a1 c1 a2 c2, v = .tuple #[.slice a1 (chL b k).length c1, .agg #[vi k, vi (chN n), .slice a2 (stepsL k (chN n)) c2], vi 0] ∧ ((chL b k).length ≤ c1 ∧ stepsL k (chN n) ≤ c2) ∧ St w [] w' [.row (.slice a1 (chL b k).length c1) 5 1 (chL b k).length ((chL b k).map b8), .row (.slice a2 (stepsL k (chN n)) c2) 26 32 (stepsL k (chN n)) ((pathL (chLv b) k).flatten.map b8)]))) := by
  refine enter Try.func8 rfl Try.ntmps8 rfl ?_
  have hS := St.refl w []
  refine c_seq ?_; refine c_region ?_; refine wl_val (r_assign (v := .slice none 0 0) rfl) rfl ?_; refine wl_exv (x_alloc (C := [.int .i64 0, .int .i64 0, .slice none 0 0]) hS ti37 rfl) rfl ?_; rintro _ w1 ⟨b5, rfl, hS2⟩; refine wl_val (r_assign (v := .int .i64 0) rfl) rfl ?_; refine wl_nil ?_; refine c_then ?_; refine c_seq ?_; refine c_region ?_; refine wl_val (r_move (v := .slice _ _ _) rfl) rfl ?_; refine wl_call (r_call fn15 rfl rfl) rfl (chunks_ok n c a b _ (hb.st hS2) hl hc) ?_
  rintro _ w3 (⟨hq, rfl, hx4⟩ | ⟨hq, rfl, hx4⟩ | ⟨hq, aP, cP, rfl, hcP, hx4⟩)
  · have hS5 := hS2.ext hx4
    refine wl_val (r_move (v := .tuple _) rfl) rfl ?_; refine wl_val (r_extract (v := .slice _ _ _) rfl rfl) rfl ?_; refine wl_val (r_extract (v := .int .i64 _) rfl rfl) rfl ?_; refine wl_val (r_assign (v := .slice _ _ _) rfl) rfl ?_; refine wl_val (r_assign (v := .int .i64 _) rfl) rfl ?_; refine wl_nil ?_; refine c_then ?_; refine c_seq ?_; refine c_seq ?_; refine c_region ?_; refine wl_val (r_move (v := .int .i64 _) rfl) rfl ?_; refine wl_dec_t (r_neq rfl rfl) rfl (by decide) ?_; refine wl_nil ?_; refine c_then ?_; refine c_true rfl ?_; refine c_seq ?_; refine c_region ?_; refine wl_val (r_buildZ pl37 ti37) rfl ?_; refine wl_val (r_move (v := .int .i64 _) rfl) rfl ?_; refine wl_val (r_assign (v := .slice none 0 0) rfl) rfl ?_; refine wl_exs (x_storeW [] hS5 ti37 rfl rfl (by first | (simp [*]; done) | (simp [*] <;> omega) | omega) (by first | (simp [*]; done) | (simp [*] <;> omega) | omega) (by repeat' first | exact one_nil | exact one_b8 _ | exact one_v32 _ | exact one_all rfl | refine one_cons rfl ?_ | refine one_app ?_ ?_)) rfl ?_; intro w6 hS7; simp only [List.cons_append, List.nil_append] at hS7; refine wl_val (r_assign (v := .int .i64 _) rfl) rfl ?_; refine wl_nil ?_; refine c_then ?_; refine wp_ret ?_; refine c_thenR ?_; refine ret3 Try.results8 rfl ⟨_, rfl, run_loadVar_blk ti37 ag37 (hS7.heap (.head _)) (by first | (simp [*]; done) | (simp [*] <;> omega) | omega)⟩ rfl ?_
    first | exact .inl ⟨hq, rfl, hS7.fin⟩ | exact .inr (.inl ⟨hq, rfl, hS7.fin⟩)
  · have hS5 := hS2.ext hx4
    refine wl_val (r_move (v := .tuple _) rfl) rfl ?_; refine wl_val (r_extract (v := .slice _ _ _) rfl rfl) rfl ?_; refine wl_val (r_extract (v := .int .i64 _) rfl rfl) rfl ?_; refine wl_val (r_assign (v := .slice _ _ _) rfl) rfl ?_; refine wl_val (r_assign (v := .int .i64 _) rfl) rfl ?_; refine wl_nil ?_; refine c_then ?_; refine c_seq ?_; refine c_seq ?_; refine c_region ?_; refine wl_val (r_move (v := .int .i64 _) rfl) rfl ?_; refine wl_dec_t (r_neq rfl rfl) rfl (by decide) ?_; refine wl_nil ?_; refine c_then ?_; refine c_true rfl ?_; refine c_seq ?_; refine c_region ?_; refine wl_val (r_buildZ pl37 ti37) rfl ?_; refine wl_val (r_move (v := .int .i64 _) rfl) rfl ?_; refine wl_val (r_assign (v := .slice none 0 0) rfl) rfl ?_; refine wl_exs (x_storeW [] hS5 ti37 rfl rfl (by first | (simp [*]; done) | (simp [*] <;> omega) | omega) (by first | (simp [*]; done) | (simp [*] <;> omega) | omega) (by repeat' first | exact one_nil | exact one_b8 _ | exact one_v32 _ | exact one_all rfl | refine one_cons rfl ?_ | refine one_app ?_ ?_)) rfl ?_; intro w8 hS9; simp only [List.cons_append, List.nil_append] at hS9; refine wl_val (r_assign (v := .int .i64 _) rfl) rfl ?_; refine wl_nil ?_; refine c_then ?_; refine wp_ret ?_; refine c_thenR ?_; refine ret3 Try.results8 rfl ⟨_, rfl, run_loadVar_blk ti37 ag37 (hS9.heap (.head _)) (by first | (simp [*]; done) | (simp [*] <;> omega) | omega)⟩ rfl ?_
    first | exact .inl ⟨hq, rfl, hS9.fin⟩ | exact .inr (.inl ⟨hq, rfl, hS9.fin⟩)
  have hS5 := hS2.call hx4
  simp only [List.cons_append, List.nil_append] at hS5; refine wl_val (r_move (v := .tuple _) rfl) rfl ?_; refine wl_val (r_extract (v := .slice _ _ _) rfl rfl) rfl ?_; refine wl_val (r_extract (v := .int .i64 _) rfl rfl) rfl ?_; refine wl_val (r_assign (v := .slice _ _ _) rfl) rfl ?_; refine wl_val (r_assign (v := .int .i64 _) rfl) rfl ?_; refine wl_nil ?_; refine c_then ?_; refine c_seq ?_; refine c_seq ?_; refine c_region ?_; refine wl_val (r_move (v := .int .i64 _) rfl) rfl ?_; refine wl_dec_f (r_neq rfl rfl) rfl (by decide) ?_; refine wl_nil ?_; refine c_then ?_; refine c_false rfl ?_; refine wp_skip ?_; refine c_then ?_; refine c_seq ?_; refine c_seq ?_
  have hkn := hk (by omega)
  refine c_region ?_; refine wl_val (r_move (v := .int .i64 _) rfl) rfl ?_; refine wl_dec_f (r_lss rfl rfl) rfl (by omega) ?_; refine wl_val (r_move (v := .bool _) rfl) rfl ?_; refine wl_val (r_move (v := .int .i64 _) rfl) rfl ?_; refine wl_val (r_move (v := .slice _ _ _) rfl) rfl ?_; refine wl_val (r_len (T := 30) rfl ti30.und rfl _ rfl) rfl ?_; refine wl_dec_f (r_geq rfl rfl) rfl (by omega) ?_; refine wl_val (r_pick_f rfl (v := .bool _) rfl) rfl ?_; refine wl_nil ?_; refine c_then ?_; refine c_false rfl ?_; refine wp_skip ?_; refine c_then ?_; refine c_seq ?_
  have hL32 := chLv_32 b
  have hLl : (chLv b).length = chN n := by rw [chLv_len, hl]
  have hN0 : 0 < chN n ∧ chN n ≤ 1024 := by unfold chN; omega
  refine c_region ?_; refine wl_val (r_move (v := .slice _ _ _) rfl) rfl ?_; refine wl_call (r_call fn17 rfl rfl) rfl (vleaves_ok (chS a c b) _ (chN n) _ _ (St.rowAt hS5 (.head _)) (chS_ok (hb.st hS5) (by rw [hl]; exact hc)) (by rw [chS_len, hl]) (by unfold chN; omega)) ?_; rintro _ w10 ⟨a30, c30, rfl, hc30, hx11⟩
  have hS12 := hS5.call hx11
  simp only [List.cons_append, List.nil_append] at hS12
  rw [chLv_eq] at hS12
  refine wl_val (r_move (v := .int .i64 _) rfl) rfl ?_; refine wl_call (r_call fn18 rfl rfl) rfl (proveN_ok (chLv b) _ (chN n) _ k _ (St.rowAt hS12 (.head _)) hL32 hLl hc30 hkn (by omega)) ?_; rintro _ w13 ⟨aQ, cQ, rfl, hcQ, hx14⟩
  have hS15 := hS12.call hx14
  simp only [List.cons_append, List.nil_append] at hS15; refine wl_val (r_move (v := .tuple _) rfl) rfl ?_; refine wl_val (r_extract (v := .agg _) rfl rfl) rfl ?_; refine wl_val (r_extract (v := .int .i64 _) rfl rfl) rfl ?_; refine wl_exv (x_alloc (C := [.int .i64 0, .int .i64 0, .slice none 0 0]) hS15 ti37 rfl) rfl ?_; rintro _ w16 ⟨b9, rfl, hS17⟩; refine wl_exs (x_storeW [] hS17 ti37 rfl rfl (by first | (simp [*]; done) | (simp [*] <;> omega) | omega) (by first | (simp [*]; done) | (simp [*] <;> omega) | omega) (by repeat' first | exact one_nil | exact one_b8 _ | exact one_v32 _ | exact one_all rfl | refine one_cons rfl ?_ | refine one_app ?_ ?_)) rfl ?_; intro w18 hS19; simp only [List.cons_append, List.nil_append] at hS19; refine wl_val (r_assign (v := .int .i64 _) rfl) rfl ?_; refine wl_nil ?_; refine c_then ?_; refine c_seq ?_; refine c_seq ?_
  have hP32 : S32 (pathL (chLv b) k) := pathL_32 _ _ _ (Nat.le_refl _) hL32
  refine c_region ?_; refine wl_val (r_move (v := .int .i64 _) rfl) rfl ?_; refine wl_dec_f (r_neq rfl rfl) rfl (by decide) ?_; refine wl_nil ?_; refine c_then ?_; refine c_false rfl ?_; refine wp_skip ?_; refine c_then ?_; refine c_seq ?_
  have hrk := chP_row hb (by rw [hl]; exact hc) k
  have hgk := chS_gt (a := a) (c := c) (b := b) (i := k) (by rw [hl]; exact hkn)
  refine c_drawS 7 hMixed hS19 ?_; intro w20 hS21; refine g_take 0 rfl (by decide +kernel) rfl (fun _ _ _ h => h) hS21 (fun wF hF => r_move (v := .slice _ _ _) rfl) ?_; refine g_take 1 rfl (by decide +kernel) rfl (fun _ _ _ h => h) hS21 (fun wF hF => r_move (v := .int .i64 _) rfl) ?_; refine g_take 2 rfl (by decide +kernel) rfl (fun _ _ _ h => h) hS21 (fun wF hF => r_ixS ti30.und ti22 rfl rfl (St.rowAt hF (.tail _ (.tail _ (.tail _ (.head _))))) hkn (by rw [List.length_map, chS_len, hl]; omega)) ?_; refine g_take 3 rfl (by decide +kernel) rfl (fun _ _ _ h => h) hS21 (fun wF hF => r_loadS1 ti22.und rfl rfl (St.rowAt hF (.tail _ (.tail _ (.tail _ (.head _))))) (chGet (by rw [hl]; exact hkn))) ?_; refine g_take 5 rfl (by decide +kernel) rfl (fun _ _ _ h => h) hS21 (fun wF hF => r_loadB ti37 ag37 rfl (hF.heap (.head _)) (by first | (simp [*]; done) | (simp [*] <;> omega) | omega)) ?_; refine g_one 4 (by decide +kernel) (by decide +kernel) ?_; refine o_call rfl (r_call fn19 rfl rfl) rfl (clone_ok (chL b k) _ _ _ (hrk.st hS21) (by have := chL_le b k; omega)) ?_; rintro _ w22 ⟨aC, cC, rfl, hcC, hx23⟩
  have hS24 := hS21.call hx23
  simp only [List.cons_append, List.nil_append] at hS24
  refine ⟨hS24.drop1, ?_⟩
  refine g_take 6 rfl (by decide +kernel) rfl (fun _ _ _ h => h) hS24.drop1 (fun wF hF => r_assign (v := .slice _ _ _) rfl) ?_; refine g_tail (by decide +kernel) rfl (by decide +kernel) ?_; refine wl_exs (x_storeW [_, _, _, _, _] hS24 ti37 rfl rfl (by first | (simp [*]; done) | (simp [*] <;> omega) | omega) (by first | (simp [*]; done) | (simp [*] <;> omega) | omega) (by repeat' first | exact one_nil | exact one_b8 _ | exact one_v32 _ | exact one_all rfl | refine one_cons rfl ?_ | refine one_app ?_ ?_)) rfl ?_; intro w25 hS26; simp only [List.cons_append, List.nil_append] at hS26; refine wl_val (r_assign (v := .int .i64 0) rfl) rfl ?_; refine wl_nil ?_; refine c_then ?_; refine wp_ret ?_; refine ret3 Try.results8 rfl ⟨_, rfl, run_loadVar_blk ti37 ag37 (hS26.heap (.tail _ (.tail _ (.tail _ (.tail _ (.tail _ (.head _))))))) (by first | (simp [*]; done) | (simp [*] <;> omega) | omega)⟩ rfl ?_
  exact .inr (.inr ⟨hq, _, _, _, _, rfl, ⟨hcC, hcQ⟩, (hS26.perm ((List.Perm.cons _ ((List.Perm.cons _ ((List.Perm.cons _ ((List.Perm.cons _ (List.Perm.refl _)).trans (List.perm_middle (l₁ := [_, _])).symm)).trans (List.perm_middle (l₁ := [_, _])).symm)).trans (List.perm_middle (l₁ := [_, _])).symm)).trans (List.perm_middle (l₁ := [_])).symm)).drop1.drop1.drop1.drop1⟩)

set_option maxHeartbeats 1000000 in
theorem checkChunk_ok (root : List UInt8) (hroot : root.length = 32) (t : List UInt8) (a : Option Addr) (n c : Nat) (ix sz : Int) (pa : Option Addr) (pn pc : Nat) (pl : List (List UInt8)) (w : World) (hb : Row w a (t.map b8)) (hl : t.length = n) (hc : n ≤ c) (hp : Row w pa (pl.flatten.map b8)) (h32 : S32 pl) (hpl : pl.length = pn) (hpc : pn ≤ pc) (hpm : pn ≤ 4398046511104) (hi1 : -9223372036854775808 ≤ ix) (hi2 : ix ≤ 9223372036854775807) (hs1 : -9223372036854775808 ≤ sz) (hs2 : sz ≤ 9223372036854775807) :
    Ret Try.prog 13 [.agg (root.map b8).toArray, .slice a n c, .agg #[.int .i64 ix, .int .i64 sz, .slice pa pn pc]] w (fun v w' => ((n < 1 ∨ 1024 < n) ∧ v = vi 2 ∧ St w [] w' []) ∨ ((1 ≤ n ∧ n ≤ 1024) ∧ v = .int .i64 (provedE root (leafL t) ix sz pl) ∧ St w [] w' [])) := by
  refine enter Try.func13 rfl Try.ntmps13 rfl ?_
  have hS := St.refl w []
  refine c_seq ?_; refine c_region ?_; refine wl_exv (x_box hS (v := .agg _) rfl rfl) rfl ?_; rintro _ w1 ⟨b3, rfl, hS2⟩; refine wl_exv (x_box hS2 (v := .agg _) rfl rfl) rfl ?_; rintro _ w3 ⟨b5, rfl, hS4⟩; refine wl_val (r_assign (v := .int .i64 0) rfl) rfl ?_; refine wl_nil ?_; refine c_then ?_; refine c_seq ?_; refine c_seq ?_; refine c_region ?_; refine wl_val (r_move (v := .slice _ _ _) rfl) rfl ?_; refine wl_val (r_len (T := 22) rfl ti22.und rfl _ rfl) rfl ?_
  refine wl_dec (r_lss rfl rfl) rfl (fun h1_2 => ?_) (fun h1_2 => ?_)
  · refine wl_val (r_move (v := .bool _) rfl) rfl ?_
    refine wl_not rfl ?_; refine wl_not rfl ?_; refine wl_not rfl ?_; refine wl_val (r_pick_t rfl (v := .bool true) rfl) rfl ?_; refine wl_nil ?_; refine c_then ?_; refine c_true rfl ?_; refine c_seq ?_; refine c_region ?_; refine wl_val (r_assign (v := .int .i64 2) rfl) rfl ?_; refine wl_nil ?_; refine c_then ?_; refine wp_ret ?_; refine c_thenR ?_; refine ret1 Try.results13 ?_
    first | exact .inl ⟨by omega, rfl, hS4.fin⟩ | exact .inr ⟨by omega, rfl, hS4.fin⟩
  refine wl_val (r_move (v := .bool _) rfl) rfl ?_; refine wl_val (r_move (v := .slice _ _ _) rfl) rfl ?_; refine wl_val (r_len (T := 22) rfl ti22.und rfl _ rfl) rfl ?_
  refine wl_dec (r_gtr rfl rfl) rfl (fun h1_6 => ?_) (fun h1_6 => ?_)
  · refine wl_val (r_pick_f rfl (v := .bool _) rfl) rfl ?_
    refine wl_nil ?_; refine c_then ?_; refine c_true rfl ?_; refine c_seq ?_; refine c_region ?_; refine wl_val (r_assign (v := .int .i64 2) rfl) rfl ?_; refine wl_nil ?_; refine c_then ?_; refine wp_ret ?_; refine c_thenR ?_; refine ret1 Try.results13 ?_
    first | exact .inl ⟨by omega, rfl, hS4.fin⟩ | exact .inr ⟨by omega, rfl, hS4.fin⟩
  refine wl_val (r_pick_f rfl (v := .bool _) rfl) rfl ?_; refine wl_nil ?_; refine c_then ?_; refine c_false rfl ?_; refine wp_skip ?_; refine c_then ?_; refine c_seq ?_; refine c_region ?_; refine wl_val (r_move (v := .slice _ _ _) rfl) rfl ?_; refine wl_call (r_call fn23 rfl rfl) rfl (leaf_ok t _ _ _ _ (hb.st hS4) hl hc (by omega)) ?_; rintro _ w5 ⟨rfl, hx6⟩
  have hS7 := hS4.ext hx6
  refine wl_val (r_move (v := .tuple _) rfl) rfl ?_; refine wl_val (r_extract (v := .agg _) rfl rfl) rfl ?_; refine wl_val (r_extract (v := .int .i64 _) rfl rfl) rfl ?_; refine wl_exv (x_alloc (C := ((List.replicate 32 (0 : UInt8)).map b8)) hS7 ti26 rfl) rfl ?_; rintro _ w8 ⟨b7, rfl, hS9⟩; refine wl_exs (x_storeW [] hS9 ti26 rfl rfl (by first | (simp [*]; done) | (simp [*] <;> omega) | omega) (by first | (simp [*]; done) | (simp [*] <;> omega) | omega) (by repeat' first | exact one_nil | exact one_b8 _ | exact one_v32 _ | exact one_all rfl | refine one_cons rfl ?_ | refine one_app ?_ ?_)) rfl ?_; intro w10 hS11; simp only [List.cons_append, List.nil_append] at hS11; refine wl_val (r_assign (v := .int .i64 _) rfl) rfl ?_; refine wl_nil ?_; refine c_then ?_; refine c_seq ?_; refine c_seq ?_; refine c_region ?_; refine wl_val (r_move (v := .int .i64 _) rfl) rfl ?_; refine wl_dec_f (r_neq rfl rfl) rfl (by decide) ?_; refine wl_nil ?_; refine c_then ?_; refine c_false rfl ?_; refine wp_skip ?_; refine c_then ?_; refine c_seq ?_; refine c_region ?_; refine wl_val (r_loadB ti26 rfl rfl (hS11.heap (.tail _ (.tail _ (.head _)))) (by rw [List.length_map]; exact hroot)) rfl ?_; refine wl_val (r_loadB ti26 rfl rfl (hS11.heap (.head _)) (by first | (simp [*]; done) | (simp [*] <;> omega) | omega)) rfl ?_; refine wl_val (r_loadB ti37 ag37 rfl (hS11.heap (.tail _ (.head _))) (by first | (simp [*]; done) | (simp [*] <;> omega) | omega)) rfl ?_; refine wl_call (r_call fn24 rfl rfl) rfl (proved_n root (leafL t) ix sz pa pn pc pl _ hroot (leafL_len _) (hp.st hS11) h32 hpl hpc hpm hi1 hi2 hs1 hs2) ?_
  rintro _ w12 ⟨rfl, hx13⟩
  have hS14 := hS11.ext hx13
  refine wl_val (r_assign (v := .int .i64 _) rfl) rfl ?_; refine wl_nil ?_; refine c_then ?_; refine wp_ret ?_; refine ret1 Try.results13 ?_
  first | exact .inl ⟨by omega, rfl, hS14.fin⟩ | exact .inr ⟨by omega, rfl, hS14.fin⟩

end Go.Proofs.Ytflfocmfdlmjiaa
end
section
namespace Go.Proofs.Ytflfocmfdlmjiaa
open Go.Kw
set_option linter.unusedVariables false
set_option linter.unusedSimpArgs false
set_option maxRecDepth 100000
set_option maxHeartbeats 4000000 in
theorem assemble_ok (b : List UInt8) (N : Nat) (ps : List Piece) (qs : List PfD) (ix : Nat → Nat) (a1 a2 : Option Addr) (m c1 c2 : Nat) (w : World) (h1 : Row w a1 (ps.map Piece.v)) (h2 : Row w a2 (qs.flatMap PfD.v)) (l1 : ps.length = m) (l2 : qs.length = m) (hix : ∀ j, j < m → ix j < N) (hp : ∀ j, j < m → GoodP w b (ix j) (gt ps j)) (hq : ∀ j, j < m → GoodQ w b N (ix j) (gt qs j)) (hall : ∀ i, i < N → ∃ j, j < m ∧ ix j = i) (hN : N = chN b.length) (h0 : 0 < N) (hN1 : N ≤ 1024) (hm : m ≤ 1099511627776) :
    Ret Try.prog 9 [.agg ((rootL (chLv b)).map b8).toArray, vi N, .slice a1 m c1, .slice a2 m c2] w (fun v w' => ∃ a' c', v = .tuple #[.slice a' b.length c', vi 0] ∧ St w [] w' [.row (.slice a' b.length c') 5 1 b.length ((b).map b8)]) := by
  have hL32 := chLv_32 b
  have hLl : (chLv b).length = N := by rw [chLv_len, hN]
  have hRl : (rootL (chLv b)).length = 32 := rootL_len _ hL32 (by omega)
  have hbN : b.length ≤ 1048576 := by unfold chN at hN; omega
  refine enter Try.func9 rfl Try.ntmps9 rfl ?_
  have hS := St.refl w []
  refine c_seq ?_; refine c_region ?_; refine wl_exv (x_box hS (v := .agg _) rfl rfl) rfl ?_; rintro _ w1 ⟨b4, rfl, hS2⟩; refine wl_val (r_assign (v := .slice none 0 0) rfl) rfl ?_; refine wl_val (r_assign (v := .int .i64 0) rfl) rfl ?_; refine wl_nil ?_; refine c_then ?_; refine c_seq ?_; refine c_seq ?_; refine c_region ?_; refine wl_val (r_move (v := .int .i64 _) rfl) rfl ?_; refine wl_dec_f (r_lss rfl rfl) rfl (by omega) ?_; refine wl_val (r_move (v := .bool _) rfl) rfl ?_; refine wl_val (r_move (v := .int .i64 _) rfl) rfl ?_; refine wl_dec_f (r_gtr rfl rfl) rfl (by omega) ?_; refine wl_val (r_pick_f rfl (v := .bool _) rfl) rfl ?_; refine wl_nil ?_; refine c_then ?_; refine c_false rfl ?_; refine wp_skip ?_; refine c_then ?_; refine c_seq ?_; refine c_seq ?_; refine c_region ?_; refine wl_val (r_move (v := .slice _ _ _) rfl) rfl ?_; refine wl_val (r_len (T := 30) rfl ti30.und rfl _ rfl) rfl ?_; refine wl_val (r_move (v := .slice _ _ _) rfl) rfl ?_; refine wl_val (r_len (T := 31) rfl ti31.und rfl _ rfl) rfl ?_; refine wl_dec_f (r_neq rfl rfl) rfl (not_not_intro rfl) ?_; refine wl_nil ?_; refine c_then ?_; refine c_false rfl ?_; refine wp_skip ?_; refine c_then ?_; refine c_seq ?_; refine c_region ?_; refine wl_exv (x_makeI hS2) rfl ?_; rintro _ w3 ⟨b29, rfl, hS4⟩; refine wl_val (r_assign (v := .map _) rfl) rfl ?_; refine wl_nil ?_; refine c_then ?_; refine c_seq ?_; refine c_seq ?_; refine c_region ?_; refine wl_val (r_move (v := .slice _ _ _) rfl) rfl ?_; refine wl_val (r_len (T := 30) rfl ti30.und rfl _ rfl) rfl ?_
  refine wl_val (r_move (v := .int .i64 0) rfl) rfl ?_; refine wl_nil ?_; refine c_then ?_; refine c_block ?_
  obtain ⟨LT5, hLT5, hS6⟩ := St.frame [_] [_] hS4
  simp only [List.cons_append, List.nil_append] at hS6
  have hm5_b4 := inL hLT5 (.head _)
  refine c_loopE [1, 3, 4, 10, 30, 31] (fun d e w' => ∃ (j : Nat) (E : List IE) (clk : Nat), Kw.look e 32 = vi j ∧ d = m - j ∧ St w [] w' (.blk b29 (iobj E clk) :: LT5) ∧ (j ≤ m) ∧ (GoodE w b N E) ∧ (∀ i, i < j → ∃ x ∈ E, x.k = ix i)) (m - 0) ?_ ?_
  · exact ⟨0, [], 0, rfl, rfl, hS6, Nat.zero_le _, GoodE.nil, fun i h => absurd h (Nat.not_lt_zero _)⟩
  · rintro d10 e7 w8 ⟨j, E, clk, hc0_32, rfl, hS9, hj, hE, hkeys⟩ -
    refine c_set (d := 32) hc0_32 ?_; refine c_seq ?_; refine c_region ?_
    refine wl_dec (r_lss rfl rfl) rfl (fun h7_0 => ?_) (fun h7_0 => ?_)
    · refine wl_nil ?_
      refine c_then ?_; refine c_seq ?_; refine c_true rfl ?_; refine wp_skip ?_; refine c_then ?_; refine c_seq ?_; refine c_block ?_; refine c_seq ?_
      have hpj := hp j (by omega)
      have hqj := hq j (by omega)
      have hij := hix j (by omega)
      have hpr := hpj.row
      refine c_region ?_; refine wl_val (r_move (v := .int .i64 _) rfl) rfl ?_; refine wl_val (r_ixS ti30.und ti22 rfl rfl (h1.st hS9) (by first | omega | (simp [*]; done) | (simp [*] <;> omega)) (by first | (simp [*]; done) | (simp [*] <;> omega) | omega)) rfl ?_; refine wl_val (r_loadS1 ti22.und rfl rfl (h1.st hS9) (by rw [Nat.mul_one]; exact map_gt _ _ _ (by first | omega | (simp [*]; done) | (simp [*] <;> omega)))) rfl ?_; refine wl_val (r_assign (v := .int .i64 _) rfl) rfl ?_; refine wl_val (r_assign (v := .slice _ _ _) rfl) rfl ?_; refine wl_nil ?_; refine c_then ?_; refine c_seq ?_; refine c_seq ?_; refine c_region ?_; refine wl_val (r_move (v := .slice _ _ _) rfl) rfl ?_; refine wl_val (r_move (v := .int .i64 _) rfl) rfl ?_; refine wl_val (r_ixF PfD.len ti31.und ti37 rfl rfl (h2.st hS9) (by first | (simp [*]; done) | (simp [*] <;> omega) | omega) (by first | omega | (simp [*]; done) | (simp [*] <;> omega)) (by decide)) rfl ?_; refine wl_val (r_fieldF PfD.len fa37_1 rfl (h2.st hS9) (by first | omega | (simp [*]; done) | (simp [*] <;> omega)) (by decide)) rfl ?_; refine wl_val (r_loadFF (off := 1) PfD.len ti3.und rfl rfl (h2.st hS9) (by first | omega | (simp [*]; done) | (simp [*] <;> omega)) (by decide) rfl) rfl ?_; refine wl_val (r_move (v := .int .i64 _) rfl) rfl ?_; refine wl_dec_f (r_neq rfl rfl) rfl (not_not_intro hqj.sz) ?_; refine wl_nil ?_; refine c_then ?_; refine c_false rfl ?_; refine wp_skip ?_; refine c_then ?_; refine c_seq ?_; refine c_seq ?_
      have hP32 : S32 (pathL (chLv b) (ix j)) := pathL_32 _ _ _ (Nat.le_refl _) hL32
      have hPl : (pathL (chLv b) (ix j)).length = (gt qs j).n := by rw [hqj.n]; exact pathL_len _ _ _ N (by omega) hLl
      have hsl := steps_le N (ix j) N (Nat.le_refl _)
      have hxl : 1 ≤ (gt ps j).xs.length ∧ (gt ps j).xs.length ≤ 1024 := by rw [hpj.xs]; have := chL_le b (ix j); have := chL_pos (b := b) (k := ix j) (by omega); omega
      have e0 := good_proved hpj hqj hN hij (by omega)
      have hqn := hqj.n
      have hqi := hqj.ix
      have hqz := hqj.sz
      refine c_drawS 6 hMixed hS9 ?_; intro w11 hS12; refine g_take 0 rfl (by decide +kernel) rfl (fun _ _ _ h => h) hS12 (fun wF hF => r_loadB ti26 rfl rfl (hF.heap (.tail _ hm5_b4)) (by first | (simp [*]; done) | (simp [*] <;> omega) | omega)) ?_; refine g_take 1 rfl (by decide +kernel) rfl (fun _ _ _ h => h) hS12 (fun wF hF => r_move (v := .slice _ _ _) rfl) ?_; refine g_take 2 rfl (by decide +kernel) rfl (fun _ _ _ h => h) hS12 (fun wF hF => r_move (v := .slice _ _ _) rfl) ?_; refine g_take 3 rfl (by decide +kernel) rfl (fun _ _ _ h => h) hS12 (fun wF hF => r_move (v := .int .i64 _) rfl) ?_; refine g_take 4 rfl (by decide +kernel) rfl (fun _ _ _ h => h) hS12 (fun wF hF => r_ixF PfD.len ti31.und ti37 rfl rfl (h2.st hF) (by first | (simp [*]; done) | (simp [*] <;> omega) | omega) (by first | omega | (simp [*]; done) | (simp [*] <;> omega)) (by decide)) ?_; refine g_take 5 rfl (by decide +kernel) rfl (fun _ _ _ h => h) hS12 (fun wF hF => r_loadF PfD.len ti37 ag37 rfl (h2.st hF) (by first | omega | (simp [*]; done) | (simp [*] <;> omega)) (by decide)) ?_; refine g_tail (by decide +kernel) rfl (by decide +kernel) ?_; refine wl_call (r_call fn13 rfl rfl) rfl (checkChunk_ok (rootL (chLv b)) hRl (gt ps j).xs _ _ _ (gt qs j).ix (gt qs j).sz (gt qs j).a (gt qs j).n (gt qs j).c (pathL (chLv b) (ix j)) _ (hpj.row.st hS12) rfl hpj.cap (hqj.row.st hS12) hP32 hPl hqj.cap (by omega) (by omega) (by omega) (by omega) (by omega)) ?_
      rintro _ w13 (⟨hz, rfl, hx14⟩ | ⟨hz, rfl, hx14⟩)
      · exfalso; omega
      have hS15 := hS12.ext hx14
      refine wl_val (r_assign (v := .int .i64 _) rfl) rfl ?_; refine wl_nil ?_; refine c_then ?_; refine c_seq ?_; refine c_region ?_; refine wl_val (r_move (v := .int .i64 _) rfl) rfl ?_; refine wl_dec_f (r_neq rfl rfl) rfl (not_not_intro e0) ?_; refine wl_nil ?_; refine c_then ?_; refine c_false rfl ?_; refine wp_skip ?_; refine c_then ?_; refine c_seq ?_; refine c_seq ?_; refine c_region ?_; refine wl_val (r_move (v := .map _) rfl) rfl ?_; refine wl_val (r_move (v := .slice _ _ _) rfl) rfl ?_; refine wl_val (r_move (v := .int .i64 _) rfl) rfl ?_; refine wl_val (r_ixF PfD.len ti31.und ti37 rfl rfl (h2.st hS15) (by first | (simp [*]; done) | (simp [*] <;> omega) | omega) (by first | omega | (simp [*]; done) | (simp [*] <;> omega)) (by decide)) rfl ?_; refine wl_val (r_fieldF PfD.len fa37_0 rfl (h2.st hS15) (by first | omega | (simp [*]; done) | (simp [*] <;> omega)) (by decide)) rfl ?_; refine wl_val (r_loadFF (off := 0) (v := vi (ix j)) PfD.len ti3.und rfl rfl (h2.st hS15) (by omega) (by decide) (congrArg some (congrArg (Value.int .i64) hqj.ix))) rfl ?_; refine wl_exv (r_lookI ti56.und ti3.und ti22 rfl rfl (hS15.heap (.head _))) rfl ?_
      rintro _ w16 ⟨rfl, ⟨rfl, hno⟩ | ⟨sE, hsE, hsk, rfl⟩⟩
      · refine wl_val (r_move (v := .tuple _) rfl) rfl ?_
        refine wl_val (r_extract (v := .slice _ _ _) rfl rfl) rfl ?_; refine wl_val (r_extract (v := .bool _) rfl rfl) rfl ?_; refine wl_val (r_assign (v := .slice _ _ _) rfl) rfl ?_; refine wl_val (r_assign (v := .bool _) rfl) rfl ?_; refine wl_nil ?_; refine c_then ?_; refine c_seq ?_; refine c_region ?_; refine wl_val (r_move (v := .bool _) rfl) rfl ?_; refine wl_val (r_move (v := .bool _) rfl) rfl ?_; refine wl_not rfl ?_; refine wl_not rfl ?_; refine wl_not rfl ?_; refine wl_not rfl ?_; refine wl_val (r_pick_f rfl (v := .bool false) rfl) rfl ?_; refine wl_nil ?_; refine c_then ?_; refine c_false rfl ?_; refine wp_skip ?_; refine c_then ?_; refine c_region ?_; refine wl_val (r_move (v := .map _) rfl) rfl ?_; refine wl_val (r_move (v := .slice _ _ _) rfl) rfl ?_; refine wl_val (r_move (v := .int .i64 _) rfl) rfl ?_; refine wl_val (r_ixF PfD.len ti31.und ti37 rfl rfl (h2.st hS15) (by first | (simp [*]; done) | (simp [*] <;> omega) | omega) (by first | omega | (simp [*]; done) | (simp [*] <;> omega)) (by decide)) rfl ?_; refine wl_val (r_fieldF PfD.len fa37_0 rfl (h2.st hS15) (by first | omega | (simp [*]; done) | (simp [*] <;> omega)) (by decide)) rfl ?_; refine wl_val (r_loadFF (off := 0) (v := vi (ix j)) PfD.len ti3.und rfl rfl (h2.st hS15) (by omega) (by decide) (congrArg some (congrArg (Value.int .i64) hqj.ix))) rfl ?_; refine wl_val (r_move (v := .slice _ _ _) rfl) rfl ?_; refine wl_exs (x_putI (p := gt ps j) [] hS15 ti56.und ti3.und rfl rfl rfl) rfl ?_
        rintro w17 ⟨E2, clk2, hput, hS18⟩
        simp only [List.cons_append, List.nil_append] at hS18; refine wl_nil ?_; refine c_inN ?_; refine c_then ?_; refine c_region ?_; refine wl_val (r_addn (b := 1) rfl rfl (by omega)) rfl ?_; refine wl_val (r_move (v := .int .i64 _) rfl) rfl ?_; refine wl_nil ?_; refine c_then ?_
        exact ⟨m - (j + 1), _, by omega, rfl, ⟨j + 1, E2, clk2, rfl, rfl, hS18, by omega, hE.put hput hij hpj, hput.keys hkeys rfl⟩, ⟨rfl, rfl, rfl, rfl, rfl, rfl, trivial⟩⟩
      have hsg := (hE sE hsE).2
      rw [hsk] at hsg
      have hsr := hsg.row.st hS15
      refine wl_val (r_move (v := .tuple _) rfl) rfl ?_; refine wl_val (r_extract (v := .slice _ _ _) rfl rfl) rfl ?_; refine wl_val (r_extract (v := .bool _) rfl rfl) rfl ?_; refine wl_val (r_assign (v := .slice _ _ _) rfl) rfl ?_; refine wl_val (r_assign (v := .bool _) rfl) rfl ?_; refine wl_nil ?_; refine c_then ?_; refine c_seq ?_; refine c_region ?_; refine wl_val (r_move (v := .bool _) rfl) rfl ?_; refine wl_val (r_move (v := .bool _) rfl) rfl ?_; refine wl_val (r_move (v := .slice _ _ _) rfl) rfl ?_; refine wl_val (r_move (v := .slice _ _ _) rfl) rfl ?_; refine wl_call (r_call fn10 rfl rfl) rfl (equal_t sE.p.xs (gt ps j).xs _ _ _ _ _ _ _ hsr (hpr.st hS15) (by first | (simp [*]; done) | (simp [*] <;> omega) | omega) (by first | (simp [*]; done) | (simp [*] <;> omega) | omega) (by rw [hsg.xs, hpj.xs])) ?_; rintro _ w19 ⟨rfl, hx20⟩
      have hS21 := hS15.ext hx20
      refine wl_val (r_not rfl) rfl ?_; refine wl_val (r_pick_t rfl (v := .bool _) rfl) rfl ?_; refine wl_nil ?_; refine c_then ?_; refine c_false rfl ?_; refine wp_skip ?_; refine c_then ?_; refine c_region ?_; refine wl_val (r_move (v := .map _) rfl) rfl ?_; refine wl_val (r_move (v := .slice _ _ _) rfl) rfl ?_; refine wl_val (r_move (v := .int .i64 _) rfl) rfl ?_; refine wl_val (r_ixF PfD.len ti31.und ti37 rfl rfl (h2.st hS21) (by first | (simp [*]; done) | (simp [*] <;> omega) | omega) (by first | omega | (simp [*]; done) | (simp [*] <;> omega)) (by decide)) rfl ?_; refine wl_val (r_fieldF PfD.len fa37_0 rfl (h2.st hS21) (by first | omega | (simp [*]; done) | (simp [*] <;> omega)) (by decide)) rfl ?_; refine wl_val (r_loadFF (off := 0) (v := vi (ix j)) PfD.len ti3.und rfl rfl (h2.st hS21) (by omega) (by decide) (congrArg some (congrArg (Value.int .i64) hqj.ix))) rfl ?_; refine wl_val (r_move (v := .slice _ _ _) rfl) rfl ?_; refine wl_exs (x_putI (p := gt ps j) [] hS21 ti56.und ti3.und rfl rfl rfl) rfl ?_
      rintro w22 ⟨E2, clk2, hput, hS23⟩
      simp only [List.cons_append, List.nil_append] at hS23; refine wl_nil ?_; refine c_inN ?_; refine c_then ?_; refine c_region ?_; refine wl_val (r_addn (b := 1) rfl rfl (by omega)) rfl ?_; refine wl_val (r_move (v := .int .i64 _) rfl) rfl ?_; refine wl_nil ?_; refine c_then ?_
      exact ⟨m - (j + 1), _, by omega, rfl, ⟨j + 1, E2, clk2, rfl, rfl, hS23, by omega, hE.put hput hij hpj, hput.keys hkeys rfl⟩, ⟨rfl, rfl, rfl, rfl, rfl, rfl, trivial⟩⟩
    refine wl_nil ?_; refine c_then ?_; refine c_seq ?_; refine c_false rfl ?_; refine wp_exit ?_; refine c_thenE ?_; refine c_thenE ?_; refine c_inE ?_; refine c_then ?_; refine c_seq ?_; refine c_seq ?_
    have hkeyN : ∀ i, i < N → ∃ s ∈ E, s.k = i := fun i hi => by obtain ⟨j', hj', rfl⟩ := hall i hi; exact hkeys j' (by omega)
    have hlen := all_keys hkeyN
    refine c_region ?_; refine wl_val (r_move (v := .map _) rfl) rfl ?_; refine wl_val (r_lenI (T := 56) rfl ti56.und rfl (hS9.heap (.head _)) _ rfl) rfl ?_; refine wl_val (r_move (v := .int .i64 _) rfl) rfl ?_; refine wl_dec_f (r_lss rfl rfl) rfl (by omega) ?_; refine wl_nil ?_; refine c_then ?_; refine c_false rfl ?_; refine wp_skip ?_; refine c_then ?_; refine c_seq ?_; refine c_region ?_; refine wl_val (r_assign (v := .slice none 0 0) rfl) rfl ?_; refine wl_nil ?_; refine c_then ?_; refine c_seq ?_; refine c_seq ?_; refine c_region ?_; refine wl_val (r_move (v := .int .i64 _) rfl) rfl ?_; refine wl_val (r_move (v := .int .i64 0) rfl) rfl ?_; refine wl_nil ?_; refine c_then ?_; refine c_block ?_
    obtain ⟨LT24, hLT24, hS25⟩ := St.frame [] (_ :: _) hS9
    simp only [List.cons_append, List.nil_append] at hS25
    have hm24_b29 := inL hLT24 (.head _)
    have hm24_b4 := inL hLT24 (.tail _ hm5_b4)
    refine c_loopE [1, 10, 83] (fun d e w' => ∃ (k : Nat) (a16 : Option Addr) (c16 : Nat), Kw.look e 84 = vi k ∧ Kw.look e 16 = .slice a16 (b.take (1024 * k)).length c16 ∧ d = N - k ∧ St w [] w' (.row (.slice a16 (b.take (1024 * k)).length c16) 5 1 (b.take (1024 * k)).length ((b.take (1024 * k)).map b8) :: LT24) ∧ (k ≤ N)) (N - 0) ?_ ?_
    · exact ⟨0, none, 0, rfl, rfl, rfl, hS25.nilRow, Nat.zero_le _⟩
    · rintro d29 e26 w27 ⟨k, a16, c16, hc1_84, hc1_16, rfl, hS28, hk⟩ -
      refine c_set (d := 84) hc1_84 ?_; refine c_set (d := 16) hc1_16 ?_; refine c_seq ?_; refine c_region ?_
      refine wl_dec (r_lss rfl rfl) rfl (fun h23_0 => ?_) (fun h23_0 => ?_)
      · refine wl_nil ?_
        refine c_then ?_; refine c_seq ?_; refine c_true rfl ?_; refine wp_skip ?_; refine c_then ?_; refine c_seq ?_; refine c_block ?_; refine c_seq ?_; refine c_region ?_; refine wl_val (r_move (v := .int .i64 _) rfl) rfl ?_; refine wl_val (r_assign (v := .int .i64 _) rfl) rfl ?_; refine wl_nil ?_; refine c_then ?_; refine c_seq ?_; refine c_seq ?_
        have hcl := chL_le b k
        have htk := List.length_take (i := 1024 * k) (l := b)
        refine c_region ?_; refine wl_val (r_move (v := .int .i64 _) rfl) rfl ?_; refine wl_val (r_move (v := .int .i64 _) rfl) rfl ?_; refine wl_val (r_subn (b := 1) rfl rfl (by omega) (by omega)) rfl ?_
        refine wl_dec (r_lss rfl rfl) rfl (fun h25_3 => ?_) (fun h25_3 => ?_)
        · refine wl_val (r_move (v := .bool _) rfl) rfl ?_
          refine wl_val (r_move (v := .map _) rfl) rfl ?_; refine wl_val (r_move (v := .int .i64 _) rfl) rfl ?_; refine wl_exv (r_lookI1 ti56.und ti3.und rfl rfl (hS28.heap (.tail _ hm24_b29)) (hkeyN k (by omega))) rfl ?_; rintro _ w30 ⟨rfl, sx, hsx, hkx, rfl⟩
          have hgx := (hE sx hsx).2
          rw [hkx] at hgx
          have hrx := hgx.row
          have hlx : sx.p.xs.length = 1024 := by rw [hgx.xs]; exact chL_full (by omega)
          refine wl_val (r_len (T := 22) rfl ti22.und rfl _ rfl) rfl ?_; refine wl_dec_f (r_neq rfl rfl) rfl (by omega) ?_; refine wl_val (r_pick_t rfl (v := .bool _) rfl) rfl ?_; refine wl_nil ?_; refine c_then ?_; refine c_false rfl ?_; refine wp_skip ?_; refine c_then ?_; refine c_region ?_; refine wl_val (r_move (v := .slice _ _ _) rfl) rfl ?_; refine wl_val (r_move (v := .map _) rfl) rfl ?_; refine wl_val (r_move (v := .int .i64 _) rfl) rfl ?_; refine wl_exv (r_lookI1 ti56.und ti3.und rfl rfl (hS28.heap (.tail _ hm24_b29)) (hkeyN k (by omega))) rfl ?_; rintro _ w31 ⟨rfl, sy, hsy, hky, rfl⟩
          have hgy := (hE sy hsy).2
          rw [hky] at hgy
          have hry := hgy.row
          have hly : sy.p.xs.length ≤ 1024 := by rw [hgy.xs]; exact hcl
          refine wl_exv (x_append [] hS28 ti22.und ti5 rfl (by decide) rfl rfl (hry.st hS28) (by first | (simp [*]; done) | (simp [*] <;> omega) | omega) (by first | exact one_b8 _ | exact one_v32 _ | (intro c hc; simp only [List.mem_cons, List.not_mem_nil, or_false] at hc; (first | subst hc | rcases hc with rfl | rfl) <;> rfl)) (by first | omega | (simp [*]; done) | (simp [*] <;> omega)) (by first | omega | (simp [*]; done) | (simp [*] <;> omega)) _ rfl) rfl ?_; rintro _ w32 ⟨aq34, cq34, rfl, hcq34, hS33⟩; simp only [List.cons_append, List.nil_append] at hS33; refine wl_val (r_assign (v := .slice _ _ _) rfl) rfl ?_; refine wl_nil ?_; refine c_inN ?_; refine c_then ?_; refine c_region ?_; refine wl_val (r_addn (b := 1) rfl rfl (by omega)) rfl ?_; refine wl_val (r_move (v := .int .i64 _) rfl) rfl ?_; refine wl_nil ?_; refine c_then ?_
          have eC : (b.take (1024 * k)).map b8 ++ sy.p.xs.map b8 = (b.take (1024 * (k + 1))).map b8 := by rw [hgy.xs, ← List.map_append, chL_join]
          have eN : (b.take (1024 * (k + 1))).length = (b.take (1024 * k)).length + sy.p.xs.length := by rw [← chL_join, List.length_append, hgy.xs]
          have hQ := St.reRow1 hS33 eN eC
          exact ⟨N - (k + 1), _, by omega, rfl, ⟨k + 1, aq34, cq34, rfl, (by rw [eN]; rfl), rfl, hQ, by omega⟩, ⟨rfl, rfl, rfl, trivial⟩⟩
        refine wl_val (r_move (v := .bool _) rfl) rfl ?_; refine wl_not rfl ?_; refine wl_not rfl ?_; refine wl_not rfl ?_; refine wl_not rfl ?_; refine wl_not rfl ?_; refine wl_val (r_pick_f rfl (v := .bool false) rfl) rfl ?_; refine wl_nil ?_; refine c_then ?_; refine c_false rfl ?_; refine wp_skip ?_; refine c_then ?_; refine c_region ?_; refine wl_val (r_move (v := .slice _ _ _) rfl) rfl ?_; refine wl_val (r_move (v := .map _) rfl) rfl ?_; refine wl_val (r_move (v := .int .i64 _) rfl) rfl ?_; refine wl_exv (r_lookI1 ti56.und ti3.und rfl rfl (hS28.heap (.tail _ hm24_b29)) (hkeyN k (by omega))) rfl ?_; rintro _ w35 ⟨rfl, sy, hsy, hky, rfl⟩
        have hgy := (hE sy hsy).2
        rw [hky] at hgy
        have hry := hgy.row
        have hly : sy.p.xs.length ≤ 1024 := by rw [hgy.xs]; exact hcl
        refine wl_exv (x_append [] hS28 ti22.und ti5 rfl (by decide) rfl rfl (hry.st hS28) (by first | (simp [*]; done) | (simp [*] <;> omega) | omega) (by first | exact one_b8 _ | exact one_v32 _ | (intro c hc; simp only [List.mem_cons, List.not_mem_nil, or_false] at hc; (first | subst hc | rcases hc with rfl | rfl) <;> rfl)) (by first | omega | (simp [*]; done) | (simp [*] <;> omega)) (by first | omega | (simp [*]; done) | (simp [*] <;> omega)) _ rfl) rfl ?_; rintro _ w36 ⟨aq38, cq38, rfl, hcq38, hS37⟩; simp only [List.cons_append, List.nil_append] at hS37; refine wl_val (r_assign (v := .slice _ _ _) rfl) rfl ?_; refine wl_nil ?_; refine c_inN ?_; refine c_then ?_; refine c_region ?_; refine wl_val (r_addn (b := 1) rfl rfl (by omega)) rfl ?_; refine wl_val (r_move (v := .int .i64 _) rfl) rfl ?_; refine wl_nil ?_; refine c_then ?_
        have eC : (b.take (1024 * k)).map b8 ++ sy.p.xs.map b8 = (b.take (1024 * (k + 1))).map b8 := by rw [hgy.xs, ← List.map_append, chL_join]
        have eN : (b.take (1024 * (k + 1))).length = (b.take (1024 * k)).length + sy.p.xs.length := by rw [← chL_join, List.length_append, hgy.xs]
        have hQ := St.reRow1 hS37 eN eC
        exact ⟨N - (k + 1), _, by omega, rfl, ⟨k + 1, aq38, cq38, rfl, (by rw [eN]; rfl), rfl, hQ, by omega⟩, ⟨rfl, rfl, rfl, trivial⟩⟩
      refine wl_nil ?_; refine c_then ?_; refine c_seq ?_; refine c_false rfl ?_; refine wp_exit ?_; refine c_thenE ?_; refine c_thenE ?_; refine c_inE ?_; refine c_then ?_; refine c_seq ?_; refine c_region ?_; refine wl_val (r_move (v := .slice _ _ _) rfl) rfl ?_; refine wl_val (r_assign (v := .slice _ _ _) rfl) rfl ?_; refine wl_val (r_assign (v := .int .i64 0) rfl) rfl ?_; refine wl_nil ?_; refine c_then ?_; refine wp_ret ?_; refine ret2 Try.results9 rfl rfl ?_
      obtain rfl : k = N := by omega
      have eb : b.take (1024 * k) = b := by rw [hN]; exact chN_all
      rw [eb] at hS28 ⊢
      exact ⟨_, _, rfl, (St.front [_] hS28)⟩

end Go.Proofs.Ytflfocmfdlmjiaa
end
