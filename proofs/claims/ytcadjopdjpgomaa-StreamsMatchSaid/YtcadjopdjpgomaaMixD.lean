/- Streams and covers. No condition. -/
import Derived.Test.YtcadjopdjpgomaaFacts
import Derived.Test.YtcadjopdjpgomaaStream
import Derived.Test.YtcadjopdjpgomaaMixB
import Derived.Test.YtcadjopdjpgomaaMixC
namespace Go.Proofs.Ytcadjopdjpgomaa
open Go.Kw
set_option linter.unusedVariables false
set_option linter.unusedSimpArgs false
set_option maxRecDepth 100000
theorem streamBlock_ok (k n : List UInt8) (i : Nat) (w : World) (hk : k.length = 32) (hn : n.length = 16) :
    Ret Try.prog 85 [.agg (k.map b8).toArray, .agg (n.map b8).toArray, v64 (UInt64.ofNat i)] w (fun v w' => v = .agg ((blkL k n i).map b8).toArray ∧ St w [] w' []) := by
  refine enter Try.func85 rfl Try.ntmps85 rfl ?_
  have hS := St.refl w []
  refine c_seq ?_
  refine c_region ?_
  refine wl_exv (x_box hS (v := .agg _) rfl rfl) rfl ?_
  rintro _ w1 ⟨b3, rfl, hS2⟩
  refine wl_exv (x_box hS2 (v := .agg _) rfl rfl) rfl ?_
  rintro _ w3 ⟨b4, rfl, hS4⟩
  refine wl_exv (x_alloc (C := ((List.replicate 64 (0 : UInt8)).map b8)) hS4 ti22 rfl) rfl ?_
  rintro _ w5 ⟨b6, rfl, hS6⟩
  refine wl_nil ?_
  refine c_then ?_
  refine c_seq ?_
  refine c_region ?_
  refine wl_exv (x_alloc (C := ((List.replicate 64 (0 : UInt8)).map b8)) hS6 ti22 rfl) rfl ?_
  rintro _ w7 ⟨b7, rfl, hS8⟩
  refine wl_nil ?_
  refine c_then ?_
  refine c_seq ?_
  refine c_drawS 2 hMixed hS8 ?_
  intro w9 hS10
  refine g_take 0 rfl (by decide +kernel) rfl (fun _ _ _ h => h) hS10 (fun wF hF => r_sa1_0 ti22.und ti5 rfl ) ?_
  refine g_take 1 rfl (by decide +kernel) rfl (fun _ _ _ h => h) hS10 (fun wF hF => r_sa1_0 ti54.und ti5 rfl ) ?_
  refine g_tail (by decide +kernel) rfl (by decide +kernel) ?_
  refine wl_exv (x_copym [] hS10 ti26.und ti5 rfl rfl (Row.of_at (at_all (hS10.heap (.tail _ (.tail _ (.tail _ (.head _))))))) (by first | (simp [*]; done) | (simp [*] <;> omega) | omega) (by first | omega | (simp [*]; done) | (simp [*] <;> omega)) (by first | (simp [*]; done) | (simp [*] <;> omega) | omega) (fun _ => rfl) _ rfl) rfl ?_
  rintro _ w11 ⟨rfl, hS12⟩
  simp only [List.cons_append, List.nil_append] at hS12
  refine wl_nil ?_
  refine c_then ?_
  refine c_seq ?_
  refine c_drawS 2 hMixed hS12 ?_
  intro w13 hS14
  refine g_take 0 rfl (by decide +kernel) rfl (fun _ _ _ h => h) hS14 (fun wF hF => r_sa1_l (l := 32) ti22.und ti5 rfl rfl (by omega)) ?_
  refine g_take 1 rfl (by decide +kernel) rfl (fun _ _ _ h => h) hS14 (fun wF hF => r_sa1_0 ti55.und ti5 rfl ) ?_
  refine g_tail (by decide +kernel) rfl (by decide +kernel) ?_
  refine wl_exv (x_copym [] hS14 ti26.und ti5 rfl rfl (Row.of_at (at_all (hS14.heap (.tail _ (.tail _ (.head _)))))) (by first | (simp [*]; done) | (simp [*] <;> omega) | omega) (by first | omega | (simp [*]; done) | (simp [*] <;> omega)) (by rw [pre1_len k hk]; decide) (fun _ => rfl) _ rfl) rfl ?_
  rintro _ w15 ⟨rfl, hS16⟩
  simp only [List.cons_append, List.nil_append] at hS16
  refine wl_nil ?_
  refine c_then ?_
  refine c_seq ?_
  refine c_region ?_
  refine wl_val (r_move (v := .int .u64 _) rfl) rfl ?_
  refine wl_call (r_call fn82 rfl rfl) rfl (longOctets_ok _ _) ?_
  rintro _ w17 ⟨rfl, hx18⟩
  have hS19 := hS16.ext hx18
  refine wl_exv (x_alloc (C := ((List.replicate 8 (0 : UInt8)).map b8)) hS19 ti137 rfl) rfl ?_
  rintro _ w20 ⟨b8, rfl, hS21⟩
  refine wl_exs (x_storeW [] hS21 ti137 rfl rfl (by first | (simp [*]; done) | (simp [*] <;> omega) | omega) (by first | (simp [*]; done) | (simp [*] <;> omega) | omega) (by first | exact one_b8 _ | exact one_v32 _)) rfl ?_
  intro w22 hS23
  simp only [List.cons_append, List.nil_append] at hS23
  refine wl_nil ?_
  refine c_then ?_
  refine c_seq ?_
  refine c_drawS 2 hMixed hS23 ?_
  intro w24 hS25
  refine g_take 0 rfl (by decide +kernel) rfl (fun _ _ _ h => h) hS25 (fun wF hF => r_sa1_l (l := 56) ti22.und ti5 rfl rfl (by omega)) ?_
  refine g_take 1 rfl (by decide +kernel) rfl (fun _ _ _ h => h) hS25 (fun wF hF => r_sa1_0 ti137.und ti5 rfl ) ?_
  refine g_tail (by decide +kernel) rfl (by decide +kernel) ?_
  refine wl_exv (x_copym [_] hS25 ti26.und ti5 rfl rfl (Row.of_at (at_all (hS25.heap (.head _)))) (by first | (simp [*]; done) | (simp [*] <;> omega) | omega) (by first | omega | (simp [*]; done) | (simp [*] <;> omega)) (by rw [pre2_len k n hk hn]; decide) (fun _ => rfl) _ rfl) rfl ?_
  rintro _ w26 ⟨rfl, hS27⟩
  simp only [List.cons_append, List.nil_append] at hS27
  refine wl_nil ?_
  refine c_then ?_
  refine c_seq ?_
  refine c_region ?_
  refine wl_val (r_loadB ti22 rfl rfl (hS27.heap (.tail _ (.head _))) (by rw [List.length_map]; exact pre3_len k n _ hk hn)) rfl ?_
  refine wl_call (r_call fn16 rfl rfl) rfl (stir_ok _ _ (pre3_len k n _ hk hn)) ?_
  rintro _ w28 ⟨rfl, hx29⟩
  have hS30 := hS27.ext hx29
  refine wl_exs (x_storeW [_, _] hS30 ti22 rfl rfl (by first | (simp [*]; done) | (simp [*] <;> omega) | omega) (by first | (simp [*]; done) | (simp [*] <;> omega) | omega) (by first | exact one_b8 _ | exact one_v32 _)) rfl ?_
  intro w31 hS32
  simp only [List.cons_append, List.nil_append] at hS32
  refine wl_nil ?_
  refine c_then ?_
  refine wp_ret ?_
  refine retc Try.results85 ⟨_, rfl, run_loadVar_blk ti22 rfl (hS32.heap (.tail _ (.tail _ (.head _)))) (by first | (simp [*]; done) | (simp [*] <;> omega) | omega)⟩ ?_
  exact ⟨rfl, hS32.fin⟩

theorem rlong_ok (n : Nat) (w : World) (hn : n ≤ 9223372036854775807) :
    Ret Try.prog 86 [vi n] w (fun v w' => ∃ b, v = .slice (some ⟨b, 0, none⟩) 8 8 ∧ St w [] w' [.blk b (cl ((octs8 (UInt64.ofNat n)).map b8) 5)]) := by
  refine enter Try.func86 rfl Try.ntmps86 rfl ?_
  have hS := St.refl w []
  refine c_seq ?_
  refine c_region ?_
  refine wl_val (r_assign (v := .slice none 0 0) rfl) rfl ?_
  refine wl_nil ?_
  refine c_then ?_
  refine c_seq ?_
  refine c_region ?_
  refine wl_exv (x_make (l := 8) (c := 8) (zs := ((List.replicate 8 (0 : UInt8)).map b8)) hS ti26.und ti5 rfl rfl (by first | omega | (simp [*]; done) | (simp [*] <;> omega)) (by first | omega | (simp [*]; done) | (simp [*] <;> omega)) (by first | omega | (simp [*]; done) | (simp [*] <;> omega)) (by first | exact made_b8 _ | rfl | simp [madeCells])) rfl ?_
  rintro _ w1 ⟨b5, rfl, hS2⟩
  refine wl_val (r_assign (v := .slice _ _ _) rfl) rfl ?_
  refine wl_nil ?_
  refine c_then ?_
  refine c_seq ?_
  refine c_seq ?_
  refine c_region ?_
  refine wl_val (r_move (v := .slice _ _ _) rfl) rfl ?_
  refine wl_val (r_len (T := 26) rfl ti26.und rfl _ rfl) rfl ?_
  refine wl_val (r_move (v := .int .i64 0) rfl) rfl ?_
  refine wl_nil ?_
  refine c_then ?_
  refine c_block ?_
  refine c_loopE [0, 2, 3, 7] (fun d e w' => ∃ (k : Nat), Kw.look e 8 = vi k ∧ d = 8 - k ∧ St w [] w' [.blk b5 (cl ((upto 8 (fun i => UInt8.ofNat (n / 2 ^ (56 - 8 * i))) 0 k).map b8) 5)] ∧ (k ≤ 8)) (8) ?_ ?_
  · exact ⟨0, rfl, rfl, by rw [upto_zero]; exact hS2, by omega⟩
  · rintro d6 e3 w4 ⟨k, hc0_8, rfl, hS5, hI0_0⟩ -
    refine c_set (d := 8) hc0_8 ?_
    refine c_seq ?_
    refine c_region ?_
    refine wl_dec (r_lss rfl rfl) rfl (fun h3_0 => ?_) (fun h3_0 => ?_)
    · refine wl_nil ?_
      refine c_then ?_
      refine c_seq ?_
      refine c_true rfl ?_
      refine wp_skip ?_
      refine c_then ?_
      refine c_seq ?_
      refine c_block ?_
      refine c_seq ?_
      refine c_region ?_
      refine wl_val (r_move (v := .int .i64 _) rfl) rfl ?_
      refine wl_val (r_assign (v := .int .i64 _) rfl) rfl ?_
      refine wl_nil ?_
      refine c_then ?_
      refine c_region ?_
      refine wl_val (r_move (v := .slice _ _ _) rfl) rfl ?_
      refine wl_val (r_move (v := .int .i64 _) rfl) rfl ?_
      refine wl_val (r_move (v := .int .i64 _) rfl) rfl ?_
      refine wl_val (r_move (v := .int .i64 _) rfl) rfl ?_
      refine wl_val (r_muln (a := 8) rfl rfl (by omega)) rfl ?_
      refine wl_val (r_subn (a := 56) rfl rfl (by omega) (by omega)) rfl ?_
      refine wl_val (r_shri rfl rfl (by omega)) rfl ?_
      refine wl_val (c_i64_u8 ti5.und ⟨_, ti3.und⟩ rfl) rfl ?_
      refine wl_val (r_ixB ti26.und ti5 rfl rfl (by first | omega | (simp [*]; done) | (simp [*] <;> omega))) rfl ?_
      refine wl_exs (x_store1m [] hS5 ti5 rfl rfl rfl (by first | omega | (simp [*]; done) | (simp [*] <;> omega))) rfl ?_
      intro w7 hS8
      simp only [List.cons_append, List.nil_append] at hS8
      refine wl_nil ?_
      refine c_inN ?_
      refine c_then ?_
      refine c_region ?_
      refine wl_val (r_addn (b := 1) rfl rfl (by omega)) rfl ?_
      refine wl_val (r_move (v := .int .i64 _) rfl) rfl ?_
      refine wl_nil ?_
      refine c_then ?_
      refine ⟨8 - (k + 1), _, by omega, rfl, ⟨k + 1, rfl, rfl, ?_, by omega⟩, ⟨rfl, rfl, rfl, rfl, trivial⟩⟩
      rw [← upto_set _ _ _ _ (by omega)]
      exact hS8
    · refine wl_nil ?_
      refine c_then ?_
      refine c_seq ?_
      refine c_false rfl ?_
      refine wp_exit ?_
      refine c_thenE ?_
      refine c_thenE ?_
      refine c_inE ?_
      refine c_then ?_
      refine c_seq ?_
      refine c_region ?_
      refine wl_val (r_move (v := .slice _ _ _) rfl) rfl ?_
      refine wl_val (r_assign (v := .slice _ _ _) rfl) rfl ?_
      refine wl_nil ?_
      refine c_then ?_
      refine wp_ret ?_
      refine ret1 Try.results86 ?_
      obtain rfl : k = 8 := by omega
      rw [upto_full] at hS5
      refine ⟨_, rfl, ?_⟩
      rw [← longR_eq n (by omega)]
      exact hS5

theorem rstream_ok (k n : List UInt8) (fr m : Nat) (w : World) (hk : k.length = 32) (hn : n.length = 16) (hf : fr ≤ 1099511627776) (hm : m ≤ 1048576) :
    Ret Try.prog 33 [.agg (k.map b8).toArray, .agg (n.map b8).toArray, vi fr, vi m] w (fun v w' => ∃ a' c', v = .slice a' m c' ∧ St w [] w' [.row (.slice a' m c') 5 1 m ((streamL k n fr m).map b8)]) := by
  refine enter Try.func33 rfl Try.ntmps33 rfl ?_
  have hS := St.refl w []
  refine c_seq ?_
  refine c_region ?_
  refine wl_exv (x_box hS (v := .agg _) rfl rfl) rfl ?_
  rintro _ w1 ⟨b4, rfl, hS2⟩
  refine wl_exv (x_box hS2 (v := .agg _) rfl rfl) rfl ?_
  rintro _ w3 ⟨b5, rfl, hS4⟩
  refine wl_val (r_assign (v := .slice none 0 0) rfl) rfl ?_
  refine wl_nil ?_
  refine c_then ?_
  refine c_seq ?_
  refine c_region ?_
  refine wl_val (r_assign (v := .slice none 0 0) rfl) rfl ?_
  refine wl_nil ?_
  refine c_then ?_
  refine c_seq ?_
  refine c_seq ?_
  refine c_region ?_
  refine wl_val (r_move (v := .int .i64 _) rfl) rfl ?_
  refine wl_val (r_assign (v := .int .i64 _) rfl) rfl ?_
  refine wl_nil ?_
  refine c_then ?_
  refine c_block ?_
  refine c_loopE [2, 3, 4, 5, 8] (fun d e w' => ∃ (j : Nat) (a9 : Option Addr) (c9 : Nat), Kw.look e 10 = vi (fr + j) ∧ Kw.look e 9 = .slice a9 j c9 ∧ d = m - j ∧ St w [] w' [.row (.slice a9 j c9) 5 1 j ((streamL k n fr j).map b8), .blk b5 (cl (n.map b8) 55), .blk b4 (cl (k.map b8) 54)] ∧ (j ≤ m)) (m - 0) ?_ ?_
  · exact ⟨0, none, 0, rfl, rfl, rfl, hS4.nilRow, Nat.zero_le _⟩
  · rintro d8 e5 w6 ⟨j, a9, c9, hc0_10, hc0_9, rfl, hS7, hI0_0⟩ -
    refine c_set (d := 10) hc0_10 ?_
    refine c_set (d := 9) hc0_9 ?_
    refine c_seq ?_
    refine c_seq ?_
    refine c_region ?_
    refine wl_val (r_move (v := .int .i64 _) rfl) rfl ?_
    refine wl_val (r_move (v := .int .i64 _) rfl) rfl ?_
    refine wl_val (r_move (v := .int .i64 _) rfl) rfl ?_
    refine wl_val (r_addn rfl rfl (by omega)) rfl ?_
    refine wl_dec (r_lss rfl rfl) rfl (fun h3_4 => ?_) (fun h3_4 => ?_)
    · refine wl_nil ?_
      refine c_then ?_
      refine c_true rfl ?_
      refine wp_skip ?_
      refine c_then ?_
      refine c_seq ?_
      refine c_block ?_
      refine c_seq ?_
      refine c_region ?_
      refine wl_exv (x_alloc (C := ((List.replicate 64 (0 : UInt8)).map b8)) hS7 ti22 rfl) rfl ?_
      rintro _ w9 ⟨b11, rfl, hS10⟩
      refine wl_nil ?_
      refine c_then ?_
      refine c_seq ?_
      refine c_drawS 2 hMixed hS10 ?_
      intro w11 hS12
      refine g_take 0 rfl (by decide +kernel) rfl (fun _ _ _ h => h) hS12 (fun wF hF => r_sa1_0 ti22.und ti5 rfl ) ?_
      refine g_take 1 rfl (by decide +kernel) rfl (fun _ _ _ h => h) hS12 (fun wF hF => r_sa1_0 ti54.und ti5 rfl ) ?_
      refine g_tail (by decide +kernel) rfl (by decide +kernel) ?_
      refine wl_exv (x_copym [] hS12 ti26.und ti5 rfl rfl (Row.of_at (at_all (hS12.heap (.tail _ (.tail _ (.tail _ (.head _))))))) (by first | (simp [*]; done) | (simp [*] <;> omega) | omega) (by first | omega | (simp [*]; done) | (simp [*] <;> omega)) (by first | (simp [*]; done) | (simp [*] <;> omega) | omega) (fun _ => rfl) _ rfl) rfl ?_
      rintro _ w13 ⟨rfl, hS14⟩
      simp only [List.cons_append, List.nil_append] at hS14
      refine wl_nil ?_
      refine c_then ?_
      refine c_seq ?_
      refine c_drawS 2 hMixed hS14 ?_
      intro w15 hS16
      refine g_take 0 rfl (by decide +kernel) rfl (fun _ _ _ h => h) hS16 (fun wF hF => r_sa1_l (l := 32) ti22.und ti5 rfl rfl (by omega)) ?_
      refine g_take 1 rfl (by decide +kernel) rfl (fun _ _ _ h => h) hS16 (fun wF hF => r_sa1_0 ti55.und ti5 rfl ) ?_
      refine g_tail (by decide +kernel) rfl (by decide +kernel) ?_
      refine wl_exv (x_copym [] hS16 ti26.und ti5 rfl rfl (Row.of_at (at_all (hS16.heap (.tail _ (.tail _ (.head _)))))) (by first | (simp [*]; done) | (simp [*] <;> omega) | omega) (by first | omega | (simp [*]; done) | (simp [*] <;> omega)) (by rw [pre1_len k hk]; decide) (fun _ => rfl) _ rfl) rfl ?_
      rintro _ w17 ⟨rfl, hS18⟩
      simp only [List.cons_append, List.nil_append] at hS18
      refine wl_nil ?_
      refine c_then ?_
      refine c_seq ?_
      refine c_drawS 4 hMixed hS18 ?_
      intro w19 hS20
      refine g_take 0 rfl (by decide +kernel) rfl (fun _ _ _ h => h) hS20 (fun wF hF => r_sa1_l (l := 56) ti22.und ti5 rfl rfl (by omega)) ?_
      refine g_take 1 rfl (by decide +kernel) rfl (fun _ _ _ h => h) hS20 (fun wF hF => r_move (v := .int .i64 _) rfl) ?_
      refine g_take 2 rfl (by decide +kernel) rfl (fun _ _ _ h => h) hS20 (fun wF hF => r_quon (b := 64) rfl rfl (by omega) (by omega)) ?_
      refine g_one 3 (by decide +kernel) (by decide +kernel) ?_
      refine o_call rfl (r_call fn86 rfl rfl) rfl (rlong_ok _ _ (by omega)) ?_
      rintro _ w21 ⟨b30, rfl, hx22⟩
      have hS23 := hS20.call hx22
      simp only [List.cons_append, List.nil_append] at hS23
      refine ⟨hS23.drop1, ?_⟩
      refine g_tail (by decide +kernel) rfl (by decide +kernel) ?_
      refine wl_exv (x_copym [_] hS23 ti26.und ti5 rfl rfl (Row.of_at (at_all (hS23.heap (.head _)))) (by first | (simp [*]; done) | (simp [*] <;> omega) | omega) (by first | omega | (simp [*]; done) | (simp [*] <;> omega)) (by rw [pre2_len k n hk hn]; decide) (fun _ => rfl) _ rfl) rfl ?_
      rintro _ w24 ⟨rfl, hS25⟩
      simp only [List.cons_append, List.nil_append] at hS25
      refine wl_nil ?_
      refine c_then ?_
      refine c_seq ?_
      refine c_region ?_
      refine wl_val (r_loadB ti22 rfl rfl (hS25.heap (.tail _ (.head _))) (by rw [List.length_map]; exact pre3_len k n _ hk hn)) rfl ?_
      refine wl_call (r_call fn18 rfl rfl) rfl (rstir_ok _ _ (pre3_len k n _ hk hn)) ?_
      rintro _ w26 ⟨rfl, hx27⟩
      have hS28 := hS25.ext hx27
      refine wl_exs (x_storeW [_] hS28 ti22 rfl rfl (by simp) (by rw [List.length_map]; exact pre3_len k n _ hk hn) (one_b8 _)) rfl ?_
      intro w29 hS30
      simp only [List.cons_append, List.nil_append] at hS30
      refine wl_nil ?_
      refine c_then ?_
      refine c_seq ?_
      refine c_region ?_
      refine wl_val (r_move (v := .int .i64 _) rfl) rfl ?_
      refine wl_val (r_remn (b := 64) rfl rfl (by omega)) rfl ?_
      refine wl_val (r_move (v := .int .i64 _) rfl) rfl ?_
      refine wl_val (r_addn rfl rfl (by omega)) rfl ?_
      refine wl_val (r_move (v := .int .i64 _) rfl) rfl ?_
      refine wl_val (r_addn rfl rfl (by omega)) rfl ?_
      refine wl_val (r_move (v := .int .i64 _) rfl) rfl ?_
      refine wl_val (r_subn rfl rfl (by omega) (by omega)) rfl ?_
      refine wl_val (r_min2n (a := 64) rfl rfl _ rfl) rfl ?_
      refine wl_val (r_assign (v := .int .i64 _) rfl) rfl ?_
      refine wl_nil ?_
      refine c_then ?_
      refine c_seq ?_
      obtain ⟨q, hq⟩ : ∃ q, q = min (64 - (fr + j) % 64) (m - j) := ⟨_, rfl⟩
      refine c_set (d := 12) (v := vi ((fr + j) % 64 + q)) (congrArg (Value.int .i64) (by omega)) ?_
      refine c_region ?_
      refine wl_val (r_move (v := .slice _ _ _) rfl) rfl ?_
      refine wl_val (r_move (v := .int .i64 _) rfl) rfl ?_
      refine wl_val (r_remn (b := 64) rfl rfl (by omega)) rfl ?_
      refine wl_val (r_move (v := .int .i64 _) rfl) rfl ?_
      refine wl_val (r_sa1_lh ti22.und ti5 rfl rfl rfl (by omega) (by omega) (by omega)) rfl ?_
      refine wl_exv (x_append [_, _] hS30 ti26.und ti5 rfl (by decide) rfl rfl (Row.of_at (at_part (n := q) (hS30.heap (.tail _ (.head _))))) (by simp; omega) (one_take (one_drop (one_b8 _))) (by first | omega | (simp [*]; done) | (simp [*] <;> omega)) (by first | omega | (simp [*]; done) | (simp [*] <;> omega)) _ rfl) rfl ?_
      rintro _ w31 ⟨aq33, cq33, rfl, hcq33, hS32⟩
      simp only [List.cons_append, List.nil_append] at hS32
      refine wl_val (r_assign (v := .slice _ _ _) rfl) rfl ?_
      refine wl_nil ?_
      refine c_then ?_
      refine c_region ?_
      refine wl_val (r_move (v := .int .i64 _) rfl) rfl ?_
      refine wl_val (r_move (v := .int .i64 _) rfl) rfl ?_
      refine wl_val (r_move (v := .int .i64 _) rfl) rfl ?_
      refine wl_val (r_remn (b := 64) rfl rfl (by omega)) rfl ?_
      refine wl_val (r_subn rfl rfl (by omega) (by omega)) rfl ?_
      refine wl_val (r_subn (b := 1) rfl rfl (by omega) (by omega)) rfl ?_
      refine wl_val (r_addn rfl rfl (by omega)) rfl ?_
      refine wl_val (r_assign (v := .int .i64 _) rfl) rfl ?_
      refine wl_nil ?_
      refine c_inN ?_
      refine c_then ?_
      refine c_region ?_
      refine wl_val (r_move (v := .int .i64 _) rfl) rfl ?_
      refine wl_val (r_addn (b := 1) rfl rfl (by omega)) rfl ?_
      refine wl_val (r_assign (v := .int .i64 _) rfl) rfl ?_
      refine wl_nil ?_
      refine c_then ?_
      have e2 := stream_step k n fr j q (by omega)
      rw [← List.map_drop, ← List.map_take, ← List.map_append, Nat.add_sub_cancel_left] at hS32
      refine ⟨m - (j + q), _, by omega, rfl, ⟨j + q, _, _, congrArg (Value.int .i64) (by omega), congrArg (fun t => Value.slice _ t _) (show _ = j + q by omega), rfl, ?_, by omega⟩, ⟨rfl, rfl, rfl, rfl, rfl, trivial⟩⟩
      rw [← e2]
      exact hS32.drop1.drop1
    · refine wl_nil ?_
      refine c_then ?_
      refine c_false rfl ?_
      refine wp_exit ?_
      refine c_thenE ?_
      refine c_thenE ?_
      refine c_inE ?_
      refine c_then ?_
      refine c_seq ?_
      refine c_region ?_
      refine wl_val (r_move (v := .slice _ _ _) rfl) rfl ?_
      refine wl_val (r_assign (v := .slice _ _ _) rfl) rfl ?_
      refine wl_nil ?_
      refine c_then ?_
      refine wp_ret ?_
      refine ret1 Try.results33 ?_
      obtain rfl : j = m := by omega
      exact ⟨_, _, rfl, hS7.sub (by simp)⟩

theorem stream_ok (k n : List UInt8) (fr m : Nat) (w : World) (hk : k.length = 32) (hn : n.length = 16) (hf : fr ≤ 1099511627776) (hm : m ≤ 1048576) :
    Ret Try.prog 32 [.agg (k.map b8).toArray, .agg (n.map b8).toArray, vi fr, vi m] w (fun v w' => ∃ a' c', v = .tuple #[.slice a' m c', vi 0] ∧ St w [] w' [.row (.slice a' m c') 5 1 m ((streamL k n fr m).map b8)]) := by
  refine enter Try.func32 rfl Try.ntmps32 rfl ?_
  have hS := St.refl w []
  refine c_seq ?_
  refine c_region ?_
  refine wl_exv (x_box hS (v := .agg _) rfl rfl) rfl ?_
  rintro _ w1 ⟨b4, rfl, hS2⟩
  refine wl_exv (x_box hS2 (v := .agg _) rfl rfl) rfl ?_
  rintro _ w3 ⟨b5, rfl, hS4⟩
  refine wl_val (r_assign (v := .slice none 0 0) rfl) rfl ?_
  refine wl_val (r_assign (v := .int .i64 0) rfl) rfl ?_
  refine wl_nil ?_
  refine c_then ?_
  refine c_seq ?_
  refine c_seq ?_
  refine c_region ?_
  refine wl_val (r_move (v := .int .i64 _) rfl) rfl ?_
  refine wl_dec_f (r_lss rfl rfl) rfl (by omega) ?_
  refine wl_val (r_move (v := .bool _) rfl) rfl ?_
  refine wl_val (r_move (v := .int .i64 _) rfl) rfl ?_
  refine wl_dec_f (r_gtr rfl rfl) rfl (by omega) ?_
  refine wl_val (r_pick_f rfl (v := .bool _) rfl) rfl ?_
  refine wl_val (r_move (v := .bool _) rfl) rfl ?_
  refine wl_val (r_move (v := .int .i64 _) rfl) rfl ?_
  refine wl_dec_f (r_lss rfl rfl) rfl (by omega) ?_
  refine wl_val (r_pick_f rfl (v := .bool _) rfl) rfl ?_
  refine wl_nil ?_
  refine c_then ?_
  refine c_false rfl ?_
  refine wp_skip ?_
  refine c_then ?_
  refine c_seq ?_
  refine c_seq ?_
  refine c_region ?_
  refine wl_val (r_move (v := .int .i64 _) rfl) rfl ?_
  refine wl_dec_f (r_gtr rfl rfl) rfl (by omega) ?_
  refine wl_nil ?_
  refine c_then ?_
  refine c_false rfl ?_
  refine wp_skip ?_
  refine c_then ?_
  refine c_seq ?_
  refine c_region ?_
  refine wl_val (r_move (v := .int .i64 _) rfl) rfl ?_
  refine wl_exv (x_make_row hS4 ti26.und ti5 rfl rfl (by first | omega | (simp [*]; done) | (simp [*] <;> omega)) (by first | omega | (simp [*]; done) | (simp [*] <;> omega))) rfl ?_
  rintro _ w5 ⟨a27, rfl, hS6⟩
  refine wl_val (r_assign (v := .slice _ _ _) rfl) rfl ?_
  refine wl_nil ?_
  refine c_then ?_
  refine c_seq ?_
  refine c_seq ?_
  refine c_region ?_
  refine wl_val (r_move (v := .int .i64 _) rfl) rfl ?_
  refine wl_val (r_quon (b := 64) rfl rfl (by omega) (by omega)) rfl ?_
  refine wl_val (r_assign (v := .int .i64 _) rfl) rfl ?_
  refine wl_nil ?_
  refine c_then ?_
  refine c_block ?_
  refine c_loopE [2, 3, 4, 5, 8, 9] (fun d e w' => ∃ (i : Nat) (j : Nat) (a10 : Option Addr) (c10 : Nat), Kw.look e 11 = vi i ∧ Kw.look e 10 = .slice a10 j c10 ∧ d = m - j ∧ St w [] w' [.row (.slice a10 j c10) 5 1 j ((streamL k n fr j).map b8), .blk b5 (cl (n.map b8) 55), .blk b4 (cl (k.map b8) 54)] ∧ (j ≤ m) ∧ (i ≤ 1099511627776 + j) ∧ (j < m → i = (fr + j) / 64 ∧ (j = 0 ∨ (fr + j) % 64 = 0))) (m - 0) ?_ ?_
  · exact ⟨fr / 64, 0, _, _, rfl, rfl, rfl, hS6, Nat.zero_le _, by omega, fun _ => ⟨rfl, .inl rfl⟩⟩
  · rintro d10 e7 w8 ⟨i, j, a10, c10, hc0_11, hc0_10, rfl, hS9, hj, hi, hij⟩ -
    refine c_set (d := 11) hc0_11 ?_
    refine c_set (d := 10) hc0_10 ?_
    refine c_seq ?_
    refine c_seq ?_
    refine c_region ?_
    refine wl_val (r_move (v := .slice _ _ _) rfl) rfl ?_
    refine wl_val (r_len (T := 26) rfl ti26.und rfl _ rfl) rfl ?_
    refine wl_val (r_move (v := .int .i64 _) rfl) rfl ?_
    refine wl_dec (r_lss rfl rfl) rfl (fun h7_3 => ?_) (fun h7_3 => ?_)
    · refine wl_nil ?_
      refine c_then ?_
      refine c_true rfl ?_
      refine wp_skip ?_
      refine c_then ?_
      refine c_seq ?_
      refine c_block ?_
      refine c_seq ?_
      have hij := hij (by omega)
      refine c_region ?_
      refine wl_val (r_loadB ti54 rfl rfl (hS9.heap (.tail _ (.tail _ (.head _)))) (by first | (simp [*]; done) | (simp [*] <;> omega) | omega)) rfl ?_
      refine wl_val (r_loadB ti55 rfl rfl (hS9.heap (.tail _ (.head _))) (by first | (simp [*]; done) | (simp [*] <;> omega) | omega)) rfl ?_
      refine wl_val (r_move (v := .int .i64 _) rfl) rfl ?_
      refine wl_val (c_i64_u64 ti136.und ⟨_, ti3.und⟩ rfl (by omega)) rfl ?_
      refine wl_call (r_call fn85 rfl rfl) rfl (streamBlock_ok _ _ _ _ hk hn) ?_
      rintro _ w11 ⟨rfl, hx12⟩
      have hS13 := hS9.ext hx12
      refine wl_exv (x_alloc (C := ((List.replicate 64 (0 : UInt8)).map b8)) hS13 ti22 rfl) rfl ?_
      rintro _ w14 ⟨b12, rfl, hS15⟩
      refine wl_exs (x_storeW [] hS15 ti22 rfl rfl (by simp) (by simp) (one_b8 _)) rfl ?_
      intro w16 hS17
      simp only [List.cons_append, List.nil_append] at hS17
      refine wl_nil ?_
      refine c_then ?_
      refine c_seq ?_
      refine c_region ?_
      refine wl_val (r_sa1_0 ti22.und ti5 rfl ) rfl ?_
      refine wl_val (r_assign (v := .slice _ _ _) rfl) rfl ?_
      refine wl_nil ?_
      refine c_then ?_
      refine c_seq ?_
      refine c_seq ?_
      refine c_region ?_
      refine wl_val (r_move (v := .int .i64 _) rfl) rfl ?_
      refine wl_val (r_move (v := .int .i64 _) rfl) rfl ?_
      refine wl_val (r_quon (b := 64) rfl rfl (by omega) (by omega)) rfl ?_
      refine wl_dec (r_eql rfl rfl) rfl (fun h11_3 => ?_) (fun h11_3 => ?_)
      · refine wl_nil ?_
        refine c_then ?_
        refine c_true rfl ?_
        refine c_region ?_
        refine wl_val (r_move (v := .int .i64 _) rfl) rfl ?_
        refine wl_val (r_remn (b := 64) rfl rfl (by omega)) rfl ?_
        refine wl_val (r_sa1_l ti22.und ti5 rfl rfl (by omega)) rfl ?_
        refine wl_val (r_assign (v := .slice _ _ _) rfl) rfl ?_
        refine wl_nil ?_
        refine c_then ?_
        obtain ⟨q, hq⟩ : ∃ q, q = min (64 - (fr + j) % 64) (m - j) := ⟨_, rfl⟩
        refine c_region ?_
        refine wl_val (r_move (v := .slice _ _ _) rfl) rfl ?_
        refine wl_val (r_move (v := .slice _ _ _) rfl) rfl ?_
        refine wl_val (r_move (v := .slice _ _ _) rfl) rfl ?_
        refine wl_val (r_len (T := 26) rfl ti26.und rfl _ rfl) rfl ?_
        refine wl_val (r_move (v := .int .i64 _) rfl) rfl ?_
        refine wl_val (r_move (v := .slice _ _ _) rfl) rfl ?_
        refine wl_val (r_len (T := 26) rfl ti26.und rfl _ rfl) rfl ?_
        refine wl_val (r_subn rfl rfl (by omega) (by omega)) rfl ?_
        refine wl_val (r_min2n rfl rfl _ rfl) rfl ?_
        refine wl_val (r_sl_h ti26.und ti5 rfl rfl (by omega)) rfl ?_
        refine wl_exv (x_append [_] hS17 ti26.und ti5 rfl (by decide) rfl rfl (Row.of_at (at_part (n := q) (hS17.heap (.head _)))) (by simp; omega) (one_take (one_drop (one_b8 _))) (by first | omega | (simp [*]; done) | (simp [*] <;> omega)) (by first | omega | (simp [*]; done) | (simp [*] <;> omega)) _ rfl) rfl ?_
        rintro _ w18 ⟨aq20, cq20, rfl, hcq20, hS19⟩
        simp only [List.cons_append, List.nil_append] at hS19
        refine wl_val (r_assign (v := .slice _ _ _) rfl) rfl ?_
        refine wl_nil ?_
        refine c_inN ?_
        refine c_then ?_
        refine c_region ?_
        refine wl_val (r_move (v := .int .i64 _) rfl) rfl ?_
        refine wl_val (r_addn (b := 1) rfl rfl (by omega)) rfl ?_
        refine wl_val (r_assign (v := .int .i64 _) rfl) rfl ?_
        refine wl_nil ?_
        refine c_then ?_
        have e8 : (fr + j) % 64 = fr % 64 := by omega
        have e9 : min (64 - fr % 64) (m - j) = q := by omega
        have e2 := stream_step k n fr j q (by omega)
        rw [e9] at hS19
        rw [← hij.1, e8] at e2
        rw [← List.map_drop, ← List.map_take, ← List.map_append] at hS19
        refine ⟨m - (j + q), _, by omega, rfl, ⟨i + 1, j + q, _, _, rfl, congrArg (fun t => Value.slice _ t _) (show _ = j + q by omega), rfl, ?_, by omega, by omega, fun _ => ⟨by omega, .inr (by omega)⟩⟩, ⟨rfl, rfl, rfl, rfl, rfl, rfl, trivial⟩⟩
        rw [← e2]
        exact hS19.drop1
      · refine wl_nil ?_
        refine c_then ?_
        refine c_false rfl ?_
        refine wp_skip ?_
        refine c_then ?_
        obtain ⟨q, hq⟩ : ∃ q, q = min (64 - (fr + j) % 64) (m - j) := ⟨_, rfl⟩
        refine c_region ?_
        refine wl_val (r_move (v := .slice _ _ _) rfl) rfl ?_
        refine wl_val (r_move (v := .slice _ _ _) rfl) rfl ?_
        refine wl_val (r_move (v := .slice _ _ _) rfl) rfl ?_
        refine wl_val (r_len (T := 26) rfl ti26.und rfl _ rfl) rfl ?_
        refine wl_val (r_move (v := .int .i64 _) rfl) rfl ?_
        refine wl_val (r_move (v := .slice _ _ _) rfl) rfl ?_
        refine wl_val (r_len (T := 26) rfl ti26.und rfl _ rfl) rfl ?_
        refine wl_val (r_subn rfl rfl (by omega) (by omega)) rfl ?_
        refine wl_val (r_min2n rfl rfl _ rfl) rfl ?_
        refine wl_val (r_sl_h ti26.und ti5 rfl rfl (by omega)) rfl ?_
        refine wl_exv (x_append [_] hS17 ti26.und ti5 rfl (by decide) rfl rfl (Row.of_at (at_part (n := q) (hS17.heap (.head _)))) (by simp; omega) (one_take (one_drop (one_b8 _))) (by first | omega | (simp [*]; done) | (simp [*] <;> omega)) (by first | omega | (simp [*]; done) | (simp [*] <;> omega)) _ rfl) rfl ?_
        rintro _ w21 ⟨aq23, cq23, rfl, hcq23, hS22⟩
        simp only [List.cons_append, List.nil_append] at hS22
        refine wl_val (r_assign (v := .slice _ _ _) rfl) rfl ?_
        refine wl_nil ?_
        refine c_inN ?_
        refine c_then ?_
        refine c_region ?_
        refine wl_val (r_move (v := .int .i64 _) rfl) rfl ?_
        refine wl_val (r_addn (b := 1) rfl rfl (by omega)) rfl ?_
        refine wl_val (r_assign (v := .int .i64 _) rfl) rfl ?_
        refine wl_nil ?_
        refine c_then ?_
        have e8 : (fr + j) % 64 = 0 := by omega
        have e9 : min 64 (m - j) = q := by omega
        have e2 := stream_step k n fr j q (by omega)
        rw [e9] at hS22
        rw [← hij.1, e8] at e2
        rw [← List.map_drop, ← List.map_take, ← List.map_append] at hS22
        refine ⟨m - (j + q), _, by omega, rfl, ⟨i + 1, j + q, _, _, rfl, congrArg (fun t => Value.slice _ t _) (show _ = j + q by omega), rfl, ?_, by omega, by omega, fun _ => ⟨by omega, .inr (by omega)⟩⟩, ⟨rfl, rfl, rfl, rfl, rfl, rfl, trivial⟩⟩
        rw [← e2]
        exact hS22.drop1
    · refine wl_nil ?_
      refine c_then ?_
      refine c_false rfl ?_
      refine wp_exit ?_
      refine c_thenE ?_
      refine c_thenE ?_
      refine c_inE ?_
      refine c_then ?_
      refine c_seq ?_
      refine c_region ?_
      refine wl_val (r_move (v := .slice _ _ _) rfl) rfl ?_
      refine wl_val (r_assign (v := .slice _ _ _) rfl) rfl ?_
      refine wl_val (r_assign (v := .int .i64 0) rfl) rfl ?_
      refine wl_nil ?_
      refine c_then ?_
      refine wp_ret ?_
      refine ret2 Try.results32 rfl rfl ?_
      obtain rfl : j = m := by omega
      exact ⟨_, _, rfl, hS9.sub (by simp)⟩

theorem cover_ok (k n : List UInt8) (l : List UInt8) (n1 : Nat) (a : Option Addr) (c : Nat) (w : World) (hk : k.length = 32) (hn : n.length = 16) (hl : l.length = n1) (hb : Row w a (l.map b8)) (hm : n1 ≤ 1048576) :
    Ret Try.prog 34 [.agg (k.map b8).toArray, .agg (n.map b8).toArray, .slice a n1 c] w (fun v w' => ∃ a' c', v = .tuple #[.slice a' n1 c', vi 0] ∧ St w [] w' [.row (.slice a' n1 c') 5 1 n1 ((coverL k n l).map b8)]) := by
  refine enter Try.func34 rfl Try.ntmps34 rfl ?_
  have hS := St.refl w []
  refine c_seq ?_
  refine c_region ?_
  refine wl_exv (x_box hS (v := .agg _) rfl rfl) rfl ?_
  rintro _ w1 ⟨b3, rfl, hS2⟩
  refine wl_exv (x_box hS2 (v := .agg _) rfl rfl) rfl ?_
  rintro _ w3 ⟨b4, rfl, hS4⟩
  refine wl_val (r_assign (v := .slice none 0 0) rfl) rfl ?_
  refine wl_val (r_assign (v := .int .i64 0) rfl) rfl ?_
  refine wl_nil ?_
  refine c_then ?_
  refine c_seq ?_
  refine c_region ?_
  refine wl_val (r_loadB ti54 rfl rfl (hS4.heap (.tail _ (.head _))) (by first | (simp [*]; done) | (simp [*] <;> omega) | omega)) rfl ?_
  refine wl_val (r_loadB ti55 rfl rfl (hS4.heap (.head _)) (by first | (simp [*]; done) | (simp [*] <;> omega) | omega)) rfl ?_
  refine wl_val (r_move (v := .slice _ _ _) rfl) rfl ?_
  refine wl_val (r_len (T := 26) rfl ti26.und rfl _ rfl) rfl ?_
  refine wl_call (r_call fn32 rfl rfl) rfl (stream_ok _ _ 0 _ _ hk hn (by first | omega | (simp [*]; done) | (simp [*] <;> omega)) (by first | omega | (simp [*]; done) | (simp [*] <;> omega))) ?_
  rintro _ w5 ⟨a17, c17, rfl, hx6⟩
  have hS7 := hS4.call hx6
  simp only [List.cons_append, List.nil_append] at hS7
  refine wl_val (r_move (v := .tuple _) rfl) rfl ?_
  refine wl_val (r_extract (v := .slice _ _ _) rfl rfl) rfl ?_
  refine wl_val (r_extract (v := .int .i64 _) rfl rfl) rfl ?_
  refine wl_val (r_assign (v := .slice _ _ _) rfl) rfl ?_
  refine wl_val (r_assign (v := .int .i64 _) rfl) rfl ?_
  refine wl_nil ?_
  refine c_then ?_
  refine c_seq ?_
  refine c_seq ?_
  refine c_region ?_
  refine wl_val (r_move (v := .int .i64 _) rfl) rfl ?_
  refine wl_dec_f (r_neq rfl rfl) rfl (by decide) ?_
  refine wl_nil ?_
  refine c_then ?_
  refine c_false rfl ?_
  refine wp_skip ?_
  refine c_then ?_
  refine c_seq ?_
  refine c_seq ?_
  refine c_region ?_
  refine wl_val (r_move (v := .slice _ _ _) rfl) rfl ?_
  refine wl_val (r_len (T := 26) rfl ti26.und rfl _ rfl) rfl ?_
  refine wl_val (r_move (v := .int .i64 0) rfl) rfl ?_
  refine wl_nil ?_
  refine c_then ?_
  refine c_block ?_
  refine c_loopE [6, 7, 8, 23, 24] (fun d e w' => ∃ (j : Nat), Kw.look e 25 = vi j ∧ d = n1 - j ∧ St w [] w' [.row (.slice a17 n1 c17) 5 1 n1 ((coverTo k n l j).map b8), .blk b4 (cl (n.map b8) 55), .blk b3 (cl (k.map b8) 54)] ∧ (j ≤ n1)) (n1 - 0) ?_ ?_
  · exact ⟨0, rfl, rfl, (by rw [← cover_zero, hl]; exact hS7), Nat.zero_le _⟩
  · rintro d11 e8 w9 ⟨j, hc0_25, rfl, hS10, hI0_0⟩ -
    refine c_set (d := 25) hc0_25 ?_
    refine c_seq ?_
    refine c_region ?_
    refine wl_dec (r_lss rfl rfl) rfl (fun h5_0 => ?_) (fun h5_0 => ?_)
    · refine wl_nil ?_
      refine c_then ?_
      refine c_seq ?_
      refine c_true rfl ?_
      refine wp_skip ?_
      refine c_then ?_
      refine c_seq ?_
      refine c_block ?_
      refine c_seq ?_
      refine c_region ?_
      refine wl_val (r_move (v := .int .i64 _) rfl) rfl ?_
      refine wl_val (r_ixS ti26.und ti5 rfl rfl (hb.st hS10) (by first | omega | (simp [*]; done) | (simp [*] <;> omega)) (by first | (simp [*]; done) | (simp [*] <;> omega) | omega)) rfl ?_
      refine wl_val (r_loadS1 ti5.und rfl rfl (hb.st hS10) (by rw [Nat.mul_one]; exact map_gt _ _ _ (by first | omega | (simp [*]; done) | (simp [*] <;> omega)))) rfl ?_
      refine wl_val (r_assign (v := .int .i64 _) rfl) rfl ?_
      refine wl_val (r_assign (v := .int .u8 _) rfl) rfl ?_
      refine wl_nil ?_
      refine c_then ?_
      refine c_region ?_
      refine wl_val (r_move (v := .slice _ _ _) rfl) rfl ?_
      refine wl_val (r_move (v := .int .i64 _) rfl) rfl ?_
      refine wl_val (r_ixS ti26.und ti5 rfl rfl (St.rowAt hS10 (.head _)) (by first | omega | (simp [*]; done) | (simp [*] <;> omega)) (by first | (simp [*]; done) | (simp [*] <;> omega) | omega)) rfl ?_
      refine wl_val (r_loadS1 ti5.und rfl rfl (St.rowAt hS10 (.head _)) (by rw [Nat.mul_one]; exact map_gt _ _ _ (by first | omega | (simp [*]; done) | (simp [*] <;> omega)))) rfl ?_
      refine wl_val (r_move (v := .int .u8 _) rfl) rfl ?_
      refine wl_val (r_xor8 rfl rfl) rfl ?_
      refine wl_val (r_ixS ti26.und ti5 rfl rfl (St.rowAt hS10 (.head _)) (by first | omega | (simp [*]; done) | (simp [*] <;> omega)) (by first | (simp [*]; done) | (simp [*] <;> omega) | omega)) rfl ?_
      refine wl_exs (x_storeRow1 [] hS10 ti5 rfl rfl rfl (by first | omega | (simp [*]; done) | (simp [*] <;> omega))) rfl ?_
      intro w12 hS13
      simp only [List.cons_append, List.nil_append] at hS13
      refine wl_nil ?_
      refine c_inN ?_
      refine c_then ?_
      refine c_region ?_
      refine wl_val (r_addn (b := 1) rfl rfl (by omega)) rfl ?_
      refine wl_val (r_move (v := .int .i64 _) rfl) rfl ?_
      refine wl_nil ?_
      refine c_then ?_
      refine ⟨n1 - (j + 1), _, by omega, rfl, ⟨j + 1, rfl, rfl, ?_, by omega⟩, ⟨rfl, rfl, rfl, rfl, rfl, trivial⟩⟩
      rw [← cover_step _ _ _ _ (by omega)]
      exact hS13
    · refine wl_nil ?_
      refine c_then ?_
      refine c_seq ?_
      refine c_false rfl ?_
      refine wp_exit ?_
      refine c_thenE ?_
      refine c_thenE ?_
      refine c_inE ?_
      refine c_then ?_
      refine c_seq ?_
      refine c_region ?_
      refine wl_val (r_move (v := .slice _ _ _) rfl) rfl ?_
      refine wl_val (r_assign (v := .slice _ _ _) rfl) rfl ?_
      refine wl_val (r_assign (v := .int .i64 0) rfl) rfl ?_
      refine wl_nil ?_
      refine c_then ?_
      refine wp_ret ?_
      refine ret2 Try.results34 rfl rfl ?_
      obtain rfl : j = n1 := by omega
      refine ⟨_, _, rfl, ?_⟩
      unfold coverL
      rw [hl]
      exact hS10.sub (by simp)

theorem rcover_ok (k n : List UInt8) (l : List UInt8) (n1 : Nat) (a : Option Addr) (c : Nat) (w : World) (hk : k.length = 32) (hn : n.length = 16) (hl : l.length = n1) (hb : Row w a (l.map b8)) (hm : n1 ≤ 1048576) :
    Ret Try.prog 35 [.agg (k.map b8).toArray, .agg (n.map b8).toArray, .slice a n1 c] w (fun v w' => ∃ a' c', v = .slice a' n1 c' ∧ St w [] w' [.row (.slice a' n1 c') 5 1 n1 ((coverL k n l).map b8)]) := by
  refine enter Try.func35 rfl Try.ntmps35 rfl ?_
  have hS := St.refl w []
  refine c_seq ?_
  refine c_region ?_
  refine wl_exv (x_box hS (v := .agg _) rfl rfl) rfl ?_
  rintro _ w1 ⟨b3, rfl, hS2⟩
  refine wl_exv (x_box hS2 (v := .agg _) rfl rfl) rfl ?_
  rintro _ w3 ⟨b4, rfl, hS4⟩
  refine wl_val (r_assign (v := .slice none 0 0) rfl) rfl ?_
  refine wl_nil ?_
  refine c_then ?_
  refine c_seq ?_
  refine c_region ?_
  refine wl_val (r_loadB ti54 rfl rfl (hS4.heap (.tail _ (.head _))) (by first | (simp [*]; done) | (simp [*] <;> omega) | omega)) rfl ?_
  refine wl_val (r_loadB ti55 rfl rfl (hS4.heap (.head _)) (by first | (simp [*]; done) | (simp [*] <;> omega) | omega)) rfl ?_
  refine wl_val (r_move (v := .slice _ _ _) rfl) rfl ?_
  refine wl_val (r_len (T := 26) rfl ti26.und rfl _ rfl) rfl ?_
  refine wl_call (r_call fn33 rfl rfl) rfl (rstream_ok _ _ 0 _ _ hk hn (by first | omega | (simp [*]; done) | (simp [*] <;> omega)) (by first | omega | (simp [*]; done) | (simp [*] <;> omega))) ?_
  rintro _ w5 ⟨a13, c13, rfl, hx6⟩
  have hS7 := hS4.call hx6
  simp only [List.cons_append, List.nil_append] at hS7
  refine wl_val (r_assign (v := .slice _ _ _) rfl) rfl ?_
  refine wl_nil ?_
  refine c_then ?_
  refine c_seq ?_
  refine c_seq ?_
  refine c_region ?_
  refine wl_val (r_move (v := .slice _ _ _) rfl) rfl ?_
  refine wl_val (r_len (T := 26) rfl ti26.und rfl _ rfl) rfl ?_
  refine wl_val (r_move (v := .int .i64 0) rfl) rfl ?_
  refine wl_nil ?_
  refine c_then ?_
  refine c_block ?_
  refine c_loopE [2, 6, 7, 15] (fun d e w' => ∃ (j : Nat), Kw.look e 16 = vi j ∧ d = n1 - j ∧ St w [] w' [.row (.slice a13 n1 c13) 5 1 n1 ((coverTo k n l j).map b8), .blk b4 (cl (n.map b8) 55), .blk b3 (cl (k.map b8) 54)] ∧ (j ≤ n1)) (n1 - 0) ?_ ?_
  · exact ⟨0, rfl, rfl, (by rw [← cover_zero, hl]; exact hS7), Nat.zero_le _⟩
  · rintro d11 e8 w9 ⟨j, hc0_16, rfl, hS10, hI0_0⟩ -
    refine c_set (d := 16) hc0_16 ?_
    refine c_seq ?_
    refine c_region ?_
    refine wl_dec (r_lss rfl rfl) rfl (fun h3_0 => ?_) (fun h3_0 => ?_)
    · refine wl_nil ?_
      refine c_then ?_
      refine c_seq ?_
      refine c_true rfl ?_
      refine wp_skip ?_
      refine c_then ?_
      refine c_seq ?_
      refine c_block ?_
      refine c_seq ?_
      refine c_region ?_
      refine wl_val (r_move (v := .int .i64 _) rfl) rfl ?_
      refine wl_val (r_assign (v := .int .i64 _) rfl) rfl ?_
      refine wl_nil ?_
      refine c_then ?_
      refine c_drawS 8 hMixed hS10 ?_
      intro w12 hS13
      refine g_take 0 rfl (by decide +kernel) rfl (fun _ _ _ h => h) hS13 (fun wF hF => r_move (v := .slice _ _ _) rfl) ?_
      refine g_take 1 rfl (by decide +kernel) rfl (fun _ _ _ h => h) hS13 (fun wF hF => r_move (v := .int .i64 _) rfl) ?_
      refine g_take 2 rfl (by decide +kernel) rfl (fun _ _ _ h => h) hS13 (fun wF hF => r_ixS ti26.und ti5 rfl rfl (St.rowAt hF (.head _)) (by first | omega | (simp [*]; done) | (simp [*] <;> omega)) (by first | (simp [*]; done) | (simp [*] <;> omega) | omega)) ?_
      refine g_take 3 rfl (by decide +kernel) rfl (fun _ _ _ h => h) hS13 (fun wF hF => r_loadS1 ti5.und rfl rfl (St.rowAt hF (.head _)) (by rw [Nat.mul_one]; exact map_gt _ _ _ (by first | omega | (simp [*]; done) | (simp [*] <;> omega)))) ?_
      refine g_take 4 rfl (by decide +kernel) rfl (fun _ _ _ h => h) hS13 (fun wF hF => r_move (v := .slice _ _ _) rfl) ?_
      refine g_take 5 rfl (by decide +kernel) rfl (fun _ _ _ h => h) hS13 (fun wF hF => r_move (v := .int .i64 _) rfl) ?_
      refine g_take 6 rfl (by decide +kernel) rfl (fun _ _ _ h => h) hS13 (fun wF hF => r_ixS ti26.und ti5 rfl rfl (hb.st hF) (by first | omega | (simp [*]; done) | (simp [*] <;> omega)) (by first | (simp [*]; done) | (simp [*] <;> omega) | omega)) ?_
      refine g_take 7 rfl (by decide +kernel) rfl (fun _ _ _ h => h) hS13 (fun wF hF => r_loadS1 ti5.und rfl rfl (hb.st hF) (by rw [Nat.mul_one]; exact map_gt _ _ _ (by first | omega | (simp [*]; done) | (simp [*] <;> omega)))) ?_
      refine g_tail (by decide +kernel) rfl (by decide +kernel) ?_
      refine wl_val (r_xor8 rfl rfl) rfl ?_
      refine wl_val (r_ixS ti26.und ti5 rfl rfl (St.rowAt hS13 (.head _)) (by first | omega | (simp [*]; done) | (simp [*] <;> omega)) (by first | (simp [*]; done) | (simp [*] <;> omega) | omega)) rfl ?_
      refine wl_exs (x_storeRow1 [] hS13 ti5 rfl rfl rfl (by first | omega | (simp [*]; done) | (simp [*] <;> omega))) rfl ?_
      intro w14 hS15
      simp only [List.cons_append, List.nil_append] at hS15
      refine wl_nil ?_
      refine c_inN ?_
      refine c_then ?_
      refine c_region ?_
      refine wl_val (r_addn (b := 1) rfl rfl (by omega)) rfl ?_
      refine wl_val (r_move (v := .int .i64 _) rfl) rfl ?_
      refine wl_nil ?_
      refine c_then ?_
      refine ⟨n1 - (j + 1), _, by omega, rfl, ⟨j + 1, rfl, rfl, ?_, by omega⟩, ⟨rfl, rfl, rfl, rfl, trivial⟩⟩
      rw [← cover_step _ _ _ _ (by omega)]
      exact hS15
    · refine wl_nil ?_
      refine c_then ?_
      refine c_seq ?_
      refine c_false rfl ?_
      refine wp_exit ?_
      refine c_thenE ?_
      refine c_thenE ?_
      refine c_inE ?_
      refine c_then ?_
      refine c_seq ?_
      refine c_region ?_
      refine wl_val (r_move (v := .slice _ _ _) rfl) rfl ?_
      refine wl_val (r_assign (v := .slice _ _ _) rfl) rfl ?_
      refine wl_nil ?_
      refine c_then ?_
      refine wp_ret ?_
      refine ret1 Try.results35 ?_
      obtain rfl : j = n1 := by omega
      refine ⟨_, _, rfl, ?_⟩
      unfold coverL
      rw [hl]
      exact hS10.sub (by simp)

theorem stream_e4 (k n : List UInt8) (p q : Int) (w : World) (hk : k.length = 32) (hn : n.length = 16) (hp : p < 0 ∨ 1099511627776 < p ∨ q < 0) :
    Ret Try.prog 32 [.agg (k.map b8).toArray, .agg (n.map b8).toArray, .int .i64 p, .int .i64 q] w (fun v w' => v = .tuple #[.slice none 0 0, vi 4] ∧ St w [] w' []) := by
  refine enter Try.func32 rfl Try.ntmps32 rfl ?_
  have hS := St.refl w []
  refine c_seq ?_
  refine c_region ?_
  refine wl_exv (x_box hS (v := .agg _) rfl rfl) rfl ?_
  rintro _ w1 ⟨b4, rfl, hS2⟩
  refine wl_exv (x_box hS2 (v := .agg _) rfl rfl) rfl ?_
  rintro _ w3 ⟨b5, rfl, hS4⟩
  refine wl_val (r_assign (v := .slice none 0 0) rfl) rfl ?_
  refine wl_val (r_assign (v := .int .i64 0) rfl) rfl ?_
  refine wl_nil ?_
  refine c_then ?_
  refine c_seq ?_
  refine c_seq ?_
  refine c_region ?_
  refine wl_val (r_move (v := .int .i64 _) rfl) rfl ?_
  refine wl_dec (r_lss rfl rfl) rfl (fun h1_1 => ?_) (fun h1_1 => ?_)
  · refine wl_val (r_move (v := .bool _) rfl) rfl ?_
    refine wl_not rfl ?_
    refine wl_not rfl ?_
    refine wl_val (r_pick_t rfl (v := .bool true) rfl) rfl ?_
    refine wl_val (r_move (v := .bool _) rfl) rfl ?_
    refine wl_not rfl ?_
    refine wl_not rfl ?_
    refine wl_val (r_pick_t rfl (v := .bool true) rfl) rfl ?_
    refine wl_nil ?_
    refine c_then ?_
    refine c_true rfl ?_
    refine c_seq ?_
    refine c_region ?_
    refine wl_val (r_assign (v := .slice none 0 0) rfl) rfl ?_
    refine wl_val (r_assign (v := .int .i64 4) rfl) rfl ?_
    refine wl_nil ?_
    refine c_then ?_
    refine wp_ret ?_
    refine c_thenR ?_
    refine ret2 Try.results32 rfl rfl ?_
    exact ⟨rfl, hS4.fin⟩
  · refine wl_val (r_move (v := .bool _) rfl) rfl ?_
    refine wl_val (r_move (v := .int .i64 _) rfl) rfl ?_
    refine wl_dec (r_gtr rfl rfl) rfl (fun h1_4 => ?_) (fun h1_4 => ?_)
    · refine wl_val (r_pick_f rfl (v := .bool _) rfl) rfl ?_
      refine wl_val (r_move (v := .bool _) rfl) rfl ?_
      refine wl_not rfl ?_
      refine wl_not rfl ?_
      refine wl_val (r_pick_t rfl (v := .bool true) rfl) rfl ?_
      refine wl_nil ?_
      refine c_then ?_
      refine c_true rfl ?_
      refine c_seq ?_
      refine c_region ?_
      refine wl_val (r_assign (v := .slice none 0 0) rfl) rfl ?_
      refine wl_val (r_assign (v := .int .i64 4) rfl) rfl ?_
      refine wl_nil ?_
      refine c_then ?_
      refine wp_ret ?_
      refine c_thenR ?_
      refine ret2 Try.results32 rfl rfl ?_
      exact ⟨rfl, hS4.fin⟩
    · refine wl_val (r_pick_f rfl (v := .bool _) rfl) rfl ?_
      refine wl_val (r_move (v := .bool _) rfl) rfl ?_
      refine wl_val (r_move (v := .int .i64 _) rfl) rfl ?_
      refine wl_dec (r_lss rfl rfl) rfl (fun h1_8 => ?_) (fun h1_8 => ?_)
      · refine wl_val (r_pick_f rfl (v := .bool _) rfl) rfl ?_
        refine wl_nil ?_
        refine c_then ?_
        refine c_true rfl ?_
        refine c_seq ?_
        refine c_region ?_
        refine wl_val (r_assign (v := .slice none 0 0) rfl) rfl ?_
        refine wl_val (r_assign (v := .int .i64 4) rfl) rfl ?_
        refine wl_nil ?_
        refine c_then ?_
        refine wp_ret ?_
        refine c_thenR ?_
        refine ret2 Try.results32 rfl rfl ?_
        exact ⟨rfl, hS4.fin⟩
      · exact absurd hp (by omega)

theorem stream_e5 (k n : List UInt8) (p q : Int) (w : World) (hk : k.length = 32) (hn : n.length = 16) (h0 : 0 ≤ p) (h1 : p ≤ 1099511627776) (h2 : 1048576 < q) :
    Ret Try.prog 32 [.agg (k.map b8).toArray, .agg (n.map b8).toArray, .int .i64 p, .int .i64 q] w (fun v w' => v = .tuple #[.slice none 0 0, vi 5] ∧ St w [] w' []) := by
  refine enter Try.func32 rfl Try.ntmps32 rfl ?_
  have hS := St.refl w []
  refine c_seq ?_
  refine c_region ?_
  refine wl_exv (x_box hS (v := .agg _) rfl rfl) rfl ?_
  rintro _ w1 ⟨b4, rfl, hS2⟩
  refine wl_exv (x_box hS2 (v := .agg _) rfl rfl) rfl ?_
  rintro _ w3 ⟨b5, rfl, hS4⟩
  refine wl_val (r_assign (v := .slice none 0 0) rfl) rfl ?_
  refine wl_val (r_assign (v := .int .i64 0) rfl) rfl ?_
  refine wl_nil ?_
  refine c_then ?_
  refine c_seq ?_
  refine c_seq ?_
  refine c_region ?_
  refine wl_val (r_move (v := .int .i64 _) rfl) rfl ?_
  refine wl_dec_f (r_lss rfl rfl) rfl (by omega) ?_
  refine wl_val (r_move (v := .bool _) rfl) rfl ?_
  refine wl_val (r_move (v := .int .i64 _) rfl) rfl ?_
  refine wl_dec_f (r_gtr rfl rfl) rfl (by omega) ?_
  refine wl_val (r_pick_f rfl (v := .bool _) rfl) rfl ?_
  refine wl_val (r_move (v := .bool _) rfl) rfl ?_
  refine wl_val (r_move (v := .int .i64 _) rfl) rfl ?_
  refine wl_dec_f (r_lss rfl rfl) rfl (by omega) ?_
  refine wl_val (r_pick_f rfl (v := .bool _) rfl) rfl ?_
  refine wl_nil ?_
  refine c_then ?_
  refine c_false rfl ?_
  refine wp_skip ?_
  refine c_then ?_
  refine c_seq ?_
  refine c_seq ?_
  refine c_region ?_
  refine wl_val (r_move (v := .int .i64 _) rfl) rfl ?_
  refine wl_dec_t (r_gtr rfl rfl) rfl (by omega) ?_
  refine wl_nil ?_
  refine c_then ?_
  refine c_true rfl ?_
  refine c_seq ?_
  refine c_region ?_
  refine wl_val (r_assign (v := .slice none 0 0) rfl) rfl ?_
  refine wl_val (r_assign (v := .int .i64 5) rfl) rfl ?_
  refine wl_nil ?_
  refine c_then ?_
  refine wp_ret ?_
  refine c_thenR ?_
  refine ret2 Try.results32 rfl rfl ?_
  exact ⟨rfl, hS4.fin⟩

theorem stream_any (k n : List UInt8) (p q : Int) (w : World) (hk : k.length = 32) (hn : n.length = 16) :
    Ret Try.prog 32 [.agg (k.map b8).toArray, .agg (n.map b8).toArray, .int .i64 p, .int .i64 q] w (fun v w' => ((p < 0 ∨ 1099511627776 < p ∨ q < 0) ∧ v = .tuple #[.slice none 0 0, vi 4] ∧ St w [] w' []) ∨ ((0 ≤ p ∧ p ≤ 1099511627776 ∧ 1048576 < q) ∧ v = .tuple #[.slice none 0 0, vi 5] ∧ St w [] w' []) ∨
      ((0 ≤ p ∧ p ≤ 1099511627776 ∧ 0 ≤ q ∧ q ≤ 1048576) ∧ ∃ a' c', v = .tuple #[.slice a' q.toNat c', vi 0] ∧ St w [] w' [.row (.slice a' q.toNat c') 5 1 q.toNat ((streamL k n p.toNat q.toNat).map b8)])) := by
  by_cases h4 : p < 0 ∨ 1099511627776 < p ∨ q < 0
  · exact (stream_e4 k n p q w hk hn h4).mono fun v w' h => .inl ⟨h4, h⟩
  · by_cases h5 : 1048576 < q
    · exact (stream_e5 k n p q w hk hn (by omega) (by omega) h5).mono fun v w' h => .inr (.inl ⟨⟨by omega, by omega, h5⟩, h⟩)
    · have h := stream_ok k n p.toNat q.toNat w hk hn (by omega) (by omega)
      rw [vi, vi, toNat_cast (p := p) (by omega), toNat_cast (p := q) (by omega)] at h
      exact h.mono fun v w' h => .inr (.inr ⟨⟨by omega, by omega, by omega, by omega⟩, h⟩)

end Go.Proofs.Ytcadjopdjpgomaa
