/- Growth. No condition. -/
import Derived.Test.YtfohfnpehfcaaaaFacts
import Derived.Test.YtfohfnpehfcaaaaTreeB
namespace Go.Proofs.Ytfohfnpehfcaaaa
open Go.Kw
set_option linter.unusedVariables false
set_option linter.unusedSimpArgs false
set_option maxRecDepth 100000
theorem growthSteps_ok (i n : Nat) (w : World) (h1 : 1 ≤ i) (hi : i ≤ n) (hn : n ≤ 140737488355328) :
    Ret Try.prog 135 [vi i, vi n] w (fun v w' => v = vi (gstepsL i n true) ∧ St w [] w' []) := by
  refine enter Try.func135 rfl Try.ntmps135 rfl ?_
  have hS := St.refl w []
  refine c_seq ?_
  refine c_region ?_
  refine wl_val (r_assign (v := .int .i64 0) rfl) rfl ?_
  refine wl_nil ?_
  refine c_then ?_
  refine c_seq ?_
  refine c_region ?_
  refine wl_val (r_assign (v := .int .i64 0) rfl) rfl ?_
  refine wl_nil ?_
  refine c_then ?_
  refine c_seq ?_
  refine c_region ?_
  refine wl_val (r_assign (v := .bool true) rfl) rfl ?_
  refine wl_nil ?_
  refine c_then ?_
  refine c_seq ?_
  refine c_block ?_
  refine c_loopE [4] (fun d e w' => ∃ (j : Nat) (m : Nat) (k : Nat) (wh : Bool), Kw.look e 0 = vi j ∧ Kw.look e 1 = vi m ∧ Kw.look e 5 = vi k ∧ Kw.look e 6 = .bool wh ∧ d = 0 + m ∧ St w [] w' [] ∧ (1 ≤ j ∧ j ≤ m ∧ m ≤ n ∧ k + m ≤ n) ∧ (k + gstepsL j m wh = gstepsL i n true)) (0 + n) ?_ ?_
  · exact ⟨i, n, 0, true, rfl, rfl, rfl, rfl, rfl, hS, by omega, by omega⟩
  · rintro d4 e1 w2 ⟨j, m, k, wh, hc0_0, hc0_1, hc0_5, hc0_6, rfl, hS3, hjm, hst⟩ -
    refine c_set (d := 0) hc0_0 ?_
    refine c_set (d := 1) hc0_1 ?_
    refine c_set (d := 5) hc0_5 ?_
    refine c_set (d := 6) hc0_6 ?_
    refine c_seq ?_
    refine c_seq ?_
    refine c_region ?_
    refine wl_val (r_move (v := .int .i64 _) rfl) rfl ?_
    refine wl_val (r_move (v := .int .i64 _) rfl) rfl ?_
    refine wl_dec (r_lss rfl rfl) rfl (fun h3_2 => ?_) (fun h3_2 => ?_)
    · refine wl_nil ?_
      refine c_then ?_
      refine c_true rfl ?_
      refine wp_skip ?_
      refine c_then ?_
      refine c_block ?_
      refine c_seq ?_
      refine c_region ?_
      refine wl_val (r_move (v := .int .i64 _) rfl) rfl ?_
      refine wl_call (r_call fn176 rfl rfl) rfl (split_ok _ _ (by first | omega | (simp [*]; done) | (simp [*] <;> omega)) (by first | omega | (simp [*]; done) | (simp [*] <;> omega))) ?_
      rintro _ w5 ⟨rfl, hx6⟩
      have hS7 := hS3.ext hx6
      refine wl_val (r_assign (v := .int .i64 _) rfl) rfl ?_
      refine wl_nil ?_
      refine c_then ?_
      refine c_seq ?_
      refine c_seq ?_
      have hlt := halfN_lt (n := m) (by omega)
      have hpo := halfN_pos m
      refine c_region ?_
      refine wl_val (r_move (v := .int .i64 _) rfl) rfl ?_
      refine wl_val (r_move (v := .int .i64 _) rfl) rfl ?_
      refine wl_dec (r_leq rfl rfl) rfl (fun h5_2 => ?_) (fun h5_2 => ?_)
      · refine wl_nil ?_
        refine c_then ?_
        refine c_true rfl ?_
        refine c_region ?_
        refine wl_val (r_move (v := .int .i64 _) rfl) rfl ?_
        refine wl_val (r_assign (v := .int .i64 _) rfl) rfl ?_
        refine wl_nil ?_
        refine c_then ?_
        refine c_region ?_
        refine wl_val (r_move (v := .int .i64 _) rfl) rfl ?_
        refine wl_val (r_addn (b := 1) rfl rfl (by omega)) rfl ?_
        refine wl_val (r_assign (v := .int .i64 _) rfl) rfl ?_
        refine wl_nil ?_
        refine c_inN ?_
        refine c_then ?_
        refine ⟨0 + halfN m, _, by omega, rfl, ⟨_, _, k + 1, _, rfl, rfl, rfl, rfl, rfl, hS7, by omega, ?_⟩, ⟨rfl, trivial⟩⟩
        rw [← hst, gstepsL_lo (m := j) (n := m) (by omega) (by omega) (by omega)]; omega
      · refine wl_nil ?_
        refine c_then ?_
        refine c_false rfl ?_
        refine c_region ?_
        refine wl_val (r_move (v := .int .i64 _) rfl) rfl ?_
        refine wl_val (r_move (v := .int .i64 _) rfl) rfl ?_
        refine wl_val (r_subn rfl rfl (by omega) (by omega)) rfl ?_
        refine wl_val (r_move (v := .int .i64 _) rfl) rfl ?_
        refine wl_val (r_move (v := .int .i64 _) rfl) rfl ?_
        refine wl_val (r_subn rfl rfl (by omega) (by omega)) rfl ?_
        refine wl_val (r_assign (v := .int .i64 _) rfl) rfl ?_
        refine wl_val (r_assign (v := .int .i64 _) rfl) rfl ?_
        refine wl_val (r_assign (v := .bool false) rfl) rfl ?_
        refine wl_nil ?_
        refine c_then ?_
        refine c_region ?_
        refine wl_val (r_move (v := .int .i64 _) rfl) rfl ?_
        refine wl_val (r_addn (b := 1) rfl rfl (by omega)) rfl ?_
        refine wl_val (r_assign (v := .int .i64 _) rfl) rfl ?_
        refine wl_nil ?_
        refine c_inN ?_
        refine c_then ?_
        refine ⟨0 + (m - halfN m), _, by omega, rfl, ⟨_, _, k + 1, _, rfl, rfl, rfl, rfl, rfl, hS7, by omega, ?_⟩, ⟨rfl, trivial⟩⟩
        rw [← hst, gstepsL_hi (m := j) (n := m) (by omega) (by omega) (by omega)]; omega
    · refine wl_nil ?_
      refine c_then ?_
      refine c_false rfl ?_
      refine wp_exit ?_
      refine c_thenE ?_
      refine c_thenE ?_
      refine c_inE ?_
      refine c_then ?_
      refine c_seq ?_
      refine c_seq ?_
      rcases bool_cases wh with rfl | rfl
      · refine c_region ?_
        refine wl_val (r_move (v := .bool _) rfl) rfl ?_
        refine wl_val (r_not rfl) rfl ?_
        refine wl_nil ?_
        refine c_then ?_
        refine c_false rfl ?_
        refine wp_skip ?_
        refine c_then ?_
        refine c_seq ?_
        refine c_region ?_
        refine wl_val (r_move (v := .int .i64 _) rfl) rfl ?_
        refine wl_val (r_assign (v := .int .i64 _) rfl) rfl ?_
        refine wl_nil ?_
        refine c_then ?_
        refine wp_ret ?_
        refine ret1 Try.results135 ?_
        rw [gstepsL_end _ (by omega)] at hst
        exact ⟨congrArg vi (by simpa using hst), hS3.fin⟩
      · refine c_region ?_
        refine wl_val (r_move (v := .bool _) rfl) rfl ?_
        refine wl_val (r_not rfl) rfl ?_
        refine wl_nil ?_
        refine c_then ?_
        refine c_true rfl ?_
        refine c_region ?_
        refine wl_val (r_move (v := .int .i64 _) rfl) rfl ?_
        refine wl_val (r_addn (b := 1) rfl rfl (by omega)) rfl ?_
        refine wl_val (r_assign (v := .int .i64 _) rfl) rfl ?_
        refine wl_nil ?_
        refine c_then ?_
        refine c_seq ?_
        refine c_region ?_
        refine wl_val (r_move (v := .int .i64 _) rfl) rfl ?_
        refine wl_val (r_assign (v := .int .i64 _) rfl) rfl ?_
        refine wl_nil ?_
        refine c_then ?_
        refine wp_ret ?_
        refine ret1 Try.results135 ?_
        rw [gstepsL_end _ (by omega)] at hst
        exact ⟨congrArg vi (by simpa using hst), hS3.fin⟩

theorem follow_step (N : Nat) (IH : ∀ (older : List UInt8) (m n : Nat) (wh : Bool) (a : Option Addr) (k c : Nat) (p : List (List UInt8)) (w : World), n < N → older.length = 32 → Row w a (p.flatten.map b8) → S32 p → p.length = k → k = gstepsL m n wh → 1 ≤ m → m ≤ n → k ≤ c → Ret Try.prog 136 [.agg (older.map b8).toArray, vi m, vi n, .bool wh, .slice a k c] w (fun v w' => v = .tuple #[.agg ((followL older m n wh p).1.map b8).toArray, .agg ((followL older m n wh p).2.map b8).toArray] ∧ St w [] w' [])) (older : List UInt8) (m n : Nat) (wh : Bool) (a : Option Addr) (k c : Nat) (p : List (List UInt8)) (w : World) (hN : n = N) (ho : older.length = 32) (hb : Row w a (p.flatten.map b8)) (h32 : S32 p) (hp : p.length = k) (hk : k = gstepsL m n wh) (h1 : 1 ≤ m) (hmn : m ≤ n) (hc : k ≤ c) (hn : n ≤ 140737488355328) :
    Ret Try.prog 136 [.agg (older.map b8).toArray, vi m, vi n, .bool wh, .slice a k c] w (fun v w' => v = .tuple #[.agg ((followL older m n wh p).1.map b8).toArray, .agg ((followL older m n wh p).2.map b8).toArray] ∧ St w [] w' []) := by
  refine enter Try.func136 rfl Try.ntmps136 rfl ?_
  have hS := St.refl w []
  refine c_seq ?_
  refine c_region ?_
  refine wl_exv (x_box hS (v := .agg _) rfl rfl) rfl ?_
  rintro _ w1 ⟨b5, rfl, hS2⟩
  refine wl_exv (x_alloc (C := ((List.replicate 32 (0 : UInt8)).map b8)) hS2 ti49 rfl) rfl ?_
  rintro _ w3 ⟨b10, rfl, hS4⟩
  refine wl_exv (x_alloc (C := ((List.replicate 32 (0 : UInt8)).map b8)) hS4 ti49 rfl) rfl ?_
  rintro _ w5 ⟨b11, rfl, hS6⟩
  refine wl_nil ?_
  refine c_then ?_
  refine c_seq ?_
  refine c_seq ?_
  refine c_region ?_
  refine wl_val (r_move (v := .int .i64 _) rfl) rfl ?_
  refine wl_val (r_move (v := .int .i64 _) rfl) rfl ?_
  refine wl_dec (r_eql rfl rfl) rfl (fun h1_2 => ?_) (fun h1_2 => ?_)
  · refine wl_nil ?_
    refine c_then ?_
    refine c_true rfl ?_
    refine c_seq ?_
    refine c_seq ?_
    rcases bool_cases wh with rfl | rfl
    · refine c_region ?_
      refine wl_val (r_move (v := .bool _) rfl) rfl ?_
      refine wl_nil ?_
      refine c_then ?_
      refine c_true rfl ?_
      refine c_seq ?_
      refine c_drawSF 3 hMixed hS6 (hS6.perm ((List.Perm.cons _ (List.Perm.refl _)).trans (List.perm_middle (l₁ := [_])).symm)).drop1 ?_
      intro w7 hS8
      refine g_take 0 rfl (by decide +kernel) rfl (fun _ _ _ h => h) (hS8.perm ((List.Perm.cons _ (List.Perm.refl _)).trans (List.perm_middle (l₁ := [_])).symm)).drop1 (fun wF hF => r_loadB ti49 rfl rfl (hF.heap (.tail _ (.head _))) (by first | (simp [*]; done) | (simp [*] <;> omega) | omega)) ?_
      refine g_take 1 rfl (by decide +kernel) rfl (fun _ _ _ h => h) (hS8.perm ((List.Perm.cons _ (List.Perm.refl _)).trans (List.perm_middle (l₁ := [_])).symm)).drop1 (fun wF hF => r_loadB ti49 rfl rfl (hF.heap (.tail _ (.head _))) (by first | (simp [*]; done) | (simp [*] <;> omega) | omega)) ?_
      refine g_one 2 (by decide +kernel) (by decide +kernel) ?_
      refine o_exs rfl (x_storeW [_] hS8 ti49 rfl rfl (by first | (simp [*]; done) | (simp [*] <;> omega) | omega) (by first | (simp [*]; done) | (simp [*] <;> omega) | omega) (by repeat' first | exact one_nil | exact one_b8 _ | exact one_v32 _ | exact one_all rfl | refine one_cons rfl ?_ | refine one_app ?_ ?_)) rfl ?_
      intro w9 hS10
      simp only [List.cons_append, List.nil_append] at hS10
      refine ⟨(hS10.perm ((List.Perm.cons _ (List.Perm.refl _)).trans (List.perm_middle (l₁ := [_])).symm)).drop1, ?_⟩
      refine g_tail (by decide +kernel) rfl (by decide +kernel) ?_
      refine wl_exs (x_storeW [] hS10 ti49 rfl rfl (by first | (simp [*]; done) | (simp [*] <;> omega) | omega) (by first | (simp [*]; done) | (simp [*] <;> omega) | omega) (by repeat' first | exact one_nil | exact one_b8 _ | exact one_v32 _ | exact one_all rfl | refine one_cons rfl ?_ | refine one_app ?_ ?_)) rfl ?_
      intro w11 hS12
      simp only [List.cons_append, List.nil_append] at hS12
      refine wl_nil ?_
      refine c_then ?_
      refine wp_ret ?_
      refine c_thenR ?_
      refine c_thenR ?_
      refine ret2 Try.results136 ⟨_, rfl, run_loadVar_blk ti49 rfl (hS12.heap (.tail _ (.head _))) (by first | (rw [List.length_map]; first | assumption | exact h32.gt (by omega)) | simp)⟩ ⟨_, rfl, run_loadVar_blk ti49 rfl (hS12.heap (.head _)) (by first | (rw [List.length_map]; first | assumption | exact h32.gt (by omega)) | simp)⟩ ?_
      exact ⟨by rw [followL_wh _ _ (by omega)], hS12.fin⟩
    · have hk1 : k = 1 := by rw [hk, gstepsL_end _ (by omega)]; rfl
      refine c_region ?_
      refine wl_val (r_move (v := .bool _) rfl) rfl ?_
      refine wl_nil ?_
      refine c_then ?_
      refine c_false rfl ?_
      refine wp_skip ?_
      refine c_then ?_
      refine c_seq ?_
      refine c_drawSF 7 hMixed hS6 (hS6.perm ((List.Perm.cons _ (List.Perm.refl _)).trans (List.perm_middle (l₁ := [_])).symm)).drop1 ?_
      intro w13 hS14
      refine g_take 0 rfl (by decide +kernel) rfl (fun _ _ _ h => h) (hS14.perm ((List.Perm.cons _ (List.Perm.refl _)).trans (List.perm_middle (l₁ := [_])).symm)).drop1 (fun wF hF => r_move (v := .slice _ _ _) rfl) ?_
      refine g_take 1 rfl (by decide +kernel) rfl (fun _ _ _ h => h) (hS14.perm ((List.Perm.cons _ (List.Perm.refl _)).trans (List.perm_middle (l₁ := [_])).symm)).drop1 (fun wF hF => r_ix32 (m := 0) ti53.und ti49 rfl rfl (hb.st hF) h32 hp (by omega)) ?_
      refine g_take 2 rfl (by decide +kernel) rfl (fun _ _ _ h => h) (hS14.perm ((List.Perm.cons _ (List.Perm.refl _)).trans (List.perm_middle (l₁ := [_])).symm)).drop1 (fun wF hF => r_load32 ti49 rfl rfl (hb.st hF) h32 (by omega)) ?_
      refine g_take 3 rfl (by decide +kernel) rfl (fun _ _ _ h => h) (hS14.perm ((List.Perm.cons _ (List.Perm.refl _)).trans (List.perm_middle (l₁ := [_])).symm)).drop1 (fun wF hF => r_move (v := .slice _ _ _) rfl) ?_
      refine g_take 4 rfl (by decide +kernel) rfl (fun _ _ _ h => h) (hS14.perm ((List.Perm.cons _ (List.Perm.refl _)).trans (List.perm_middle (l₁ := [_])).symm)).drop1 (fun wF hF => r_ix32 (m := 0) ti53.und ti49 rfl rfl (hb.st hF) h32 hp (by omega)) ?_
      refine g_take 5 rfl (by decide +kernel) rfl (fun _ _ _ h => h) (hS14.perm ((List.Perm.cons _ (List.Perm.refl _)).trans (List.perm_middle (l₁ := [_])).symm)).drop1 (fun wF hF => r_load32 ti49 rfl rfl (hb.st hF) h32 (by omega)) ?_
      refine g_one 6 (by decide +kernel) (by decide +kernel) ?_
      refine o_exs rfl (x_storeW [_] hS14 ti49 rfl rfl (by rw [List.length_map]; exact h32.gt (by omega)) (by simp) (one_b8 _)) rfl ?_
      intro w15 hS16
      simp only [List.cons_append, List.nil_append] at hS16
      refine ⟨(hS16.perm ((List.Perm.cons _ (List.Perm.refl _)).trans (List.perm_middle (l₁ := [_])).symm)).drop1, ?_⟩
      refine g_tail (by decide +kernel) rfl (by decide +kernel) ?_
      refine wl_exs (x_storeW [] hS16 ti49 rfl rfl (by rw [List.length_map]; exact h32.gt (by omega)) (by simp) (one_b8 _)) rfl ?_
      intro w17 hS18
      simp only [List.cons_append, List.nil_append] at hS18
      refine wl_nil ?_
      refine c_then ?_
      refine wp_ret ?_
      refine c_thenR ?_
      refine ret2 Try.results136 ⟨_, rfl, run_loadVar_blk ti49 rfl (hS18.heap (.tail _ (.head _))) (by first | (rw [List.length_map]; first | assumption | exact h32.gt (by omega)) | simp)⟩ ⟨_, rfl, run_loadVar_blk ti49 rfl (hS18.heap (.head _)) (by first | (rw [List.length_map]; first | assumption | exact h32.gt (by omega)) | simp)⟩ ?_
      exact ⟨by rw [followL_no _ _ (by omega)], hS18.fin⟩
  · refine wl_nil ?_
    refine c_then ?_
    refine c_false rfl ?_
    refine wp_skip ?_
    refine c_then ?_
    refine c_seq ?_
    have hlt := halfN_lt (n := n) (by omega)
    have hpo := halfN_pos n
    have hst := gstepsL_pos (m := m) (n := n) (wh := wh) (by omega) (by omega)
    have hsn := gsteps_le n m n wh (Nat.le_refl _)
    refine c_region ?_
    refine wl_val (r_move (v := .int .i64 _) rfl) rfl ?_
    refine wl_call (r_call fn176 rfl rfl) rfl (split_ok _ _ (by first | omega | (simp [*]; done) | (simp [*] <;> omega)) (by first | omega | (simp [*]; done) | (simp [*] <;> omega))) ?_
    rintro _ w19 ⟨rfl, hx20⟩
    have hS21 := hS6.ext hx20
    refine wl_val (r_assign (v := .int .i64 _) rfl) rfl ?_
    refine wl_nil ?_
    refine c_then ?_
    refine c_seq ?_
    refine c_drawS 13 hMixed hS21 ?_
    intro w22 hS23
    refine g_take 0 rfl (by decide +kernel) rfl (fun _ _ _ h => h) hS23 (fun wF hF => r_move (v := .slice _ _ _) rfl) ?_
    refine g_take 1 rfl (by decide +kernel) rfl (fun _ _ _ h => h) hS23 (fun wF hF => r_move (v := .slice _ _ _) rfl) ?_
    refine g_take 2 rfl (by decide +kernel) rfl (fun _ _ _ h => h) hS23 (fun wF hF => r_len (T := 53) rfl ti53.und rfl _ rfl) ?_
    refine g_take 3 rfl (by decide +kernel) rfl (fun _ _ _ h => h) hS23 (fun wF hF => r_subn (b := 1) rfl rfl (by omega) (by omega)) ?_
    refine g_take 4 rfl (by decide +kernel) rfl (fun _ _ _ h => h) hS23 (fun wF hF => r_ix32 ti53.und ti49 rfl rfl (hb.st hF) h32 hp (by omega)) ?_
    refine g_take 5 rfl (by decide +kernel) rfl (fun _ _ _ h => h) hS23 (fun wF hF => r_load32 ti49 rfl rfl (hb.st hF) h32 (by omega)) ?_
    refine g_take 6 rfl (by decide +kernel) rfl (fun _ _ _ h => h) hS23 (fun wF hF => r_move (v := .slice _ _ _) rfl) ?_
    refine g_take 7 rfl (by decide +kernel) rfl (fun _ _ _ h => h) hS23 (fun wF hF => r_move (v := .slice _ _ _) rfl) ?_
    refine g_take 8 rfl (by decide +kernel) rfl (fun _ _ _ h => h) hS23 (fun wF hF => r_len (T := 53) rfl ti53.und rfl _ rfl) ?_
    refine g_take 9 rfl (by decide +kernel) rfl (fun _ _ _ h => h) hS23 (fun wF hF => r_subn (b := 1) rfl rfl (by omega) (by omega)) ?_
    refine g_take 10 rfl (by decide +kernel) rfl (fun _ _ _ h => h) hS23 (fun wF hF => r_sl_h ti53.und ti49 rfl rfl (by omega)) ?_
    have ht : Row w a ((p.take (k - 1)).flatten.map b8) := hb.take32 h32 _
    refine g_one 11 (by decide +kernel) (by decide +kernel) ?_
    refine o_exv rfl (x_alloc (C := ((List.replicate 32 (0 : UInt8)).map b8)) hS23 ti49 rfl) rfl ?_
    rintro _ w24 ⟨b13, rfl, hS25⟩
    refine ⟨hS25.drop1, ?_⟩
    refine g_one 12 (by decide +kernel) (by decide +kernel) ?_
    refine o_exs rfl (x_storeW [] hS25 ti49 rfl rfl (by rw [List.length_map]; exact h32.gt (by omega)) (by simp) (one_b8 _)) rfl ?_
    intro w26 hS27
    simp only [List.cons_append, List.nil_append] at hS27
    refine ⟨hS27.drop1, ?_⟩
    refine g_tail (by decide +kernel) rfl (by decide +kernel) ?_
    refine wl_val (r_assign (v := .slice _ _ _) rfl) rfl ?_
    refine wl_nil ?_
    refine c_then ?_
    refine c_seq ?_
    refine c_seq ?_
    refine c_region ?_
    refine wl_val (r_move (v := .int .i64 _) rfl) rfl ?_
    refine wl_val (r_move (v := .int .i64 _) rfl) rfl ?_
    refine wl_dec (r_leq rfl rfl) rfl (fun h7_2 => ?_) (fun h7_2 => ?_)
    · refine wl_nil ?_
      refine c_then ?_
      refine c_true rfl ?_
      refine c_seq ?_
      refine c_region ?_
      refine wl_val (r_loadB ti49 rfl rfl (hS27.heap (.tail _ (.tail _ (.tail _ (.head _))))) (by first | (simp [*]; done) | (simp [*] <;> omega) | omega)) rfl ?_
      refine wl_val (r_move (v := .int .i64 _) rfl) rfl ?_
      refine wl_val (r_move (v := .int .i64 _) rfl) rfl ?_
      refine wl_val (r_move (v := .bool _) rfl) rfl ?_
      refine wl_val (r_move (v := .slice _ _ _) rfl) rfl ?_
      refine wl_call (r_call fn136 rfl rfl) rfl (IH older (m) (halfN n) wh _ (k - 1) _ (p.take (k - 1)) _ (by omega) ho (ht.st hS27) (h32.take _) (by simp; omega) (by have := gstepsL_lo (m := m) (n := n) (wh := wh) (by omega) (by omega) (by omega); omega) (by omega) (by omega) (by omega)) ?_
      rintro _ w28 ⟨rfl, hx29⟩
      have hS30 := hS27.ext hx29
      obtain ⟨hf1, hf2⟩ := followL_len _ older (m) (halfN n) wh (p.take (k - 1)) (Nat.le_refl _) ho (h32.take _) (by have := gstepsL_lo (m := m) (n := n) (wh := wh) (by omega) (by omega) (by omega); simp; omega) (by omega) (by omega)
      refine wl_val (r_move (v := .tuple _) rfl) rfl ?_
      refine wl_val (r_extract (v := .agg _) rfl rfl) rfl ?_
      refine wl_val (r_extract (v := .agg _) rfl rfl) rfl ?_
      refine wl_exv (x_alloc (C := ((List.replicate 32 (0 : UInt8)).map b8)) hS30 ti49 rfl) rfl ?_
      rintro _ w31 ⟨b15, rfl, hS32⟩
      refine wl_exv (x_alloc (C := ((List.replicate 32 (0 : UInt8)).map b8)) hS32 ti49 rfl) rfl ?_
      rintro _ w33 ⟨b16, rfl, hS34⟩
      refine wl_exs (x_storeW [_] hS34 ti49 rfl rfl (by rw [List.length_map]; exact hf1) (by simp) (one_b8 _)) rfl ?_
      intro w35 hS36
      simp only [List.cons_append, List.nil_append] at hS36
      refine wl_exs (x_storeW [] hS36 ti49 rfl rfl (by rw [List.length_map]; exact hf2) (by simp) (one_b8 _)) rfl ?_
      intro w37 hS38
      simp only [List.cons_append, List.nil_append] at hS38
      refine wl_nil ?_
      refine c_then ?_
      refine c_seq ?_
      refine c_drawS 4 hMixed hS38 ?_
      intro w39 hS40
      refine g_take 0 rfl (by decide +kernel) rfl (fun _ _ _ h => h) hS40 (fun wF hF => r_loadB ti49 rfl rfl (hF.heap (.tail _ (.head _))) (by rw [List.length_map]; exact hf1)) ?_
      refine g_take 1 rfl (by decide +kernel) rfl (fun _ _ _ h => h) hS40 (fun wF hF => r_loadB ti49 rfl rfl (hF.heap (.head _)) (by rw [List.length_map]; exact hf2)) ?_
      refine g_take 2 rfl (by decide +kernel) rfl (fun _ _ _ h => h) hS40 (fun wF hF => r_loadB ti49 rfl rfl (hF.heap (.tail _ (.tail _ (.head _)))) (by rw [List.length_map]; exact h32.gt (by omega))) ?_
      refine g_one 3 (by decide +kernel) (by decide +kernel) ?_
      refine o_call rfl (r_call fn52 rfl rfl) rfl (node_ok _ _ _ hf2 (h32.gt (by omega))) ?_
      rintro _ w41 ⟨rfl, hx42⟩
      have hS43 := hS40.ext hx42
      refine ⟨hS43, ?_⟩
      refine g_tail (by decide +kernel) rfl (by decide +kernel) ?_
      refine wl_exs (x_storeW [_, _, _, _] hS43 ti49 rfl rfl (by rw [List.length_map]; exact hf1) (by simp) (one_b8 _)) rfl ?_
      intro w44 hS45
      simp only [List.cons_append, List.nil_append] at hS45
      refine wl_exs (x_storeW [_, _, _] hS45 ti49 rfl rfl (by first | (simp [*]; done) | (simp [*] <;> omega) | omega) (by first | (simp [*]; done) | (simp [*] <;> omega) | omega) (by repeat' first | exact one_nil | exact one_b8 _ | exact one_v32 _ | exact one_all rfl | refine one_cons rfl ?_ | refine one_app ?_ ?_)) rfl ?_
      intro w46 hS47
      simp only [List.cons_append, List.nil_append] at hS47
      refine wl_nil ?_
      refine c_then ?_
      refine wp_ret ?_
      refine c_thenR ?_
      refine ret2 Try.results136 ⟨_, rfl, run_loadVar_blk ti49 rfl (hS47.heap (.tail _ (.tail _ (.tail _ (.tail _ (.head _)))))) (by first | (rw [List.length_map]; first | assumption | exact h32.gt (by omega)) | simp)⟩ ⟨_, rfl, run_loadVar_blk ti49 rfl (hS47.heap (.tail _ (.tail _ (.tail _ (.head _))))) (by first | (rw [List.length_map]; first | assumption | exact h32.gt (by omega)) | simp)⟩ ?_
      exact ⟨by rw [followL_lo (older := older) (m := m) (n := n) (wh := wh) hp (by omega) (by omega) (by omega)], hS47.fin⟩
    · refine wl_nil ?_
      refine c_then ?_
      refine c_false rfl ?_
      refine wp_skip ?_
      refine c_then ?_
      refine c_seq ?_
      refine c_region ?_
      refine wl_val (r_loadB ti49 rfl rfl (hS27.heap (.tail _ (.tail _ (.tail _ (.head _))))) (by first | (simp [*]; done) | (simp [*] <;> omega) | omega)) rfl ?_
      refine wl_val (r_move (v := .int .i64 _) rfl) rfl ?_
      refine wl_val (r_move (v := .int .i64 _) rfl) rfl ?_
      refine wl_val (r_subn rfl rfl (by omega) (by omega)) rfl ?_
      refine wl_val (r_move (v := .int .i64 _) rfl) rfl ?_
      refine wl_val (r_move (v := .int .i64 _) rfl) rfl ?_
      refine wl_val (r_subn rfl rfl (by omega) (by omega)) rfl ?_
      refine wl_val (r_move (v := .slice _ _ _) rfl) rfl ?_
      refine wl_call (r_call fn136 rfl rfl) rfl (IH older (m - halfN n) (n - halfN n) false _ (k - 1) _ (p.take (k - 1)) _ (by omega) ho (ht.st hS27) (h32.take _) (by simp; omega) (by have := gstepsL_hi (m := m) (n := n) (wh := wh) (by omega) (by omega) (by omega); omega) (by omega) (by omega) (by omega)) ?_
      rintro _ w48 ⟨rfl, hx49⟩
      have hS50 := hS27.ext hx49
      obtain ⟨hf1, hf2⟩ := followL_len _ older (m - halfN n) (n - halfN n) false (p.take (k - 1)) (Nat.le_refl _) ho (h32.take _) (by have := gstepsL_hi (m := m) (n := n) (wh := wh) (by omega) (by omega) (by omega); simp; omega) (by omega) (by omega)
      refine wl_val (r_move (v := .tuple _) rfl) rfl ?_
      refine wl_val (r_extract (v := .agg _) rfl rfl) rfl ?_
      refine wl_val (r_extract (v := .agg _) rfl rfl) rfl ?_
      refine wl_exv (x_alloc (C := ((List.replicate 32 (0 : UInt8)).map b8)) hS50 ti49 rfl) rfl ?_
      rintro _ w51 ⟨b17, rfl, hS52⟩
      refine wl_exv (x_alloc (C := ((List.replicate 32 (0 : UInt8)).map b8)) hS52 ti49 rfl) rfl ?_
      rintro _ w53 ⟨b18, rfl, hS54⟩
      refine wl_exs (x_storeW [_] hS54 ti49 rfl rfl (by rw [List.length_map]; exact hf1) (by simp) (one_b8 _)) rfl ?_
      intro w55 hS56
      simp only [List.cons_append, List.nil_append] at hS56
      refine wl_exs (x_storeW [] hS56 ti49 rfl rfl (by rw [List.length_map]; exact hf2) (by simp) (one_b8 _)) rfl ?_
      intro w57 hS58
      simp only [List.cons_append, List.nil_append] at hS58
      refine wl_nil ?_
      refine c_then ?_
      refine c_seq ?_
      refine c_drawS 5 hMixed hS58 ?_
      intro w59 hS60
      refine g_take 0 rfl (by decide +kernel) rfl (fun _ _ _ h => h) hS60 (fun wF hF => r_loadB ti49 rfl rfl (hF.heap (.tail _ (.tail _ (.head _)))) (by rw [List.length_map]; exact h32.gt (by omega))) ?_
      refine g_take 1 rfl (by decide +kernel) rfl (fun _ _ _ h => h) hS60 (fun wF hF => r_loadB ti49 rfl rfl (hF.heap (.tail _ (.head _))) (by rw [List.length_map]; exact hf1)) ?_
      refine g_take 3 rfl (by decide +kernel) rfl (fun _ _ _ h => h) hS60 (fun wF hF => r_loadB ti49 rfl rfl (hF.heap (.tail _ (.tail _ (.head _)))) (by rw [List.length_map]; exact h32.gt (by omega))) ?_
      refine g_take 4 rfl (by decide +kernel) rfl (fun _ _ _ h => h) hS60 (fun wF hF => r_loadB ti49 rfl rfl (hF.heap (.head _)) (by rw [List.length_map]; exact hf2)) ?_
      refine g_one 2 (by decide +kernel) (by decide +kernel) ?_
      refine o_call rfl (r_call fn52 rfl rfl) rfl (node_ok _ _ _ (h32.gt (by omega)) hf1) ?_
      rintro _ w61 ⟨rfl, hx62⟩
      have hS63 := hS60.ext hx62
      refine ⟨hS63, ?_⟩
      refine g_tail (by decide +kernel) rfl (by decide +kernel) ?_
      refine wl_call (r_call fn52 rfl rfl) rfl (node_ok _ _ _ (h32.gt (by omega)) hf2) ?_
      rintro _ w64 ⟨rfl, hx65⟩
      have hS66 := hS63.ext hx65
      refine wl_exs (x_storeW [_, _, _, _] hS66 ti49 rfl rfl (by first | (simp [*]; done) | (simp [*] <;> omega) | omega) (by first | (simp [*]; done) | (simp [*] <;> omega) | omega) (by repeat' first | exact one_nil | exact one_b8 _ | exact one_v32 _ | exact one_all rfl | refine one_cons rfl ?_ | refine one_app ?_ ?_)) rfl ?_
      intro w67 hS68
      simp only [List.cons_append, List.nil_append] at hS68
      refine wl_exs (x_storeW [_, _, _] hS68 ti49 rfl rfl (by first | (simp [*]; done) | (simp [*] <;> omega) | omega) (by first | (simp [*]; done) | (simp [*] <;> omega) | omega) (by repeat' first | exact one_nil | exact one_b8 _ | exact one_v32 _ | exact one_all rfl | refine one_cons rfl ?_ | refine one_app ?_ ?_)) rfl ?_
      intro w69 hS70
      simp only [List.cons_append, List.nil_append] at hS70
      refine wl_nil ?_
      refine c_then ?_
      refine wp_ret ?_
      refine ret2 Try.results136 ⟨_, rfl, run_loadVar_blk ti49 rfl (hS70.heap (.tail _ (.tail _ (.tail _ (.tail _ (.head _)))))) (by first | (rw [List.length_map]; first | assumption | exact h32.gt (by omega)) | simp)⟩ ⟨_, rfl, run_loadVar_blk ti49 rfl (hS70.heap (.tail _ (.tail _ (.tail _ (.head _))))) (by first | (rw [List.length_map]; first | assumption | exact h32.gt (by omega)) | simp)⟩ ?_
      exact ⟨by rw [followL_hi (older := older) (m := m) (n := n) (wh := wh) hp (by omega) (by omega) (by omega)], hS70.fin⟩

theorem follow_ok : ∀ (n : Nat) (older : List UInt8) (m : Nat) (wh : Bool) (a : Option Addr) (k c : Nat) (p : List (List UInt8)) (w : World) (ho : older.length = 32) (hb : Row w a (p.flatten.map b8)) (h32 : S32 p) (hp : p.length = k) (hk : k = gstepsL m n wh) (h1 : 1 ≤ m) (hmn : m ≤ n) (hc : k ≤ c) (hn : n ≤ 140737488355328), Ret Try.prog 136 [.agg (older.map b8).toArray, vi m, vi n, .bool wh, .slice a k c] w (fun v w' => v = .tuple #[.agg ((followL older m n wh p).1.map b8).toArray, .agg ((followL older m n wh p).2.map b8).toArray] ∧ St w [] w' []) := by
  intro n
  induction n using Nat.strongRecOn with
  | _ n ih => exact fun older m wh a k c p w h1 h2 h3 h4 h5 h6 h7 h8 hn => follow_step n (fun older m j wh a k c p w hlt h1 h2 h3 h4 h5 h6 h7 h8 => ih j hlt older m wh a k c p w h1 h2 h3 h4 h5 h6 h7 h8 (by omega)) older m n wh a k c p w rfl h1 h2 h3 h4 h5 h6 h7 h8 hn

theorem grown_ok (older newer : List UInt8) (ix sz : Int) (pa : Option Addr) (pc : Nat) (pl : List (List UInt8)) (w : World) (ho : older.length = 32) (hnw : newer.length = 32) (hp : Row w pa (pl.flatten.map b8)) (h32 : S32 pl) (hpc : pl.length ≤ pc) (hpm : pl.length ≤ 4398046511104) (hi1 : -9223372036854775808 ≤ ix) (hi2 : ix ≤ 9223372036854775807) (hs1 : -9223372036854775808 ≤ sz) (hs2 : sz ≤ 9223372036854775807) :
    Ret Try.prog 63 [.agg (older.map b8).toArray, .agg (newer.map b8).toArray, .agg #[.int .i64 ix, .int .i64 sz, .slice pa pl.length pc]] w (fun v w' => v = .int .i64 (grownE older newer ix sz pl) ∧ St w [] w' []) := by
  refine enter Try.func63 rfl Try.ntmps63 rfl ?_
  have hS := St.refl w []
  refine c_seq ?_
  refine c_region ?_
  refine wl_exv (x_box hS (v := .agg _) rfl rfl) rfl ?_
  rintro _ w1 ⟨b3, rfl, hS2⟩
  refine wl_exv (x_box hS2 (v := .agg _) rfl rfl) rfl ?_
  rintro _ w3 ⟨b4, rfl, hS4⟩
  refine wl_exv (x_box hS4 (v := .agg _) rfl rfl) rfl ?_
  rintro _ w5 ⟨b5, rfl, hS6⟩
  refine wl_val (r_assign (v := .int .i64 0) rfl) rfl ?_
  refine wl_nil ?_
  refine c_then ?_
  refine c_seq ?_
  refine c_seq ?_
  refine c_region ?_
  refine wl_val (r_field fa55_1 rfl) rfl ?_
  refine wl_val (r_loadB1 ti3.und rfl rfl (hS6.heap (.head _)) rfl) rfl ?_
  refine wl_dec (r_lss rfl rfl) rfl (fun h1_2 => ?_) (fun h1_2 => ?_)
  · refine wl_val (r_move (v := .bool _) rfl) rfl ?_
    refine wl_not rfl ?_
    refine wl_not rfl ?_
    refine wl_not rfl ?_
    refine wl_val (r_pick_t rfl (v := .bool true) rfl) rfl ?_
    refine wl_val (r_move (v := .bool _) rfl) rfl ?_
    refine wl_not rfl ?_
    refine wl_not rfl ?_
    refine wl_not rfl ?_
    refine wl_val (r_pick_t rfl (v := .bool true) rfl) rfl ?_
    refine wl_val (r_move (v := .bool _) rfl) rfl ?_
    refine wl_not rfl ?_
    refine wl_not rfl ?_
    refine wl_not rfl ?_
    refine wl_not rfl ?_
    refine wl_not rfl ?_
    refine wl_val (r_pick_t rfl (v := .bool true) rfl) rfl ?_
    refine wl_nil ?_
    refine c_then ?_
    refine c_true rfl ?_
    refine c_seq ?_
    refine c_region ?_
    refine wl_val (r_assign (v := .int .i64 4) rfl) rfl ?_
    refine wl_nil ?_
    refine c_then ?_
    refine wp_ret ?_
    refine c_thenR ?_
    refine ret1 Try.results63 ?_
    exact ⟨congrArg (Value.int .i64) (grownE_range (by omega)).symm, hS6.fin⟩
  · refine wl_val (r_move (v := .bool _) rfl) rfl ?_
    refine wl_val (r_field fa55_1 rfl) rfl ?_
    refine wl_val (r_loadB1 ti3.und rfl rfl (hS6.heap (.head _)) rfl) rfl ?_
    refine wl_dec (r_gtr rfl rfl) rfl (fun h1_6 => ?_) (fun h1_6 => ?_)
    · refine wl_val (r_pick_f rfl (v := .bool _) rfl) rfl ?_
      refine wl_val (r_move (v := .bool _) rfl) rfl ?_
      refine wl_not rfl ?_
      refine wl_not rfl ?_
      refine wl_not rfl ?_
      refine wl_val (r_pick_t rfl (v := .bool true) rfl) rfl ?_
      refine wl_val (r_move (v := .bool _) rfl) rfl ?_
      refine wl_not rfl ?_
      refine wl_not rfl ?_
      refine wl_not rfl ?_
      refine wl_not rfl ?_
      refine wl_not rfl ?_
      refine wl_val (r_pick_t rfl (v := .bool true) rfl) rfl ?_
      refine wl_nil ?_
      refine c_then ?_
      refine c_true rfl ?_
      refine c_seq ?_
      refine c_region ?_
      refine wl_val (r_assign (v := .int .i64 4) rfl) rfl ?_
      refine wl_nil ?_
      refine c_then ?_
      refine wp_ret ?_
      refine c_thenR ?_
      refine ret1 Try.results63 ?_
      exact ⟨congrArg (Value.int .i64) (grownE_range (by omega)).symm, hS6.fin⟩
    · refine wl_val (r_pick_f rfl (v := .bool _) rfl) rfl ?_
      refine wl_val (r_move (v := .bool _) rfl) rfl ?_
      refine wl_val (r_field fa55_0 rfl) rfl ?_
      refine wl_val (r_loadB1 ti3.und rfl rfl (hS6.heap (.head _)) rfl) rfl ?_
      refine wl_dec (r_lss rfl rfl) rfl (fun h1_11 => ?_) (fun h1_11 => ?_)
      · refine wl_val (r_pick_f rfl (v := .bool _) rfl) rfl ?_
        refine wl_val (r_move (v := .bool _) rfl) rfl ?_
        refine wl_not rfl ?_
        refine wl_not rfl ?_
        refine wl_not rfl ?_
        refine wl_not rfl ?_
        refine wl_not rfl ?_
        refine wl_val (r_pick_t rfl (v := .bool true) rfl) rfl ?_
        refine wl_nil ?_
        refine c_then ?_
        refine c_true rfl ?_
        refine c_seq ?_
        refine c_region ?_
        refine wl_val (r_assign (v := .int .i64 4) rfl) rfl ?_
        refine wl_nil ?_
        refine c_then ?_
        refine wp_ret ?_
        refine c_thenR ?_
        refine ret1 Try.results63 ?_
        exact ⟨congrArg (Value.int .i64) (grownE_range (by omega)).symm, hS6.fin⟩
      · refine wl_val (r_pick_f rfl (v := .bool _) rfl) rfl ?_
        refine wl_val (r_move (v := .bool _) rfl) rfl ?_
        refine wl_val (r_field fa55_0 rfl) rfl ?_
        refine wl_val (r_loadB1 ti3.und rfl rfl (hS6.heap (.head _)) rfl) rfl ?_
        refine wl_val (r_field fa55_1 rfl) rfl ?_
        refine wl_val (r_loadB1 ti3.und rfl rfl (hS6.heap (.head _)) rfl) rfl ?_
        refine wl_dec (r_gtr rfl rfl) rfl (fun h1_18 => ?_) (fun h1_18 => ?_)
        · refine wl_val (r_pick_f rfl (v := .bool _) rfl) rfl ?_
          refine wl_nil ?_
          refine c_then ?_
          refine c_true rfl ?_
          refine c_seq ?_
          refine c_region ?_
          refine wl_val (r_assign (v := .int .i64 4) rfl) rfl ?_
          refine wl_nil ?_
          refine c_then ?_
          refine wp_ret ?_
          refine c_thenR ?_
          refine ret1 Try.results63 ?_
          exact ⟨congrArg (Value.int .i64) (grownE_range (by omega)).symm, hS6.fin⟩
        · refine wl_val (r_pick_f rfl (v := .bool _) rfl) rfl ?_
          refine wl_nil ?_
          refine c_then ?_
          refine c_false rfl ?_
          refine wp_skip ?_
          refine c_then ?_
          refine c_seq ?_
          refine c_seq ?_
          obtain ⟨sz', rfl⟩ : ∃ i : Nat, sz = (i : Int) := ⟨sz.toNat, (by omega)⟩
          obtain ⟨ix', rfl⟩ : ∃ i : Nat, ix = (i : Int) := ⟨ix.toNat, (by omega)⟩
          refine c_drawS 8 hMixed hS6 ?_
          intro w7 hS8
          refine g_take 0 rfl (by decide +kernel) rfl (fun _ _ _ h => h) hS8 (fun wF hF => r_field fa55_2 rfl) ?_
          refine g_take 1 rfl (by decide +kernel) rfl (fun _ _ _ h => h) hS8 (fun wF hF => r_loadB1 ti53.und rfl rfl (hF.heap (.head _)) rfl) ?_
          refine g_take 2 rfl (by decide +kernel) rfl (fun _ _ _ h => h) hS8 (fun wF hF => r_len (T := 53) rfl ti53.und rfl _ rfl) ?_
          refine g_take 3 rfl (by decide +kernel) rfl (fun _ _ _ h => h) hS8 (fun wF hF => r_field fa55_0 rfl) ?_
          refine g_take 4 rfl (by decide +kernel) rfl (fun _ _ _ h => h) hS8 (fun wF hF => r_loadB1 ti3.und rfl rfl (hF.heap (.head _)) rfl) ?_
          refine g_take 5 rfl (by decide +kernel) rfl (fun _ _ _ h => h) hS8 (fun wF hF => r_field fa55_1 rfl) ?_
          refine g_take 6 rfl (by decide +kernel) rfl (fun _ _ _ h => h) hS8 (fun wF hF => r_loadB1 ti3.und rfl rfl (hF.heap (.head _)) rfl) ?_
          refine g_one 7 (by decide +kernel) (by decide +kernel) ?_
          refine o_call rfl (r_call fn135 rfl rfl) rfl (growthSteps_ok ix' sz' _ (by omega) (by omega) (by omega)) ?_
          rintro _ w9 ⟨rfl, hx10⟩
          have hS11 := hS8.ext hx10
          refine ⟨hS11, ?_⟩
          refine g_tail (by decide +kernel) rfl (by decide +kernel) ?_
          refine wl_dec (r_neq rfl rfl) rfl (fun h3_8 => ?_) (fun h3_8 => ?_)
          · refine wl_nil ?_
            refine c_then ?_
            refine c_true rfl ?_
            refine c_seq ?_
            refine c_region ?_
            refine wl_val (r_assign (v := .int .i64 12) rfl) rfl ?_
            refine wl_nil ?_
            refine c_then ?_
            refine wp_ret ?_
            refine c_thenR ?_
            refine ret1 Try.results63 ?_
            exact ⟨congrArg (Value.int .i64) (grownE_len (by omega) (by omega) (by omega) (by omega)).symm, hS11.fin⟩
          · refine wl_nil ?_
            refine c_then ?_
            refine c_false rfl ?_
            refine wp_skip ?_
            refine c_then ?_
            refine c_seq ?_
            refine c_region ?_
            refine wl_val (r_loadB ti49 rfl rfl (hS11.heap (.tail _ (.tail _ (.head _)))) (by first | (simp [*]; done) | (simp [*] <;> omega) | omega)) rfl ?_
            refine wl_val (r_field fa55_0 rfl) rfl ?_
            refine wl_val (r_loadB1 ti3.und rfl rfl (hS11.heap (.head _)) rfl) rfl ?_
            refine wl_val (r_field fa55_1 rfl) rfl ?_
            refine wl_val (r_loadB1 ti3.und rfl rfl (hS11.heap (.head _)) rfl) rfl ?_
            refine wl_val (r_field fa55_2 rfl) rfl ?_
            refine wl_val (r_loadB1 ti53.und rfl rfl (hS11.heap (.head _)) rfl) rfl ?_
            refine wl_call (r_call fn136 rfl rfl) rfl (follow_ok sz' older ix' true _ _ _ pl _ ho (hp.st hS11) h32 rfl (by omega) (by omega) (by omega) hpc (by omega)) ?_
            rintro _ w12 ⟨rfl, hx13⟩
            have hS14 := hS11.ext hx13
            obtain ⟨hf1, hf2⟩ := followL_len _ older ix' sz' true pl (Nat.le_refl _) ho h32 (by omega) (by omega) (by omega)
            refine wl_val (r_move (v := .tuple _) rfl) rfl ?_
            refine wl_val (r_extract (v := .agg _) rfl rfl) rfl ?_
            refine wl_val (r_extract (v := .agg _) rfl rfl) rfl ?_
            refine wl_exv (x_alloc (C := ((List.replicate 32 (0 : UInt8)).map b8)) hS14 ti49 rfl) rfl ?_
            rintro _ w15 ⟨b7, rfl, hS16⟩
            refine wl_exv (x_alloc (C := ((List.replicate 32 (0 : UInt8)).map b8)) hS16 ti49 rfl) rfl ?_
            rintro _ w17 ⟨bb8, rfl, hS18⟩
            refine wl_exs (x_storeW [_] hS18 ti49 rfl rfl (by rw [List.length_map]; exact hf1) (by simp) (one_b8 _)) rfl ?_
            intro w19 hS20
            simp only [List.cons_append, List.nil_append] at hS20
            refine wl_exs (x_storeW [] hS20 ti49 rfl rfl (by rw [List.length_map]; exact hf2) (by simp) (one_b8 _)) rfl ?_
            intro w21 hS22
            simp only [List.cons_append, List.nil_append] at hS22
            refine wl_nil ?_
            refine c_then ?_
            refine c_seq ?_
            refine c_seq ?_
            refine c_region ?_
            refine wl_val (r_loadB ti49 rfl rfl (hS22.heap (.tail _ (.head _))) (by rw [List.length_map]; exact hf1)) rfl ?_
            refine wl_val (r_loadB ti49 rfl rfl (hS22.heap (.tail _ (.tail _ (.tail _ (.tail _ (.head _)))))) (by first | (simp [*]; done) | (simp [*] <;> omega) | omega)) rfl ?_
            refine wl_dec (r_neqA (u := undef) eg49 rfl rfl (eqIs_b8 ti49.und ti5 _ _ hf1 ho)) rfl (fun h6_2 => ?_) (fun h6_2 => ?_)
            · refine wl_val (r_move (v := .bool _) rfl) rfl ?_
              refine wl_not rfl ?_
              refine wl_not rfl ?_
              refine wl_not rfl ?_
              refine wl_val (r_pick_t rfl (v := .bool true) rfl) rfl ?_
              refine wl_nil ?_
              refine c_then ?_
              refine c_true rfl ?_
              refine c_seq ?_
              refine c_region ?_
              refine wl_val (r_assign (v := .int .i64 12) rfl) rfl ?_
              refine wl_nil ?_
              refine c_then ?_
              refine wp_ret ?_
              refine c_thenR ?_
              refine ret1 Try.results63 ?_
              exact ⟨congrArg (Value.int .i64) (grownE_no (by omega) (by omega) (by omega) (fun h => h6_2 (congrArg Prod.fst h))).symm, hS22.fin⟩
            · refine wl_val (r_move (v := .bool _) rfl) rfl ?_
              refine wl_val (r_loadB ti49 rfl rfl (hS22.heap (.head _)) (by rw [List.length_map]; exact hf2)) rfl ?_
              refine wl_val (r_loadB ti49 rfl rfl (hS22.heap (.tail _ (.tail _ (.tail _ (.head _))))) (by first | (simp [*]; done) | (simp [*] <;> omega) | omega)) rfl ?_
              refine wl_dec (r_neqA (u := undef) eg49 rfl rfl (eqIs_b8 ti49.und ti5 _ _ hf2 hnw)) rfl (fun h6_6 => ?_) (fun h6_6 => ?_)
              · refine wl_val (r_pick_f rfl (v := .bool _) rfl) rfl ?_
                refine wl_nil ?_
                refine c_then ?_
                refine c_true rfl ?_
                refine c_seq ?_
                refine c_region ?_
                refine wl_val (r_assign (v := .int .i64 12) rfl) rfl ?_
                refine wl_nil ?_
                refine c_then ?_
                refine wp_ret ?_
                refine c_thenR ?_
                refine ret1 Try.results63 ?_
                exact ⟨congrArg (Value.int .i64) (grownE_no (by omega) (by omega) (by omega) (fun h => h6_6 (congrArg Prod.snd h))).symm, hS22.fin⟩
              · refine wl_val (r_pick_f rfl (v := .bool _) rfl) rfl ?_
                refine wl_nil ?_
                refine c_then ?_
                refine c_false rfl ?_
                refine wp_skip ?_
                refine c_then ?_
                refine c_seq ?_
                refine c_region ?_
                refine wl_val (r_assign (v := .int .i64 0) rfl) rfl ?_
                refine wl_nil ?_
                refine c_then ?_
                refine wp_ret ?_
                refine ret1 Try.results63 ?_
                exact ⟨congrArg (Value.int .i64) (grownE_ok (by omega) (by omega) (by omega) (by omega) (Prod.ext (Classical.not_not.1 h6_2) (Classical.not_not.1 h6_6))).symm, hS22.fin⟩

theorem rgrow_step (N : Nat) (IH : ∀ (older : List UInt8) (m n : Nat) (wh : Bool) (a : Option Addr) (k c : Nat) (p : List (List UInt8)) (w : World), n < N → older.length = 32 → Row w a (p.flatten.map b8) → S32 p → p.length = k → 1 ≤ m → m ≤ n → k ≤ c → k ≤ 4398046511104 → Ret Try.prog 137 [vi m, vi n, .bool wh, .agg (older.map b8).toArray, .slice a k c] w (fun v w' => Grew older m n wh p v ∧ St w [] w' [])) (older : List UInt8) (m n : Nat) (wh : Bool) (a : Option Addr) (k c : Nat) (p : List (List UInt8)) (w : World) (hN : n = N) (ho : older.length = 32) (hb : Row w a (p.flatten.map b8)) (h32 : S32 p) (hp : p.length = k) (h1 : 1 ≤ m) (hmn : m ≤ n) (hc : k ≤ c) (hkm : k ≤ 4398046511104) (hn : n ≤ 140737488355328) :
    Ret Try.prog 137 [vi m, vi n, .bool wh, .agg (older.map b8).toArray, .slice a k c] w (fun v w' => Grew older m n wh p v ∧ St w [] w' []) := by
  refine enter Try.func137 rfl Try.ntmps137 rfl ?_
  have hS := St.refl w []
  refine c_seq ?_
  refine c_region ?_
  refine wl_exv (x_box hS (v := .agg _) rfl rfl) rfl ?_
  rintro _ w1 ⟨bb8, rfl, hS2⟩
  refine wl_exv (x_alloc (C := ((List.replicate 32 (0 : UInt8)).map b8)) hS2 ti49 rfl) rfl ?_
  rintro _ w3 ⟨b10, rfl, hS4⟩
  refine wl_exv (x_alloc (C := ((List.replicate 32 (0 : UInt8)).map b8)) hS4 ti49 rfl) rfl ?_
  rintro _ w5 ⟨b11, rfl, hS6⟩
  refine wl_val (r_assign (v := .bool false) rfl) rfl ?_
  refine wl_nil ?_
  refine c_then ?_
  refine c_seq ?_
  refine c_seq ?_
  refine c_region ?_
  refine wl_val (r_move (v := .int .i64 _) rfl) rfl ?_
  refine wl_val (r_move (v := .int .i64 _) rfl) rfl ?_
  refine wl_dec (r_eql rfl rfl) rfl (fun h1_2 => ?_) (fun h1_2 => ?_)
  · refine wl_nil ?_
    refine c_then ?_
    refine c_true rfl ?_
    refine c_seq ?_
    refine c_seq ?_
    rcases bool_cases wh with rfl | rfl
    · refine c_region ?_
      refine wl_val (r_move (v := .bool _) rfl) rfl ?_
      refine wl_nil ?_
      refine c_then ?_
      refine c_true rfl ?_
      refine c_seq ?_
      refine c_drawSF 7 hMixed hS6 hS6.drop1.drop1 ?_
      intro w7 hS8
      refine g_take 0 rfl (by decide +kernel) rfl (fun _ _ _ h => h) hS8.drop1.drop1 (fun wF hF => r_loadB ti49 rfl rfl (hF.heap (.head _)) (by first | (simp [*]; done) | (simp [*] <;> omega) | omega)) ?_
      refine g_take 1 rfl (by decide +kernel) rfl (fun _ _ _ h => h) hS8.drop1.drop1 (fun wF hF => r_loadB ti49 rfl rfl (hF.heap (.head _)) (by first | (simp [*]; done) | (simp [*] <;> omega) | omega)) ?_
      refine g_take 2 rfl (by decide +kernel) rfl (fun _ _ _ h => h) hS8.drop1.drop1 (fun wF hF => r_move (v := .slice _ _ _) rfl) ?_
      refine g_take 3 rfl (by decide +kernel) rfl (fun _ _ _ h => h) hS8.drop1.drop1 (fun wF hF => r_len (T := 53) rfl ti53.und rfl _ rfl) ?_
      refine g_take 4 rfl (by decide +kernel) rfl (fun _ _ _ h => h) hS8.drop1.drop1 (fun wF hF => r_eql rfl rfl) ?_
      refine g_one 5 (by decide +kernel) (by decide +kernel) ?_
      refine o_exs rfl (x_storeW [_] hS8 ti49 rfl rfl (by first | (simp [*]; done) | (simp [*] <;> omega) | omega) (by first | (simp [*]; done) | (simp [*] <;> omega) | omega) (by repeat' first | exact one_nil | exact one_b8 _ | exact one_v32 _ | exact one_all rfl | refine one_cons rfl ?_ | refine one_app ?_ ?_)) rfl ?_
      intro w9 hS10
      simp only [List.cons_append, List.nil_append] at hS10
      refine ⟨hS10.drop1.drop1, ?_⟩
      refine g_one 6 (by decide +kernel) (by decide +kernel) ?_
      refine o_exs rfl (x_storeW [] hS10 ti49 rfl rfl (by first | (simp [*]; done) | (simp [*] <;> omega) | omega) (by first | (simp [*]; done) | (simp [*] <;> omega) | omega) (by repeat' first | exact one_nil | exact one_b8 _ | exact one_v32 _ | exact one_all rfl | refine one_cons rfl ?_ | refine one_app ?_ ?_)) rfl ?_
      intro w11 hS12
      simp only [List.cons_append, List.nil_append] at hS12
      refine ⟨hS12.drop1.drop1, ?_⟩
      refine g_tail (by decide +kernel) rfl (by decide +kernel) ?_
      refine wl_val (r_assign (v := .bool _) rfl) rfl ?_
      refine wl_nil ?_
      refine c_then ?_
      refine wp_ret ?_
      refine c_thenR ?_
      refine c_thenR ?_
      refine ret3 Try.results137 ⟨_, rfl, run_loadVar_blk ti49 rfl (hS12.heap (.tail _ (.head _))) (by first | (rw [List.length_map]; first | assumption | exact h32.gt (by omega)) | simp)⟩ ⟨_, rfl, run_loadVar_blk ti49 rfl (hS12.heap (.head _)) (by first | (rw [List.length_map]; first | assumption | exact h32.gt (by omega)) | simp)⟩ rfl ?_
      exact ⟨grew_wh hp (by omega) ho, hS12.fin⟩
    · refine c_region ?_
      refine wl_val (r_move (v := .bool _) rfl) rfl ?_
      refine wl_nil ?_
      refine c_then ?_
      refine c_false rfl ?_
      refine wp_skip ?_
      refine c_then ?_
      refine c_seq ?_
      refine c_seq ?_
      refine c_region ?_
      refine wl_val (r_move (v := .slice _ _ _) rfl) rfl ?_
      refine wl_val (r_len (T := 53) rfl ti53.und rfl _ rfl) rfl ?_
      refine wl_dec (r_neq rfl rfl) rfl (fun h4_2 => ?_) (fun h4_2 => ?_)
      · refine wl_nil ?_
        refine c_then ?_
        refine c_true rfl ?_
        refine c_seq ?_
        refine c_drawSF 3 hMixed hS6 (hS6.perm ((List.Perm.cons _ (List.Perm.refl _)).trans (List.perm_middle (l₁ := [_])).symm)).drop1 ?_
        intro w13 hS14
        refine g_take 1 rfl (by decide +kernel) rfl (fun _ _ _ h => h) (hS14.perm ((List.Perm.cons _ (List.Perm.refl _)).trans (List.perm_middle (l₁ := [_])).symm)).drop1 (fun wF hF => r_loadB ti49 rfl rfl (hF.heap (.head _)) (by first | (simp [*]; done) | (simp [*] <;> omega) | omega)) ?_
        refine g_one 0 (by decide +kernel) (by decide +kernel) ?_
        refine o_val rfl (r_loadB ti49 rfl rfl (hS14.heap (.tail _ (.head _))) (by first | (simp [*]; done) | (simp [*] <;> omega) | omega)) rfl ?_
        refine ⟨(hS14.perm ((List.Perm.cons _ (List.Perm.refl _)).trans (List.perm_middle (l₁ := [_])).symm)).drop1, ?_⟩
        refine g_one 2 (by decide +kernel) (by decide +kernel) ?_
        refine o_exs rfl (x_storeW [_] hS14 ti49 rfl rfl (by first | (simp [*]; done) | (simp [*] <;> omega) | omega) (by first | (simp [*]; done) | (simp [*] <;> omega) | omega) (by repeat' first | exact one_nil | exact one_b8 _ | exact one_v32 _ | exact one_all rfl | refine one_cons rfl ?_ | refine one_app ?_ ?_)) rfl ?_
        intro w15 hS16
        simp only [List.cons_append, List.nil_append] at hS16
        refine ⟨(hS16.perm ((List.Perm.cons _ (List.Perm.refl _)).trans (List.perm_middle (l₁ := [_])).symm)).drop1, ?_⟩
        refine g_tail (by decide +kernel) rfl (by decide +kernel) ?_
        refine wl_exs (x_storeW [] hS16 ti49 rfl rfl (by first | (simp [*]; done) | (simp [*] <;> omega) | omega) (by first | (simp [*]; done) | (simp [*] <;> omega) | omega) (by repeat' first | exact one_nil | exact one_b8 _ | exact one_v32 _ | exact one_all rfl | refine one_cons rfl ?_ | refine one_app ?_ ?_)) rfl ?_
        intro w17 hS18
        simp only [List.cons_append, List.nil_append] at hS18
        refine wl_val (r_assign (v := .bool false) rfl) rfl ?_
        refine wl_nil ?_
        refine c_then ?_
        refine wp_ret ?_
        refine c_thenR ?_
        refine c_thenR ?_
        refine ret3 Try.results137 ⟨_, rfl, run_loadVar_blk ti49 rfl (hS18.heap (.tail _ (.head _))) (by first | (rw [List.length_map]; first | assumption | exact h32.gt (by omega)) | simp)⟩ ⟨_, rfl, run_loadVar_blk ti49 rfl (hS18.heap (.head _)) (by first | (rw [List.length_map]; first | assumption | exact h32.gt (by omega)) | simp)⟩ rfl ?_
        exact ⟨grew_bad (by rw [gstepsL_end false (by omega)]; simp; omega), hS18.fin⟩
      · refine wl_nil ?_
        refine c_then ?_
        refine c_false rfl ?_
        refine wp_skip ?_
        refine c_then ?_
        refine c_seq ?_
        refine c_drawSF 7 hMixed hS6 (hS6.perm ((List.Perm.cons _ (List.Perm.refl _)).trans (List.perm_middle (l₁ := [_])).symm)).drop1 ?_
        intro w19 hS20
        refine g_take 0 rfl (by decide +kernel) rfl (fun _ _ _ h => h) (hS20.perm ((List.Perm.cons _ (List.Perm.refl _)).trans (List.perm_middle (l₁ := [_])).symm)).drop1 (fun wF hF => r_move (v := .slice _ _ _) rfl) ?_
        refine g_take 1 rfl (by decide +kernel) rfl (fun _ _ _ h => h) (hS20.perm ((List.Perm.cons _ (List.Perm.refl _)).trans (List.perm_middle (l₁ := [_])).symm)).drop1 (fun wF hF => r_ix32 (m := 0) ti53.und ti49 rfl rfl (hb.st hF) h32 hp (by omega)) ?_
        refine g_take 2 rfl (by decide +kernel) rfl (fun _ _ _ h => h) (hS20.perm ((List.Perm.cons _ (List.Perm.refl _)).trans (List.perm_middle (l₁ := [_])).symm)).drop1 (fun wF hF => r_load32 ti49 rfl rfl (hb.st hF) h32 (by omega)) ?_
        refine g_take 3 rfl (by decide +kernel) rfl (fun _ _ _ h => h) (hS20.perm ((List.Perm.cons _ (List.Perm.refl _)).trans (List.perm_middle (l₁ := [_])).symm)).drop1 (fun wF hF => r_move (v := .slice _ _ _) rfl) ?_
        refine g_take 4 rfl (by decide +kernel) rfl (fun _ _ _ h => h) (hS20.perm ((List.Perm.cons _ (List.Perm.refl _)).trans (List.perm_middle (l₁ := [_])).symm)).drop1 (fun wF hF => r_ix32 (m := 0) ti53.und ti49 rfl rfl (hb.st hF) h32 hp (by omega)) ?_
        refine g_take 5 rfl (by decide +kernel) rfl (fun _ _ _ h => h) (hS20.perm ((List.Perm.cons _ (List.Perm.refl _)).trans (List.perm_middle (l₁ := [_])).symm)).drop1 (fun wF hF => r_load32 ti49 rfl rfl (hb.st hF) h32 (by omega)) ?_
        refine g_one 6 (by decide +kernel) (by decide +kernel) ?_
        refine o_exs rfl (x_storeW [_] hS20 ti49 rfl rfl (by rw [List.length_map]; exact h32.gt (by omega)) (by simp) (one_b8 _)) rfl ?_
        intro w21 hS22
        simp only [List.cons_append, List.nil_append] at hS22
        refine ⟨(hS22.perm ((List.Perm.cons _ (List.Perm.refl _)).trans (List.perm_middle (l₁ := [_])).symm)).drop1, ?_⟩
        refine g_tail (by decide +kernel) rfl (by decide +kernel) ?_
        refine wl_exs (x_storeW [] hS22 ti49 rfl rfl (by rw [List.length_map]; exact h32.gt (by omega)) (by simp) (one_b8 _)) rfl ?_
        intro w23 hS24
        simp only [List.cons_append, List.nil_append] at hS24
        refine wl_val (r_assign (v := .bool true) rfl) rfl ?_
        refine wl_nil ?_
        refine c_then ?_
        refine wp_ret ?_
        refine c_thenR ?_
        refine ret3 Try.results137 ⟨_, rfl, run_loadVar_blk ti49 rfl (hS24.heap (.tail _ (.head _))) (by first | (rw [List.length_map]; first | assumption | exact h32.gt (by omega)) | simp)⟩ ⟨_, rfl, run_loadVar_blk ti49 rfl (hS24.heap (.head _)) (by first | (rw [List.length_map]; first | assumption | exact h32.gt (by omega)) | simp)⟩ rfl ?_
        exact ⟨grew_one (by omega) (by omega) h32, hS24.fin⟩
  · refine wl_nil ?_
    refine c_then ?_
    refine c_false rfl ?_
    refine wp_skip ?_
    refine c_then ?_
    refine c_seq ?_
    refine c_seq ?_
    refine c_region ?_
    refine wl_val (r_move (v := .slice _ _ _) rfl) rfl ?_
    refine wl_val (r_len (T := 53) rfl ti53.und rfl _ rfl) rfl ?_
    refine wl_dec (r_eql rfl rfl) rfl (fun h7_2 => ?_) (fun h7_2 => ?_)
    · refine wl_nil ?_
      refine c_then ?_
      refine c_true rfl ?_
      refine c_seq ?_
      refine c_drawSF 3 hMixed hS6 (hS6.perm ((List.Perm.cons _ (List.Perm.refl _)).trans (List.perm_middle (l₁ := [_])).symm)).drop1 ?_
      intro w25 hS26
      refine g_take 1 rfl (by decide +kernel) rfl (fun _ _ _ h => h) (hS26.perm ((List.Perm.cons _ (List.Perm.refl _)).trans (List.perm_middle (l₁ := [_])).symm)).drop1 (fun wF hF => r_loadB ti49 rfl rfl (hF.heap (.head _)) (by first | (simp [*]; done) | (simp [*] <;> omega) | omega)) ?_
      refine g_one 0 (by decide +kernel) (by decide +kernel) ?_
      refine o_val rfl (r_loadB ti49 rfl rfl (hS26.heap (.tail _ (.head _))) (by first | (simp [*]; done) | (simp [*] <;> omega) | omega)) rfl ?_
      refine ⟨(hS26.perm ((List.Perm.cons _ (List.Perm.refl _)).trans (List.perm_middle (l₁ := [_])).symm)).drop1, ?_⟩
      refine g_one 2 (by decide +kernel) (by decide +kernel) ?_
      refine o_exs rfl (x_storeW [_] hS26 ti49 rfl rfl (by first | (simp [*]; done) | (simp [*] <;> omega) | omega) (by first | (simp [*]; done) | (simp [*] <;> omega) | omega) (by repeat' first | exact one_nil | exact one_b8 _ | exact one_v32 _ | exact one_all rfl | refine one_cons rfl ?_ | refine one_app ?_ ?_)) rfl ?_
      intro w27 hS28
      simp only [List.cons_append, List.nil_append] at hS28
      refine ⟨(hS28.perm ((List.Perm.cons _ (List.Perm.refl _)).trans (List.perm_middle (l₁ := [_])).symm)).drop1, ?_⟩
      refine g_tail (by decide +kernel) rfl (by decide +kernel) ?_
      refine wl_exs (x_storeW [] hS28 ti49 rfl rfl (by first | (simp [*]; done) | (simp [*] <;> omega) | omega) (by first | (simp [*]; done) | (simp [*] <;> omega) | omega) (by repeat' first | exact one_nil | exact one_b8 _ | exact one_v32 _ | exact one_all rfl | refine one_cons rfl ?_ | refine one_app ?_ ?_)) rfl ?_
      intro w29 hS30
      simp only [List.cons_append, List.nil_append] at hS30
      refine wl_val (r_assign (v := .bool false) rfl) rfl ?_
      refine wl_nil ?_
      refine c_then ?_
      refine wp_ret ?_
      refine c_thenR ?_
      refine ret3 Try.results137 ⟨_, rfl, run_loadVar_blk ti49 rfl (hS30.heap (.tail _ (.head _))) (by first | (rw [List.length_map]; first | assumption | exact h32.gt (by omega)) | simp)⟩ ⟨_, rfl, run_loadVar_blk ti49 rfl (hS30.heap (.head _)) (by first | (rw [List.length_map]; first | assumption | exact h32.gt (by omega)) | simp)⟩ rfl ?_
      exact ⟨grew_bad (by have := gstepsL_pos (m := m) (n := n) (wh := wh) (by omega) (by omega); omega), hS30.fin⟩
    · refine wl_nil ?_
      refine c_then ?_
      refine c_false rfl ?_
      refine wp_skip ?_
      refine c_then ?_
      refine c_seq ?_
      have hlt := halfN_lt (n := n) (by omega)
      have hpo := halfN_pos n
      refine c_drawS 13 hMixed hS6 ?_
      intro w31 hS32
      refine g_take 0 rfl (by decide +kernel) rfl (fun _ _ _ h => h) hS32 (fun wF hF => r_move (v := .slice _ _ _) rfl) ?_
      refine g_take 1 rfl (by decide +kernel) rfl (fun _ _ _ h => h) hS32 (fun wF hF => r_move (v := .slice _ _ _) rfl) ?_
      refine g_take 2 rfl (by decide +kernel) rfl (fun _ _ _ h => h) hS32 (fun wF hF => r_len (T := 53) rfl ti53.und rfl _ rfl) ?_
      refine g_take 3 rfl (by decide +kernel) rfl (fun _ _ _ h => h) hS32 (fun wF hF => r_subn (b := 1) rfl rfl (by omega) (by omega)) ?_
      refine g_take 4 rfl (by decide +kernel) rfl (fun _ _ _ h => h) hS32 (fun wF hF => r_ix32 ti53.und ti49 rfl rfl (hb.st hF) h32 hp (by omega)) ?_
      refine g_take 5 rfl (by decide +kernel) rfl (fun _ _ _ h => h) hS32 (fun wF hF => r_load32 ti49 rfl rfl (hb.st hF) h32 (by omega)) ?_
      refine g_take 6 rfl (by decide +kernel) rfl (fun _ _ _ h => h) hS32 (fun wF hF => r_move (v := .slice _ _ _) rfl) ?_
      refine g_take 7 rfl (by decide +kernel) rfl (fun _ _ _ h => h) hS32 (fun wF hF => r_move (v := .slice _ _ _) rfl) ?_
      refine g_take 8 rfl (by decide +kernel) rfl (fun _ _ _ h => h) hS32 (fun wF hF => r_len (T := 53) rfl ti53.und rfl _ rfl) ?_
      refine g_take 9 rfl (by decide +kernel) rfl (fun _ _ _ h => h) hS32 (fun wF hF => r_subn (b := 1) rfl rfl (by omega) (by omega)) ?_
      refine g_take 10 rfl (by decide +kernel) rfl (fun _ _ _ h => h) hS32 (fun wF hF => r_sl_h ti53.und ti49 rfl rfl (by omega)) ?_
      have ht : Row w a ((p.take (k - 1)).flatten.map b8) := hb.take32 h32 _
      refine g_one 11 (by decide +kernel) (by decide +kernel) ?_
      refine o_exv rfl (x_alloc (C := ((List.replicate 32 (0 : UInt8)).map b8)) hS32 ti49 rfl) rfl ?_
      rintro _ w33 ⟨b13, rfl, hS34⟩
      refine ⟨hS34.drop1, ?_⟩
      refine g_one 12 (by decide +kernel) (by decide +kernel) ?_
      refine o_exs rfl (x_storeW [] hS34 ti49 rfl rfl (by rw [List.length_map]; exact h32.gt (by omega)) (by simp) (one_b8 _)) rfl ?_
      intro w35 hS36
      simp only [List.cons_append, List.nil_append] at hS36
      refine ⟨hS36.drop1, ?_⟩
      refine g_tail (by decide +kernel) rfl (by decide +kernel) ?_
      refine wl_val (r_assign (v := .slice _ _ _) rfl) rfl ?_
      refine wl_nil ?_
      refine c_then ?_
      refine c_seq ?_
      refine c_region ?_
      refine wl_val (r_move (v := .int .i64 _) rfl) rfl ?_
      refine wl_call (r_call fn129 rfl rfl) rfl (half_ok _ _ (by first | omega | (simp [*]; done) | (simp [*] <;> omega)) (by first | omega | (simp [*]; done) | (simp [*] <;> omega))) ?_
      rintro _ w37 ⟨rfl, hx38⟩
      have hS39 := hS36.ext hx38
      refine wl_val (r_assign (v := .int .i64 _) rfl) rfl ?_
      refine wl_nil ?_
      refine c_then ?_
      refine c_seq ?_
      refine c_region ?_
      refine wl_val (r_move (v := .int .i64 _) rfl) rfl ?_
      refine wl_val (r_move (v := .int .i64 _) rfl) rfl ?_
      refine wl_dec (r_leq rfl rfl) rfl (fun h11_2 => ?_) (fun h11_2 => ?_)
      · refine wl_nil ?_
        refine c_then ?_
        refine c_true rfl ?_
        refine c_seq ?_
        refine c_region ?_
        refine wl_val (r_move (v := .int .i64 _) rfl) rfl ?_
        refine wl_val (r_move (v := .int .i64 _) rfl) rfl ?_
        refine wl_val (r_move (v := .bool _) rfl) rfl ?_
        refine wl_val (r_loadB ti49 rfl rfl (hS39.heap (.tail _ (.tail _ (.tail _ (.head _))))) (by first | (simp [*]; done) | (simp [*] <;> omega) | omega)) rfl ?_
        refine wl_val (r_move (v := .slice _ _ _) rfl) rfl ?_
        refine wl_call (r_call fn137 rfl rfl) rfl (IH older (m) (halfN n) wh _ (k - 1) _ (p.take (k - 1)) _ (by omega) ho (ht.st hS39) (h32.take _) (by simp; omega) (by omega) (by omega) (by omega) (by omega)) ?_
        rintro _ w40 ⟨⟨x, y, rfl, hx, hy, hxy⟩, hx41⟩
        have hS42 := hS39.ext hx41
        refine wl_val (r_move (v := .tuple _) rfl) rfl ?_
        refine wl_val (r_extract (v := .agg _) rfl rfl) rfl ?_
        refine wl_val (r_extract (v := .agg _) rfl rfl) rfl ?_
        refine wl_val (r_extract (v := .bool _) rfl rfl) rfl ?_
        refine wl_exs (x_storeW [_, _] hS42 ti49 rfl rfl (by rw [List.length_map]; exact hx) (by simp) (one_b8 _)) rfl ?_
        intro w43 hS44
        simp only [List.cons_append, List.nil_append] at hS44
        refine wl_exs (x_storeW [_] hS44 ti49 rfl rfl (by rw [List.length_map]; exact hy) (by simp) (one_b8 _)) rfl ?_
        intro w45 hS46
        simp only [List.cons_append, List.nil_append] at hS46
        refine wl_val (r_assign (v := .bool _) rfl) rfl ?_
        refine wl_nil ?_
        refine c_then ?_
        refine c_seq ?_
        refine c_drawSF 7 hMixed hS46 (hS46.perm ((List.Perm.cons _ ((List.Perm.cons _ (List.Perm.refl _)).trans (List.perm_middle (l₁ := [_])).symm)).trans (List.perm_middle (l₁ := [_])).symm)).drop1.drop1 ?_
        intro w47 hS48
        refine g_take 2 rfl (by decide +kernel) rfl (fun _ _ _ h => h) (hS48.perm ((List.Perm.cons _ ((List.Perm.cons _ (List.Perm.refl _)).trans (List.perm_middle (l₁ := [_])).symm)).trans (List.perm_middle (l₁ := [_])).symm)).drop1.drop1 (fun wF hF => r_loadB ti49 rfl rfl (hF.heap (.head _)) (by rw [List.length_map]; exact h32.gt (by omega))) ?_
        refine g_take 4 rfl (by decide +kernel) rfl (fun _ _ _ h => h) (hS48.perm ((List.Perm.cons _ ((List.Perm.cons _ (List.Perm.refl _)).trans (List.perm_middle (l₁ := [_])).symm)).trans (List.perm_middle (l₁ := [_])).symm)).drop1.drop1 (fun wF hF => r_move (v := .bool _) rfl) ?_
        refine g_all (rs := [0, 1]) (by decide +kernel) (by decide +kernel) rfl ?_
        simp only [List.forall_mem_cons, List.not_mem_nil, false_imp_iff, implies_true, and_true]
        refine ⟨?_, ?_⟩
        · refine o_val rfl (r_loadB ti49 rfl rfl (hS48.heap (.tail _ (.tail _ (.head _)))) (by rw [List.length_map]; exact hx)) rfl ?_
          refine ⟨(hS48.perm ((List.Perm.cons _ ((List.Perm.cons _ (List.Perm.refl _)).trans (List.perm_middle (l₁ := [_])).symm)).trans (List.perm_middle (l₁ := [_])).symm)).drop1.drop1, ?_⟩
          refine g_one 1 (by decide +kernel) (by decide +kernel) ?_
          refine o_val rfl (r_loadB ti49 rfl rfl (hS48.heap (.tail _ (.head _))) (by rw [List.length_map]; exact hy)) rfl ?_
          refine ⟨(hS48.perm ((List.Perm.cons _ ((List.Perm.cons _ (List.Perm.refl _)).trans (List.perm_middle (l₁ := [_])).symm)).trans (List.perm_middle (l₁ := [_])).symm)).drop1.drop1, ?_⟩
          refine g_one 3 (by decide +kernel) (by decide +kernel) ?_
          refine o_call rfl (r_call fn53 rfl rfl) rfl (rnode_ok _ _ _ hy (h32.gt (by omega))) ?_
          rintro _ w49 ⟨rfl, hx50⟩
          have hS51 := hS48.ext hx50
          refine ⟨(hS51.perm ((List.Perm.cons _ ((List.Perm.cons _ (List.Perm.refl _)).trans (List.perm_middle (l₁ := [_])).symm)).trans (List.perm_middle (l₁ := [_])).symm)).drop1.drop1, ?_⟩
          refine g_one 5 (by decide +kernel) (by decide +kernel) ?_
          refine o_exs rfl (x_storeW [_, _] hS51 ti49 rfl rfl (by rw [List.length_map]; exact hx) (by rw [List.length_map]; exact hx) (one_b8 _)) rfl ?_
          intro w52 hS53
          simp only [List.cons_append, List.nil_append] at hS53
          refine ⟨(hS53.perm ((List.Perm.cons _ ((List.Perm.cons _ (List.Perm.refl _)).trans (List.perm_middle (l₁ := [_])).symm)).trans (List.perm_middle (l₁ := [_])).symm)).drop1.drop1, ?_⟩
          refine g_one 6 (by decide +kernel) (by decide +kernel) ?_
          refine o_exs rfl (x_storeW [_] hS53 ti49 rfl rfl (by simp) (by rw [List.length_map]; exact hy) (one_b8 _)) rfl ?_
          intro w54 hS55
          simp only [List.cons_append, List.nil_append] at hS55
          refine ⟨(hS55.perm ((List.Perm.cons _ ((List.Perm.cons _ (List.Perm.refl _)).trans (List.perm_middle (l₁ := [_])).symm)).trans (List.perm_middle (l₁ := [_])).symm)).drop1.drop1, ?_⟩
          refine g_tail (by decide +kernel) rfl (by decide +kernel) ?_
          refine wl_val (r_assign (v := .bool _) rfl) rfl ?_
          refine wl_nil ?_
          refine c_then ?_
          refine wp_ret ?_
          refine ret3 Try.results137 ⟨_, rfl, run_loadVar_blk ti49 rfl (hS55.heap (.tail _ (.tail _ (.head _)))) (by first | (rw [List.length_map]; first | assumption | exact h32.gt (by omega)) | simp)⟩ ⟨_, rfl, run_loadVar_blk ti49 rfl (hS55.heap (.tail _ (.head _))) (by first | (rw [List.length_map]; first | assumption | exact h32.gt (by omega)) | simp)⟩ rfl ?_
          exact ⟨grew_lo hp h1 (by omega) (by omega) (by omega) hx hxy, hS55.fin⟩
        · refine o_val rfl (r_loadB ti49 rfl rfl (hS48.heap (.tail _ (.head _))) (by rw [List.length_map]; exact hy)) rfl ?_
          refine ⟨(hS48.perm ((List.Perm.cons _ ((List.Perm.cons _ (List.Perm.refl _)).trans (List.perm_middle (l₁ := [_])).symm)).trans (List.perm_middle (l₁ := [_])).symm)).drop1.drop1, ?_⟩
          refine g_all (rs := [0, 3]) (by decide +kernel) (by decide +kernel) rfl ?_
          simp only [List.forall_mem_cons, List.not_mem_nil, false_imp_iff, implies_true, and_true]
          refine ⟨?_, ?_⟩
          · refine o_val rfl (r_loadB ti49 rfl rfl (hS48.heap (.tail _ (.tail _ (.head _)))) (by rw [List.length_map]; exact hx)) rfl ?_
            refine ⟨(hS48.perm ((List.Perm.cons _ ((List.Perm.cons _ (List.Perm.refl _)).trans (List.perm_middle (l₁ := [_])).symm)).trans (List.perm_middle (l₁ := [_])).symm)).drop1.drop1, ?_⟩
            refine g_one 3 (by decide +kernel) (by decide +kernel) ?_
            refine o_call rfl (r_call fn53 rfl rfl) rfl (rnode_ok _ _ _ hy (h32.gt (by omega))) ?_
            rintro _ w56 ⟨rfl, hx57⟩
            have hS58 := hS48.ext hx57
            refine ⟨(hS58.perm ((List.Perm.cons _ ((List.Perm.cons _ (List.Perm.refl _)).trans (List.perm_middle (l₁ := [_])).symm)).trans (List.perm_middle (l₁ := [_])).symm)).drop1.drop1, ?_⟩
            refine g_one 5 (by decide +kernel) (by decide +kernel) ?_
            refine o_exs rfl (x_storeW [_, _] hS58 ti49 rfl rfl (by rw [List.length_map]; exact hx) (by rw [List.length_map]; exact hx) (one_b8 _)) rfl ?_
            intro w59 hS60
            simp only [List.cons_append, List.nil_append] at hS60
            refine ⟨(hS60.perm ((List.Perm.cons _ ((List.Perm.cons _ (List.Perm.refl _)).trans (List.perm_middle (l₁ := [_])).symm)).trans (List.perm_middle (l₁ := [_])).symm)).drop1.drop1, ?_⟩
            refine g_one 6 (by decide +kernel) (by decide +kernel) ?_
            refine o_exs rfl (x_storeW [_] hS60 ti49 rfl rfl (by simp) (by rw [List.length_map]; exact hy) (one_b8 _)) rfl ?_
            intro w61 hS62
            simp only [List.cons_append, List.nil_append] at hS62
            refine ⟨(hS62.perm ((List.Perm.cons _ ((List.Perm.cons _ (List.Perm.refl _)).trans (List.perm_middle (l₁ := [_])).symm)).trans (List.perm_middle (l₁ := [_])).symm)).drop1.drop1, ?_⟩
            refine g_tail (by decide +kernel) rfl (by decide +kernel) ?_
            refine wl_val (r_assign (v := .bool _) rfl) rfl ?_
            refine wl_nil ?_
            refine c_then ?_
            refine wp_ret ?_
            refine ret3 Try.results137 ⟨_, rfl, run_loadVar_blk ti49 rfl (hS62.heap (.tail _ (.tail _ (.head _)))) (by first | (rw [List.length_map]; first | assumption | exact h32.gt (by omega)) | simp)⟩ ⟨_, rfl, run_loadVar_blk ti49 rfl (hS62.heap (.tail _ (.head _))) (by first | (rw [List.length_map]; first | assumption | exact h32.gt (by omega)) | simp)⟩ rfl ?_
            exact ⟨grew_lo hp h1 (by omega) (by omega) (by omega) hx hxy, hS62.fin⟩
          · refine o_call rfl (r_call fn53 rfl rfl) rfl (rnode_ok _ _ _ hy (h32.gt (by omega))) ?_
            rintro _ w63 ⟨rfl, hx64⟩
            have hS65 := hS48.ext hx64
            refine ⟨(hS65.perm ((List.Perm.cons _ ((List.Perm.cons _ (List.Perm.refl _)).trans (List.perm_middle (l₁ := [_])).symm)).trans (List.perm_middle (l₁ := [_])).symm)).drop1.drop1, ?_⟩
            refine g_one 0 (by decide +kernel) (by decide +kernel) ?_
            refine o_val rfl (r_loadB ti49 rfl rfl (hS65.heap (.tail _ (.tail _ (.head _)))) (by rw [List.length_map]; exact hx)) rfl ?_
            refine ⟨(hS65.perm ((List.Perm.cons _ ((List.Perm.cons _ (List.Perm.refl _)).trans (List.perm_middle (l₁ := [_])).symm)).trans (List.perm_middle (l₁ := [_])).symm)).drop1.drop1, ?_⟩
            refine g_one 5 (by decide +kernel) (by decide +kernel) ?_
            refine o_exs rfl (x_storeW [_, _] hS65 ti49 rfl rfl (by rw [List.length_map]; exact hx) (by rw [List.length_map]; exact hx) (one_b8 _)) rfl ?_
            intro w66 hS67
            simp only [List.cons_append, List.nil_append] at hS67
            refine ⟨(hS67.perm ((List.Perm.cons _ ((List.Perm.cons _ (List.Perm.refl _)).trans (List.perm_middle (l₁ := [_])).symm)).trans (List.perm_middle (l₁ := [_])).symm)).drop1.drop1, ?_⟩
            refine g_one 6 (by decide +kernel) (by decide +kernel) ?_
            refine o_exs rfl (x_storeW [_] hS67 ti49 rfl rfl (by simp) (by rw [List.length_map]; exact hy) (one_b8 _)) rfl ?_
            intro w68 hS69
            simp only [List.cons_append, List.nil_append] at hS69
            refine ⟨(hS69.perm ((List.Perm.cons _ ((List.Perm.cons _ (List.Perm.refl _)).trans (List.perm_middle (l₁ := [_])).symm)).trans (List.perm_middle (l₁ := [_])).symm)).drop1.drop1, ?_⟩
            refine g_tail (by decide +kernel) rfl (by decide +kernel) ?_
            refine wl_val (r_assign (v := .bool _) rfl) rfl ?_
            refine wl_nil ?_
            refine c_then ?_
            refine wp_ret ?_
            refine ret3 Try.results137 ⟨_, rfl, run_loadVar_blk ti49 rfl (hS69.heap (.tail _ (.tail _ (.head _)))) (by first | (rw [List.length_map]; first | assumption | exact h32.gt (by omega)) | simp)⟩ ⟨_, rfl, run_loadVar_blk ti49 rfl (hS69.heap (.tail _ (.head _))) (by first | (rw [List.length_map]; first | assumption | exact h32.gt (by omega)) | simp)⟩ rfl ?_
            exact ⟨grew_lo hp h1 (by omega) (by omega) (by omega) hx hxy, hS69.fin⟩
      · refine wl_nil ?_
        refine c_then ?_
        refine c_false rfl ?_
        refine c_seq ?_
        refine c_region ?_
        refine wl_val (r_move (v := .int .i64 _) rfl) rfl ?_
        refine wl_val (r_move (v := .int .i64 _) rfl) rfl ?_
        refine wl_val (r_subn rfl rfl (by omega) (by omega)) rfl ?_
        refine wl_val (r_move (v := .int .i64 _) rfl) rfl ?_
        refine wl_val (r_move (v := .int .i64 _) rfl) rfl ?_
        refine wl_val (r_subn rfl rfl (by omega) (by omega)) rfl ?_
        refine wl_val (r_loadB ti49 rfl rfl (hS39.heap (.tail _ (.tail _ (.tail _ (.head _))))) (by first | (simp [*]; done) | (simp [*] <;> omega) | omega)) rfl ?_
        refine wl_val (r_move (v := .slice _ _ _) rfl) rfl ?_
        refine wl_call (r_call fn137 rfl rfl) rfl (IH older (m - halfN n) (n - halfN n) false _ (k - 1) _ (p.take (k - 1)) _ (by omega) ho (ht.st hS39) (h32.take _) (by simp; omega) (by omega) (by omega) (by omega) (by omega)) ?_
        rintro _ w70 ⟨⟨x, y, rfl, hx, hy, hxy⟩, hx71⟩
        have hS72 := hS39.ext hx71
        refine wl_val (r_move (v := .tuple _) rfl) rfl ?_
        refine wl_val (r_extract (v := .agg _) rfl rfl) rfl ?_
        refine wl_val (r_extract (v := .agg _) rfl rfl) rfl ?_
        refine wl_val (r_extract (v := .bool _) rfl rfl) rfl ?_
        refine wl_exs (x_storeW [_, _] hS72 ti49 rfl rfl (by rw [List.length_map]; exact hx) (by simp) (one_b8 _)) rfl ?_
        intro w73 hS74
        simp only [List.cons_append, List.nil_append] at hS74
        refine wl_exs (x_storeW [_] hS74 ti49 rfl rfl (by rw [List.length_map]; exact hy) (by simp) (one_b8 _)) rfl ?_
        intro w75 hS76
        simp only [List.cons_append, List.nil_append] at hS76
        refine wl_val (r_assign (v := .bool _) rfl) rfl ?_
        refine wl_nil ?_
        refine c_then ?_
        refine c_seq ?_
        refine c_drawSF 9 hMixed hS76 (hS76.perm ((List.Perm.cons _ ((List.Perm.cons _ (List.Perm.refl _)).trans (List.perm_middle (l₁ := [_])).symm)).trans (List.perm_middle (l₁ := [_])).symm)).drop1.drop1 ?_
        intro w77 hS78
        refine g_take 0 rfl (by decide +kernel) rfl (fun _ _ _ h => h) (hS78.perm ((List.Perm.cons _ ((List.Perm.cons _ (List.Perm.refl _)).trans (List.perm_middle (l₁ := [_])).symm)).trans (List.perm_middle (l₁ := [_])).symm)).drop1.drop1 (fun wF hF => r_loadB ti49 rfl rfl (hF.heap (.head _)) (by rw [List.length_map]; exact h32.gt (by omega))) ?_
        refine g_take 3 rfl (by decide +kernel) rfl (fun _ _ _ h => h) (hS78.perm ((List.Perm.cons _ ((List.Perm.cons _ (List.Perm.refl _)).trans (List.perm_middle (l₁ := [_])).symm)).trans (List.perm_middle (l₁ := [_])).symm)).drop1.drop1 (fun wF hF => r_loadB ti49 rfl rfl (hF.heap (.head _)) (by rw [List.length_map]; exact h32.gt (by omega))) ?_
        refine g_take 6 rfl (by decide +kernel) rfl (fun _ _ _ h => h) (hS78.perm ((List.Perm.cons _ ((List.Perm.cons _ (List.Perm.refl _)).trans (List.perm_middle (l₁ := [_])).symm)).trans (List.perm_middle (l₁ := [_])).symm)).drop1.drop1 (fun wF hF => r_move (v := .bool _) rfl) ?_
        refine g_all (rs := [1, 4]) (by decide +kernel) (by decide +kernel) rfl ?_
        simp only [List.forall_mem_cons, List.not_mem_nil, false_imp_iff, implies_true, and_true]
        refine ⟨?_, ?_⟩
        · refine o_val rfl (r_loadB ti49 rfl rfl (hS78.heap (.tail _ (.tail _ (.head _)))) (by rw [List.length_map]; exact hx)) rfl ?_
          refine ⟨(hS78.perm ((List.Perm.cons _ ((List.Perm.cons _ (List.Perm.refl _)).trans (List.perm_middle (l₁ := [_])).symm)).trans (List.perm_middle (l₁ := [_])).symm)).drop1.drop1, ?_⟩
          refine g_all (rs := [2, 4]) (by decide +kernel) (by decide +kernel) rfl ?_
          simp only [List.forall_mem_cons, List.not_mem_nil, false_imp_iff, implies_true, and_true]
          refine ⟨?_, ?_⟩
          · refine o_call rfl (r_call fn53 rfl rfl) rfl (rnode_ok _ _ _ (h32.gt (by omega)) hx) ?_
            rintro _ w79 ⟨rfl, hx80⟩
            have hS81 := hS78.ext hx80
            refine ⟨(hS81.perm ((List.Perm.cons _ ((List.Perm.cons _ (List.Perm.refl _)).trans (List.perm_middle (l₁ := [_])).symm)).trans (List.perm_middle (l₁ := [_])).symm)).drop1.drop1, ?_⟩
            refine g_one 4 (by decide +kernel) (by decide +kernel) ?_
            refine o_val rfl (r_loadB ti49 rfl rfl (hS81.heap (.tail _ (.head _))) (by rw [List.length_map]; exact hy)) rfl ?_
            refine ⟨(hS81.perm ((List.Perm.cons _ ((List.Perm.cons _ (List.Perm.refl _)).trans (List.perm_middle (l₁ := [_])).symm)).trans (List.perm_middle (l₁ := [_])).symm)).drop1.drop1, ?_⟩
            refine g_one 5 (by decide +kernel) (by decide +kernel) ?_
            refine o_call rfl (r_call fn53 rfl rfl) rfl (rnode_ok _ _ _ (h32.gt (by omega)) hy) ?_
            rintro _ w82 ⟨rfl, hx83⟩
            have hS84 := hS81.ext hx83
            refine ⟨(hS84.perm ((List.Perm.cons _ ((List.Perm.cons _ (List.Perm.refl _)).trans (List.perm_middle (l₁ := [_])).symm)).trans (List.perm_middle (l₁ := [_])).symm)).drop1.drop1, ?_⟩
            refine g_one 7 (by decide +kernel) (by decide +kernel) ?_
            refine o_exs rfl (x_storeW [_, _] hS84 ti49 rfl rfl (by simp) (by rw [List.length_map]; exact hx) (one_b8 _)) rfl ?_
            intro w85 hS86
            simp only [List.cons_append, List.nil_append] at hS86
            refine ⟨(hS86.perm ((List.Perm.cons _ ((List.Perm.cons _ (List.Perm.refl _)).trans (List.perm_middle (l₁ := [_])).symm)).trans (List.perm_middle (l₁ := [_])).symm)).drop1.drop1, ?_⟩
            refine g_one 8 (by decide +kernel) (by decide +kernel) ?_
            refine o_exs rfl (x_storeW [_] hS86 ti49 rfl rfl (by simp) (by rw [List.length_map]; exact hy) (one_b8 _)) rfl ?_
            intro w87 hS88
            simp only [List.cons_append, List.nil_append] at hS88
            refine ⟨(hS88.perm ((List.Perm.cons _ ((List.Perm.cons _ (List.Perm.refl _)).trans (List.perm_middle (l₁ := [_])).symm)).trans (List.perm_middle (l₁ := [_])).symm)).drop1.drop1, ?_⟩
            refine g_tail (by decide +kernel) rfl (by decide +kernel) ?_
            refine wl_val (r_assign (v := .bool _) rfl) rfl ?_
            refine wl_nil ?_
            refine c_then ?_
            refine wp_ret ?_
            refine ret3 Try.results137 ⟨_, rfl, run_loadVar_blk ti49 rfl (hS88.heap (.tail _ (.tail _ (.head _)))) (by first | (rw [List.length_map]; first | assumption | exact h32.gt (by omega)) | simp)⟩ ⟨_, rfl, run_loadVar_blk ti49 rfl (hS88.heap (.tail _ (.head _))) (by first | (rw [List.length_map]; first | assumption | exact h32.gt (by omega)) | simp)⟩ rfl ?_
            exact ⟨grew_hi hp h1 (by omega) (by omega) (by omega) hxy, hS88.fin⟩
          · refine o_val rfl (r_loadB ti49 rfl rfl (hS78.heap (.tail _ (.head _))) (by rw [List.length_map]; exact hy)) rfl ?_
            refine ⟨(hS78.perm ((List.Perm.cons _ ((List.Perm.cons _ (List.Perm.refl _)).trans (List.perm_middle (l₁ := [_])).symm)).trans (List.perm_middle (l₁ := [_])).symm)).drop1.drop1, ?_⟩
            refine g_one 2 (by decide +kernel) (by decide +kernel) ?_
            refine o_call rfl (r_call fn53 rfl rfl) rfl (rnode_ok _ _ _ (h32.gt (by omega)) hx) ?_
            rintro _ w89 ⟨rfl, hx90⟩
            have hS91 := hS78.ext hx90
            refine ⟨(hS91.perm ((List.Perm.cons _ ((List.Perm.cons _ (List.Perm.refl _)).trans (List.perm_middle (l₁ := [_])).symm)).trans (List.perm_middle (l₁ := [_])).symm)).drop1.drop1, ?_⟩
            refine g_one 5 (by decide +kernel) (by decide +kernel) ?_
            refine o_call rfl (r_call fn53 rfl rfl) rfl (rnode_ok _ _ _ (h32.gt (by omega)) hy) ?_
            rintro _ w92 ⟨rfl, hx93⟩
            have hS94 := hS91.ext hx93
            refine ⟨(hS94.perm ((List.Perm.cons _ ((List.Perm.cons _ (List.Perm.refl _)).trans (List.perm_middle (l₁ := [_])).symm)).trans (List.perm_middle (l₁ := [_])).symm)).drop1.drop1, ?_⟩
            refine g_one 7 (by decide +kernel) (by decide +kernel) ?_
            refine o_exs rfl (x_storeW [_, _] hS94 ti49 rfl rfl (by simp) (by rw [List.length_map]; exact hx) (one_b8 _)) rfl ?_
            intro w95 hS96
            simp only [List.cons_append, List.nil_append] at hS96
            refine ⟨(hS96.perm ((List.Perm.cons _ ((List.Perm.cons _ (List.Perm.refl _)).trans (List.perm_middle (l₁ := [_])).symm)).trans (List.perm_middle (l₁ := [_])).symm)).drop1.drop1, ?_⟩
            refine g_one 8 (by decide +kernel) (by decide +kernel) ?_
            refine o_exs rfl (x_storeW [_] hS96 ti49 rfl rfl (by simp) (by rw [List.length_map]; exact hy) (one_b8 _)) rfl ?_
            intro w97 hS98
            simp only [List.cons_append, List.nil_append] at hS98
            refine ⟨(hS98.perm ((List.Perm.cons _ ((List.Perm.cons _ (List.Perm.refl _)).trans (List.perm_middle (l₁ := [_])).symm)).trans (List.perm_middle (l₁ := [_])).symm)).drop1.drop1, ?_⟩
            refine g_tail (by decide +kernel) rfl (by decide +kernel) ?_
            refine wl_val (r_assign (v := .bool _) rfl) rfl ?_
            refine wl_nil ?_
            refine c_then ?_
            refine wp_ret ?_
            refine ret3 Try.results137 ⟨_, rfl, run_loadVar_blk ti49 rfl (hS98.heap (.tail _ (.tail _ (.head _)))) (by first | (rw [List.length_map]; first | assumption | exact h32.gt (by omega)) | simp)⟩ ⟨_, rfl, run_loadVar_blk ti49 rfl (hS98.heap (.tail _ (.head _))) (by first | (rw [List.length_map]; first | assumption | exact h32.gt (by omega)) | simp)⟩ rfl ?_
            exact ⟨grew_hi hp h1 (by omega) (by omega) (by omega) hxy, hS98.fin⟩
        · refine o_val rfl (r_loadB ti49 rfl rfl (hS78.heap (.tail _ (.head _))) (by rw [List.length_map]; exact hy)) rfl ?_
          refine ⟨(hS78.perm ((List.Perm.cons _ ((List.Perm.cons _ (List.Perm.refl _)).trans (List.perm_middle (l₁ := [_])).symm)).trans (List.perm_middle (l₁ := [_])).symm)).drop1.drop1, ?_⟩
          refine g_one 1 (by decide +kernel) (by decide +kernel) ?_
          refine o_val rfl (r_loadB ti49 rfl rfl (hS78.heap (.tail _ (.tail _ (.head _)))) (by rw [List.length_map]; exact hx)) rfl ?_
          refine ⟨(hS78.perm ((List.Perm.cons _ ((List.Perm.cons _ (List.Perm.refl _)).trans (List.perm_middle (l₁ := [_])).symm)).trans (List.perm_middle (l₁ := [_])).symm)).drop1.drop1, ?_⟩
          refine g_one 2 (by decide +kernel) (by decide +kernel) ?_
          refine o_call rfl (r_call fn53 rfl rfl) rfl (rnode_ok _ _ _ (h32.gt (by omega)) hx) ?_
          rintro _ w99 ⟨rfl, hx100⟩
          have hS101 := hS78.ext hx100
          refine ⟨(hS101.perm ((List.Perm.cons _ ((List.Perm.cons _ (List.Perm.refl _)).trans (List.perm_middle (l₁ := [_])).symm)).trans (List.perm_middle (l₁ := [_])).symm)).drop1.drop1, ?_⟩
          refine g_one 5 (by decide +kernel) (by decide +kernel) ?_
          refine o_call rfl (r_call fn53 rfl rfl) rfl (rnode_ok _ _ _ (h32.gt (by omega)) hy) ?_
          rintro _ w102 ⟨rfl, hx103⟩
          have hS104 := hS101.ext hx103
          refine ⟨(hS104.perm ((List.Perm.cons _ ((List.Perm.cons _ (List.Perm.refl _)).trans (List.perm_middle (l₁ := [_])).symm)).trans (List.perm_middle (l₁ := [_])).symm)).drop1.drop1, ?_⟩
          refine g_one 7 (by decide +kernel) (by decide +kernel) ?_
          refine o_exs rfl (x_storeW [_, _] hS104 ti49 rfl rfl (by simp) (by rw [List.length_map]; exact hx) (one_b8 _)) rfl ?_
          intro w105 hS106
          simp only [List.cons_append, List.nil_append] at hS106
          refine ⟨(hS106.perm ((List.Perm.cons _ ((List.Perm.cons _ (List.Perm.refl _)).trans (List.perm_middle (l₁ := [_])).symm)).trans (List.perm_middle (l₁ := [_])).symm)).drop1.drop1, ?_⟩
          refine g_one 8 (by decide +kernel) (by decide +kernel) ?_
          refine o_exs rfl (x_storeW [_] hS106 ti49 rfl rfl (by simp) (by rw [List.length_map]; exact hy) (one_b8 _)) rfl ?_
          intro w107 hS108
          simp only [List.cons_append, List.nil_append] at hS108
          refine ⟨(hS108.perm ((List.Perm.cons _ ((List.Perm.cons _ (List.Perm.refl _)).trans (List.perm_middle (l₁ := [_])).symm)).trans (List.perm_middle (l₁ := [_])).symm)).drop1.drop1, ?_⟩
          refine g_tail (by decide +kernel) rfl (by decide +kernel) ?_
          refine wl_val (r_assign (v := .bool _) rfl) rfl ?_
          refine wl_nil ?_
          refine c_then ?_
          refine wp_ret ?_
          refine ret3 Try.results137 ⟨_, rfl, run_loadVar_blk ti49 rfl (hS108.heap (.tail _ (.tail _ (.head _)))) (by first | (rw [List.length_map]; first | assumption | exact h32.gt (by omega)) | simp)⟩ ⟨_, rfl, run_loadVar_blk ti49 rfl (hS108.heap (.tail _ (.head _))) (by first | (rw [List.length_map]; first | assumption | exact h32.gt (by omega)) | simp)⟩ rfl ?_
          exact ⟨grew_hi hp h1 (by omega) (by omega) (by omega) hxy, hS108.fin⟩

theorem rgrow_ok : ∀ (n : Nat) (older : List UInt8) (m : Nat) (wh : Bool) (a : Option Addr) (k c : Nat) (p : List (List UInt8)) (w : World) (ho : older.length = 32) (hb : Row w a (p.flatten.map b8)) (h32 : S32 p) (hp : p.length = k) (h1 : 1 ≤ m) (hmn : m ≤ n) (hc : k ≤ c) (hkm : k ≤ 4398046511104) (hn : n ≤ 140737488355328), Ret Try.prog 137 [vi m, vi n, .bool wh, .agg (older.map b8).toArray, .slice a k c] w (fun v w' => Grew older m n wh p v ∧ St w [] w' []) := by
  intro n
  induction n using Nat.strongRecOn with
  | _ n ih => exact fun older m wh a k c p w h1 h2 h3 h4 h5 h6 h7 h8 hn => rgrow_step n (fun older m j wh a k c p w hlt h1 h2 h3 h4 h5 h6 h7 h8 => ih j hlt older m wh a k c p w h1 h2 h3 h4 h5 h6 h7 h8 (by omega)) older m n wh a k c p w rfl h1 h2 h3 h4 h5 h6 h7 h8 hn

theorem rgrown_ok (older newer : List UInt8) (ix sz : Int) (pa : Option Addr) (pc : Nat) (pl : List (List UInt8)) (w : World) (ho : older.length = 32) (hnw : newer.length = 32) (hp : Row w pa (pl.flatten.map b8)) (h32 : S32 pl) (hpc : pl.length ≤ pc) (hpm : pl.length ≤ 4398046511104) (hi1 : -9223372036854775808 ≤ ix) (hi2 : ix ≤ 9223372036854775807) (hs1 : -9223372036854775808 ≤ sz) (hs2 : sz ≤ 9223372036854775807) :
    Ret Try.prog 64 [.agg (older.map b8).toArray, .agg (newer.map b8).toArray, .agg #[.int .i64 ix, .int .i64 sz, .slice pa pl.length pc]] w (fun v w' => v = .int .i64 (grownE older newer ix sz pl) ∧ St w [] w' []) := by
  refine enter Try.func64 rfl Try.ntmps64 rfl ?_
  have hS := St.refl w []
  refine c_seq ?_
  refine c_region ?_
  refine wl_exv (x_box hS (v := .agg _) rfl rfl) rfl ?_
  rintro _ w1 ⟨b3, rfl, hS2⟩
  refine wl_exv (x_box hS2 (v := .agg _) rfl rfl) rfl ?_
  rintro _ w3 ⟨b4, rfl, hS4⟩
  refine wl_exv (x_box hS4 (v := .agg _) rfl rfl) rfl ?_
  rintro _ w5 ⟨b5, rfl, hS6⟩
  refine wl_val (r_assign (v := .int .i64 0) rfl) rfl ?_
  refine wl_nil ?_
  refine c_then ?_
  refine c_seq ?_
  refine c_seq ?_
  refine c_region ?_
  refine wl_val (r_field fa55_1 rfl) rfl ?_
  refine wl_val (r_loadB1 ti3.und rfl rfl (hS6.heap (.head _)) rfl) rfl ?_
  refine wl_dec (r_lss rfl rfl) rfl (fun h1_2 => ?_) (fun h1_2 => ?_)
  · refine wl_val (r_move (v := .bool _) rfl) rfl ?_
    refine wl_not rfl ?_
    refine wl_not rfl ?_
    refine wl_not rfl ?_
    refine wl_val (r_pick_t rfl (v := .bool true) rfl) rfl ?_
    refine wl_val (r_move (v := .bool _) rfl) rfl ?_
    refine wl_not rfl ?_
    refine wl_not rfl ?_
    refine wl_not rfl ?_
    refine wl_val (r_pick_t rfl (v := .bool true) rfl) rfl ?_
    refine wl_val (r_move (v := .bool _) rfl) rfl ?_
    refine wl_not rfl ?_
    refine wl_not rfl ?_
    refine wl_not rfl ?_
    refine wl_not rfl ?_
    refine wl_not rfl ?_
    refine wl_val (r_pick_t rfl (v := .bool true) rfl) rfl ?_
    refine wl_nil ?_
    refine c_then ?_
    refine c_true rfl ?_
    refine c_seq ?_
    refine c_region ?_
    refine wl_val (r_assign (v := .int .i64 4) rfl) rfl ?_
    refine wl_nil ?_
    refine c_then ?_
    refine wp_ret ?_
    refine c_thenR ?_
    refine ret1 Try.results64 ?_
    exact ⟨congrArg (Value.int .i64) (grownE_range (by omega)).symm, hS6.fin⟩
  · refine wl_val (r_move (v := .bool _) rfl) rfl ?_
    refine wl_val (r_field fa55_1 rfl) rfl ?_
    refine wl_val (r_loadB1 ti3.und rfl rfl (hS6.heap (.head _)) rfl) rfl ?_
    refine wl_dec (r_gtr rfl rfl) rfl (fun h1_6 => ?_) (fun h1_6 => ?_)
    · refine wl_val (r_pick_f rfl (v := .bool _) rfl) rfl ?_
      refine wl_val (r_move (v := .bool _) rfl) rfl ?_
      refine wl_not rfl ?_
      refine wl_not rfl ?_
      refine wl_not rfl ?_
      refine wl_val (r_pick_t rfl (v := .bool true) rfl) rfl ?_
      refine wl_val (r_move (v := .bool _) rfl) rfl ?_
      refine wl_not rfl ?_
      refine wl_not rfl ?_
      refine wl_not rfl ?_
      refine wl_not rfl ?_
      refine wl_not rfl ?_
      refine wl_val (r_pick_t rfl (v := .bool true) rfl) rfl ?_
      refine wl_nil ?_
      refine c_then ?_
      refine c_true rfl ?_
      refine c_seq ?_
      refine c_region ?_
      refine wl_val (r_assign (v := .int .i64 4) rfl) rfl ?_
      refine wl_nil ?_
      refine c_then ?_
      refine wp_ret ?_
      refine c_thenR ?_
      refine ret1 Try.results64 ?_
      exact ⟨congrArg (Value.int .i64) (grownE_range (by omega)).symm, hS6.fin⟩
    · refine wl_val (r_pick_f rfl (v := .bool _) rfl) rfl ?_
      refine wl_val (r_move (v := .bool _) rfl) rfl ?_
      refine wl_val (r_field fa55_0 rfl) rfl ?_
      refine wl_val (r_loadB1 ti3.und rfl rfl (hS6.heap (.head _)) rfl) rfl ?_
      refine wl_dec (r_lss rfl rfl) rfl (fun h1_11 => ?_) (fun h1_11 => ?_)
      · refine wl_val (r_pick_f rfl (v := .bool _) rfl) rfl ?_
        refine wl_val (r_move (v := .bool _) rfl) rfl ?_
        refine wl_not rfl ?_
        refine wl_not rfl ?_
        refine wl_not rfl ?_
        refine wl_not rfl ?_
        refine wl_not rfl ?_
        refine wl_val (r_pick_t rfl (v := .bool true) rfl) rfl ?_
        refine wl_nil ?_
        refine c_then ?_
        refine c_true rfl ?_
        refine c_seq ?_
        refine c_region ?_
        refine wl_val (r_assign (v := .int .i64 4) rfl) rfl ?_
        refine wl_nil ?_
        refine c_then ?_
        refine wp_ret ?_
        refine c_thenR ?_
        refine ret1 Try.results64 ?_
        exact ⟨congrArg (Value.int .i64) (grownE_range (by omega)).symm, hS6.fin⟩
      · refine wl_val (r_pick_f rfl (v := .bool _) rfl) rfl ?_
        refine wl_val (r_move (v := .bool _) rfl) rfl ?_
        refine wl_val (r_field fa55_0 rfl) rfl ?_
        refine wl_val (r_loadB1 ti3.und rfl rfl (hS6.heap (.head _)) rfl) rfl ?_
        refine wl_val (r_field fa55_1 rfl) rfl ?_
        refine wl_val (r_loadB1 ti3.und rfl rfl (hS6.heap (.head _)) rfl) rfl ?_
        refine wl_dec (r_gtr rfl rfl) rfl (fun h1_18 => ?_) (fun h1_18 => ?_)
        · refine wl_val (r_pick_f rfl (v := .bool _) rfl) rfl ?_
          refine wl_nil ?_
          refine c_then ?_
          refine c_true rfl ?_
          refine c_seq ?_
          refine c_region ?_
          refine wl_val (r_assign (v := .int .i64 4) rfl) rfl ?_
          refine wl_nil ?_
          refine c_then ?_
          refine wp_ret ?_
          refine c_thenR ?_
          refine ret1 Try.results64 ?_
          exact ⟨congrArg (Value.int .i64) (grownE_range (by omega)).symm, hS6.fin⟩
        · refine wl_val (r_pick_f rfl (v := .bool _) rfl) rfl ?_
          refine wl_nil ?_
          refine c_then ?_
          refine c_false rfl ?_
          refine wp_skip ?_
          refine c_then ?_
          refine c_seq ?_
          obtain ⟨sz', rfl⟩ : ∃ i : Nat, sz = (i : Int) := ⟨sz.toNat, (by omega)⟩
          obtain ⟨ix', rfl⟩ : ∃ i : Nat, ix = (i : Int) := ⟨ix.toNat, (by omega)⟩
          refine c_region ?_
          refine wl_val (r_field fa55_0 rfl) rfl ?_
          refine wl_val (r_loadB1 ti3.und rfl rfl (hS6.heap (.head _)) rfl) rfl ?_
          refine wl_val (r_field fa55_1 rfl) rfl ?_
          refine wl_val (r_loadB1 ti3.und rfl rfl (hS6.heap (.head _)) rfl) rfl ?_
          refine wl_val (r_loadB ti49 rfl rfl (hS6.heap (.tail _ (.tail _ (.head _)))) (by first | (simp [*]; done) | (simp [*] <;> omega) | omega)) rfl ?_
          refine wl_val (r_field fa55_2 rfl) rfl ?_
          refine wl_val (r_loadB1 ti53.und rfl rfl (hS6.heap (.head _)) rfl) rfl ?_
          refine wl_call (r_call fn137 rfl rfl) rfl (rgrow_ok sz' older ix' true _ _ _ pl _ ho (hp.st hS6) h32 rfl (by omega) (by omega) hpc hpm (by omega)) ?_
          rintro _ w7 ⟨⟨x, y, rfl, hx, hy, hxy⟩, hx8⟩
          have hS9 := hS6.ext hx8
          refine wl_val (r_move (v := .tuple _) rfl) rfl ?_
          refine wl_val (r_extract (v := .agg _) rfl rfl) rfl ?_
          refine wl_val (r_extract (v := .agg _) rfl rfl) rfl ?_
          refine wl_val (r_extract (v := .bool _) rfl rfl) rfl ?_
          refine wl_exv (x_alloc (C := ((List.replicate 32 (0 : UInt8)).map b8)) hS9 ti49 rfl) rfl ?_
          rintro _ w10 ⟨b7, rfl, hS11⟩
          refine wl_exv (x_alloc (C := ((List.replicate 32 (0 : UInt8)).map b8)) hS11 ti49 rfl) rfl ?_
          rintro _ w12 ⟨bb8, rfl, hS13⟩
          refine wl_exs (x_storeW [_] hS13 ti49 rfl rfl (by rw [List.length_map]; exact hx) (by simp) (one_b8 _)) rfl ?_
          intro w14 hS15
          simp only [List.cons_append, List.nil_append] at hS15
          refine wl_exs (x_storeW [] hS15 ti49 rfl rfl (by rw [List.length_map]; exact hy) (by simp) (one_b8 _)) rfl ?_
          intro w16 hS17
          simp only [List.cons_append, List.nil_append] at hS17
          refine wl_val (r_assign (v := .bool _) rfl) rfl ?_
          refine wl_nil ?_
          refine c_then ?_
          refine c_seq ?_
          refine c_seq ?_
          rcases bool_cases (decide (pl.length = gstepsL ix' sz' true)) with hq | hq
          · refine c_set (d := 9) (v := .bool true) (congrArg Value.bool hq) ?_
            refine c_region ?_
            refine wl_val (r_move (v := .bool _) rfl) rfl ?_
            refine wl_val (r_not rfl) rfl ?_
            refine wl_val (r_move (v := .bool _) rfl) rfl ?_
            refine wl_val (r_loadB ti49 rfl rfl (hS17.heap (.tail _ (.head _))) (by rw [List.length_map]; exact hx)) rfl ?_
            refine wl_val (r_loadB ti49 rfl rfl (hS17.heap (.tail _ (.tail _ (.tail _ (.tail _ (.head _)))))) (by first | (simp [*]; done) | (simp [*] <;> omega) | omega)) rfl ?_
            refine wl_dec (r_neqA (u := undef) eg49 rfl rfl (eqIs_b8 ti49.und ti5 _ _ hx ho)) rfl (fun h4_5 => ?_) (fun h4_5 => ?_)
            · refine wl_val (r_pick_f rfl (v := .bool _) rfl) rfl ?_
              refine wl_val (r_move (v := .bool _) rfl) rfl ?_
              refine wl_not rfl ?_
              refine wl_not rfl ?_
              refine wl_not rfl ?_
              refine wl_val (r_pick_t rfl (v := .bool true) rfl) rfl ?_
              refine wl_nil ?_
              refine c_then ?_
              refine c_true rfl ?_
              refine c_seq ?_
              refine c_region ?_
              refine wl_val (r_assign (v := .int .i64 12) rfl) rfl ?_
              refine wl_nil ?_
              refine c_then ?_
              refine wp_ret ?_
              refine c_thenR ?_
              refine ret1 Try.results64 ?_
              exact ⟨congrArg (Value.int .i64) (grownE_no (by omega) (by omega) (by omega) (fun h => h4_5 (congrArg Prod.fst ((hxy (by simpa using hq)).symm.trans h)))).symm, hS17.fin⟩
            · refine wl_val (r_pick_f rfl (v := .bool _) rfl) rfl ?_
              refine wl_val (r_move (v := .bool _) rfl) rfl ?_
              refine wl_val (r_loadB ti49 rfl rfl (hS17.heap (.head _)) (by rw [List.length_map]; exact hy)) rfl ?_
              refine wl_val (r_loadB ti49 rfl rfl (hS17.heap (.tail _ (.tail _ (.tail _ (.head _))))) (by first | (simp [*]; done) | (simp [*] <;> omega) | omega)) rfl ?_
              refine wl_dec (r_neqA (u := undef) eg49 rfl rfl (eqIs_b8 ti49.und ti5 _ _ hy hnw)) rfl (fun h4_10 => ?_) (fun h4_10 => ?_)
              · refine wl_val (r_pick_f rfl (v := .bool _) rfl) rfl ?_
                refine wl_nil ?_
                refine c_then ?_
                refine c_true rfl ?_
                refine c_seq ?_
                refine c_region ?_
                refine wl_val (r_assign (v := .int .i64 12) rfl) rfl ?_
                refine wl_nil ?_
                refine c_then ?_
                refine wp_ret ?_
                refine c_thenR ?_
                refine ret1 Try.results64 ?_
                exact ⟨congrArg (Value.int .i64) (grownE_no (by omega) (by omega) (by omega) (fun h => h4_10 (congrArg Prod.snd ((hxy (by simpa using hq)).symm.trans h)))).symm, hS17.fin⟩
              · refine wl_val (r_pick_f rfl (v := .bool _) rfl) rfl ?_
                refine wl_nil ?_
                refine c_then ?_
                refine c_false rfl ?_
                refine wp_skip ?_
                refine c_then ?_
                refine c_seq ?_
                refine c_region ?_
                refine wl_val (r_assign (v := .int .i64 0) rfl) rfl ?_
                refine wl_nil ?_
                refine c_then ?_
                refine wp_ret ?_
                refine ret1 Try.results64 ?_
                exact ⟨congrArg (Value.int .i64) (grownE_ok (by omega) (by omega) (by omega) (by simpa using hq) ((hxy (by simpa using hq)).trans (Prod.ext (Classical.not_not.1 h4_5) (Classical.not_not.1 h4_10)))).symm, hS17.fin⟩
          · refine c_set (d := 9) (v := .bool false) (congrArg Value.bool hq) ?_
            refine c_region ?_
            refine wl_val (r_move (v := .bool _) rfl) rfl ?_
            refine wl_val (r_not rfl) rfl ?_
            refine wl_val (r_move (v := .bool _) rfl) rfl ?_
            refine wl_not rfl ?_
            refine wl_not rfl ?_
            refine wl_not rfl ?_
            refine wl_val (r_pick_t rfl (v := .bool true) rfl) rfl ?_
            refine wl_val (r_move (v := .bool _) rfl) rfl ?_
            refine wl_not rfl ?_
            refine wl_not rfl ?_
            refine wl_not rfl ?_
            refine wl_val (r_pick_t rfl (v := .bool true) rfl) rfl ?_
            refine wl_nil ?_
            refine c_then ?_
            refine c_true rfl ?_
            refine c_seq ?_
            refine c_region ?_
            refine wl_val (r_assign (v := .int .i64 12) rfl) rfl ?_
            refine wl_nil ?_
            refine c_then ?_
            refine wp_ret ?_
            refine c_thenR ?_
            refine ret1 Try.results64 ?_
            exact ⟨congrArg (Value.int .i64) (grownE_len (by omega) (by omega) (by omega) (by simpa using hq)).symm, hS17.fin⟩

end Go.Proofs.Ytfohfnpehfcaaaa
