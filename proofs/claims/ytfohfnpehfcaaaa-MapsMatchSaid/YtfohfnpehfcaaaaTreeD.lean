/- Proofs that are made. No condition. -/
import Derived.Test.YtfohfnpehfcaaaaFacts
import Derived.Test.YtfohfnpehfcaaaaTreeC
namespace Go.Proofs.Ytfohfnpehfcaaaa
open Go.Kw
set_option linter.unusedVariables false
set_option linter.unusedSimpArgs false
set_option maxRecDepth 100000
theorem path_step (N : Nat) (IH : ∀ (l : List (List UInt8)) (i : Nat) (a : Option Addr) (n c : Nat) (w : World), n < N → Row w a (l.flatten.map b8) → S32 l → l.length = n → i < n → n ≤ c → n ≤ 4398046511104 → Ret Try.prog 150 [.slice a n c, vi i] w (fun v w' => ∃ a' c', v = .slice a' (stepsL i n) c' ∧ stepsL i n ≤ c' ∧ St w [] w' [.row (.slice a' (stepsL i n) c') 49 32 (stepsL i n) ((pathL l i).flatten.map b8)])) (l : List (List UInt8)) (i : Nat) (a : Option Addr) (n c : Nat) (w : World) (hN : n = N) (hb : Row w a (l.flatten.map b8)) (h32 : S32 l) (hl : l.length = n) (hi : i < n) (hc : n ≤ c) (hm : n ≤ 4398046511104) :
    Ret Try.prog 150 [.slice a n c, vi i] w (fun v w' => ∃ a' c', v = .slice a' (stepsL i n) c' ∧ stepsL i n ≤ c' ∧ St w [] w' [.row (.slice a' (stepsL i n) c') 49 32 (stepsL i n) ((pathL l i).flatten.map b8)]) := by
  refine enter Try.func150 rfl Try.ntmps150 rfl ?_
  have hS := St.refl w []
  refine c_seq ?_; refine c_region ?_; refine wl_val (r_assign (v := .slice none 0 0) rfl) rfl ?_; refine wl_nil ?_; refine c_then ?_; refine c_seq ?_; refine c_seq ?_; refine c_region ?_; refine wl_val (r_move (v := .slice _ _ _) rfl) rfl ?_; refine wl_val (r_len (T := 53) rfl ti53.und rfl _ rfl) rfl ?_
  refine wl_dec (r_eql rfl rfl) rfl (fun h1_2 => ?_) (fun h1_2 => ?_)
  · refine wl_nil ?_
    refine c_then ?_; refine c_true rfl ?_; refine c_seq ?_; refine c_region ?_; refine wl_val (r_assign (v := .slice none 0 0) rfl) rfl ?_; refine wl_nil ?_; refine c_then ?_; refine wp_ret ?_; refine c_thenR ?_; refine ret1 Try.results150 ?_
    obtain rfl : n = 1 := by omega
    rw [stepsL_one, pathL_one _ hl]
    exact ⟨none, 0, rfl, Nat.zero_le _, hS.nilRow⟩
  refine wl_nil ?_; refine c_then ?_; refine c_false rfl ?_; refine wp_skip ?_; refine c_then ?_; refine c_seq ?_; refine c_region ?_; refine wl_val (r_move (v := .slice _ _ _) rfl) rfl ?_; refine wl_val (r_len (T := 53) rfl ti53.und rfl _ rfl) rfl ?_; refine wl_call (r_call fn176 rfl rfl) rfl (split_ok _ _ (by first | omega | (simp [*]; done) | (simp [*] <;> omega)) (by first | omega | (simp [*]; done) | (simp [*] <;> omega))) ?_; rintro _ w1 ⟨rfl, hx2⟩
  have hS3 := hS.ext hx2
  refine wl_val (r_assign (v := .int .i64 _) rfl) rfl ?_; refine wl_nil ?_; refine c_then ?_; refine c_seq ?_; refine c_seq ?_
  have hlt := halfN_lt (n := n) (by omega)
  have hpo := halfN_pos n
  refine c_region ?_; refine wl_val (r_move (v := .int .i64 _) rfl) rfl ?_; refine wl_val (r_move (v := .int .i64 _) rfl) rfl ?_
  refine wl_dec (r_lss rfl rfl) rfl (fun h4_2 => ?_) (fun h4_2 => ?_)
  · refine wl_nil ?_
    refine c_then ?_; refine c_true rfl ?_; refine c_seq ?_
    have hsl := steps_le _ i (halfN n) (Nat.le_refl _)
    have ht : Row w a ((l.take (halfN n)).flatten.map b8) := hb.take32 h32 _
    have hd : Row w (sub a c (halfN n) 32) ((l.drop (halfN n)).flatten.map b8) := hb.from32 h32 (by omega) (halfN n)
    refine c_drawS 8 hMixed hS3 ?_; intro w4 hS5; refine g_take 0 rfl (by decide +kernel) rfl (fun _ _ _ h => h) hS5 (fun wF hF => r_move (v := .slice _ _ _) rfl) ?_; refine g_take 1 rfl (by decide +kernel) rfl (fun _ _ _ h => h) hS5 (fun wF hF => r_move (v := .int .i64 _) rfl) ?_; refine g_take 2 rfl (by decide +kernel) rfl (fun _ _ _ h => h) hS5 (fun wF hF => r_sl_h ti53.und ti49 rfl rfl (by omega)) ?_; refine g_take 3 rfl (by decide +kernel) rfl (fun _ _ _ h => h) hS5 (fun wF hF => r_move (v := .int .i64 _) rfl) ?_; refine g_take 5 rfl (by decide +kernel) rfl (fun _ _ _ h => h) hS5 (fun wF hF => r_move (v := .slice _ _ _) rfl) ?_; refine g_take 6 rfl (by decide +kernel) rfl (fun _ _ _ h => h) hS5 (fun wF hF => r_move (v := .int .i64 _) rfl) ?_; refine g_take 7 rfl (by decide +kernel) rfl (fun _ _ _ h => h) hS5 (fun wF hF => r_sl_l ti53.und ti49 rfl rfl (by omega)) ?_; refine g_one 4 (by decide +kernel) (by decide +kernel) ?_; refine o_call rfl (r_call fn150 rfl rfl) rfl (IH (l.take (halfN n)) (i) _ _ _ _ (by omega) (ht.st hS5) (h32.take _) (by simp; omega) (by omega) (by omega) (by omega)) ?_; rintro _ w6 ⟨a19, c19, rfl, hc19, hx7⟩
    have hS8 := hS5.call hx7
    simp only [List.cons_append, List.nil_append] at hS8
    refine ⟨hS8.drop1, ?_⟩
    refine g_tail (by decide +kernel) rfl (by decide +kernel) ?_; refine wl_call (r_call fn128 rfl rfl) rfl (rootOf_ok _ (l.drop (halfN n)) _ _ _ (hd.st hS8) (h32.drop _) (by simp; omega) (by omega) (by omega) (by omega)) ?_; rintro _ w9 ⟨rfl, hx10⟩
    have hS11 := hS8.ext hx10
    refine wl_exv (x_litA1 hS11 ti53.und ti49 rfl (by rw [List.length_map]; exact rootL_len _ (h32.drop _) (by simp; omega)) rfl (by decide) (by decide)) rfl ?_; rintro _ w12 ⟨b24, rfl, hS13⟩; refine wl_exv (x_append [_] hS13 ti53.und ti49 rfl (by decide) rfl rfl (Row.of_at (at_all (hS13.heap (.head _)))) (by rw [List.length_map]; exact rootL_len _ (h32.drop _) (by simp; omega)) (by first | exact one_b8 _ | exact one_v32 _ | (intro c hc; simp only [List.mem_cons, List.not_mem_nil, or_false] at hc; (first | subst hc | rcases hc with rfl | rfl) <;> rfl)) (by first | omega | (simp [*]; done) | (simp [*] <;> omega)) (by first | omega | (simp [*]; done) | (simp [*] <;> omega)) _ rfl) rfl ?_; rintro _ w14 ⟨aq16, cq16, rfl, hcq16, hS15⟩; simp only [List.cons_append, List.nil_append] at hS15; refine wl_val (r_assign (v := .slice _ _ _) rfl) rfl ?_; refine wl_nil ?_; refine c_then ?_; refine wp_ret ?_; refine c_thenR ?_; refine ret1 Try.results150 ?_
    rw [stepsL_lo (i := i) (n := n) (by omega) (by omega), pathL_lo (i := i) hl (by omega) (by omega), flat_snoc, List.map_append]
    exact ⟨_, _, rfl, hcq16, hS15.drop1⟩
  refine wl_nil ?_; refine c_then ?_; refine c_false rfl ?_; refine wp_skip ?_; refine c_then ?_; refine c_seq ?_
  have hsl := steps_le _ (i - halfN n) (n - halfN n) (Nat.le_refl _)
  have ht : Row w a ((l.take (halfN n)).flatten.map b8) := hb.take32 h32 _
  have hd : Row w (sub a c (halfN n) 32) ((l.drop (halfN n)).flatten.map b8) := hb.from32 h32 (by omega) (halfN n)
  refine c_drawS 10 hMixed hS3 ?_; intro w17 hS18; refine g_take 0 rfl (by decide +kernel) rfl (fun _ _ _ h => h) hS18 (fun wF hF => r_move (v := .slice _ _ _) rfl) ?_; refine g_take 1 rfl (by decide +kernel) rfl (fun _ _ _ h => h) hS18 (fun wF hF => r_move (v := .int .i64 _) rfl) ?_; refine g_take 2 rfl (by decide +kernel) rfl (fun _ _ _ h => h) hS18 (fun wF hF => r_sl_l ti53.und ti49 rfl rfl (by omega)) ?_; refine g_take 3 rfl (by decide +kernel) rfl (fun _ _ _ h => h) hS18 (fun wF hF => r_move (v := .int .i64 _) rfl) ?_; refine g_take 4 rfl (by decide +kernel) rfl (fun _ _ _ h => h) hS18 (fun wF hF => r_move (v := .int .i64 _) rfl) ?_; refine g_take 5 rfl (by decide +kernel) rfl (fun _ _ _ h => h) hS18 (fun wF hF => r_subn rfl rfl (by omega) (by omega)) ?_; refine g_take 7 rfl (by decide +kernel) rfl (fun _ _ _ h => h) hS18 (fun wF hF => r_move (v := .slice _ _ _) rfl) ?_; refine g_take 8 rfl (by decide +kernel) rfl (fun _ _ _ h => h) hS18 (fun wF hF => r_move (v := .int .i64 _) rfl) ?_; refine g_take 9 rfl (by decide +kernel) rfl (fun _ _ _ h => h) hS18 (fun wF hF => r_sl_h ti53.und ti49 rfl rfl (by omega)) ?_; refine g_one 6 (by decide +kernel) (by decide +kernel) ?_; refine o_call rfl (r_call fn150 rfl rfl) rfl (IH (l.drop (halfN n)) (i - halfN n) _ _ _ _ (by omega) (hd.st hS18) (h32.drop _) (by simp; omega) (by omega) (by omega) (by omega)) ?_; rintro _ w19 ⟨a32, c32, rfl, hc32, hx20⟩
  have hS21 := hS18.call hx20
  simp only [List.cons_append, List.nil_append] at hS21
  refine ⟨hS21.drop1, ?_⟩
  refine g_tail (by decide +kernel) rfl (by decide +kernel) ?_; refine wl_call (r_call fn128 rfl rfl) rfl (rootOf_ok _ (l.take (halfN n)) _ _ _ (ht.st hS21) (h32.take _) (by simp; omega) (by omega) (by omega) (by omega)) ?_; rintro _ w22 ⟨rfl, hx23⟩
  have hS24 := hS21.ext hx23
  refine wl_exv (x_litA1 hS24 ti53.und ti49 rfl (by rw [List.length_map]; exact rootL_len _ (h32.take _) (by simp; omega)) rfl (by decide) (by decide)) rfl ?_; rintro _ w25 ⟨b37, rfl, hS26⟩; refine wl_exv (x_append [_] hS26 ti53.und ti49 rfl (by decide) rfl rfl (Row.of_at (at_all (hS26.heap (.head _)))) (by rw [List.length_map]; exact rootL_len _ (h32.take _) (by simp; omega)) (by first | exact one_b8 _ | exact one_v32 _ | (intro c hc; simp only [List.mem_cons, List.not_mem_nil, or_false] at hc; (first | subst hc | rcases hc with rfl | rfl) <;> rfl)) (by first | omega | (simp [*]; done) | (simp [*] <;> omega)) (by first | omega | (simp [*]; done) | (simp [*] <;> omega)) _ rfl) rfl ?_; rintro _ w27 ⟨aq29, cq29, rfl, hcq29, hS28⟩; simp only [List.cons_append, List.nil_append] at hS28; refine wl_val (r_assign (v := .slice _ _ _) rfl) rfl ?_; refine wl_nil ?_; refine c_then ?_; refine wp_ret ?_; refine ret1 Try.results150 ?_
  rw [stepsL_hi (i := i) (n := n) (by omega) (by omega), pathL_hi (i := i) hl (by omega) (by omega), flat_snoc, List.map_append]
  exact ⟨_, _, rfl, hcq29, hS28.drop1⟩

theorem path_ok : ∀ (n : Nat) (l : List (List UInt8)) (i : Nat) (a : Option Addr) (c : Nat) (w : World) (hb : Row w a (l.flatten.map b8)) (h32 : S32 l) (hl : l.length = n) (hi : i < n) (hc : n ≤ c) (hm : n ≤ 4398046511104), Ret Try.prog 150 [.slice a n c, vi i] w (fun v w' => ∃ a' c', v = .slice a' (stepsL i n) c' ∧ stepsL i n ≤ c' ∧ St w [] w' [.row (.slice a' (stepsL i n) c') 49 32 (stepsL i n) ((pathL l i).flatten.map b8)]) := by
  intro n
  induction n using Nat.strongRecOn with
  | _ n ih => exact fun l i a c w h1 h2 h3 h4 h5 h6 => path_step n (fun l i a m c w hlt h1 h2 h3 h4 h5 h6 => ih m hlt l i a c w h1 h2 h3 h4 h5 h6) l i a n c w rfl h1 h2 h3 h4 h5 h6

theorem rpath_step (N : Nat) (IH : ∀ (l : List (List UInt8)) (i : Nat) (a : Option Addr) (n c : Nat) (w : World), n < N → Row w a (l.flatten.map b8) → S32 l → l.length = n → i < n → n ≤ c → n ≤ 4398046511104 → Ret Try.prog 77 [.slice a n c, vi i] w (fun v w' => ∃ a' c', v = .slice a' (stepsL i n) c' ∧ stepsL i n ≤ c' ∧ St w [] w' [.row (.slice a' (stepsL i n) c') 49 32 (stepsL i n) ((pathL l i).flatten.map b8)])) (l : List (List UInt8)) (i : Nat) (a : Option Addr) (n c : Nat) (w : World) (hN : n = N) (hb : Row w a (l.flatten.map b8)) (h32 : S32 l) (hl : l.length = n) (hi : i < n) (hc : n ≤ c) (hm : n ≤ 4398046511104) :
    Ret Try.prog 77 [.slice a n c, vi i] w (fun v w' => ∃ a' c', v = .slice a' (stepsL i n) c' ∧ stepsL i n ≤ c' ∧ St w [] w' [.row (.slice a' (stepsL i n) c') 49 32 (stepsL i n) ((pathL l i).flatten.map b8)]) := by
  refine enter Try.func77 rfl Try.ntmps77 rfl ?_
  have hS := St.refl w []
  refine c_seq ?_; refine c_region ?_; refine wl_val (r_assign (v := .slice none 0 0) rfl) rfl ?_; refine wl_nil ?_; refine c_then ?_; refine c_seq ?_; refine c_seq ?_; refine c_region ?_; refine wl_val (r_move (v := .slice _ _ _) rfl) rfl ?_; refine wl_val (r_len (T := 53) rfl ti53.und rfl _ rfl) rfl ?_
  refine wl_dec (r_eql rfl rfl) rfl (fun h1_2 => ?_) (fun h1_2 => ?_)
  · refine wl_nil ?_
    refine c_then ?_; refine c_true rfl ?_; refine c_seq ?_; refine c_region ?_; refine wl_val (r_assign (v := .slice none 0 0) rfl) rfl ?_; refine wl_nil ?_; refine c_then ?_; refine wp_ret ?_; refine c_thenR ?_; refine ret1 Try.results77 ?_
    obtain rfl : n = 1 := by omega
    rw [stepsL_one, pathL_one _ hl]
    exact ⟨none, 0, rfl, Nat.zero_le _, hS.nilRow⟩
  refine wl_nil ?_; refine c_then ?_; refine c_false rfl ?_; refine wp_skip ?_; refine c_then ?_; refine c_seq ?_; refine c_region ?_; refine wl_val (r_move (v := .slice _ _ _) rfl) rfl ?_; refine wl_val (r_len (T := 53) rfl ti53.und rfl _ rfl) rfl ?_; refine wl_call (r_call fn129 rfl rfl) rfl (half_ok _ _ (by first | omega | (simp [*]; done) | (simp [*] <;> omega)) (by first | omega | (simp [*]; done) | (simp [*] <;> omega))) ?_; rintro _ w1 ⟨rfl, hx2⟩
  have hS3 := hS.ext hx2
  refine wl_val (r_assign (v := .int .i64 _) rfl) rfl ?_; refine wl_nil ?_; refine c_then ?_; refine c_seq ?_
  have hlt := halfN_lt (n := n) (by omega)
  have hpo := halfN_pos n
  refine c_region ?_; refine wl_val (r_move (v := .int .i64 _) rfl) rfl ?_; refine wl_val (r_move (v := .int .i64 _) rfl) rfl ?_
  refine wl_dec (r_lss rfl rfl) rfl (fun h4_2 => ?_) (fun h4_2 => ?_)
  · refine wl_nil ?_
    refine c_then ?_; refine c_true rfl ?_; refine c_seq ?_
    have hsl := steps_le _ i (halfN n) (Nat.le_refl _)
    have ht : Row w a ((l.take (halfN n)).flatten.map b8) := hb.take32 h32 _
    have hd : Row w (sub a c (halfN n) 32) ((l.drop (halfN n)).flatten.map b8) := hb.from32 h32 (by omega) (halfN n)
    refine c_drawS 8 hMixed hS3 ?_; intro w4 hS5; refine g_take 0 rfl (by decide +kernel) rfl (fun _ _ _ h => h) hS5 (fun wF hF => r_move (v := .slice _ _ _) rfl) ?_; refine g_take 1 rfl (by decide +kernel) rfl (fun _ _ _ h => h) hS5 (fun wF hF => r_move (v := .int .i64 _) rfl) ?_; refine g_take 2 rfl (by decide +kernel) rfl (fun _ _ _ h => h) hS5 (fun wF hF => r_sl_h ti53.und ti49 rfl rfl (by omega)) ?_; refine g_take 3 rfl (by decide +kernel) rfl (fun _ _ _ h => h) hS5 (fun wF hF => r_move (v := .int .i64 _) rfl) ?_; refine g_take 5 rfl (by decide +kernel) rfl (fun _ _ _ h => h) hS5 (fun wF hF => r_move (v := .slice _ _ _) rfl) ?_; refine g_take 6 rfl (by decide +kernel) rfl (fun _ _ _ h => h) hS5 (fun wF hF => r_move (v := .int .i64 _) rfl) ?_; refine g_take 7 rfl (by decide +kernel) rfl (fun _ _ _ h => h) hS5 (fun wF hF => r_sl_l ti53.und ti49 rfl rfl (by omega)) ?_; refine g_one 4 (by decide +kernel) (by decide +kernel) ?_; refine o_call rfl (r_call fn77 rfl rfl) rfl (IH (l.take (halfN n)) (i) _ _ _ _ (by omega) (ht.st hS5) (h32.take _) (by simp; omega) (by omega) (by omega) (by omega)) ?_; rintro _ w6 ⟨a19, c19, rfl, hc19, hx7⟩
    have hS8 := hS5.call hx7
    simp only [List.cons_append, List.nil_append] at hS8
    refine ⟨hS8.drop1, ?_⟩
    refine g_tail (by decide +kernel) rfl (by decide +kernel) ?_; refine wl_call (r_call fn51 rfl rfl) rfl (rroot_ok _ (l.drop (halfN n)) _ _ _ (hd.st hS8) (h32.drop _) (by simp; omega) (by omega) (by omega) (by omega)) ?_; rintro _ w9 ⟨rfl, hx10⟩
    have hS11 := hS8.ext hx10
    refine wl_exv (x_litA1 hS11 ti53.und ti49 rfl (by rw [List.length_map]; exact rootL_len _ (h32.drop _) (by simp; omega)) rfl (by decide) (by decide)) rfl ?_; rintro _ w12 ⟨b24, rfl, hS13⟩; refine wl_exv (x_append [_] hS13 ti53.und ti49 rfl (by decide) rfl rfl (Row.of_at (at_all (hS13.heap (.head _)))) (by rw [List.length_map]; exact rootL_len _ (h32.drop _) (by simp; omega)) (by first | exact one_b8 _ | exact one_v32 _ | (intro c hc; simp only [List.mem_cons, List.not_mem_nil, or_false] at hc; (first | subst hc | rcases hc with rfl | rfl) <;> rfl)) (by first | omega | (simp [*]; done) | (simp [*] <;> omega)) (by first | omega | (simp [*]; done) | (simp [*] <;> omega)) _ rfl) rfl ?_; rintro _ w14 ⟨aq16, cq16, rfl, hcq16, hS15⟩; simp only [List.cons_append, List.nil_append] at hS15; refine wl_val (r_assign (v := .slice _ _ _) rfl) rfl ?_; refine wl_nil ?_; refine c_then ?_; refine wp_ret ?_; refine ret1 Try.results77 ?_
    rw [stepsL_lo (i := i) (n := n) (by omega) (by omega), pathL_lo (i := i) hl (by omega) (by omega), flat_snoc, List.map_append]
    exact ⟨_, _, rfl, hcq16, hS15.drop1⟩
  refine wl_nil ?_; refine c_then ?_; refine c_false rfl ?_; refine c_seq ?_
  have hsl := steps_le _ (i - halfN n) (n - halfN n) (Nat.le_refl _)
  have ht : Row w a ((l.take (halfN n)).flatten.map b8) := hb.take32 h32 _
  have hd : Row w (sub a c (halfN n) 32) ((l.drop (halfN n)).flatten.map b8) := hb.from32 h32 (by omega) (halfN n)
  refine c_drawS 10 hMixed hS3 ?_; intro w17 hS18; refine g_take 0 rfl (by decide +kernel) rfl (fun _ _ _ h => h) hS18 (fun wF hF => r_move (v := .slice _ _ _) rfl) ?_; refine g_take 1 rfl (by decide +kernel) rfl (fun _ _ _ h => h) hS18 (fun wF hF => r_move (v := .int .i64 _) rfl) ?_; refine g_take 2 rfl (by decide +kernel) rfl (fun _ _ _ h => h) hS18 (fun wF hF => r_sl_l ti53.und ti49 rfl rfl (by omega)) ?_; refine g_take 3 rfl (by decide +kernel) rfl (fun _ _ _ h => h) hS18 (fun wF hF => r_move (v := .int .i64 _) rfl) ?_; refine g_take 4 rfl (by decide +kernel) rfl (fun _ _ _ h => h) hS18 (fun wF hF => r_move (v := .int .i64 _) rfl) ?_; refine g_take 5 rfl (by decide +kernel) rfl (fun _ _ _ h => h) hS18 (fun wF hF => r_subn rfl rfl (by omega) (by omega)) ?_; refine g_take 7 rfl (by decide +kernel) rfl (fun _ _ _ h => h) hS18 (fun wF hF => r_move (v := .slice _ _ _) rfl) ?_; refine g_take 8 rfl (by decide +kernel) rfl (fun _ _ _ h => h) hS18 (fun wF hF => r_move (v := .int .i64 _) rfl) ?_; refine g_take 9 rfl (by decide +kernel) rfl (fun _ _ _ h => h) hS18 (fun wF hF => r_sl_h ti53.und ti49 rfl rfl (by omega)) ?_; refine g_one 6 (by decide +kernel) (by decide +kernel) ?_; refine o_call rfl (r_call fn77 rfl rfl) rfl (IH (l.drop (halfN n)) (i - halfN n) _ _ _ _ (by omega) (hd.st hS18) (h32.drop _) (by simp; omega) (by omega) (by omega) (by omega)) ?_; rintro _ w19 ⟨a32, c32, rfl, hc32, hx20⟩
  have hS21 := hS18.call hx20
  simp only [List.cons_append, List.nil_append] at hS21
  refine ⟨hS21.drop1, ?_⟩
  refine g_tail (by decide +kernel) rfl (by decide +kernel) ?_; refine wl_call (r_call fn51 rfl rfl) rfl (rroot_ok _ (l.take (halfN n)) _ _ _ (ht.st hS21) (h32.take _) (by simp; omega) (by omega) (by omega) (by omega)) ?_; rintro _ w22 ⟨rfl, hx23⟩
  have hS24 := hS21.ext hx23
  refine wl_exv (x_litA1 hS24 ti53.und ti49 rfl (by rw [List.length_map]; exact rootL_len _ (h32.take _) (by simp; omega)) rfl (by decide) (by decide)) rfl ?_; rintro _ w25 ⟨b37, rfl, hS26⟩; refine wl_exv (x_append [_] hS26 ti53.und ti49 rfl (by decide) rfl rfl (Row.of_at (at_all (hS26.heap (.head _)))) (by rw [List.length_map]; exact rootL_len _ (h32.take _) (by simp; omega)) (by first | exact one_b8 _ | exact one_v32 _ | (intro c hc; simp only [List.mem_cons, List.not_mem_nil, or_false] at hc; (first | subst hc | rcases hc with rfl | rfl) <;> rfl)) (by first | omega | (simp [*]; done) | (simp [*] <;> omega)) (by first | omega | (simp [*]; done) | (simp [*] <;> omega)) _ rfl) rfl ?_; rintro _ w27 ⟨aq29, cq29, rfl, hcq29, hS28⟩; simp only [List.cons_append, List.nil_append] at hS28; refine wl_val (r_assign (v := .slice _ _ _) rfl) rfl ?_; refine wl_nil ?_; refine c_then ?_; refine wp_ret ?_; refine ret1 Try.results77 ?_
  rw [stepsL_hi (i := i) (n := n) (by omega) (by omega), pathL_hi (i := i) hl (by omega) (by omega), flat_snoc, List.map_append]
  exact ⟨_, _, rfl, hcq29, hS28.drop1⟩

theorem rpath_ok : ∀ (n : Nat) (l : List (List UInt8)) (i : Nat) (a : Option Addr) (c : Nat) (w : World) (hb : Row w a (l.flatten.map b8)) (h32 : S32 l) (hl : l.length = n) (hi : i < n) (hc : n ≤ c) (hm : n ≤ 4398046511104), Ret Try.prog 77 [.slice a n c, vi i] w (fun v w' => ∃ a' c', v = .slice a' (stepsL i n) c' ∧ stepsL i n ≤ c' ∧ St w [] w' [.row (.slice a' (stepsL i n) c') 49 32 (stepsL i n) ((pathL l i).flatten.map b8)]) := by
  intro n
  induction n using Nat.strongRecOn with
  | _ n ih => exact fun l i a c w h1 h2 h3 h4 h5 h6 => rpath_step n (fun l i a m c w hlt h1 h2 h3 h4 h5 h6 => ih m hlt l i a c w h1 h2 h3 h4 h5 h6) l i a n c w rfl h1 h2 h3 h4 h5 h6

theorem gpath_step (N : Nat) (IH : ∀ (l : List (List UInt8)) (m : Nat) (wh : Bool) (a : Option Addr) (n c : Nat) (w : World), n < N → Row w a (l.flatten.map b8) → S32 l → l.length = n → 1 ≤ m → m ≤ n → n ≤ c → n ≤ 1099511627776 → Ret Try.prog 151 [.slice a n c, vi m, .bool wh] w (fun v w' => ∃ a' c', v = .slice a' (gstepsL m n wh) c' ∧ gstepsL m n wh ≤ c' ∧ St w [] w' [.row (.slice a' (gstepsL m n wh) c') 49 32 (gstepsL m n wh) ((gpathL l m wh).flatten.map b8)])) (l : List (List UInt8)) (m : Nat) (wh : Bool) (a : Option Addr) (n c : Nat) (w : World) (hN : n = N) (hb : Row w a (l.flatten.map b8)) (h32 : S32 l) (hl : l.length = n) (h1 : 1 ≤ m) (hmn : m ≤ n) (hc : n ≤ c) (hm : n ≤ 1099511627776) :
    Ret Try.prog 151 [.slice a n c, vi m, .bool wh] w (fun v w' => ∃ a' c', v = .slice a' (gstepsL m n wh) c' ∧ gstepsL m n wh ≤ c' ∧ St w [] w' [.row (.slice a' (gstepsL m n wh) c') 49 32 (gstepsL m n wh) ((gpathL l m wh).flatten.map b8)]) := by
  refine enter Try.func151 rfl Try.ntmps151 rfl ?_
  have hS := St.refl w []
  refine c_seq ?_; refine c_region ?_; refine wl_val (r_assign (v := .slice none 0 0) rfl) rfl ?_; refine wl_nil ?_; refine c_then ?_; refine c_seq ?_; refine c_seq ?_; refine c_region ?_; refine wl_val (r_move (v := .int .i64 _) rfl) rfl ?_; refine wl_val (r_move (v := .slice _ _ _) rfl) rfl ?_; refine wl_val (r_len (T := 53) rfl ti53.und rfl _ rfl) rfl ?_
  refine wl_dec (r_eql rfl rfl) rfl (fun h1_3 => ?_) (fun h1_3 => ?_)
  · refine wl_nil ?_
    refine c_then ?_; refine c_true rfl ?_; refine c_seq ?_; refine c_seq ?_
    rcases bool_cases wh with rfl | rfl
    · refine c_region ?_
      refine wl_val (r_move (v := .bool _) rfl) rfl ?_; refine wl_nil ?_; refine c_then ?_; refine c_true rfl ?_; refine c_seq ?_; refine c_region ?_; refine wl_val (r_assign (v := .slice none 0 0) rfl) rfl ?_; refine wl_nil ?_; refine c_then ?_; refine wp_ret ?_; refine c_thenR ?_; refine c_thenR ?_; refine ret1 Try.results151 ?_
      rw [gstepsL_end true (by omega), gpathL_wh (by omega)]
      exact ⟨none, 0, rfl, Nat.zero_le _, hS.nilRow⟩
    refine c_region ?_; refine wl_val (r_move (v := .bool _) rfl) rfl ?_; refine wl_nil ?_; refine c_then ?_; refine c_false rfl ?_; refine wp_skip ?_; refine c_then ?_; refine c_seq ?_; refine c_region ?_; refine wl_val (r_move (v := .slice _ _ _) rfl) rfl ?_; refine wl_call (r_call fn128 rfl rfl) rfl (rootOf_ok _ l _ _ _ (hb.st hS) h32 hl (by omega) hc (by omega)) ?_; rintro _ w1 ⟨rfl, hx2⟩
    have hS3 := hS.ext hx2
    refine wl_exv (x_litA1 hS3 ti53.und ti49 rfl (by rw [List.length_map]; exact rootL_len _ h32 (by omega)) rfl (by decide) (by decide)) rfl ?_; rintro _ w4 ⟨b15, rfl, hS5⟩; refine wl_val (r_assign (v := .slice _ _ _) rfl) rfl ?_; refine wl_nil ?_; refine c_then ?_; refine wp_ret ?_; refine c_thenR ?_; refine ret1 Try.results151 ?_
    have hT := St.toRow (l1 := []) (sz := 32) (n := 1) (cap := 1) hS5 (by decide) (by decide) (by rw [List.length_map]; exact rootL_len _ h32 (by omega))
    rw [List.take_of_length_le (by rw [List.length_map, rootL_len _ h32 (by omega)]; decide)] at hT
    rw [gstepsL_end false (by omega), gpathL_no (by omega), show [rootL l].flatten = rootL l by simp]
    exact ⟨_, _, rfl, Nat.le_refl _, hT⟩
  refine wl_nil ?_; refine c_then ?_; refine c_false rfl ?_; refine wp_skip ?_; refine c_then ?_; refine c_seq ?_; refine c_region ?_; refine wl_val (r_move (v := .slice _ _ _) rfl) rfl ?_; refine wl_val (r_len (T := 53) rfl ti53.und rfl _ rfl) rfl ?_; refine wl_call (r_call fn176 rfl rfl) rfl (split_ok _ _ (by first | omega | (simp [*]; done) | (simp [*] <;> omega)) (by first | omega | (simp [*]; done) | (simp [*] <;> omega))) ?_; rintro _ w6 ⟨rfl, hx7⟩
  have hS8 := hS.ext hx7
  refine wl_val (r_assign (v := .int .i64 _) rfl) rfl ?_; refine wl_nil ?_; refine c_then ?_; refine c_seq ?_; refine c_seq ?_
  have hlt := halfN_lt (n := n) (by omega)
  have hpo := halfN_pos n
  refine c_region ?_; refine wl_val (r_move (v := .int .i64 _) rfl) rfl ?_; refine wl_val (r_move (v := .int .i64 _) rfl) rfl ?_
  refine wl_dec (r_leq rfl rfl) rfl (fun h6_2 => ?_) (fun h6_2 => ?_)
  · refine wl_nil ?_
    refine c_then ?_; refine c_true rfl ?_; refine c_seq ?_
    have hsl := gsteps_le _ m (halfN n) wh (Nat.le_refl _)
    have ht : Row w a ((l.take (halfN n)).flatten.map b8) := hb.take32 h32 _
    have hd : Row w (sub a c (halfN n) 32) ((l.drop (halfN n)).flatten.map b8) := hb.from32 h32 (by omega) (halfN n)
    refine c_drawS 9 hMixed hS8 ?_; intro w9 hS10; refine g_take 0 rfl (by decide +kernel) rfl (fun _ _ _ h => h) hS10 (fun wF hF => r_move (v := .slice _ _ _) rfl) ?_; refine g_take 1 rfl (by decide +kernel) rfl (fun _ _ _ h => h) hS10 (fun wF hF => r_move (v := .int .i64 _) rfl) ?_; refine g_take 2 rfl (by decide +kernel) rfl (fun _ _ _ h => h) hS10 (fun wF hF => r_sl_h ti53.und ti49 rfl rfl (by omega)) ?_; refine g_take 3 rfl (by decide +kernel) rfl (fun _ _ _ h => h) hS10 (fun wF hF => r_move (v := .int .i64 _) rfl) ?_; refine g_take 4 rfl (by decide +kernel) rfl (fun _ _ _ h => h) hS10 (fun wF hF => r_move (v := .bool _) rfl) ?_; refine g_take 6 rfl (by decide +kernel) rfl (fun _ _ _ h => h) hS10 (fun wF hF => r_move (v := .slice _ _ _) rfl) ?_; refine g_take 7 rfl (by decide +kernel) rfl (fun _ _ _ h => h) hS10 (fun wF hF => r_move (v := .int .i64 _) rfl) ?_; refine g_take 8 rfl (by decide +kernel) rfl (fun _ _ _ h => h) hS10 (fun wF hF => r_sl_l ti53.und ti49 rfl rfl (by omega)) ?_; refine g_one 5 (by decide +kernel) (by decide +kernel) ?_; refine o_call rfl (r_call fn151 rfl rfl) rfl (IH (l.take (halfN n)) (m) wh _ _ _ _ (by omega) (ht.st hS10) (h32.take _) (by simp; omega) (by omega) (by omega) (by omega) (by omega)) ?_; rintro _ w11 ⟨a27, c27, rfl, hc27, hx12⟩
    have hS13 := hS10.call hx12
    simp only [List.cons_append, List.nil_append] at hS13
    refine ⟨hS13.drop1, ?_⟩
    refine g_tail (by decide +kernel) rfl (by decide +kernel) ?_; refine wl_call (r_call fn128 rfl rfl) rfl (rootOf_ok _ (l.drop (halfN n)) _ _ _ (hd.st hS13) (h32.drop _) (by simp; omega) (by omega) (by omega) (by omega)) ?_; rintro _ w14 ⟨rfl, hx15⟩
    have hS16 := hS13.ext hx15
    refine wl_exv (x_litA1 hS16 ti53.und ti49 rfl (by rw [List.length_map]; exact rootL_len _ (h32.drop _) (by simp; omega)) rfl (by decide) (by decide)) rfl ?_; rintro _ w17 ⟨b32, rfl, hS18⟩; refine wl_exv (x_append [_] hS18 ti53.und ti49 rfl (by decide) rfl rfl (Row.of_at (at_all (hS18.heap (.head _)))) (by rw [List.length_map]; exact rootL_len _ (h32.drop _) (by simp; omega)) (by first | exact one_b8 _ | exact one_v32 _ | (intro c hc; simp only [List.mem_cons, List.not_mem_nil, or_false] at hc; (first | subst hc | rcases hc with rfl | rfl) <;> rfl)) (by first | omega | (simp [*]; done) | (simp [*] <;> omega)) (by first | omega | (simp [*]; done) | (simp [*] <;> omega)) _ rfl) rfl ?_; rintro _ w19 ⟨aq21, cq21, rfl, hcq21, hS20⟩; simp only [List.cons_append, List.nil_append] at hS20; refine wl_val (r_assign (v := .slice _ _ _) rfl) rfl ?_; refine wl_nil ?_; refine c_then ?_; refine wp_ret ?_; refine c_thenR ?_; refine ret1 Try.results151 ?_
    rw [gstepsL_lo (m := m) (n := n) (wh := wh) (by omega) (by omega) (by omega), gpathL_lo (m := m) (wh := wh) hl (by omega) (by omega) (by omega), flat_snoc, List.map_append]
    exact ⟨_, _, rfl, hcq21, hS20.drop1⟩
  refine wl_nil ?_; refine c_then ?_; refine c_false rfl ?_; refine wp_skip ?_; refine c_then ?_; refine c_seq ?_
  have hsl := gsteps_le _ (m - halfN n) (n - halfN n) false (Nat.le_refl _)
  have ht : Row w a ((l.take (halfN n)).flatten.map b8) := hb.take32 h32 _
  have hd : Row w (sub a c (halfN n) 32) ((l.drop (halfN n)).flatten.map b8) := hb.from32 h32 (by omega) (halfN n)
  refine c_drawS 10 hMixed hS8 ?_; intro w22 hS23; refine g_take 0 rfl (by decide +kernel) rfl (fun _ _ _ h => h) hS23 (fun wF hF => r_move (v := .slice _ _ _) rfl) ?_; refine g_take 1 rfl (by decide +kernel) rfl (fun _ _ _ h => h) hS23 (fun wF hF => r_move (v := .int .i64 _) rfl) ?_; refine g_take 2 rfl (by decide +kernel) rfl (fun _ _ _ h => h) hS23 (fun wF hF => r_sl_l ti53.und ti49 rfl rfl (by omega)) ?_; refine g_take 3 rfl (by decide +kernel) rfl (fun _ _ _ h => h) hS23 (fun wF hF => r_move (v := .int .i64 _) rfl) ?_; refine g_take 4 rfl (by decide +kernel) rfl (fun _ _ _ h => h) hS23 (fun wF hF => r_move (v := .int .i64 _) rfl) ?_; refine g_take 5 rfl (by decide +kernel) rfl (fun _ _ _ h => h) hS23 (fun wF hF => r_subn rfl rfl (by omega) (by omega)) ?_; refine g_take 7 rfl (by decide +kernel) rfl (fun _ _ _ h => h) hS23 (fun wF hF => r_move (v := .slice _ _ _) rfl) ?_; refine g_take 8 rfl (by decide +kernel) rfl (fun _ _ _ h => h) hS23 (fun wF hF => r_move (v := .int .i64 _) rfl) ?_; refine g_take 9 rfl (by decide +kernel) rfl (fun _ _ _ h => h) hS23 (fun wF hF => r_sl_h ti53.und ti49 rfl rfl (by omega)) ?_; refine g_one 6 (by decide +kernel) (by decide +kernel) ?_; refine o_call rfl (r_call fn151 rfl rfl) rfl (IH (l.drop (halfN n)) (m - halfN n) false _ _ _ _ (by omega) (hd.st hS23) (h32.drop _) (by simp; omega) (by omega) (by omega) (by omega) (by omega)) ?_; rintro _ w24 ⟨a40, c40, rfl, hc40, hx25⟩
  have hS26 := hS23.call hx25
  simp only [List.cons_append, List.nil_append] at hS26
  refine ⟨hS26.drop1, ?_⟩
  refine g_tail (by decide +kernel) rfl (by decide +kernel) ?_; refine wl_call (r_call fn128 rfl rfl) rfl (rootOf_ok _ (l.take (halfN n)) _ _ _ (ht.st hS26) (h32.take _) (by simp; omega) (by omega) (by omega) (by omega)) ?_; rintro _ w27 ⟨rfl, hx28⟩
  have hS29 := hS26.ext hx28
  refine wl_exv (x_litA1 hS29 ti53.und ti49 rfl (by rw [List.length_map]; exact rootL_len _ (h32.take _) (by simp; omega)) rfl (by decide) (by decide)) rfl ?_; rintro _ w30 ⟨b45, rfl, hS31⟩; refine wl_exv (x_append [_] hS31 ti53.und ti49 rfl (by decide) rfl rfl (Row.of_at (at_all (hS31.heap (.head _)))) (by rw [List.length_map]; exact rootL_len _ (h32.take _) (by simp; omega)) (by first | exact one_b8 _ | exact one_v32 _ | (intro c hc; simp only [List.mem_cons, List.not_mem_nil, or_false] at hc; (first | subst hc | rcases hc with rfl | rfl) <;> rfl)) (by first | omega | (simp [*]; done) | (simp [*] <;> omega)) (by first | omega | (simp [*]; done) | (simp [*] <;> omega)) _ rfl) rfl ?_; rintro _ w32 ⟨aq34, cq34, rfl, hcq34, hS33⟩; simp only [List.cons_append, List.nil_append] at hS33; refine wl_val (r_assign (v := .slice _ _ _) rfl) rfl ?_; refine wl_nil ?_; refine c_then ?_; refine wp_ret ?_; refine ret1 Try.results151 ?_
  rw [gstepsL_hi (m := m) (n := n) (wh := wh) (by omega) (by omega) (by omega), gpathL_hi (m := m) (wh := wh) hl (by omega) (by omega) (by omega), flat_snoc, List.map_append]
  exact ⟨_, _, rfl, hcq34, hS33.drop1⟩

theorem gpath_ok : ∀ (n : Nat) (l : List (List UInt8)) (m : Nat) (wh : Bool) (a : Option Addr) (c : Nat) (w : World) (hb : Row w a (l.flatten.map b8)) (h32 : S32 l) (hl : l.length = n) (h1 : 1 ≤ m) (hmn : m ≤ n) (hc : n ≤ c) (hm : n ≤ 1099511627776), Ret Try.prog 151 [.slice a n c, vi m, .bool wh] w (fun v w' => ∃ a' c', v = .slice a' (gstepsL m n wh) c' ∧ gstepsL m n wh ≤ c' ∧ St w [] w' [.row (.slice a' (gstepsL m n wh) c') 49 32 (gstepsL m n wh) ((gpathL l m wh).flatten.map b8)]) := by
  intro n
  induction n using Nat.strongRecOn with
  | _ n ih => exact fun l m wh a c w h1 h2 h3 h4 h5 h6 h7 => gpath_step n (fun l m wh a k c w hlt h1 h2 h3 h4 h5 h6 h7 => ih k hlt l m wh a c w h1 h2 h3 h4 h5 h6 h7) l m wh a n c w rfl h1 h2 h3 h4 h5 h6 h7

theorem rgpath_step (N : Nat) (IH : ∀ (l : List (List UInt8)) (m : Nat) (wh : Bool) (a : Option Addr) (n c : Nat) (w : World), n < N → Row w a (l.flatten.map b8) → S32 l → l.length = n → 1 ≤ m → m ≤ n → n ≤ c → n ≤ 1099511627776 → Ret Try.prog 81 [.slice a n c, vi m, .bool wh] w (fun v w' => ∃ a' c', v = .slice a' (gstepsL m n wh) c' ∧ gstepsL m n wh ≤ c' ∧ St w [] w' [.row (.slice a' (gstepsL m n wh) c') 49 32 (gstepsL m n wh) ((gpathL l m wh).flatten.map b8)])) (l : List (List UInt8)) (m : Nat) (wh : Bool) (a : Option Addr) (n c : Nat) (w : World) (hN : n = N) (hb : Row w a (l.flatten.map b8)) (h32 : S32 l) (hl : l.length = n) (h1 : 1 ≤ m) (hmn : m ≤ n) (hc : n ≤ c) (hm : n ≤ 1099511627776) :
    Ret Try.prog 81 [.slice a n c, vi m, .bool wh] w (fun v w' => ∃ a' c', v = .slice a' (gstepsL m n wh) c' ∧ gstepsL m n wh ≤ c' ∧ St w [] w' [.row (.slice a' (gstepsL m n wh) c') 49 32 (gstepsL m n wh) ((gpathL l m wh).flatten.map b8)]) := by
  refine enter Try.func81 rfl Try.ntmps81 rfl ?_
  have hS := St.refl w []
  refine c_seq ?_; refine c_region ?_; refine wl_val (r_assign (v := .slice none 0 0) rfl) rfl ?_; refine wl_nil ?_; refine c_then ?_; refine c_seq ?_; refine c_seq ?_; refine c_region ?_; refine wl_val (r_move (v := .int .i64 _) rfl) rfl ?_; refine wl_val (r_move (v := .slice _ _ _) rfl) rfl ?_; refine wl_val (r_len (T := 53) rfl ti53.und rfl _ rfl) rfl ?_
  refine wl_dec (r_eql rfl rfl) rfl (fun h1_3 => ?_) (fun h1_3 => ?_)
  · refine wl_nil ?_
    refine c_then ?_; refine c_true rfl ?_; refine c_seq ?_; refine c_seq ?_
    rcases bool_cases wh with rfl | rfl
    · refine c_region ?_
      refine wl_val (r_move (v := .bool _) rfl) rfl ?_; refine wl_nil ?_; refine c_then ?_; refine c_true rfl ?_; refine c_seq ?_; refine c_region ?_; refine wl_val (r_assign (v := .slice none 0 0) rfl) rfl ?_; refine wl_nil ?_; refine c_then ?_; refine wp_ret ?_; refine c_thenR ?_; refine c_thenR ?_; refine ret1 Try.results81 ?_
      rw [gstepsL_end true (by omega), gpathL_wh (by omega)]
      exact ⟨none, 0, rfl, Nat.zero_le _, hS.nilRow⟩
    refine c_region ?_; refine wl_val (r_move (v := .bool _) rfl) rfl ?_; refine wl_nil ?_; refine c_then ?_; refine c_false rfl ?_; refine wp_skip ?_; refine c_then ?_; refine c_seq ?_; refine c_region ?_; refine wl_val (r_move (v := .slice _ _ _) rfl) rfl ?_; refine wl_call (r_call fn51 rfl rfl) rfl (rroot_ok _ l _ _ _ (hb.st hS) h32 hl (by omega) hc (by omega)) ?_; rintro _ w1 ⟨rfl, hx2⟩
    have hS3 := hS.ext hx2
    refine wl_exv (x_litA1 hS3 ti53.und ti49 rfl (by rw [List.length_map]; exact rootL_len _ h32 (by omega)) rfl (by decide) (by decide)) rfl ?_; rintro _ w4 ⟨b15, rfl, hS5⟩; refine wl_val (r_assign (v := .slice _ _ _) rfl) rfl ?_; refine wl_nil ?_; refine c_then ?_; refine wp_ret ?_; refine c_thenR ?_; refine ret1 Try.results81 ?_
    have hT := St.toRow (l1 := []) (sz := 32) (n := 1) (cap := 1) hS5 (by decide) (by decide) (by rw [List.length_map]; exact rootL_len _ h32 (by omega))
    rw [List.take_of_length_le (by rw [List.length_map, rootL_len _ h32 (by omega)]; decide)] at hT
    rw [gstepsL_end false (by omega), gpathL_no (by omega), show [rootL l].flatten = rootL l by simp]
    exact ⟨_, _, rfl, Nat.le_refl _, hT⟩
  refine wl_nil ?_; refine c_then ?_; refine c_false rfl ?_; refine wp_skip ?_; refine c_then ?_; refine c_seq ?_; refine c_region ?_; refine wl_val (r_move (v := .slice _ _ _) rfl) rfl ?_; refine wl_val (r_len (T := 53) rfl ti53.und rfl _ rfl) rfl ?_; refine wl_call (r_call fn129 rfl rfl) rfl (half_ok _ _ (by first | omega | (simp [*]; done) | (simp [*] <;> omega)) (by first | omega | (simp [*]; done) | (simp [*] <;> omega))) ?_; rintro _ w6 ⟨rfl, hx7⟩
  have hS8 := hS.ext hx7
  refine wl_val (r_assign (v := .int .i64 _) rfl) rfl ?_; refine wl_nil ?_; refine c_then ?_; refine c_seq ?_
  have hlt := halfN_lt (n := n) (by omega)
  have hpo := halfN_pos n
  refine c_region ?_; refine wl_val (r_move (v := .int .i64 _) rfl) rfl ?_; refine wl_val (r_move (v := .int .i64 _) rfl) rfl ?_
  refine wl_dec (r_leq rfl rfl) rfl (fun h6_2 => ?_) (fun h6_2 => ?_)
  · refine wl_nil ?_
    refine c_then ?_; refine c_true rfl ?_; refine c_seq ?_
    have hsl := gsteps_le _ m (halfN n) wh (Nat.le_refl _)
    have ht : Row w a ((l.take (halfN n)).flatten.map b8) := hb.take32 h32 _
    have hd : Row w (sub a c (halfN n) 32) ((l.drop (halfN n)).flatten.map b8) := hb.from32 h32 (by omega) (halfN n)
    refine c_drawS 9 hMixed hS8 ?_; intro w9 hS10; refine g_take 0 rfl (by decide +kernel) rfl (fun _ _ _ h => h) hS10 (fun wF hF => r_move (v := .slice _ _ _) rfl) ?_; refine g_take 1 rfl (by decide +kernel) rfl (fun _ _ _ h => h) hS10 (fun wF hF => r_move (v := .int .i64 _) rfl) ?_; refine g_take 2 rfl (by decide +kernel) rfl (fun _ _ _ h => h) hS10 (fun wF hF => r_sl_h ti53.und ti49 rfl rfl (by omega)) ?_; refine g_take 3 rfl (by decide +kernel) rfl (fun _ _ _ h => h) hS10 (fun wF hF => r_move (v := .int .i64 _) rfl) ?_; refine g_take 4 rfl (by decide +kernel) rfl (fun _ _ _ h => h) hS10 (fun wF hF => r_move (v := .bool _) rfl) ?_; refine g_take 6 rfl (by decide +kernel) rfl (fun _ _ _ h => h) hS10 (fun wF hF => r_move (v := .slice _ _ _) rfl) ?_; refine g_take 7 rfl (by decide +kernel) rfl (fun _ _ _ h => h) hS10 (fun wF hF => r_move (v := .int .i64 _) rfl) ?_; refine g_take 8 rfl (by decide +kernel) rfl (fun _ _ _ h => h) hS10 (fun wF hF => r_sl_l ti53.und ti49 rfl rfl (by omega)) ?_; refine g_one 5 (by decide +kernel) (by decide +kernel) ?_; refine o_call rfl (r_call fn81 rfl rfl) rfl (IH (l.take (halfN n)) (m) wh _ _ _ _ (by omega) (ht.st hS10) (h32.take _) (by simp; omega) (by omega) (by omega) (by omega) (by omega)) ?_; rintro _ w11 ⟨a27, c27, rfl, hc27, hx12⟩
    have hS13 := hS10.call hx12
    simp only [List.cons_append, List.nil_append] at hS13
    refine ⟨hS13.drop1, ?_⟩
    refine g_tail (by decide +kernel) rfl (by decide +kernel) ?_; refine wl_call (r_call fn51 rfl rfl) rfl (rroot_ok _ (l.drop (halfN n)) _ _ _ (hd.st hS13) (h32.drop _) (by simp; omega) (by omega) (by omega) (by omega)) ?_; rintro _ w14 ⟨rfl, hx15⟩
    have hS16 := hS13.ext hx15
    refine wl_exv (x_litA1 hS16 ti53.und ti49 rfl (by rw [List.length_map]; exact rootL_len _ (h32.drop _) (by simp; omega)) rfl (by decide) (by decide)) rfl ?_; rintro _ w17 ⟨b32, rfl, hS18⟩; refine wl_exv (x_append [_] hS18 ti53.und ti49 rfl (by decide) rfl rfl (Row.of_at (at_all (hS18.heap (.head _)))) (by rw [List.length_map]; exact rootL_len _ (h32.drop _) (by simp; omega)) (by first | exact one_b8 _ | exact one_v32 _ | (intro c hc; simp only [List.mem_cons, List.not_mem_nil, or_false] at hc; (first | subst hc | rcases hc with rfl | rfl) <;> rfl)) (by first | omega | (simp [*]; done) | (simp [*] <;> omega)) (by first | omega | (simp [*]; done) | (simp [*] <;> omega)) _ rfl) rfl ?_; rintro _ w19 ⟨aq21, cq21, rfl, hcq21, hS20⟩; simp only [List.cons_append, List.nil_append] at hS20; refine wl_val (r_assign (v := .slice _ _ _) rfl) rfl ?_; refine wl_nil ?_; refine c_then ?_; refine wp_ret ?_; refine ret1 Try.results81 ?_
    rw [gstepsL_lo (m := m) (n := n) (wh := wh) (by omega) (by omega) (by omega), gpathL_lo (m := m) (wh := wh) hl (by omega) (by omega) (by omega), flat_snoc, List.map_append]
    exact ⟨_, _, rfl, hcq21, hS20.drop1⟩
  refine wl_nil ?_; refine c_then ?_; refine c_false rfl ?_; refine c_seq ?_
  have hsl := gsteps_le _ (m - halfN n) (n - halfN n) false (Nat.le_refl _)
  have ht : Row w a ((l.take (halfN n)).flatten.map b8) := hb.take32 h32 _
  have hd : Row w (sub a c (halfN n) 32) ((l.drop (halfN n)).flatten.map b8) := hb.from32 h32 (by omega) (halfN n)
  refine c_drawS 10 hMixed hS8 ?_; intro w22 hS23; refine g_take 0 rfl (by decide +kernel) rfl (fun _ _ _ h => h) hS23 (fun wF hF => r_move (v := .slice _ _ _) rfl) ?_; refine g_take 1 rfl (by decide +kernel) rfl (fun _ _ _ h => h) hS23 (fun wF hF => r_move (v := .int .i64 _) rfl) ?_; refine g_take 2 rfl (by decide +kernel) rfl (fun _ _ _ h => h) hS23 (fun wF hF => r_sl_l ti53.und ti49 rfl rfl (by omega)) ?_; refine g_take 3 rfl (by decide +kernel) rfl (fun _ _ _ h => h) hS23 (fun wF hF => r_move (v := .int .i64 _) rfl) ?_; refine g_take 4 rfl (by decide +kernel) rfl (fun _ _ _ h => h) hS23 (fun wF hF => r_move (v := .int .i64 _) rfl) ?_; refine g_take 5 rfl (by decide +kernel) rfl (fun _ _ _ h => h) hS23 (fun wF hF => r_subn rfl rfl (by omega) (by omega)) ?_; refine g_take 7 rfl (by decide +kernel) rfl (fun _ _ _ h => h) hS23 (fun wF hF => r_move (v := .slice _ _ _) rfl) ?_; refine g_take 8 rfl (by decide +kernel) rfl (fun _ _ _ h => h) hS23 (fun wF hF => r_move (v := .int .i64 _) rfl) ?_; refine g_take 9 rfl (by decide +kernel) rfl (fun _ _ _ h => h) hS23 (fun wF hF => r_sl_h ti53.und ti49 rfl rfl (by omega)) ?_; refine g_one 6 (by decide +kernel) (by decide +kernel) ?_; refine o_call rfl (r_call fn81 rfl rfl) rfl (IH (l.drop (halfN n)) (m - halfN n) false _ _ _ _ (by omega) (hd.st hS23) (h32.drop _) (by simp; omega) (by omega) (by omega) (by omega) (by omega)) ?_; rintro _ w24 ⟨a40, c40, rfl, hc40, hx25⟩
  have hS26 := hS23.call hx25
  simp only [List.cons_append, List.nil_append] at hS26
  refine ⟨hS26.drop1, ?_⟩
  refine g_tail (by decide +kernel) rfl (by decide +kernel) ?_; refine wl_call (r_call fn51 rfl rfl) rfl (rroot_ok _ (l.take (halfN n)) _ _ _ (ht.st hS26) (h32.take _) (by simp; omega) (by omega) (by omega) (by omega)) ?_; rintro _ w27 ⟨rfl, hx28⟩
  have hS29 := hS26.ext hx28
  refine wl_exv (x_litA1 hS29 ti53.und ti49 rfl (by rw [List.length_map]; exact rootL_len _ (h32.take _) (by simp; omega)) rfl (by decide) (by decide)) rfl ?_; rintro _ w30 ⟨b45, rfl, hS31⟩; refine wl_exv (x_append [_] hS31 ti53.und ti49 rfl (by decide) rfl rfl (Row.of_at (at_all (hS31.heap (.head _)))) (by rw [List.length_map]; exact rootL_len _ (h32.take _) (by simp; omega)) (by first | exact one_b8 _ | exact one_v32 _ | (intro c hc; simp only [List.mem_cons, List.not_mem_nil, or_false] at hc; (first | subst hc | rcases hc with rfl | rfl) <;> rfl)) (by first | omega | (simp [*]; done) | (simp [*] <;> omega)) (by first | omega | (simp [*]; done) | (simp [*] <;> omega)) _ rfl) rfl ?_; rintro _ w32 ⟨aq34, cq34, rfl, hcq34, hS33⟩; simp only [List.cons_append, List.nil_append] at hS33; refine wl_val (r_assign (v := .slice _ _ _) rfl) rfl ?_; refine wl_nil ?_; refine c_then ?_; refine wp_ret ?_; refine ret1 Try.results81 ?_
  rw [gstepsL_hi (m := m) (n := n) (wh := wh) (by omega) (by omega) (by omega), gpathL_hi (m := m) (wh := wh) hl (by omega) (by omega) (by omega), flat_snoc, List.map_append]
  exact ⟨_, _, rfl, hcq34, hS33.drop1⟩

theorem rgpath_ok : ∀ (n : Nat) (l : List (List UInt8)) (m : Nat) (wh : Bool) (a : Option Addr) (c : Nat) (w : World) (hb : Row w a (l.flatten.map b8)) (h32 : S32 l) (hl : l.length = n) (h1 : 1 ≤ m) (hmn : m ≤ n) (hc : n ≤ c) (hm : n ≤ 1099511627776), Ret Try.prog 81 [.slice a n c, vi m, .bool wh] w (fun v w' => ∃ a' c', v = .slice a' (gstepsL m n wh) c' ∧ gstepsL m n wh ≤ c' ∧ St w [] w' [.row (.slice a' (gstepsL m n wh) c') 49 32 (gstepsL m n wh) ((gpathL l m wh).flatten.map b8)]) := by
  intro n
  induction n using Nat.strongRecOn with
  | _ n ih => exact fun l m wh a c w h1 h2 h3 h4 h5 h6 h7 => rgpath_step n (fun l m wh a k c w hlt h1 h2 h3 h4 h5 h6 h7 => ih k hlt l m wh a c w h1 h2 h3 h4 h5 h6 h7) l m wh a n c w rfl h1 h2 h3 h4 h5 h6 h7

theorem equals_ok (xs ys : List (List UInt8)) (a1 a2 : Option Addr) (n1 n2 c1 c2 : Nat) (w : World) (h1 : Row w a1 (xs.flatten.map b8)) (h2 : Row w a2 (ys.flatten.map b8)) (s1 : S32 xs) (s2 : S32 ys) (l1 : xs.length = n1) (l2 : ys.length = n2) (hn : n1 ≤ 4398046511104) :
    Ret Try.prog 76 [.slice a1 n1 c1, .slice a2 n2 c2] w (fun v w' => v = .bool (decide (xs = ys)) ∧ St w [] w' []) := by
  refine enter Try.func76 rfl Try.ntmps76 rfl ?_
  have hS := St.refl w []
  refine c_seq ?_; refine c_region ?_; refine wl_val (r_assign (v := .bool false) rfl) rfl ?_; refine wl_nil ?_; refine c_then ?_; refine c_seq ?_; refine c_seq ?_; refine c_region ?_; refine wl_val (r_move (v := .slice _ _ _) rfl) rfl ?_; refine wl_val (r_len (T := 53) rfl ti53.und rfl _ rfl) rfl ?_; refine wl_val (r_move (v := .slice _ _ _) rfl) rfl ?_; refine wl_val (r_len (T := 53) rfl ti53.und rfl _ rfl) rfl ?_
  refine wl_dec (r_neq rfl rfl) rfl (fun h1_4 => ?_) (fun h1_4 => ?_)
  · refine wl_nil ?_
    refine c_then ?_; refine c_true rfl ?_; refine c_seq ?_; refine c_region ?_; refine wl_val (r_assign (v := .bool false) rfl) rfl ?_; refine wl_nil ?_; refine c_then ?_; refine wp_ret ?_; refine c_thenR ?_; refine ret1 Try.results76 ?_
    exact ⟨congrArg Value.bool (decide_eq_false (fun h => h1_4 (by rw [← l1, ← l2, h]))).symm, hS.fin⟩
  refine wl_nil ?_; refine c_then ?_; refine c_false rfl ?_; refine wp_skip ?_; refine c_then ?_; refine c_seq ?_; refine c_seq ?_; refine c_region ?_; refine wl_val (r_move (v := .slice _ _ _) rfl) rfl ?_; refine wl_val (r_len (T := 53) rfl ti53.und rfl _ rfl) rfl ?_; refine wl_val (r_move (v := .int .i64 0) rfl) rfl ?_; refine wl_nil ?_; refine c_then ?_; refine c_block ?_; refine c_loopE [0, 1, 12] (fun d e w' => ∃ (k : Nat), Kw.look e 13 = vi k ∧ d = n1 - k ∧ St w [] w' [] ∧ (k ≤ n1) ∧ (xs.take k = ys.take k)) (n1 - 0) ?_ ?_
  · exact ⟨0, rfl, rfl, hS, Nat.zero_le _, rfl⟩
  · rintro d4 e1 w2 ⟨k, hc0_13, rfl, hS3, hk, he⟩ -
    refine c_set (d := 13) hc0_13 ?_; refine c_seq ?_; refine c_region ?_
    refine wl_dec (r_lss rfl rfl) rfl (fun h4_0 => ?_) (fun h4_0 => ?_)
    · refine wl_nil ?_
      refine c_then ?_; refine c_seq ?_; refine c_true rfl ?_; refine wp_skip ?_; refine c_then ?_; refine c_seq ?_; refine c_block ?_; refine c_seq ?_; refine c_region ?_; refine wl_val (r_move (v := .int .i64 _) rfl) rfl ?_; refine wl_val (r_assign (v := .int .i64 _) rfl) rfl ?_; refine wl_nil ?_; refine c_then ?_; refine c_seq ?_; refine c_drawS 8 hMixed hS3 ?_; intro w5 hS6; refine g_take 0 rfl (by decide +kernel) rfl (fun _ _ _ h => h) hS6 (fun wF hF => r_move (v := .slice _ _ _) rfl) ?_; refine g_take 1 rfl (by decide +kernel) rfl (fun _ _ _ h => h) hS6 (fun wF hF => r_move (v := .int .i64 _) rfl) ?_; refine g_take 2 rfl (by decide +kernel) rfl (fun _ _ _ h => h) hS6 (fun wF hF => r_ix32 ti53.und ti49 rfl rfl (h1.st hF) s1 l1 (by omega)) ?_; refine g_take 3 rfl (by decide +kernel) rfl (fun _ _ _ h => h) hS6 (fun wF hF => r_load32 ti49 rfl rfl (h1.st hF) s1 (by omega)) ?_; refine g_take 4 rfl (by decide +kernel) rfl (fun _ _ _ h => h) hS6 (fun wF hF => r_move (v := .slice _ _ _) rfl) ?_; refine g_take 5 rfl (by decide +kernel) rfl (fun _ _ _ h => h) hS6 (fun wF hF => r_move (v := .int .i64 _) rfl) ?_; refine g_take 6 rfl (by decide +kernel) rfl (fun _ _ _ h => h) hS6 (fun wF hF => r_ix32 ti53.und ti49 rfl rfl (h2.st hF) s2 l2 (by omega)) ?_; refine g_take 7 rfl (by decide +kernel) rfl (fun _ _ _ h => h) hS6 (fun wF hF => r_load32 ti49 rfl rfl (h2.st hF) s2 (by omega)) ?_; refine g_tail (by decide +kernel) rfl (by decide +kernel) ?_
      refine wl_dec (r_neqA (u := undef) eg49 rfl rfl (eqIs_b8 ti49.und ti5 _ _ (s1.gt (by omega)) (s2.gt (by omega)))) rfl (fun h6_8 => ?_) (fun h6_8 => ?_)
      · refine wl_nil ?_
        refine c_then ?_; refine c_true rfl ?_; refine c_seq ?_; refine c_region ?_; refine wl_val (r_assign (v := .bool false) rfl) rfl ?_; refine wl_nil ?_; refine c_then ?_; refine wp_ret ?_; refine c_inR ?_; refine c_thenR ?_; refine c_thenR ?_; refine c_inR ?_; refine c_thenR ?_; refine ret1 Try.results76 ?_
        exact ⟨congrArg Value.bool (decide_eq_false (ne32 h6_8)).symm, hS6.fin⟩
      refine wl_nil ?_; refine c_then ?_; refine c_false rfl ?_; refine wp_skip ?_; refine c_inN ?_; refine c_then ?_; refine c_region ?_; refine wl_val (r_addn (b := 1) rfl rfl (by omega)) rfl ?_; refine wl_val (r_move (v := .int .i64 _) rfl) rfl ?_; refine wl_nil ?_; refine c_then ?_
      exact ⟨n1 - (k + 1), _, by omega, rfl, ⟨k + 1, rfl, rfl, hS6, by omega, ext32 he (by omega) (by omega) (Classical.not_not.1 h6_8)⟩, ⟨rfl, rfl, rfl, trivial⟩⟩
    refine wl_nil ?_; refine c_then ?_; refine c_seq ?_; refine c_false rfl ?_; refine wp_exit ?_; refine c_thenE ?_; refine c_thenE ?_; refine c_inE ?_; refine c_then ?_; refine c_seq ?_; refine c_region ?_; refine wl_val (r_assign (v := .bool true) rfl) rfl ?_; refine wl_nil ?_; refine c_then ?_; refine wp_ret ?_; refine ret1 Try.results76 ?_
    obtain rfl : k = n1 := by omega
    exact ⟨congrArg Value.bool (decide_eq_true (by rw [List.take_of_length_le (by omega), List.take_of_length_le (by omega)] at he; exact he)).symm, hS3.fin⟩

theorem clones_ok (l : List (List UInt8)) (a : Option Addr) (n c : Nat) (w : World) (hb : Row w a (l.flatten.map b8)) (h32 : S32 l) (hl : l.length = n) (hn : n ≤ 4398046511104) :
    Ret Try.prog 78 [.slice a n c] w (fun v w' => ∃ a' c', v = .slice a' n c' ∧ n ≤ c' ∧ St w [] w' [.row (.slice a' n c') 49 32 n ((l).flatten.map b8)]) := by
  refine enter Try.func78 rfl Try.ntmps78 rfl ?_
  have hS := St.refl w []
  refine c_seq ?_; refine c_region ?_; refine wl_val (r_assign (v := .slice none 0 0) rfl) rfl ?_; refine wl_nil ?_; refine c_then ?_; refine c_seq ?_; refine c_seq ?_; refine c_region ?_; refine wl_val (r_move (v := .slice _ _ _) rfl) rfl ?_
  refine wl_dec (r_eqlSn ti53.und rfl rfl) rfl (fun h1_1 => ?_) (fun h1_1 => ?_)
  · refine wl_nil ?_
    refine c_then ?_; refine c_true rfl ?_; refine c_seq ?_; refine c_region ?_; refine wl_val (r_assign (v := .slice none 0 0) rfl) rfl ?_; refine wl_nil ?_; refine c_then ?_; refine wp_ret ?_; refine c_thenR ?_; refine ret1 Try.results78 ?_
    have h0 : l = [] := by cases l with | nil => rfl | cons x l => exact absurd (by subst h1_1; exact row_none hb) (by simp [h32 x (by simp)]; intro h; have := h32 x (by simp); rw [h] at this; cases this)
    subst h0
    obtain rfl : n = 0 := hl.symm
    exact ⟨none, 0, rfl, Nat.le_refl _, hS.nilRow⟩
  refine wl_nil ?_; refine c_then ?_; refine c_false rfl ?_; refine wp_skip ?_; refine c_then ?_; refine c_seq ?_; refine c_region ?_; refine wl_exv (x_lit0 hS ti53.und ti49) rfl ?_; rintro _ w1 ⟨b5, rfl, hS2⟩; refine wl_val (r_move (v := .slice _ _ _) rfl) rfl ?_; refine wl_exv (x_append [] hS2 ti53.und ti49 rfl (by decide) rfl rfl (hb.st hS2) (by rw [flat32_lenV h32, hl]) (by first | exact one_b8 _ | exact one_v32 _ | (intro c hc; simp only [List.mem_cons, List.not_mem_nil, or_false] at hc; (first | subst hc | rcases hc with rfl | rfl) <;> rfl)) (by first | omega | (simp [*]; done) | (simp [*] <;> omega)) (by first | omega | (simp [*]; done) | (simp [*] <;> omega)) _ rfl) rfl ?_; rintro _ w3 ⟨aq5, cq5, rfl, hcq5, hS4⟩; simp only [List.cons_append, List.nil_append] at hS4; refine wl_val (r_assign (v := .slice _ _ _) rfl) rfl ?_; refine wl_nil ?_; refine c_then ?_; refine wp_ret ?_; refine ret1 Try.results78 ?_
  rw [Nat.zero_add] at *
  exact ⟨_, _, rfl, hcq5, hS4⟩

end Go.Proofs.Ytfohfnpehfcaaaa
