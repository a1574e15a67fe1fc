/- What is parsed of what was printed. No condition. -/
import Derived.Test.YtfohfnpehfcaaaaFacts
import Derived.Test.YtfohfnpehfcaaaaParseA
namespace Go.Proofs.Ytfohfnpehfcaaaa
open Go.Kw
set_option linter.unusedVariables false
set_option linter.unusedSimpArgs false
set_option maxRecDepth 100000
theorem equalB_ok (x : List UInt8) (a1 a2 : Option Addr) (n1 n2 c1 c2 : Nat) (w : World) (h1 : Row w a1 (x.map b8)) (h2 : Row w a2 (x.map b8)) (l1 : x.length = n1) (l2 : x.length = n2) (hn : n1 ≤ 140737488355328) :
    Ret Try.prog 36 [.slice a1 n1 c1, .slice a2 n2 c2] w (fun v w' => v = .bool true ∧ St w [] w' []) := by
  refine enter Try.func36 rfl Try.ntmps36 rfl ?_
  have hS := St.refl w []
  refine c_seq ?_; refine c_region ?_; refine wl_val (r_assign (v := .bool false) rfl) rfl ?_; refine wl_nil ?_; refine c_then ?_; refine c_seq ?_; refine c_seq ?_; refine c_region ?_; refine wl_val (r_move (v := .slice _ _ _) rfl) rfl ?_; refine wl_val (r_len (T := 22) rfl ti22.und rfl _ rfl) rfl ?_; refine wl_val (r_move (v := .slice _ _ _) rfl) rfl ?_; refine wl_val (r_len (T := 22) rfl ti22.und rfl _ rfl) rfl ?_; refine wl_dec_f (r_neq rfl rfl) rfl (by omega) ?_; refine wl_nil ?_; refine c_then ?_; refine c_false rfl ?_; refine wp_skip ?_; refine c_then ?_; refine c_seq ?_; refine c_seq ?_; refine c_region ?_; refine wl_val (r_move (v := .slice _ _ _) rfl) rfl ?_; refine wl_val (r_len (T := 22) rfl ti22.und rfl _ rfl) rfl ?_; refine wl_val (r_move (v := .int .i64 0) rfl) rfl ?_; refine wl_nil ?_; refine c_then ?_; refine c_block ?_; refine c_loopE [0, 1, 12] (fun d e w' => ∃ (k : Nat), Kw.look e 13 = vi k ∧ d = n1 - k ∧ St w [] w' [] ∧ (k ≤ n1)) (n1 - 0) ?_ ?_
  · exact ⟨0, rfl, rfl, hS, Nat.zero_le _⟩
  · rintro d4 e1 w2 ⟨k, hc0_13, rfl, hS3, hk⟩ -
    refine c_set (d := 13) hc0_13 ?_; refine c_seq ?_; refine c_region ?_
    refine wl_dec (r_lss rfl rfl) rfl (fun h4_0 => ?_) (fun h4_0 => ?_)
    · refine wl_nil ?_
      refine c_then ?_; refine c_seq ?_; refine c_true rfl ?_; refine wp_skip ?_; refine c_then ?_; refine c_seq ?_; refine c_block ?_; refine c_seq ?_; refine c_region ?_; refine wl_val (r_move (v := .int .i64 _) rfl) rfl ?_; refine wl_val (r_assign (v := .int .i64 _) rfl) rfl ?_; refine wl_nil ?_; refine c_then ?_; refine c_seq ?_; refine c_drawS 8 hMixed hS3 ?_; intro w5 hS6; refine g_take 0 rfl (by decide +kernel) rfl (fun _ _ _ h => h) hS6 (fun wF hF => r_move (v := .slice _ _ _) rfl) ?_; refine g_take 1 rfl (by decide +kernel) rfl (fun _ _ _ h => h) hS6 (fun wF hF => r_move (v := .int .i64 _) rfl) ?_; refine g_take 2 rfl (by decide +kernel) rfl (fun _ _ _ h => h) hS6 (fun wF hF => r_ixS ti22.und ti5 rfl rfl (h1.st hF) (by first | omega | (simp [*]; done) | (simp [*] <;> omega)) (by first | (simp [*]; done) | (simp [*] <;> omega) | omega)) ?_; refine g_take 3 rfl (by decide +kernel) rfl (fun _ _ _ h => h) hS6 (fun wF hF => r_loadS1 ti5.und rfl rfl (h1.st hF) (by rw [Nat.mul_one]; exact map_gt _ _ _ (by first | omega | (simp [*]; done) | (simp [*] <;> omega)))) ?_; refine g_take 4 rfl (by decide +kernel) rfl (fun _ _ _ h => h) hS6 (fun wF hF => r_move (v := .slice _ _ _) rfl) ?_; refine g_take 5 rfl (by decide +kernel) rfl (fun _ _ _ h => h) hS6 (fun wF hF => r_move (v := .int .i64 _) rfl) ?_; refine g_take 6 rfl (by decide +kernel) rfl (fun _ _ _ h => h) hS6 (fun wF hF => r_ixS ti22.und ti5 rfl rfl (h2.st hF) (by first | omega | (simp [*]; done) | (simp [*] <;> omega)) (by first | (simp [*]; done) | (simp [*] <;> omega) | omega)) ?_
      refine g_take 7 rfl (by decide +kernel) rfl (fun _ _ _ h => h) hS6 (fun wF hF => r_loadS1 ti5.und rfl rfl (h2.st hF) (by rw [Nat.mul_one]; exact map_gt _ _ _ (by first | omega | (simp [*]; done) | (simp [*] <;> omega)))) ?_; refine g_tail (by decide +kernel) rfl (by decide +kernel) ?_; refine wl_dec_f (r_neq rfl rfl) rfl (by omega) ?_; refine wl_nil ?_; refine c_then ?_; refine c_false rfl ?_; refine wp_skip ?_; refine c_inN ?_; refine c_then ?_; refine c_region ?_; refine wl_val (r_addn (b := 1) rfl rfl (by omega)) rfl ?_; refine wl_val (r_move (v := .int .i64 _) rfl) rfl ?_; refine wl_nil ?_; refine c_then ?_
      exact ⟨n1 - (k + 1), _, by omega, rfl, ⟨k + 1, rfl, rfl, hS6, by omega⟩, ⟨rfl, rfl, rfl, trivial⟩⟩
    refine wl_nil ?_; refine c_then ?_; refine c_seq ?_; refine c_false rfl ?_; refine wp_exit ?_; refine c_thenE ?_; refine c_thenE ?_; refine c_inE ?_; refine c_then ?_; refine c_seq ?_; refine c_region ?_; refine wl_val (r_assign (v := .bool true) rfl) rfl ?_; refine wl_nil ?_; refine c_then ?_; refine wp_ret ?_; refine ret1 Try.results36 ?_
    exact ⟨rfl, hS3.fin⟩

theorem natN_octs8 (x : UInt64) : natN (octs8 x) = x.toNat := by rw [natN_8 (octs8_len x), long_octs]
theorem pr_drop0 (ix sz : Int) (pl : List (List UInt8)) (t : List UInt8) : ((printL ix sz pl ++ t).drop 0).take 8 = octs8 (UInt64.ofNat ix.toNat) := rfl
theorem pr_drop8 (ix sz : Int) (pl : List (List UInt8)) (t : List UInt8) : ((printL ix sz pl ++ t).drop 8).take 8 = octs8 (UInt64.ofNat sz.toNat) := rfl
theorem pr_drop16 (ix sz : Int) (pl : List (List UInt8)) (t : List UInt8) : ((printL ix sz pl ++ t).drop 16).take 4 = octs (UInt32.ofNat pl.length) := rfl
theorem flat_drop : ∀ {pl : List (List UInt8)} (h : S32 pl) (j : Nat) (t : List UInt8), j < pl.length → ((pl.flatten ++ t).drop (32 * j)).take 32 = gt pl j
  | [], _, j, _, hj => absurd hj (Nat.not_lt_zero _)
  | a :: pl, h, 0, t, _ => by
    have ha := h a (by simp)
    simp only [List.flatten_cons, Nat.mul_zero, List.drop_zero, List.append_assoc]
    rw [List.take_append_of_le_length (by omega), List.take_of_length_le (by omega)]
    rfl
  | a :: pl, h, j + 1, t, hj => by
    have ha := h a (by simp)
    have ih := flat_drop (pl := pl) (fun s hs => h s (by simp [hs])) j t (by simpa using hj)
    have e : 32 * (j + 1) = a.length + 32 * j := by omega
    simp only [List.flatten_cons, List.append_assoc]
    rw [e, ← List.drop_drop, List.drop_left, ih]
    rfl
theorem pr_chunks {ix sz : Int} {pl : List (List UInt8)} (h : S32 pl) (t : List UInt8) : chunksL (printL ix sz pl ++ t) pl.length = pl := by
  refine ext_gt (chunks_len _ _) fun j hj => ?_
  rw [chunks_len] at hj
  have e : gt (chunksL (printL ix sz pl ++ t) pl.length) j = ((printL ix sz pl ++ t).drop (20 + 32 * j)).take 32 := by
    rw [gt_eq _ _ (by rw [chunks_len]; exact hj)]; simp [chunksL]
  rw [e, printL, List.append_assoc, ← pbase_len ix sz pl.length, ← List.drop_drop, List.drop_left]
  exact flat_drop h j t hj

theorem natN_take_lt (l : List UInt8) : ∀ k, k ≤ l.length → natN (l.take k) < 256 ^ k
  | 0, _ => by simp [natN]
  | k + 1, h => by
    have ih := natN_take_lt l k (by omega)
    rw [natN_step (by omega), Nat.pow_succ]
    have := (gt l k).toNat_lt
    omega
theorem natN_le8 {l : List UInt8} (h : l.length ≤ 8) : natN l < 18446744073709551616 := by
  have := natN_take_lt l l.length (Nat.le_refl _)
  rw [List.take_length] at this
  have h2 : 256 ^ l.length ≤ 256 ^ 8 := Nat.pow_le_pow_right (by decide) h
  omega
theorem r4_rg {X1 X2 : Nat} (h : sgN X1 < 0 ∨ 65536 < sgN X1 ∨ sgN X2 < 0 ∨ 65536 < sgN X2) (g : X1 ≤ 65536 ∧ X2 ≤ 65536) : False := by
  rw [sgN_small (n := X1) (by omega), sgN_small (n := X2) (by omega)] at h
  omega
theorem parse_print (ix sz : Int) (pl : List (List UInt8)) (a : Option Addr) (n c : Nat) (w : World) (hb : Row w a ((printL ix sz pl ++ [1, 2]).map b8)) (h32 : S32 pl) (hg : 0 ≤ ix ∧ ix ≤ 65536 ∧ 0 ≤ sz ∧ sz ≤ 65536 ∧ pl.length ≤ 64) (hl : n = 20 + 32 * pl.length + 2) (hc : n ≤ c) :
    Ret Try.prog 37 [.slice a n c] w (fun v w' => ∃ a' c', v = .tuple #[.agg #[.int .i64 ix, .int .i64 sz, .slice a' pl.length c'], vi (20 + 32 * pl.length), vi 0] ∧ pl.length ≤ c' ∧ St w [] w' [.row (.slice a' pl.length c') 49 32 pl.length (pl.flatten.map b8)]) := by
  obtain ⟨g1, g2, g3, g4, g5⟩ := hg
  have hM2 : (UInt32.ofNat pl.length).toNat = pl.length := by rw [UInt32.toNat_ofNat']; omega
  have hX : ∀ x : Int, 0 ≤ x → x ≤ 65536 → (UInt64.ofNat x.toNat).toNat = x.toNat := fun x h0 h1 => by rw [UInt64.toNat_ofNat']; omega
  have hi : vi ix.toNat = .int .i64 ix := congrArg (Value.int .i64) (Int.toNat_of_nonneg g1)
  have hs : vi sz.toNat = .int .i64 sz := congrArg (Value.int .i64) (Int.toNat_of_nonneg g3)
  refine (parse_ok (printL ix sz pl ++ [1, 2]) a n c ix.toNat sz.toNat (UInt32.ofNat pl.length) w hb (by rw [List.length_append, printL_len h32]; exact hl.symm) hc (by omega) (by rw [pr_drop0, natN_octs8, hX _ g1 g2]) (by rw [pr_drop8, natN_octs8, hX _ g3 g4]) (by rw [pr_drop16, word_octs]) (by omega) (by omega)).mono fun v w' h => ?_
  rw [hM2, hi, hs, pr_chunks h32] at h
  rcases h with ⟨h, _⟩ | ⟨_, h, _⟩ | ⟨_, _, h, _⟩ | ⟨_, _, _, h⟩
  · omega
  · exact absurd h (fun h => r4_rg h ⟨by omega, by omega⟩)
  · omega
  · exact h
theorem sameProof_t (i1 s1 i2 s2 : Int) (p1 p2 : Option Addr) (n1 n2 c1 c2 : Nat) (x y : List (List UInt8)) (w : World) (h1 : Row w p1 (x.flatten.map b8)) (h2 : Row w p2 (y.flatten.map b8)) (t1 : S32 x) (t2 : S32 y) (l1 : x.length = n1) (l2 : y.length = n2) (hn : n1 ≤ 4398046511104) (hi : i1 = i2) (hs : s1 = s2) (hx : x = y) :
    Ret Try.prog 38 [.agg #[.int .i64 i1, .int .i64 s1, .slice p1 n1 c1], .agg #[.int .i64 i2, .int .i64 s2, .slice p2 n2 c2]] w (fun v w' => v = .bool true ∧ St w [] w' []) :=
  (sameProof_ok i1 s1 i2 s2 p1 p2 n1 n2 c1 c2 x y w h1 h2 t1 t2 l1 l2 hn).mono fun v w' hv => by rw [decide_eq_true ⟨hi, hs, hx⟩] at hv; exact hv

end Go.Proofs.Ytfohfnpehfcaaaa
