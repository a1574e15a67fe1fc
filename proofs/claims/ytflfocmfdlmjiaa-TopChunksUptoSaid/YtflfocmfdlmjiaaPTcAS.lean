/- What the law's proof leans on. No condition. -/
import Derived.Test.YtflfocmfdlmjiaaPTcAH
import Derived.Test.YtflfocmfdlmjiaaPTcAQ
import Derived.Test.YtflfocmfdlmjiaaPTcAR
section
namespace Go.Proofs.Ytflfocmfdlmjiaa
open Go.Kw
set_option linter.unusedVariables false
set_option linter.unusedSimpArgs false
set_option maxRecDepth 100000
theorem concat2_n (x y : List UInt8) (a1 a2 a : Option Addr) (n1 n2 c1 c2 c : Nat) (w : World) (hb : Row w a [.slice a1 n1 c1, .slice a2 n2 c2]) (h1 : Row w a1 (x.map b8)) (h2 : Row w a2 (y.map b8)) (l1 : x.length = n1) (l2 : y.length = n2) (hn : n1 + n2 ≤ 140737488355328) :
    Ret Try.prog 45 [.slice a 2 c] w (fun v w' => ∃ a' c', v = .slice a' (n1 + n2) c' ∧ n1 + n2 ≤ c' ∧ St w [] w' [.row (.slice a' (n1 + n2) c') 5 1 (n1 + n2) ((x ++ y).map b8)]) := by
  subst l1; subst l2
  refine (concat2_ok x y a1 a2 a c1 c2 c w hb h1 h2 hn).mono ?_
  rintro v w' ⟨a', c', hv, hc, hS⟩
  rw [List.length_append] at hv hc hS
  exact ⟨a', c', hv, hc, hS⟩

theorem len64_ok (c : UInt64) (w : World) :
    Ret Try.prog 53 [v64 c] w (fun v w' => v = vi (lenN c.toNat) ∧ St w [] w' []) := by
  refine enter Try.func53 rfl Try.ntmps53 rfl ?_
  have hS := St.refl w []
  refine c_seq ?_; refine c_region ?_; refine wl_val (r_assign (v := .int .i64 0) rfl) rfl ?_; refine wl_nil ?_; refine c_then ?_; refine c_cutE [] (fun e w' => ∃ (c1 : UInt64) (n1 : Nat), Kw.look e 0 = v64 c1 ∧ Kw.look e 2 = vi n1 ∧ St w [] w' [] ∧ (lenN c.toNat = lenN c1.toNat + n1) ∧ (c1.toNat < 4294967296 ∧ n1 ≤ 32)) ?_ ?_
  · refine c_seq ?_
    refine c_region ?_; refine wl_val (r_move (v := .int .u64 _) rfl) rfl ?_
    refine wl_dec (r_geq rfl rfl) rfl (fun h1_1 => ?_) (fun h1_1 => ?_)
    · refine wl_nil ?_
      refine c_then ?_; refine c_true rfl ?_; refine c_seq ?_; refine c_region ?_; refine wl_val (r_move (v := .int .u64 _) rfl) rfl ?_; refine wl_val (r_shr64 (s := 32) rfl rfl (by first | omega | (simp [*]; done) | (simp [*] <;> omega))) rfl ?_; refine wl_val (r_assign (v := .int .u64 _) rfl) rfl ?_; refine wl_nil ?_; refine c_then ?_; refine c_region ?_; refine wl_val (r_assign (v := .int .i64 32) rfl) rfl ?_; refine wl_nil ?_; refine c_then ?_
      have hd := shr64_nat c 32 (by decide)
      have hlt := c.toNat_lt
      exact ⟨_, rfl, ⟨_, 32, rfl, rfl, hS, by rw [len_shift64 c 32 (by decide) (by omega)], by rw [hd]; omega⟩, trivial⟩
    refine wl_nil ?_; refine c_then ?_; refine c_false rfl ?_; refine wp_skip ?_; refine c_then ?_
    exact ⟨_, rfl, ⟨_, 0, rfl, rfl, hS, rfl, by omega⟩, trivial⟩
  · rintro e1 w2 ⟨c1, n1, hc4_0, hc4_2, hS3, hl1, hb1⟩ -
    refine c_set (d := 0) hc4_0 ?_; refine c_set (d := 2) hc4_2 ?_; refine c_cutE [] (fun e w' => ∃ (c2 : UInt64) (n2 : Nat), Kw.look e 0 = v64 c2 ∧ Kw.look e 2 = vi n2 ∧ St w [] w' [] ∧ (lenN c.toNat = lenN c2.toNat + n2) ∧ (c2.toNat < 65536 ∧ n2 ≤ 48)) ?_ ?_
    · refine c_seq ?_
      refine c_region ?_; refine wl_val (r_move (v := .int .u64 _) rfl) rfl ?_
      refine wl_dec (r_geq rfl rfl) rfl (fun h4_1 => ?_) (fun h4_1 => ?_)
      · refine wl_nil ?_
        refine c_then ?_; refine c_true rfl ?_; refine c_seq ?_; refine c_region ?_; refine wl_val (r_move (v := .int .u64 _) rfl) rfl ?_; refine wl_val (r_shr64 (s := 16) rfl rfl (by first | omega | (simp [*]; done) | (simp [*] <;> omega))) rfl ?_; refine wl_val (r_assign (v := .int .u64 _) rfl) rfl ?_; refine wl_nil ?_; refine c_then ?_; refine c_region ?_; refine wl_val (r_move (v := .int .i64 _) rfl) rfl ?_; refine wl_val (r_addn (b := 16) rfl rfl (by omega)) rfl ?_; refine wl_val (r_assign (v := .int .i64 _) rfl) rfl ?_; refine wl_nil ?_; refine c_then ?_
        have hd := shr64_nat c1 16 (by decide)
        have hlt := c1.toNat_lt
        exact ⟨_, rfl, ⟨_, _, rfl, rfl, hS3, by rw [hl1, len_shift64 c1 16 (by decide) (by omega)]; omega, by rw [hd]; omega⟩, trivial⟩
      refine wl_nil ?_; refine c_then ?_; refine c_false rfl ?_; refine wp_skip ?_; refine c_then ?_
      exact ⟨_, rfl, ⟨_, _, rfl, rfl, hS3, hl1, by omega⟩, trivial⟩
    · rintro e5 w6 ⟨c2, n2, hc8_0, hc8_2, hS7, hl2, hb2⟩ -
      refine c_set (d := 0) hc8_0 ?_; refine c_set (d := 2) hc8_2 ?_; refine c_cutE [] (fun e w' => ∃ (c3 : UInt64) (n3 : Nat), Kw.look e 0 = v64 c3 ∧ Kw.look e 2 = vi n3 ∧ St w [] w' [] ∧ (lenN c.toNat = lenN c3.toNat + n3) ∧ (c3.toNat < 256 ∧ n3 ≤ 56)) ?_ ?_
      · refine c_seq ?_
        refine c_region ?_; refine wl_val (r_move (v := .int .u64 _) rfl) rfl ?_
        refine wl_dec (r_geq rfl rfl) rfl (fun h7_1 => ?_) (fun h7_1 => ?_)
        · refine wl_nil ?_
          refine c_then ?_; refine c_true rfl ?_; refine c_seq ?_; refine c_region ?_; refine wl_val (r_move (v := .int .u64 _) rfl) rfl ?_; refine wl_val (r_shr64 (s := 8) rfl rfl (by first | omega | (simp [*]; done) | (simp [*] <;> omega))) rfl ?_; refine wl_val (r_assign (v := .int .u64 _) rfl) rfl ?_; refine wl_nil ?_; refine c_then ?_; refine c_region ?_; refine wl_val (r_move (v := .int .i64 _) rfl) rfl ?_; refine wl_val (r_addn (b := 8) rfl rfl (by omega)) rfl ?_; refine wl_val (r_assign (v := .int .i64 _) rfl) rfl ?_; refine wl_nil ?_; refine c_then ?_
          have hd := shr64_nat c2 8 (by decide)
          have hlt := c2.toNat_lt
          exact ⟨_, rfl, ⟨_, _, rfl, rfl, hS7, by rw [hl2, len_shift64 c2 8 (by decide) (by omega)]; omega, by rw [hd]; omega⟩, trivial⟩
        refine wl_nil ?_; refine c_then ?_; refine c_false rfl ?_; refine wp_skip ?_; refine c_then ?_
        exact ⟨_, rfl, ⟨_, _, rfl, rfl, hS7, hl2, by omega⟩, trivial⟩
      · rintro e9 w10 ⟨c3, n3, hc12_0, hc12_2, hS11, hl3, hb3⟩ -
        refine c_set (d := 0) hc12_0 ?_; refine c_set (d := 2) hc12_2 ?_; refine c_seq ?_; refine c_region ?_; refine wl_val (r_move (v := .int .i64 _) rfl) rfl ?_; refine wl_val (r_move (v := .int .u64 _) rfl) rfl ?_; refine wl_val (c_u64_u8 ti5.und ⟨_, ti97.und⟩ rfl) rfl ?_; refine wl_val (r_indexStr (s := ⟨lenTab.toArray⟩) ti9.und rfl rfl (get_gt lenTab _ (by have : lenTab.length = 256 := rfl; have := c3.toUInt8.toNat_lt; omega))) rfl ?_; refine wl_val (c_u8_i64 ti3.und ⟨_, ti5.und⟩ rfl) rfl ?_; refine wl_val (r_addn rfl rfl (by have := (gt lenTab c3.toUInt8.toNat).toNat_lt; omega)) rfl ?_; refine wl_val (r_assign (v := .int .i64 _) rfl) rfl ?_; refine wl_nil ?_; refine c_then ?_; refine wp_ret ?_; refine ret1 Try.results53 ?_
        exact ⟨congrArg vi (by rw [hl3, len_tab c3 (by omega)]; omega), hS11.fin⟩

theorem len_ok (c : UInt64) (w : World) :
    Ret Try.prog 44 [v64 c] w (fun v w' => v = vi (lenN c.toNat) ∧ St w [] w' []) := by
  refine enter Try.func44 rfl Try.ntmps44 rfl ?_
  have hS := St.refl w []
  refine c_seq ?_; refine c_region ?_; refine wl_val (r_assign (v := .int .i64 0) rfl) rfl ?_; refine wl_nil ?_; refine c_then ?_; refine c_seq ?_; refine c_false rfl ?_; refine wp_skip ?_; refine c_then ?_; refine c_seq ?_; refine c_region ?_; refine wl_val (r_move (v := .int .u64 _) rfl) rfl ?_; refine wl_call (r_call fn53 rfl rfl) rfl (len64_ok _ _) ?_; rintro _ w1 ⟨rfl, hx2⟩
  have hS3 := hS.ext hx2
  refine wl_val (r_assign (v := .int .i64 _) rfl) rfl ?_; refine wl_nil ?_; refine c_then ?_; refine wp_ret ?_; refine ret1 Try.results44 ?_
  exact ⟨rfl, hS3.fin⟩

theorem split_ok (n : Nat) (w : World) (hn : 2 ≤ n) (hm : n ≤ 140737488355328) :
    Ret Try.prog 36 [vi n] w (fun v w' => v = vi (halfN n) ∧ St w [] w' []) := by
  refine enter Try.func36 rfl Try.ntmps36 rfl ?_
  have hS := St.refl w []
  refine c_seq ?_; refine c_region ?_; refine wl_val (r_assign (v := .int .i64 0) rfl) rfl ?_; refine wl_nil ?_; refine c_then ?_; refine c_seq ?_; refine c_region ?_; refine wl_val (r_move (v := .int .i64 _) rfl) rfl ?_; refine wl_val (r_subn (b := 1) rfl rfl (by omega) (by omega)) rfl ?_; refine wl_val (c_i64_u64 ti34.und ⟨_, ti3.und⟩ rfl (by omega)) rfl ?_; refine wl_call (r_call fn44 rfl rfl) rfl (len_ok _ _) ?_; rintro _ w1 ⟨rfl, hx2⟩
  have hS3 := hS.ext hx2
  rw [len_of (n - 1) (by omega)]
  have hp1 := lenN_pos (n := n - 1) (by omega)
  have hp2 := lenN_le (n := n - 1) (k := 48) (by omega)
  refine wl_val (r_subn (b := 1) rfl rfl (by omega) (by omega)) rfl ?_; refine wl_val (r_shli (a := 1) rfl rfl (by omega) (by rw [Nat.one_mul, lenN_half hn]; have := halfN_lt hn; omega)) rfl ?_; refine wl_val (r_assign (v := .int .i64 _) rfl) rfl ?_; refine wl_nil ?_; refine c_then ?_; refine wp_ret ?_; refine ret1 Try.results36 ?_
  exact ⟨congrArg vi (by rw [Nat.one_mul, lenN_half hn]), hS3.fin⟩

theorem half_ok (n : Nat) (w : World) (hn : 2 ≤ n) (hm : n ≤ 140737488355328) :
    Ret Try.prog 30 [vi n] w (fun v w' => v = vi (halfN n) ∧ St w [] w' []) := by
  refine enter Try.func30 rfl Try.ntmps30 rfl ?_
  have hS := St.refl w []
  refine c_seq ?_; refine c_region ?_; refine wl_val (r_assign (v := .int .i64 0) rfl) rfl ?_; refine wl_nil ?_; refine c_then ?_; refine c_seq ?_; refine c_region ?_; refine wl_val (r_assign (v := .int .i64 1) rfl) rfl ?_; refine wl_nil ?_; refine c_then ?_; refine c_seq ?_; refine c_block ?_; refine c_loopE [0, 2] (fun d e w' => ∃ (j : Nat), Kw.look e 3 = vi (2 ^ j) ∧ d = n - 2 ^ j ∧ St w [] w' [] ∧ (2 ^ j < n)) (n - 1) ?_ ?_
  · exact ⟨0, rfl, rfl, hS, by omega⟩
  · rintro d4 e1 w2 ⟨j, hc0_3, rfl, hS3, hI0_0⟩ -
    refine c_set (d := 3) hc0_3 ?_; refine c_seq ?_; refine c_seq ?_; refine c_region ?_; refine wl_val (r_move (v := .int .i64 _) rfl) rfl ?_; refine wl_val (r_muln (a := 2) rfl rfl (by omega)) rfl ?_; refine wl_val (r_move (v := .int .i64 _) rfl) rfl ?_
    refine wl_dec (r_lss rfl rfl) rfl (fun h2_3 => ?_) (fun h2_3 => ?_)
    · refine wl_nil ?_
      refine c_then ?_; refine c_true rfl ?_; refine wp_skip ?_; refine c_then ?_; refine c_block ?_; refine c_region ?_; refine wl_val (r_move (v := .int .i64 _) rfl) rfl ?_; refine wl_val (r_muln (b := 2) rfl rfl (by omega)) rfl ?_; refine wl_val (r_assign (v := .int .i64 _) rfl) rfl ?_; refine wl_nil ?_; refine c_inN ?_; refine c_then ?_
      have hp := Nat.two_pow_pos j
      exact ⟨n - 2 ^ (j + 1), _, by rw [Nat.pow_succ]; omega, rfl, ⟨j + 1, congrArg vi (Nat.pow_succ ..).symm, rfl, hS3, by rw [Nat.pow_succ]; omega⟩, ⟨rfl, rfl, trivial⟩⟩
    refine wl_nil ?_; refine c_then ?_; refine c_false rfl ?_; refine wp_exit ?_; refine c_thenE ?_; refine c_thenE ?_; refine c_inE ?_; refine c_then ?_; refine c_seq ?_; refine c_region ?_; refine wl_val (r_move (v := .int .i64 _) rfl) rfl ?_; refine wl_val (r_assign (v := .int .i64 _) rfl) rfl ?_; refine wl_nil ?_; refine c_then ?_; refine wp_ret ?_; refine ret1 Try.results30 ?_
    exact ⟨congrArg vi (halfN_of hn hI0_0 (by omega)).symm, hS3.fin⟩

theorem node_ok (a b : List UInt8) (w : World) (ha : a.length = 32) (hb : b.length = 32) :
    Ret Try.prog 37 [.agg (a.map b8).toArray, .agg (b.map b8).toArray] w (fun v w' => v = .agg ((nodeL a b).map b8).toArray ∧ St w [] w' []) := by
  refine enter Try.func37 rfl Try.ntmps37 rfl ?_
  have hS := St.refl w []
  refine c_seq ?_; refine c_region ?_; refine wl_exv (x_box hS (v := .agg _) rfl rfl) rfl ?_; rintro _ w1 ⟨b2, rfl, hS2⟩; refine wl_exv (x_box hS2 (v := .agg _) rfl rfl) rfl ?_; rintro _ w3 ⟨b3, rfl, hS4⟩; refine wl_exv (x_alloc (C := ((List.replicate 32 (0 : UInt8)).map b8)) hS4 ti26 rfl) rfl ?_; rintro _ w5 ⟨b4, rfl, hS6⟩; refine wl_nil ?_; refine c_then ?_; refine c_seq ?_; refine c_drawS 10 hMixed hS6 ?_; intro w7 hS8; refine g_take 0 rfl (by decide +kernel) rfl (fun _ _ _ h => h) hS8 (fun wF hF => r_sa1_0 ti26.und ti5 rfl ) ?_; refine g_take 1 rfl (by decide +kernel) rfl (fun _ _ _ h => h) hS8 (fun wF hF => r_sa1_0 ti26.und ti5 rfl ) ?_; refine g_all (rs := [2, 8]) (by decide +kernel) (by decide +kernel) rfl ?_
  simp only [List.forall_mem_cons, List.not_mem_nil, false_imp_iff, implies_true, and_true]
  refine ⟨?_, ?_⟩
  · refine o_exv rfl (x_lit (vs := [.slice _ _ _, .slice _ _ _]) hS8 ti30.und ti22 rfl rfl rfl (by intro c hc; simp only [List.mem_cons, List.not_mem_nil, or_false] at hc; rcases hc with rfl | rfl <;> rfl) (by decide)) rfl ?_
    rintro _ w9 ⟨b10, rfl, hS10⟩
    refine ⟨hS10.drop1, ?_⟩
    refine g_all (rs := [3, 8]) (by decide +kernel) (by decide +kernel) rfl ?_
    simp only [List.forall_mem_cons, List.not_mem_nil, false_imp_iff, implies_true, and_true]
    refine ⟨?_, ?_⟩
    · refine o_call rfl (r_call fn45 rfl rfl) rfl (concat2_n a b _ _ _ _ _ _ _ _ _ (Row.of_at (at_all (hS10.heap (.head _)))) (Row.of_at (at_all (hS10.heap (.tail _ (.tail _ (.tail _ (.head _))))))) (Row.of_at (at_all (hS10.heap (.tail _ (.tail _ (.head _)))))) (by first | (simp [*]; done) | (simp [*] <;> omega) | omega) (by first | (simp [*]; done) | (simp [*] <;> omega) | omega) (by decide)) ?_
      rintro _ w11 ⟨a11, c11, rfl, hc11, hx12⟩
      have hS13 := hS10.call hx12
      simp only [List.cons_append, List.nil_append] at hS13
      refine ⟨hS13.drop1.drop1, ?_⟩
      refine g_all (rs := [4, 8]) (by decide +kernel) (by decide +kernel) rfl ?_
      simp only [List.forall_mem_cons, List.not_mem_nil, false_imp_iff, implies_true, and_true]
      refine ⟨?_, ?_⟩
      · refine o_call rfl (r_call fn32 rfl rfl) rfl (sumOf_in 2 (a ++ b) _ _ _ _ (by decide) (St.rowAt hS13 (.head _)) (by simp [ha, hb]) hc11 (by decide)) ?_
        rintro _ w14 ⟨rfl, hx15⟩
        have hS16 := hS13.ext hx15
        refine ⟨hS16.drop1.drop1, ?_⟩
        refine g_take 5 rfl (by decide +kernel) rfl (fun _ _ _ h => h) hS16.drop1.drop1 (fun wF hF => r_move (v := .tuple _) rfl) ?_; refine g_take 6 rfl (by decide +kernel) rfl (fun _ _ _ h => h) hS16.drop1.drop1 (fun wF hF => r_extract (v := .agg _) rfl rfl) ?_; refine g_take 7 rfl (by decide +kernel) rfl (fun _ _ _ h => h) hS16.drop1.drop1 (fun wF hF => r_extract (v := .int .i64 _) rfl rfl) ?_; refine g_one 8 (by decide +kernel) (by decide +kernel) ?_; refine o_exv rfl (x_alloc (C := ((List.replicate 32 (0 : UInt8)).map b8)) hS16 ti26 rfl) rfl ?_; rintro _ w17 ⟨b5, rfl, hS18⟩
        refine ⟨hS18.drop1.drop1.drop1, ?_⟩
        refine g_one 9 (by decide +kernel) (by decide +kernel) ?_; refine o_exs rfl (x_storeW [] hS18 ti26 rfl rfl (by first | (simp [*]; done) | (simp [*] <;> omega) | omega) (by first | (simp [*]; done) | (simp [*] <;> omega) | omega) (by repeat' first | exact one_nil | exact one_b8 _ | exact one_v32 _ | exact one_all rfl | refine one_cons rfl ?_ | refine one_app ?_ ?_)) rfl ?_; intro w19 hS20; simp only [List.cons_append, List.nil_append] at hS20
        refine ⟨hS20.drop1.drop1.drop1, ?_⟩
        refine g_tail (by decide +kernel) rfl (by decide +kernel) ?_; refine wl_val (r_assign (v := .int .i64 _) rfl) rfl ?_; refine wl_nil ?_; refine c_then ?_; refine c_seq ?_; refine c_region ?_; refine wl_val (r_loadB ti26 rfl rfl (hS20.heap (.head _)) (by first | (simp [*]; done) | (simp [*] <;> omega) | omega)) rfl ?_; refine wl_exs (x_storeW [_, _, _] hS20 ti26 rfl rfl (by first | (simp [*]; done) | (simp [*] <;> omega) | omega) (by first | (simp [*]; done) | (simp [*] <;> omega) | omega) (by repeat' first | exact one_nil | exact one_b8 _ | exact one_v32 _ | exact one_all rfl | refine one_cons rfl ?_ | refine one_app ?_ ?_)) rfl ?_; intro w21 hS22; simp only [List.cons_append, List.nil_append] at hS22; refine wl_nil ?_; refine c_then ?_; refine wp_ret ?_; refine retc Try.results37 ⟨_, rfl, run_loadVar_blk ti26 rfl (hS22.heap (.tail _ (.tail _ (.tail _ (.head _))))) (by first | (simp [*]; done) | (simp [*] <;> omega) | omega)⟩ ?_
        exact ⟨rfl, hS22.fin⟩
      · refine o_exv rfl (x_alloc (C := ((List.replicate 32 (0 : UInt8)).map b8)) hS13 ti26 rfl) rfl ?_
        rintro _ w23 ⟨b5, rfl, hS24⟩
        refine ⟨hS24.drop1.drop1.drop1, ?_⟩
        refine g_one 4 (by decide +kernel) (by decide +kernel) ?_; refine o_call rfl (r_call fn32 rfl rfl) rfl (sumOf_in 2 (a ++ b) _ _ _ _ (by decide) (St.rowAt hS24 (.tail _ (.head _))) (by simp [ha, hb]) hc11 (by decide)) ?_; rintro _ w25 ⟨rfl, hx26⟩
        have hS27 := hS24.ext hx26
        refine ⟨hS27.drop1.drop1.drop1, ?_⟩
        refine g_take 5 rfl (by decide +kernel) rfl (fun _ _ _ h => h) hS27.drop1.drop1.drop1 (fun wF hF => r_move (v := .tuple _) rfl) ?_; refine g_take 6 rfl (by decide +kernel) rfl (fun _ _ _ h => h) hS27.drop1.drop1.drop1 (fun wF hF => r_extract (v := .agg _) rfl rfl) ?_; refine g_take 7 rfl (by decide +kernel) rfl (fun _ _ _ h => h) hS27.drop1.drop1.drop1 (fun wF hF => r_extract (v := .int .i64 _) rfl rfl) ?_; refine g_one 9 (by decide +kernel) (by decide +kernel) ?_; refine o_exs rfl (x_storeW [] hS27 ti26 rfl rfl (by first | (simp [*]; done) | (simp [*] <;> omega) | omega) (by first | (simp [*]; done) | (simp [*] <;> omega) | omega) (by repeat' first | exact one_nil | exact one_b8 _ | exact one_v32 _ | exact one_all rfl | refine one_cons rfl ?_ | refine one_app ?_ ?_)) rfl ?_; intro w28 hS29; simp only [List.cons_append, List.nil_append] at hS29
        refine ⟨hS29.drop1.drop1.drop1, ?_⟩
        refine g_tail (by decide +kernel) rfl (by decide +kernel) ?_; refine wl_val (r_assign (v := .int .i64 _) rfl) rfl ?_; refine wl_nil ?_; refine c_then ?_; refine c_seq ?_; refine c_region ?_; refine wl_val (r_loadB ti26 rfl rfl (hS29.heap (.head _)) (by first | (simp [*]; done) | (simp [*] <;> omega) | omega)) rfl ?_; refine wl_exs (x_storeW [_, _, _] hS29 ti26 rfl rfl (by first | (simp [*]; done) | (simp [*] <;> omega) | omega) (by first | (simp [*]; done) | (simp [*] <;> omega) | omega) (by repeat' first | exact one_nil | exact one_b8 _ | exact one_v32 _ | exact one_all rfl | refine one_cons rfl ?_ | refine one_app ?_ ?_)) rfl ?_; intro w30 hS31; simp only [List.cons_append, List.nil_append] at hS31; refine wl_nil ?_; refine c_then ?_; refine wp_ret ?_; refine retc Try.results37 ⟨_, rfl, run_loadVar_blk ti26 rfl (hS31.heap (.tail _ (.tail _ (.tail _ (.head _))))) (by first | (simp [*]; done) | (simp [*] <;> omega) | omega)⟩ ?_
        exact ⟨rfl, hS31.fin⟩
    · refine o_exv rfl (x_alloc (C := ((List.replicate 32 (0 : UInt8)).map b8)) hS10 ti26 rfl) rfl ?_
      rintro _ w32 ⟨b5, rfl, hS33⟩
      refine ⟨hS33.drop1.drop1, ?_⟩
      refine g_one 3 (by decide +kernel) (by decide +kernel) ?_; refine o_call rfl (r_call fn45 rfl rfl) rfl (concat2_n a b _ _ _ _ _ _ _ _ _ (Row.of_at (at_all (hS33.heap (.tail _ (.head _))))) (Row.of_at (at_all (hS33.heap (.tail _ (.tail _ (.tail _ (.tail _ (.head _)))))))) (Row.of_at (at_all (hS33.heap (.tail _ (.tail _ (.tail _ (.head _))))))) (by first | (simp [*]; done) | (simp [*] <;> omega) | omega) (by first | (simp [*]; done) | (simp [*] <;> omega) | omega) (by decide)) ?_; rintro _ w34 ⟨a11, c11, rfl, hc11, hx35⟩
      have hS36 := hS33.call hx35
      simp only [List.cons_append, List.nil_append] at hS36
      refine ⟨hS36.drop1.drop1.drop1, ?_⟩
      refine g_one 4 (by decide +kernel) (by decide +kernel) ?_; refine o_call rfl (r_call fn32 rfl rfl) rfl (sumOf_in 2 (a ++ b) _ _ _ _ (by decide) (St.rowAt hS36 (.head _)) (by simp [ha, hb]) hc11 (by decide)) ?_; rintro _ w37 ⟨rfl, hx38⟩
      have hS39 := hS36.ext hx38
      refine ⟨hS39.drop1.drop1.drop1, ?_⟩
      refine g_take 5 rfl (by decide +kernel) rfl (fun _ _ _ h => h) hS39.drop1.drop1.drop1 (fun wF hF => r_move (v := .tuple _) rfl) ?_; refine g_take 6 rfl (by decide +kernel) rfl (fun _ _ _ h => h) hS39.drop1.drop1.drop1 (fun wF hF => r_extract (v := .agg _) rfl rfl) ?_; refine g_take 7 rfl (by decide +kernel) rfl (fun _ _ _ h => h) hS39.drop1.drop1.drop1 (fun wF hF => r_extract (v := .int .i64 _) rfl rfl) ?_; refine g_one 9 (by decide +kernel) (by decide +kernel) ?_; refine o_exs rfl (x_storeW [_] hS39 ti26 rfl rfl (by first | (simp [*]; done) | (simp [*] <;> omega) | omega) (by first | (simp [*]; done) | (simp [*] <;> omega) | omega) (by repeat' first | exact one_nil | exact one_b8 _ | exact one_v32 _ | exact one_all rfl | refine one_cons rfl ?_ | refine one_app ?_ ?_)) rfl ?_; intro w40 hS41; simp only [List.cons_append, List.nil_append] at hS41
      refine ⟨hS41.drop1.drop1.drop1, ?_⟩
      refine g_tail (by decide +kernel) rfl (by decide +kernel) ?_; refine wl_val (r_assign (v := .int .i64 _) rfl) rfl ?_; refine wl_nil ?_; refine c_then ?_; refine c_seq ?_; refine c_region ?_; refine wl_val (r_loadB ti26 rfl rfl (hS41.heap (.tail _ (.head _))) (by first | (simp [*]; done) | (simp [*] <;> omega) | omega)) rfl ?_; refine wl_exs (x_storeW [_, _, _] hS41 ti26 rfl rfl (by first | (simp [*]; done) | (simp [*] <;> omega) | omega) (by first | (simp [*]; done) | (simp [*] <;> omega) | omega) (by repeat' first | exact one_nil | exact one_b8 _ | exact one_v32 _ | exact one_all rfl | refine one_cons rfl ?_ | refine one_app ?_ ?_)) rfl ?_; intro w42 hS43; simp only [List.cons_append, List.nil_append] at hS43; refine wl_nil ?_; refine c_then ?_; refine wp_ret ?_; refine retc Try.results37 ⟨_, rfl, run_loadVar_blk ti26 rfl (hS43.heap (.tail _ (.tail _ (.tail _ (.head _))))) (by first | (simp [*]; done) | (simp [*] <;> omega) | omega)⟩ ?_
      exact ⟨rfl, hS43.fin⟩
  · refine o_exv rfl (x_alloc (C := ((List.replicate 32 (0 : UInt8)).map b8)) hS8 ti26 rfl) rfl ?_
    rintro _ w44 ⟨b5, rfl, hS45⟩
    refine ⟨hS45.drop1, ?_⟩
    refine g_one 2 (by decide +kernel) (by decide +kernel) ?_; refine o_exv rfl (x_lit (vs := [.slice _ _ _, .slice _ _ _]) hS45 ti30.und ti22 rfl rfl rfl (by intro c hc; simp only [List.mem_cons, List.not_mem_nil, or_false] at hc; rcases hc with rfl | rfl <;> rfl) (by decide)) rfl ?_; rintro _ w46 ⟨b10, rfl, hS47⟩
    refine ⟨hS47.drop1.drop1, ?_⟩
    refine g_one 3 (by decide +kernel) (by decide +kernel) ?_; refine o_call rfl (r_call fn45 rfl rfl) rfl (concat2_n a b _ _ _ _ _ _ _ _ _ (Row.of_at (at_all (hS47.heap (.head _)))) (Row.of_at (at_all (hS47.heap (.tail _ (.tail _ (.tail _ (.tail _ (.head _)))))))) (Row.of_at (at_all (hS47.heap (.tail _ (.tail _ (.tail _ (.head _))))))) (by first | (simp [*]; done) | (simp [*] <;> omega) | omega) (by first | (simp [*]; done) | (simp [*] <;> omega) | omega) (by decide)) ?_; rintro _ w48 ⟨a11, c11, rfl, hc11, hx49⟩
    have hS50 := hS47.call hx49
    simp only [List.cons_append, List.nil_append] at hS50
    refine ⟨hS50.drop1.drop1.drop1, ?_⟩
    refine g_one 4 (by decide +kernel) (by decide +kernel) ?_; refine o_call rfl (r_call fn32 rfl rfl) rfl (sumOf_in 2 (a ++ b) _ _ _ _ (by decide) (St.rowAt hS50 (.head _)) (by simp [ha, hb]) hc11 (by decide)) ?_; rintro _ w51 ⟨rfl, hx52⟩
    have hS53 := hS50.ext hx52
    refine ⟨hS53.drop1.drop1.drop1, ?_⟩
    refine g_take 5 rfl (by decide +kernel) rfl (fun _ _ _ h => h) hS53.drop1.drop1.drop1 (fun wF hF => r_move (v := .tuple _) rfl) ?_; refine g_take 6 rfl (by decide +kernel) rfl (fun _ _ _ h => h) hS53.drop1.drop1.drop1 (fun wF hF => r_extract (v := .agg _) rfl rfl) ?_; refine g_take 7 rfl (by decide +kernel) rfl (fun _ _ _ h => h) hS53.drop1.drop1.drop1 (fun wF hF => r_extract (v := .int .i64 _) rfl rfl) ?_; refine g_one 9 (by decide +kernel) (by decide +kernel) ?_; refine o_exs rfl (x_storeW [_, _] hS53 ti26 rfl rfl (by first | (simp [*]; done) | (simp [*] <;> omega) | omega) (by first | (simp [*]; done) | (simp [*] <;> omega) | omega) (by repeat' first | exact one_nil | exact one_b8 _ | exact one_v32 _ | exact one_all rfl | refine one_cons rfl ?_ | refine one_app ?_ ?_)) rfl ?_; intro w54 hS55; simp only [List.cons_append, List.nil_append] at hS55
    refine ⟨hS55.drop1.drop1.drop1, ?_⟩
    refine g_tail (by decide +kernel) rfl (by decide +kernel) ?_; refine wl_val (r_assign (v := .int .i64 _) rfl) rfl ?_; refine wl_nil ?_; refine c_then ?_; refine c_seq ?_; refine c_region ?_; refine wl_val (r_loadB ti26 rfl rfl (hS55.heap (.tail _ (.tail _ (.head _)))) (by first | (simp [*]; done) | (simp [*] <;> omega) | omega)) rfl ?_; refine wl_exs (x_storeW [_, _, _] hS55 ti26 rfl rfl (by first | (simp [*]; done) | (simp [*] <;> omega) | omega) (by first | (simp [*]; done) | (simp [*] <;> omega) | omega) (by repeat' first | exact one_nil | exact one_b8 _ | exact one_v32 _ | exact one_all rfl | refine one_cons rfl ?_ | refine one_app ?_ ?_)) rfl ?_; intro w56 hS57; simp only [List.cons_append, List.nil_append] at hS57; refine wl_nil ?_; refine c_then ?_; refine wp_ret ?_; refine retc Try.results37 ⟨_, rfl, run_loadVar_blk ti26 rfl (hS57.heap (.tail _ (.tail _ (.tail _ (.head _))))) (by first | (simp [*]; done) | (simp [*] <;> omega) | omega)⟩ ?_
    exact ⟨rfl, hS57.fin⟩

theorem rnode_ok (a b : List UInt8) (w : World) (ha : a.length = 32) (hb : b.length = 32) :
    Ret Try.prog 21 [.agg (a.map b8).toArray, .agg (b.map b8).toArray] w (fun v w' => v = .agg ((nodeL a b).map b8).toArray ∧ St w [] w' []) := by
  refine enter Try.func21 rfl Try.ntmps21 rfl ?_
  have hS := St.refl w []
  refine c_seq ?_; refine c_region ?_; refine wl_exv (x_box hS (v := .agg _) rfl rfl) rfl ?_; rintro _ w1 ⟨b2, rfl, hS2⟩; refine wl_exv (x_box hS2 (v := .agg _) rfl rfl) rfl ?_; rintro _ w3 ⟨b3, rfl, hS4⟩; refine wl_exv (x_alloc (C := ((List.replicate 32 (0 : UInt8)).map b8)) hS4 ti26 rfl) rfl ?_; rintro _ w5 ⟨b4, rfl, hS6⟩; refine wl_nil ?_; refine c_then ?_; refine c_seq ?_; refine c_drawS 3 hMixed hS6 ?_; intro w7 hS8; refine g_take 0 rfl (by decide +kernel) rfl (fun _ _ _ h => h) hS8 (fun wF hF => r_sa1_0 ti26.und ti5 rfl ) ?_; refine g_take 2 rfl (by decide +kernel) rfl (fun _ _ _ h => h) hS8 (fun wF hF => r_sa1_0 ti26.und ti5 rfl ) ?_; refine g_one 1 (by decide +kernel) (by decide +kernel) ?_; refine o_call rfl (r_call fn19 rfl rfl) rfl (clone_n _ _ _ _ _ (Row.of_at (at_all (hS8.heap (.tail _ (.tail _ (.head _)))))) (by first | (simp [*]; done) | (simp [*] <;> omega) | omega) (by first | (simp [*]; done) | (simp [*] <;> omega) | omega)) ?_; rintro _ w9 ⟨a6, c6, rfl, hc6, hx10⟩
  have hS11 := hS8.call hx10
  simp only [List.cons_append, List.nil_append] at hS11
  refine ⟨hS11.drop1, ?_⟩
  refine g_tail (by decide +kernel) rfl (by decide +kernel) ?_; refine wl_exv (x_append [] hS11 ti22.und ti5 rfl (by decide) rfl rfl (Row.of_at (at_all (hS11.heap (.tail _ (.tail _ (.head _)))))) (by first | (simp [*]; done) | (simp [*] <;> omega) | omega) (by first | exact one_b8 _ | exact one_v32 _ | (intro c hc; simp only [List.mem_cons, List.not_mem_nil, or_false] at hc; (first | subst hc | rcases hc with rfl | rfl) <;> rfl)) (by first | omega | (simp [*]; done) | (simp [*] <;> omega)) (by first | omega | (simp [*]; done) | (simp [*] <;> omega)) _ rfl) rfl ?_; rintro _ w12 ⟨aq14, cq14, rfl, hcq14, hS13⟩; simp only [List.cons_append, List.nil_append] at hS13; refine wl_call (r_call fn22 rfl rfl) rfl (rsum_ok 2 (a ++ b) _ _ _ _ (by rw [List.map_append]; exact (St.rowAt hS13 (.head _))) (by simp [ha, hb]) (by decide)) ?_; rintro _ w15 ⟨rfl, hx16⟩
  have hS17 := hS13.ext hx16
  refine wl_exs (x_storeW [_] hS17 ti26 rfl rfl (by first | (simp [*]; done) | (simp [*] <;> omega) | omega) (by first | (simp [*]; done) | (simp [*] <;> omega) | omega) (by repeat' first | exact one_nil | exact one_b8 _ | exact one_v32 _ | exact one_all rfl | refine one_cons rfl ?_ | refine one_app ?_ ?_)) rfl ?_; intro w18 hS19; simp only [List.cons_append, List.nil_append] at hS19; refine wl_nil ?_; refine c_then ?_; refine wp_ret ?_; refine retc Try.results21 ⟨_, rfl, run_loadVar_blk ti26 rfl (hS19.heap (.tail _ (.head _))) (by first | (simp [*]; done) | (simp [*] <;> omega) | omega)⟩ ?_
  exact ⟨rfl, hS19.fin⟩

end Go.Proofs.Ytflfocmfdlmjiaa
end
section
namespace Go.Proofs.Ytflfocmfdlmjiaa
open Go.Kw
set_option linter.unusedVariables false
set_option linter.unusedSimpArgs false
set_option maxRecDepth 100000
theorem rootOf_step (N : Nat) (IH : ∀ (l : List (List UInt8)) (a : Option Addr) (n c : Nat) (w : World), n < N → Row w a (l.flatten.map b8) → S32 l → l.length = n → 0 < n → n ≤ c → Ret Try.prog 28 [.slice a n c] w (fun v w' => v = .agg ((rootL l).map b8).toArray ∧ St w [] w' [])) (l : List (List UInt8)) (a : Option Addr) (n c : Nat) (w : World) (hN : n = N) (hb : Row w a (l.flatten.map b8)) (h32 : S32 l) (hl : l.length = n) (h0 : 0 < n) (hc : n ≤ c) (hm : n ≤ 140737488355328) :
    Ret Try.prog 28 [.slice a n c] w (fun v w' => v = .agg ((rootL l).map b8).toArray ∧ St w [] w' []) := by
  refine enter Try.func28 rfl Try.ntmps28 rfl ?_
  have hS := St.refl w []
  refine c_seq ?_; refine c_region ?_; refine wl_exv (x_alloc (C := ((List.replicate 32 (0 : UInt8)).map b8)) hS ti26 rfl) rfl ?_; rintro _ w1 ⟨b2, rfl, hS2⟩; refine wl_nil ?_; refine c_then ?_; refine c_seq ?_; refine c_seq ?_; refine c_region ?_; refine wl_val (r_move (v := .slice _ _ _) rfl) rfl ?_; refine wl_val (r_len (T := 35) rfl ti35.und rfl _ rfl) rfl ?_
  refine wl_dec (r_eql rfl rfl) rfl (fun h1_2 => ?_) (fun h1_2 => ?_)
  · refine wl_nil ?_
    refine c_then ?_; refine c_true rfl ?_; refine c_seq ?_; refine c_region ?_; refine wl_val (r_move (v := .slice _ _ _) rfl) rfl ?_; refine wl_val (r_ix32 (m := 0) ti35.und ti26 rfl rfl (hb.st hS2) h32 hl (by omega)) rfl ?_; refine wl_val (r_load32 ti26 rfl rfl (hb.st hS2) h32 (by omega)) rfl ?_; refine wl_exs (x_storeW [] hS2 ti26 rfl rfl (by rw [List.length_map]; exact h32.gt (by omega)) (by simp) (one_b8 _)) rfl ?_; intro w3 hS4; simp only [List.cons_append, List.nil_append] at hS4; refine wl_nil ?_; refine c_then ?_; refine wp_ret ?_; refine c_thenR ?_; refine retc Try.results28 ⟨_, rfl, run_loadVar_blk ti26 rfl (hS4.heap (.head _)) (by first | (rw [List.length_map]; exact h32.gt (by omega)) | simp)⟩ ?_
    first | exact ⟨by rw [rootL_one (by omega)], hS4.fin⟩ | exact ⟨by rw [rootL_two hl (by omega) h0], hS4.fin⟩
  refine wl_nil ?_; refine c_then ?_; refine c_false rfl ?_; refine wp_skip ?_; refine c_then ?_; refine c_seq ?_; refine c_region ?_; refine wl_val (r_move (v := .slice _ _ _) rfl) rfl ?_; refine wl_val (r_len (T := 35) rfl ti35.und rfl _ rfl) rfl ?_; refine wl_call (r_call fn36 rfl rfl) rfl (split_ok _ _ (by first | omega | (simp [*]; done) | (simp [*] <;> omega)) (by first | omega | (simp [*]; done) | (simp [*] <;> omega))) ?_; rintro _ w5 ⟨rfl, hx6⟩
  have hS7 := hS2.ext hx6
  refine wl_val (r_assign (v := .int .i64 _) rfl) rfl ?_; refine wl_nil ?_; refine c_then ?_; refine c_seq ?_
  have hlt := halfN_lt (n := n) (by omega)
  have hpo := halfN_pos n
  refine c_drawS 7 hMixed hS7 ?_; intro w8 hS9; refine g_take 0 rfl (by decide +kernel) rfl (fun _ _ _ h => h) hS9 (fun wF hF => r_move (v := .slice _ _ _) rfl) ?_; refine g_take 1 rfl (by decide +kernel) rfl (fun _ _ _ h => h) hS9 (fun wF hF => r_move (v := .int .i64 _) rfl) ?_; refine g_take 2 rfl (by decide +kernel) rfl (fun _ _ _ h => h) hS9 (fun wF hF => r_sl_h ti35.und ti26 rfl rfl (by omega)) ?_
  have ht : Row w a ((l.take (halfN n)).flatten.map b8) := hb.take32 h32 _
  refine g_take 4 rfl (by decide +kernel) rfl (fun _ _ _ h => h) hS9 (fun wF hF => r_move (v := .slice _ _ _) rfl) ?_; refine g_take 5 rfl (by decide +kernel) rfl (fun _ _ _ h => h) hS9 (fun wF hF => r_move (v := .int .i64 _) rfl) ?_; refine g_take 6 rfl (by decide +kernel) rfl (fun _ _ _ h => h) hS9 (fun wF hF => r_sl_l ti35.und ti26 rfl rfl (by omega)) ?_
  have hd : Row w (sub a c (halfN n) 32) ((l.drop (halfN n)).flatten.map b8) := hb.from32 h32 (by omega) (halfN n)
  refine g_one 3 (by decide +kernel) (by decide +kernel) ?_; refine o_call rfl (r_call fn28 rfl rfl) rfl (IH (l.take (halfN n)) _ _ _ _ (by omega) (ht.st hS9) (h32.take _) (by simp; omega) hpo (by omega)) ?_; rintro _ w10 ⟨rfl, hx11⟩
  have hS12 := hS9.ext hx11
  refine ⟨hS12, ?_⟩
  refine g_tail (by decide +kernel) rfl (by decide +kernel) ?_; refine wl_call (r_call fn28 rfl rfl) rfl (IH (l.drop (halfN n)) _ _ _ _ (by omega) (hd.st hS12) (h32.drop _) (by simp; omega) (by omega) (by omega)) ?_; rintro _ w13 ⟨rfl, hx14⟩
  have hS15 := hS12.ext hx14
  refine wl_call (r_call fn37 rfl rfl) rfl (node_ok _ _ _ (rootL_len _ (h32.take _) (by simp; omega)) (rootL_len _ (h32.drop _) (by simp; omega))) ?_; rintro _ w16 ⟨rfl, hx17⟩
  have hS18 := hS15.ext hx17
  refine wl_exs (x_storeW [] hS18 ti26 rfl rfl (by first | (simp [*]; done) | (simp [*] <;> omega) | omega) (by first | (simp [*]; done) | (simp [*] <;> omega) | omega) (by repeat' first | exact one_nil | exact one_b8 _ | exact one_v32 _ | exact one_all rfl | refine one_cons rfl ?_ | refine one_app ?_ ?_)) rfl ?_; intro w19 hS20; simp only [List.cons_append, List.nil_append] at hS20; refine wl_nil ?_; refine c_then ?_; refine wp_ret ?_; refine retc Try.results28 ⟨_, rfl, run_loadVar_blk ti26 rfl (hS20.heap (.head _)) (by first | (rw [List.length_map]; exact h32.gt (by omega)) | simp)⟩ ?_
  first | exact ⟨by rw [rootL_one (by omega)], hS20.fin⟩ | exact ⟨by rw [rootL_two hl (by omega) h0], hS20.fin⟩

theorem rootOf_ok : ∀ (n : Nat) (l : List (List UInt8)) (a : Option Addr) (c : Nat) (w : World) (hb : Row w a (l.flatten.map b8)) (h32 : S32 l) (hl : l.length = n) (h0 : 0 < n) (hc : n ≤ c) (hm : n ≤ 140737488355328), Ret Try.prog 28 [.slice a n c] w (fun v w' => v = .agg ((rootL l).map b8).toArray ∧ St w [] w' []) := by
  intro n
  induction n using Nat.strongRecOn with
  | _ n ih => exact fun l a c w hb h32 hl h0 hc hm => rootOf_step n (fun l a m c w hlt hb h32 hl h0 hc => ih m hlt l a c w hb h32 hl h0 hc (by omega)) l a n c w rfl hb h32 hl h0 hc hm

theorem listFault_ok (a : Option Addr) (n c : Nat) (w : World) :
    Ret Try.prog 27 [.slice a n c] w (fun v w' => (n = 0 ∧ v = vi 10 ∧ St w [] w' []) ∨ (65536 < n ∧ v = vi 5 ∧ St w [] w' []) ∨ ((0 < n ∧ n ≤ 65536) ∧ v = vi 0 ∧ St w [] w' [])) := by
  refine enter Try.func27 rfl Try.ntmps27 rfl ?_
  have hS := St.refl w []
  refine c_seq ?_; refine c_region ?_; refine wl_val (r_assign (v := .int .i64 0) rfl) rfl ?_; refine wl_nil ?_; refine c_then ?_; refine c_seq ?_; refine c_seq ?_; refine c_region ?_; refine wl_val (r_move (v := .slice _ _ _) rfl) rfl ?_; refine wl_val (r_len (T := 35) rfl ti35.und rfl _ rfl) rfl ?_
  refine wl_dec (r_eql rfl rfl) rfl (fun h1_2 => ?_) (fun h1_2 => ?_)
  · refine wl_nil ?_
    refine c_then ?_; refine c_true rfl ?_; refine c_seq ?_; refine c_region ?_; refine wl_val (r_assign (v := .int .i64 10) rfl) rfl ?_; refine wl_nil ?_; refine c_then ?_; refine wp_ret ?_; refine c_thenR ?_; refine ret1 Try.results27 ?_
    first | exact .inl ⟨by omega, rfl, hS.fin⟩ | exact .inr (.inl ⟨by omega, rfl, hS.fin⟩) | exact .inr (.inr ⟨by omega, rfl, hS.fin⟩)
  refine wl_nil ?_; refine c_then ?_; refine c_false rfl ?_; refine wp_skip ?_; refine c_then ?_; refine c_seq ?_; refine c_seq ?_; refine c_region ?_; refine wl_val (r_move (v := .slice _ _ _) rfl) rfl ?_; refine wl_val (r_len (T := 35) rfl ti35.und rfl _ rfl) rfl ?_
  refine wl_dec (r_gtr rfl rfl) rfl (fun h3_2 => ?_) (fun h3_2 => ?_)
  · refine wl_nil ?_
    refine c_then ?_; refine c_true rfl ?_; refine c_seq ?_; refine c_region ?_; refine wl_val (r_assign (v := .int .i64 5) rfl) rfl ?_; refine wl_nil ?_; refine c_then ?_; refine wp_ret ?_; refine c_thenR ?_; refine ret1 Try.results27 ?_
    first | exact .inl ⟨by omega, rfl, hS.fin⟩ | exact .inr (.inl ⟨by omega, rfl, hS.fin⟩) | exact .inr (.inr ⟨by omega, rfl, hS.fin⟩)
  refine wl_nil ?_; refine c_then ?_; refine c_false rfl ?_; refine wp_skip ?_; refine c_then ?_; refine c_seq ?_; refine c_region ?_; refine wl_val (r_assign (v := .int .i64 0) rfl) rfl ?_; refine wl_nil ?_; refine c_then ?_; refine wp_ret ?_; refine ret1 Try.results27 ?_
  first | exact .inl ⟨by omega, rfl, hS.fin⟩ | exact .inr (.inl ⟨by omega, rfl, hS.fin⟩) | exact .inr (.inr ⟨by omega, rfl, hS.fin⟩)

theorem root_ok (l : List (List UInt8)) (a : Option Addr) (n c : Nat) (w : World) (hb : Row w a (l.flatten.map b8)) (h32 : S32 l) (hl : l.length = n) (hc : n ≤ c) :
    Ret Try.prog 16 [.slice a n c] w (fun v w' => (n = 0 ∧ v = .tuple #[.agg ((List.replicate 32 (0 : UInt8)).map b8).toArray, vi 10] ∧ St w [] w' []) ∨ (65536 < n ∧ v = .tuple #[.agg ((List.replicate 32 (0 : UInt8)).map b8).toArray, vi 5] ∧ St w [] w' []) ∨ ((0 < n ∧ n ≤ 65536) ∧ v = .tuple #[.agg ((rootL l).map b8).toArray, vi 0] ∧ St w [] w' [])) := by
  refine enter Try.func16 rfl Try.ntmps16 rfl ?_
  have hS := St.refl w []
  refine c_seq ?_; refine c_region ?_; refine wl_exv (x_alloc (C := ((List.replicate 32 (0 : UInt8)).map b8)) hS ti26 rfl) rfl ?_; rintro _ w1 ⟨b2, rfl, hS2⟩; refine wl_val (r_assign (v := .int .i64 0) rfl) rfl ?_; refine wl_nil ?_; refine c_then ?_; refine c_seq ?_; refine c_seq ?_; refine c_region ?_; refine wl_val (r_move (v := .slice _ _ _) rfl) rfl ?_; refine wl_call (r_call fn27 rfl rfl) rfl (listFault_ok _ _ _ _) ?_
  rintro _ w3 (⟨hlf, rfl, hx4⟩ | ⟨hlf, rfl, hx4⟩ | ⟨hlf, rfl, hx4⟩)
  · have hS5 := hS2.ext hx4
    refine wl_val (r_assign (v := .int .i64 _) rfl) rfl ?_; refine wl_nil ?_; refine c_then ?_; refine c_seq ?_; refine c_region ?_; refine wl_val (r_move (v := .int .i64 _) rfl) rfl ?_; refine wl_dec_t (r_neq rfl rfl) rfl (by decide) ?_; refine wl_nil ?_; refine c_then ?_; refine c_true rfl ?_; refine c_seq ?_; refine c_region ?_; refine wl_val (r_build0 (cs := ((List.replicate 32 (0 : UInt8)).map b8)) ti26.und ti26 ti5) rfl ?_; refine wl_val (r_move (v := .int .i64 _) rfl) rfl ?_; refine wl_exs (x_storeW [] hS5 ti26 rfl rfl (by first | (simp [*]; done) | (simp [*] <;> omega) | omega) (by first | (simp [*]; done) | (simp [*] <;> omega) | omega) (by repeat' first | exact one_nil | exact one_b8 _ | exact one_v32 _ | exact one_all rfl | refine one_cons rfl ?_ | refine one_app ?_ ?_)) rfl ?_; intro w6 hS7; simp only [List.cons_append, List.nil_append] at hS7; refine wl_val (r_assign (v := .int .i64 _) rfl) rfl ?_; refine wl_nil ?_; refine c_then ?_; refine wp_ret ?_; refine c_thenR ?_; refine ret2 Try.results16 ⟨_, rfl, run_loadVar_blk ti26 rfl (hS7.heap (.head _)) (by first | (rw [List.length_map]; exact rootL_len _ h32 (by omega)) | simp)⟩ rfl ?_
    first | exact .inl ⟨hlf, rfl, hS7.fin⟩ | exact .inr (.inl ⟨hlf, rfl, hS7.fin⟩) | exact .inr (.inr ⟨hlf, rfl, hS7.fin⟩)
  · have hS5 := hS2.ext hx4
    refine wl_val (r_assign (v := .int .i64 _) rfl) rfl ?_; refine wl_nil ?_; refine c_then ?_; refine c_seq ?_; refine c_region ?_; refine wl_val (r_move (v := .int .i64 _) rfl) rfl ?_; refine wl_dec_t (r_neq rfl rfl) rfl (by decide) ?_; refine wl_nil ?_; refine c_then ?_; refine c_true rfl ?_; refine c_seq ?_; refine c_region ?_; refine wl_val (r_build0 (cs := ((List.replicate 32 (0 : UInt8)).map b8)) ti26.und ti26 ti5) rfl ?_; refine wl_val (r_move (v := .int .i64 _) rfl) rfl ?_; refine wl_exs (x_storeW [] hS5 ti26 rfl rfl (by first | (simp [*]; done) | (simp [*] <;> omega) | omega) (by first | (simp [*]; done) | (simp [*] <;> omega) | omega) (by repeat' first | exact one_nil | exact one_b8 _ | exact one_v32 _ | exact one_all rfl | refine one_cons rfl ?_ | refine one_app ?_ ?_)) rfl ?_; intro w8 hS9; simp only [List.cons_append, List.nil_append] at hS9; refine wl_val (r_assign (v := .int .i64 _) rfl) rfl ?_; refine wl_nil ?_; refine c_then ?_; refine wp_ret ?_; refine c_thenR ?_; refine ret2 Try.results16 ⟨_, rfl, run_loadVar_blk ti26 rfl (hS9.heap (.head _)) (by first | (rw [List.length_map]; exact rootL_len _ h32 (by omega)) | simp)⟩ rfl ?_
    first | exact .inl ⟨hlf, rfl, hS9.fin⟩ | exact .inr (.inl ⟨hlf, rfl, hS9.fin⟩) | exact .inr (.inr ⟨hlf, rfl, hS9.fin⟩)
  have hS5 := hS2.ext hx4
  refine wl_val (r_assign (v := .int .i64 _) rfl) rfl ?_; refine wl_nil ?_; refine c_then ?_; refine c_seq ?_; refine c_region ?_; refine wl_val (r_move (v := .int .i64 _) rfl) rfl ?_; refine wl_dec_f (r_neq rfl rfl) rfl (by decide) ?_; refine wl_nil ?_; refine c_then ?_; refine c_false rfl ?_; refine wp_skip ?_; refine c_then ?_; refine c_seq ?_; refine c_region ?_; refine wl_val (r_move (v := .slice _ _ _) rfl) rfl ?_; refine wl_call (r_call fn28 rfl rfl) rfl (rootOf_ok n l _ _ _ (hb.st hS5) h32 hl hlf.1 hc (by omega)) ?_; rintro _ w10 ⟨rfl, hx11⟩
  have hS12 := hS5.ext hx11
  refine wl_exs (x_storeW [] hS12 ti26 rfl rfl (by rw [List.length_map]; exact rootL_len _ h32 (by omega)) (by simp) (one_b8 _)) rfl ?_; intro w13 hS14; simp only [List.cons_append, List.nil_append] at hS14; refine wl_val (r_assign (v := .int .i64 0) rfl) rfl ?_; refine wl_nil ?_; refine c_then ?_; refine wp_ret ?_; refine ret2 Try.results16 ⟨_, rfl, run_loadVar_blk ti26 rfl (hS14.heap (.head _)) (by first | (rw [List.length_map]; exact rootL_len _ h32 (by omega)) | simp)⟩ rfl ?_
  first | exact .inl ⟨hlf, rfl, hS14.fin⟩ | exact .inr (.inl ⟨hlf, rfl, hS14.fin⟩) | exact .inr (.inr ⟨hlf, rfl, hS14.fin⟩)

theorem leaf_ok (t : List UInt8) (a : Option Addr) (n c : Nat) (w : World) (hb : Row w a (t.map b8)) (hl : t.length = n) (hc : n ≤ c) (hn : n ≤ 1048576) :
    Ret Try.prog 23 [.slice a n c] w (fun v w' => v = .tuple #[.agg ((leafL t).map b8).toArray, vi 0] ∧ St w [] w' []) := by
  refine enter Try.func23 rfl Try.ntmps23 rfl ?_
  have hS := St.refl w []
  refine c_seq ?_; refine c_region ?_; refine wl_exv (x_alloc (C := ((List.replicate 32 (0 : UInt8)).map b8)) hS ti26 rfl) rfl ?_; rintro _ w1 ⟨b2, rfl, hS2⟩; refine wl_val (r_assign (v := .int .i64 0) rfl) rfl ?_; refine wl_nil ?_; refine c_then ?_; refine c_seq ?_; refine c_region ?_; refine wl_val (r_move (v := .slice _ _ _) rfl) rfl ?_; refine wl_call (r_call fn32 rfl rfl) rfl (sumOf_in 1 t _ _ _ _ (by decide) (hb.st hS2) hl hc hn) ?_; rintro _ w3 ⟨rfl, hx4⟩
  have hS5 := hS2.ext hx4
  refine wl_val (r_extract (v := .agg _) rfl rfl) rfl ?_; refine wl_val (r_extract (v := .int .i64 _) rfl rfl) rfl ?_; refine wl_exs (x_storeW [] hS5 ti26 rfl rfl (by first | (simp [*]; done) | (simp [*] <;> omega) | omega) (by first | (simp [*]; done) | (simp [*] <;> omega) | omega) (by repeat' first | exact one_nil | exact one_b8 _ | exact one_v32 _ | exact one_all rfl | refine one_cons rfl ?_ | refine one_app ?_ ?_)) rfl ?_; intro w6 hS7; simp only [List.cons_append, List.nil_append] at hS7; refine wl_val (r_assign (v := .int .i64 _) rfl) rfl ?_; refine wl_nil ?_; refine c_then ?_; refine wp_ret ?_; refine ret2 Try.results23 ⟨_, rfl, run_loadVar_blk ti26 rfl (hS7.heap (.head _)) (by first | (simp [*]; done) | (simp [*] <;> omega) | omega)⟩ rfl ?_
  exact ⟨rfl, hS7.fin⟩

theorem rleaf_ok (t : List UInt8) (a : Option Addr) (n c : Nat) (w : World) (hb : Row w a (t.map b8)) (hl : t.length = n) (hc : n ≤ c) (hn : n ≤ 1048576) :
    Ret Try.prog 12 [.slice a n c] w (fun v w' => v = .agg ((leafL t).map b8).toArray ∧ St w [] w' []) := by
  refine enter Try.func12 rfl Try.ntmps12 rfl ?_
  have hS := St.refl w []
  refine c_seq ?_; refine c_region ?_; refine wl_exv (x_alloc (C := ((List.replicate 32 (0 : UInt8)).map b8)) hS ti26 rfl) rfl ?_; rintro _ w1 ⟨b2, rfl, hS2⟩; refine wl_nil ?_; refine c_then ?_; refine c_seq ?_; refine c_region ?_; refine wl_val (r_move (v := .slice _ _ _) rfl) rfl ?_; refine wl_call (r_call fn22 rfl rfl) rfl (rsum_ok 1 t _ _ _ _ (hb.st hS2) hl (by omega)) ?_; rintro _ w3 ⟨rfl, hx4⟩
  have hS5 := hS2.ext hx4
  refine wl_exs (x_storeW [] hS5 ti26 rfl rfl (by first | (simp [*]; done) | (simp [*] <;> omega) | omega) (by first | (simp [*]; done) | (simp [*] <;> omega) | omega) (by repeat' first | exact one_nil | exact one_b8 _ | exact one_v32 _ | exact one_all rfl | refine one_cons rfl ?_ | refine one_app ?_ ?_)) rfl ?_; intro w6 hS7; simp only [List.cons_append, List.nil_append] at hS7; refine wl_nil ?_; refine c_then ?_; refine wp_ret ?_; refine retc Try.results12 ⟨_, rfl, run_loadVar_blk ti26 rfl (hS7.heap (.head _)) (by first | (simp [*]; done) | (simp [*] <;> omega) | omega)⟩ ?_
  exact ⟨rfl, hS7.fin⟩

theorem steps_ok (i n : Nat) (w : World) (h0 : 1 ≤ n) (hn : n ≤ 140737488355328) (hi : i < n) :
    Ret Try.prog 42 [vi i, vi n] w (fun v w' => v = vi (stepsL i n) ∧ St w [] w' []) := by
  refine enter Try.func42 rfl Try.ntmps42 rfl ?_
  have hS := St.refl w []
  refine c_seq ?_; refine c_region ?_; refine wl_val (r_assign (v := .int .i64 0) rfl) rfl ?_; refine wl_nil ?_; refine c_then ?_; refine c_seq ?_; refine c_region ?_; refine wl_val (r_assign (v := .int .i64 0) rfl) rfl ?_; refine wl_nil ?_; refine c_then ?_; refine c_seq ?_; refine c_block ?_; refine c_loopE [4] (fun d e w' => ∃ (j : Nat) (m : Nat) (k : Nat), Kw.look e 0 = vi j ∧ Kw.look e 1 = vi m ∧ Kw.look e 5 = vi k ∧ d = 0 + m ∧ St w [] w' [] ∧ (1 ≤ m ∧ m ≤ n ∧ j < m ∧ k + m ≤ n) ∧ (k + stepsL j m = stepsL i n)) (0 + n) ?_ ?_
  · exact ⟨i, n, 0, rfl, rfl, rfl, rfl, hS, by omega, by omega⟩
  · rintro d4 e1 w2 ⟨j, m, k, hc0_0, hc0_1, hc0_5, rfl, hS3, hjm, hst⟩ -
    refine c_set (d := 0) hc0_0 ?_; refine c_set (d := 1) hc0_1 ?_; refine c_set (d := 5) hc0_5 ?_; refine c_seq ?_; refine c_seq ?_; refine c_region ?_; refine wl_val (r_move (v := .int .i64 _) rfl) rfl ?_
    refine wl_dec (r_gtr rfl rfl) rfl (fun h2_1 => ?_) (fun h2_1 => ?_)
    · refine wl_nil ?_
      refine c_then ?_; refine c_true rfl ?_; refine wp_skip ?_; refine c_then ?_; refine c_block ?_; refine c_seq ?_; refine c_region ?_; refine wl_val (r_move (v := .int .i64 _) rfl) rfl ?_; refine wl_call (r_call fn36 rfl rfl) rfl (split_ok _ _ (by first | omega | (simp [*]; done) | (simp [*] <;> omega)) (by first | omega | (simp [*]; done) | (simp [*] <;> omega))) ?_; rintro _ w5 ⟨rfl, hx6⟩
      have hS7 := hS3.ext hx6
      refine wl_val (r_assign (v := .int .i64 _) rfl) rfl ?_; refine wl_nil ?_; refine c_then ?_; refine c_seq ?_; refine c_seq ?_
      have hlt := halfN_lt (n := m) (by omega)
      have hpo := halfN_pos m
      refine c_region ?_; refine wl_val (r_move (v := .int .i64 _) rfl) rfl ?_; refine wl_val (r_move (v := .int .i64 _) rfl) rfl ?_
      refine wl_dec (r_lss rfl rfl) rfl (fun h4_2 => ?_) (fun h4_2 => ?_)
      · refine wl_nil ?_
        refine c_then ?_; refine c_true rfl ?_; refine c_region ?_; refine wl_val (r_move (v := .int .i64 _) rfl) rfl ?_; refine wl_val (r_assign (v := .int .i64 _) rfl) rfl ?_; refine wl_nil ?_; refine c_then ?_; refine c_region ?_; refine wl_val (r_move (v := .int .i64 _) rfl) rfl ?_; refine wl_val (r_addn (b := 1) rfl rfl (by omega)) rfl ?_; refine wl_val (r_assign (v := .int .i64 _) rfl) rfl ?_; refine wl_nil ?_; refine c_inN ?_; refine c_then ?_
        refine ⟨0 + halfN m, _, by omega, rfl, ⟨_, _, k + 1, rfl, rfl, rfl, rfl, hS7, by omega, ?_⟩, ⟨rfl, trivial⟩⟩
        rw [← hst, stepsL_lo (i := j) (n := m) (by omega) (by omega)]; omega
      refine wl_nil ?_; refine c_then ?_; refine c_false rfl ?_; refine c_region ?_; refine wl_val (r_move (v := .int .i64 _) rfl) rfl ?_; refine wl_val (r_move (v := .int .i64 _) rfl) rfl ?_; refine wl_val (r_subn rfl rfl (by omega) (by omega)) rfl ?_; refine wl_val (r_move (v := .int .i64 _) rfl) rfl ?_; refine wl_val (r_move (v := .int .i64 _) rfl) rfl ?_; refine wl_val (r_subn rfl rfl (by omega) (by omega)) rfl ?_; refine wl_val (r_assign (v := .int .i64 _) rfl) rfl ?_; refine wl_val (r_assign (v := .int .i64 _) rfl) rfl ?_; refine wl_nil ?_; refine c_then ?_; refine c_region ?_; refine wl_val (r_move (v := .int .i64 _) rfl) rfl ?_; refine wl_val (r_addn (b := 1) rfl rfl (by omega)) rfl ?_; refine wl_val (r_assign (v := .int .i64 _) rfl) rfl ?_; refine wl_nil ?_; refine c_inN ?_; refine c_then ?_
      refine ⟨0 + (m - halfN m), _, by omega, rfl, ⟨_, _, k + 1, rfl, rfl, rfl, rfl, hS7, by omega, ?_⟩, ⟨rfl, trivial⟩⟩
      rw [← hst, stepsL_hi (i := j) (n := m) (by omega) (by omega)]; omega
    refine wl_nil ?_; refine c_then ?_; refine c_false rfl ?_; refine wp_exit ?_; refine c_thenE ?_; refine c_thenE ?_; refine c_inE ?_; refine c_then ?_; refine c_seq ?_; refine c_region ?_; refine wl_val (r_move (v := .int .i64 _) rfl) rfl ?_; refine wl_val (r_assign (v := .int .i64 _) rfl) rfl ?_; refine wl_nil ?_; refine c_then ?_; refine wp_ret ?_; refine ret1 Try.results42 ?_
    obtain rfl : m = 1 := by omega
    rw [stepsL_one] at hst
    exact ⟨congrArg vi (by omega), hS3.fin⟩

theorem lead_step (N : Nat) (IH : ∀ (leaf : List UInt8) (i n : Nat) (a : Option Addr) (m c : Nat) (p : List (List UInt8)) (w : World), n < N → leaf.length = 32 → Row w a (p.flatten.map b8) → S32 p → p.length = m → m = stepsL i n → i < n → 1 ≤ n → m ≤ c → Ret Try.prog 43 [.agg (leaf.map b8).toArray, vi i, vi n, .slice a m c] w (fun v w' => v = .agg ((leadL leaf i n p).map b8).toArray ∧ St w [] w' [])) (leaf : List UInt8) (i n : Nat) (a : Option Addr) (m c : Nat) (p : List (List UInt8)) (w : World) (hN : n = N) (hleaf : leaf.length = 32) (hb : Row w a (p.flatten.map b8)) (h32 : S32 p) (hp : p.length = m) (hm : m = stepsL i n) (hi : i < n) (h0 : 1 ≤ n) (hc : m ≤ c) (hn : n ≤ 140737488355328) :
    Ret Try.prog 43 [.agg (leaf.map b8).toArray, vi i, vi n, .slice a m c] w (fun v w' => v = .agg ((leadL leaf i n p).map b8).toArray ∧ St w [] w' []) := by
  refine enter Try.func43 rfl Try.ntmps43 rfl ?_
  have hS := St.refl w []
  refine c_seq ?_; refine c_region ?_; refine wl_exv (x_box hS (v := .agg _) rfl rfl) rfl ?_; rintro _ w1 ⟨b4, rfl, hS2⟩; refine wl_exv (x_alloc (C := ((List.replicate 32 (0 : UInt8)).map b8)) hS2 ti26 rfl) rfl ?_; rintro _ w3 ⟨bb8, rfl, hS4⟩; refine wl_nil ?_; refine c_then ?_; refine c_seq ?_; refine c_seq ?_; refine c_region ?_; refine wl_val (r_move (v := .int .i64 _) rfl) rfl ?_
  refine wl_dec (r_eql rfl rfl) rfl (fun h1_1 => ?_) (fun h1_1 => ?_)
  · refine wl_nil ?_
    refine c_then ?_; refine c_true rfl ?_; refine c_seq ?_; refine c_region ?_; refine wl_val (r_loadB ti26 rfl rfl (hS4.heap (.tail _ (.head _))) (by first | (simp [*]; done) | (simp [*] <;> omega) | omega)) rfl ?_; refine wl_exs (x_storeW [] hS4 ti26 rfl rfl (by first | (simp [*]; done) | (simp [*] <;> omega) | omega) (by first | (simp [*]; done) | (simp [*] <;> omega) | omega) (by repeat' first | exact one_nil | exact one_b8 _ | exact one_v32 _ | exact one_all rfl | refine one_cons rfl ?_ | refine one_app ?_ ?_)) rfl ?_; intro w5 hS6; simp only [List.cons_append, List.nil_append] at hS6; refine wl_nil ?_; refine c_then ?_; refine wp_ret ?_; refine c_thenR ?_; refine retc Try.results43 ⟨_, rfl, run_loadVar_blk ti26 rfl (hS6.heap (.head _)) (by first | (simp [*]; done) | (simp [*] <;> omega) | omega)⟩ ?_
    obtain rfl : n = 1 := by omega
    exact ⟨by rw [leadL_one], hS6.fin⟩
  refine wl_nil ?_; refine c_then ?_; refine c_false rfl ?_; refine wp_skip ?_; refine c_then ?_; refine c_seq ?_; refine c_region ?_; refine wl_val (r_move (v := .int .i64 _) rfl) rfl ?_; refine wl_call (r_call fn36 rfl rfl) rfl (split_ok _ _ (by first | omega | (simp [*]; done) | (simp [*] <;> omega)) (by first | omega | (simp [*]; done) | (simp [*] <;> omega))) ?_; rintro _ w7 ⟨rfl, hx8⟩
  have hS9 := hS4.ext hx8
  refine wl_val (r_assign (v := .int .i64 _) rfl) rfl ?_; refine wl_nil ?_; refine c_then ?_; refine c_seq ?_
  have hst := stepsL_pos (i := i) (n := n) (by omega)
  have hsn := steps_le n i n (Nat.le_refl _)
  have hlt := halfN_lt (n := n) (by omega)
  have hpo := halfN_pos n
  refine c_drawS 13 hMixed hS9 ?_; intro w10 hS11; refine g_take 0 rfl (by decide +kernel) rfl (fun _ _ _ h => h) hS11 (fun wF hF => r_move (v := .slice _ _ _) rfl) ?_; refine g_take 1 rfl (by decide +kernel) rfl (fun _ _ _ h => h) hS11 (fun wF hF => r_move (v := .slice _ _ _) rfl) ?_; refine g_take 2 rfl (by decide +kernel) rfl (fun _ _ _ h => h) hS11 (fun wF hF => r_len (T := 35) rfl ti35.und rfl _ rfl) ?_; refine g_take 3 rfl (by decide +kernel) rfl (fun _ _ _ h => h) hS11 (fun wF hF => r_subn (b := 1) rfl rfl (by omega) (by omega)) ?_; refine g_take 4 rfl (by decide +kernel) rfl (fun _ _ _ h => h) hS11 (fun wF hF => r_ix32 ti35.und ti26 rfl rfl (hb.st hF) h32 hp (by omega)) ?_; refine g_take 5 rfl (by decide +kernel) rfl (fun _ _ _ h => h) hS11 (fun wF hF => r_load32 ti26 rfl rfl (hb.st hF) h32 (by omega)) ?_; refine g_take 6 rfl (by decide +kernel) rfl (fun _ _ _ h => h) hS11 (fun wF hF => r_move (v := .slice _ _ _) rfl) ?_; refine g_take 7 rfl (by decide +kernel) rfl (fun _ _ _ h => h) hS11 (fun wF hF => r_move (v := .slice _ _ _) rfl) ?_; refine g_take 8 rfl (by decide +kernel) rfl (fun _ _ _ h => h) hS11 (fun wF hF => r_len (T := 35) rfl ti35.und rfl _ rfl) ?_; refine g_take 9 rfl (by decide +kernel) rfl (fun _ _ _ h => h) hS11 (fun wF hF => r_subn (b := 1) rfl rfl (by omega) (by omega)) ?_; refine g_take 10 rfl (by decide +kernel) rfl (fun _ _ _ h => h) hS11 (fun wF hF => r_sl_h ti35.und ti26 rfl rfl (by omega)) ?_
  have ht : Row w a ((p.take (m - 1)).flatten.map b8) := hb.take32 h32 _
  refine g_one 11 (by decide +kernel) (by decide +kernel) ?_; refine o_exv rfl (x_alloc (C := ((List.replicate 32 (0 : UInt8)).map b8)) hS11 ti26 rfl) rfl ?_; rintro _ w12 ⟨b10, rfl, hS13⟩
  refine ⟨hS13.drop1, ?_⟩
  refine g_one 12 (by decide +kernel) (by decide +kernel) ?_; refine o_exs rfl (x_storeW [] hS13 ti26 rfl rfl (by rw [List.length_map]; exact h32.gt (by omega)) (by simp) (one_b8 _)) rfl ?_; intro w14 hS15; simp only [List.cons_append, List.nil_append] at hS15
  refine ⟨hS15.drop1, ?_⟩
  refine g_tail (by decide +kernel) rfl (by decide +kernel) ?_; refine wl_val (r_assign (v := .slice _ _ _) rfl) rfl ?_; refine wl_nil ?_; refine c_then ?_; refine c_seq ?_; refine c_seq ?_; refine c_region ?_; refine wl_val (r_move (v := .int .i64 _) rfl) rfl ?_; refine wl_val (r_move (v := .int .i64 _) rfl) rfl ?_
  refine wl_dec (r_lss rfl rfl) rfl (fun h5_2 => ?_) (fun h5_2 => ?_)
  · refine wl_nil ?_
    refine c_then ?_; refine c_true rfl ?_; refine c_seq ?_; refine c_drawS 6 hMixed hS15 ?_; intro w16 hS17; refine g_take 0 rfl (by decide +kernel) rfl (fun _ _ _ h => h) hS17 (fun wF hF => r_loadB ti26 rfl rfl (hF.heap (.tail _ (.tail _ (.head _)))) (by first | (simp [*]; done) | (simp [*] <;> omega) | omega)) ?_; refine g_take 1 rfl (by decide +kernel) rfl (fun _ _ _ h => h) hS17 (fun wF hF => r_move (v := .int .i64 _) rfl) ?_; refine g_take 2 rfl (by decide +kernel) rfl (fun _ _ _ h => h) hS17 (fun wF hF => r_move (v := .int .i64 _) rfl) ?_; refine g_take 3 rfl (by decide +kernel) rfl (fun _ _ _ h => h) hS17 (fun wF hF => r_move (v := .slice _ _ _) rfl) ?_; refine g_take 5 rfl (by decide +kernel) rfl (fun _ _ _ h => h) hS17 (fun wF hF => r_loadB ti26 rfl rfl (hF.heap (.head _)) (by rw [List.length_map]; exact h32.gt (by omega))) ?_; refine g_one 4 (by decide +kernel) (by decide +kernel) ?_; refine o_call rfl (r_call fn43 rfl rfl) rfl (IH leaf (i) (halfN n) _ (m - 1) _ (p.take (m - 1)) _ (by omega) hleaf (ht.st hS17) (h32.take _) (by simp; omega) (by have := stepsL_lo (i := i) (n := n) (by omega) (by omega); omega) (by omega) (by omega) (by omega)) ?_; rintro _ w18 ⟨rfl, hx19⟩
    have hS20 := hS17.ext hx19
    refine ⟨hS20, ?_⟩
    refine g_tail (by decide +kernel) rfl (by decide +kernel) ?_; refine wl_call (r_call fn37 rfl rfl) rfl (node_ok _ _ _ (leadL_len _ _ _ _ hleaf) (h32.gt (by omega))) ?_; rintro _ w21 ⟨rfl, hx22⟩
    have hS23 := hS20.ext hx22
    refine wl_exs (x_storeW [_] hS23 ti26 rfl rfl (by first | (simp [*]; done) | (simp [*] <;> omega) | omega) (by first | (simp [*]; done) | (simp [*] <;> omega) | omega) (by repeat' first | exact one_nil | exact one_b8 _ | exact one_v32 _ | exact one_all rfl | refine one_cons rfl ?_ | refine one_app ?_ ?_)) rfl ?_; intro w24 hS25; simp only [List.cons_append, List.nil_append] at hS25; refine wl_nil ?_; refine c_then ?_; refine wp_ret ?_; refine c_thenR ?_; refine retc Try.results43 ⟨_, rfl, run_loadVar_blk ti26 rfl (hS25.heap (.tail _ (.head _))) (by first | (simp [*]; done) | (simp [*] <;> omega) | omega)⟩ ?_
    exact ⟨by rw [leadL_lo (leaf := leaf) (i := i) (n := n) hp (by omega) (by omega)], hS25.fin⟩
  refine wl_nil ?_; refine c_then ?_; refine c_false rfl ?_; refine wp_skip ?_; refine c_then ?_; refine c_seq ?_; refine c_drawS 10 hMixed hS15 ?_; intro w26 hS27; refine g_take 0 rfl (by decide +kernel) rfl (fun _ _ _ h => h) hS27 (fun wF hF => r_loadB ti26 rfl rfl (hF.heap (.head _)) (by rw [List.length_map]; exact h32.gt (by omega))) ?_; refine g_take 1 rfl (by decide +kernel) rfl (fun _ _ _ h => h) hS27 (fun wF hF => r_loadB ti26 rfl rfl (hF.heap (.tail _ (.tail _ (.head _)))) (by first | (simp [*]; done) | (simp [*] <;> omega) | omega)) ?_; refine g_take 2 rfl (by decide +kernel) rfl (fun _ _ _ h => h) hS27 (fun wF hF => r_move (v := .int .i64 _) rfl) ?_; refine g_take 3 rfl (by decide +kernel) rfl (fun _ _ _ h => h) hS27 (fun wF hF => r_move (v := .int .i64 _) rfl) ?_; refine g_take 4 rfl (by decide +kernel) rfl (fun _ _ _ h => h) hS27 (fun wF hF => r_subn rfl rfl (by omega) (by omega)) ?_; refine g_take 5 rfl (by decide +kernel) rfl (fun _ _ _ h => h) hS27 (fun wF hF => r_move (v := .int .i64 _) rfl) ?_; refine g_take 6 rfl (by decide +kernel) rfl (fun _ _ _ h => h) hS27 (fun wF hF => r_move (v := .int .i64 _) rfl) ?_; refine g_take 7 rfl (by decide +kernel) rfl (fun _ _ _ h => h) hS27 (fun wF hF => r_subn rfl rfl (by omega) (by omega)) ?_; refine g_take 8 rfl (by decide +kernel) rfl (fun _ _ _ h => h) hS27 (fun wF hF => r_move (v := .slice _ _ _) rfl) ?_; refine g_one 9 (by decide +kernel) (by decide +kernel) ?_; refine o_call rfl (r_call fn43 rfl rfl) rfl (IH leaf (i - halfN n) (n - halfN n) _ (m - 1) _ (p.take (m - 1)) _ (by omega) hleaf (ht.st hS27) (h32.take _) (by simp; omega) (by have := stepsL_hi (i := i) (n := n) (by omega) (by omega); omega) (by omega) (by omega) (by omega)) ?_
  rintro _ w28 ⟨rfl, hx29⟩
  have hS30 := hS27.ext hx29
  refine ⟨hS30, ?_⟩
  refine g_tail (by decide +kernel) rfl (by decide +kernel) ?_; refine wl_call (r_call fn37 rfl rfl) rfl (node_ok _ _ _ (h32.gt (by omega)) (leadL_len _ _ _ _ hleaf)) ?_; rintro _ w31 ⟨rfl, hx32⟩
  have hS33 := hS30.ext hx32
  refine wl_exs (x_storeW [_] hS33 ti26 rfl rfl (by first | (simp [*]; done) | (simp [*] <;> omega) | omega) (by first | (simp [*]; done) | (simp [*] <;> omega) | omega) (by repeat' first | exact one_nil | exact one_b8 _ | exact one_v32 _ | exact one_all rfl | refine one_cons rfl ?_ | refine one_app ?_ ?_)) rfl ?_; intro w34 hS35; simp only [List.cons_append, List.nil_append] at hS35; refine wl_nil ?_; refine c_then ?_; refine wp_ret ?_; refine retc Try.results43 ⟨_, rfl, run_loadVar_blk ti26 rfl (hS35.heap (.tail _ (.head _))) (by first | (simp [*]; done) | (simp [*] <;> omega) | omega)⟩ ?_
  exact ⟨by rw [leadL_hi (leaf := leaf) (i := i) (n := n) hp (by omega) (by omega)], hS35.fin⟩

theorem lead_ok : ∀ (n : Nat) (leaf : List UInt8) (i : Nat) (a : Option Addr) (m c : Nat) (p : List (List UInt8)) (w : World) (hleaf : leaf.length = 32) (hb : Row w a (p.flatten.map b8)) (h32 : S32 p) (hp : p.length = m) (hm : m = stepsL i n) (hi : i < n) (h0 : 1 ≤ n) (hc : m ≤ c) (hn : n ≤ 140737488355328), Ret Try.prog 43 [.agg (leaf.map b8).toArray, vi i, vi n, .slice a m c] w (fun v w' => v = .agg ((leadL leaf i n p).map b8).toArray ∧ St w [] w' []) := by
  intro n
  induction n using Nat.strongRecOn with
  | _ n ih => exact fun leaf i a m c p w h1 h2 h3 h4 h5 h6 h7 h8 hn => lead_step n (fun leaf i k a m c p w hlt h1 h2 h3 h4 h5 h6 h7 h8 => ih k hlt leaf i a m c p w h1 h2 h3 h4 h5 h6 h7 h8 (by omega)) leaf i n a m c p w rfl h1 h2 h3 h4 h5 h6 h7 h8 hn

theorem sides_step (N : Nat) (IH : ∀ (i n : Nat) (w : World), n < N → 1 ≤ n → i < n → Ret Try.prog 20 [vi i, vi n] w (fun v w' => ∃ a' c', v = .slice a' (stepsL i n) c' ∧ stepsL i n ≤ c' ∧ St w [] w' [.row (.slice a' (stepsL i n) c') 4 1 (stepsL i n) ((sidesL i n).map .bool)])) (i n : Nat) (w : World) (hN : n = N) (h0 : 1 ≤ n) (hi : i < n) (hn : n ≤ 1099511627776) :
    Ret Try.prog 20 [vi i, vi n] w (fun v w' => ∃ a' c', v = .slice a' (stepsL i n) c' ∧ stepsL i n ≤ c' ∧ St w [] w' [.row (.slice a' (stepsL i n) c') 4 1 (stepsL i n) ((sidesL i n).map .bool)]) := by
  refine enter Try.func20 rfl Try.ntmps20 rfl ?_
  have hS := St.refl w []
  refine c_seq ?_; refine c_region ?_; refine wl_val (r_assign (v := .slice none 0 0) rfl) rfl ?_; refine wl_nil ?_; refine c_then ?_; refine c_seq ?_; refine c_seq ?_; refine c_region ?_; refine wl_val (r_move (v := .int .i64 _) rfl) rfl ?_
  refine wl_dec (r_eql rfl rfl) rfl (fun h1_1 => ?_) (fun h1_1 => ?_)
  · refine wl_nil ?_
    refine c_then ?_; refine c_true rfl ?_; refine c_seq ?_; refine c_region ?_; refine wl_val (r_assign (v := .slice none 0 0) rfl) rfl ?_; refine wl_nil ?_; refine c_then ?_; refine wp_ret ?_; refine c_thenR ?_; refine ret1 Try.results20 ?_
    obtain rfl : n = 1 := by omega
    rw [stepsL_one, sidesL_one]
    exact ⟨none, 0, rfl, Nat.zero_le _, hS.nilRow⟩
  refine wl_nil ?_; refine c_then ?_; refine c_false rfl ?_; refine wp_skip ?_; refine c_then ?_; refine c_seq ?_; refine c_region ?_; refine wl_val (r_move (v := .int .i64 _) rfl) rfl ?_; refine wl_call (r_call fn30 rfl rfl) rfl (half_ok _ _ (by first | omega | (simp [*]; done) | (simp [*] <;> omega)) (by first | omega | (simp [*]; done) | (simp [*] <;> omega))) ?_; rintro _ w1 ⟨rfl, hx2⟩
  have hS3 := hS.ext hx2
  refine wl_val (r_assign (v := .int .i64 _) rfl) rfl ?_; refine wl_nil ?_; refine c_then ?_; refine c_seq ?_
  have hlt := halfN_lt (n := n) (by omega)
  have hpo := halfN_pos n
  refine c_region ?_; refine wl_val (r_move (v := .int .i64 _) rfl) rfl ?_; refine wl_val (r_move (v := .int .i64 _) rfl) rfl ?_
  refine wl_dec (r_lss rfl rfl) rfl (fun h4_2 => ?_) (fun h4_2 => ?_)
  · refine wl_nil ?_
    refine c_then ?_; refine c_true rfl ?_; refine c_seq ?_
    have hsl := steps_le _ i (halfN n) (Nat.le_refl _)
    refine c_region ?_; refine wl_val (r_move (v := .int .i64 _) rfl) rfl ?_; refine wl_val (r_move (v := .int .i64 _) rfl) rfl ?_; refine wl_call (r_call fn20 rfl rfl) rfl (IH i (halfN n) _ (by omega) hpo (by omega)) ?_; rintro _ w4 ⟨a15, c15, rfl, hc15, hx5⟩
    have hS6 := hS3.call hx5
    simp only [List.cons_append, List.nil_append] at hS6; refine wl_exv (x_lit (vs := [.bool false]) hS6 ti58.und ti4 rfl rfl rfl (by intro c hc; simp only [List.mem_cons, List.not_mem_nil, or_false] at hc; rcases hc with rfl <;> rfl) (by decide)) rfl ?_; rintro _ w7 ⟨b16, rfl, hS8⟩; refine wl_exv (x_append [_] hS8 ti58.und ti4 rfl (by decide) rfl rfl (Row.of_at (at_all (hS8.heap (.head _)))) (by first | (simp [*]; done) | (simp [*] <;> omega) | omega) (by first | exact one_b8 _ | exact one_v32 _ | (intro c hc; simp only [List.mem_cons, List.not_mem_nil, or_false] at hc; (first | subst hc | rcases hc with rfl | rfl) <;> rfl)) (by first | omega | (simp [*]; done) | (simp [*] <;> omega)) (by first | omega | (simp [*]; done) | (simp [*] <;> omega)) _ rfl) rfl ?_; rintro _ w9 ⟨aq11, cq11, rfl, hcq11, hS10⟩; simp only [List.cons_append, List.nil_append] at hS10; refine wl_val (r_assign (v := .slice _ _ _) rfl) rfl ?_; refine wl_nil ?_; refine c_then ?_; refine wp_ret ?_; refine ret1 Try.results20 ?_
    rw [stepsL_lo (i := i) (n := n) (by omega) (by omega), sidesL_lo (i := i) (n := n) (by omega) (by omega), List.map_append]
    exact ⟨_, _, rfl, hcq11, hS10.drop1⟩
  refine wl_nil ?_; refine c_then ?_; refine c_false rfl ?_; refine c_seq ?_
  have hsl := steps_le _ (i - halfN n) (n - halfN n) (Nat.le_refl _)
  refine c_region ?_; refine wl_val (r_move (v := .int .i64 _) rfl) rfl ?_; refine wl_val (r_move (v := .int .i64 _) rfl) rfl ?_; refine wl_val (r_subn rfl rfl (by omega) (by omega)) rfl ?_; refine wl_val (r_move (v := .int .i64 _) rfl) rfl ?_; refine wl_val (r_move (v := .int .i64 _) rfl) rfl ?_; refine wl_val (r_subn rfl rfl (by omega) (by omega)) rfl ?_; refine wl_call (r_call fn20 rfl rfl) rfl (IH (i - halfN n) (n - halfN n) _ (by omega) (by omega) (by omega)) ?_; rintro _ w12 ⟨a24, c24, rfl, hc24, hx13⟩
  have hS14 := hS3.call hx13
  simp only [List.cons_append, List.nil_append] at hS14; refine wl_exv (x_lit (vs := [.bool true]) hS14 ti58.und ti4 rfl rfl rfl (by intro c hc; simp only [List.mem_cons, List.not_mem_nil, or_false] at hc; rcases hc with rfl <;> rfl) (by decide)) rfl ?_; rintro _ w15 ⟨b25, rfl, hS16⟩; refine wl_exv (x_append [_] hS16 ti58.und ti4 rfl (by decide) rfl rfl (Row.of_at (at_all (hS16.heap (.head _)))) (by first | (simp [*]; done) | (simp [*] <;> omega) | omega) (by first | exact one_b8 _ | exact one_v32 _ | (intro c hc; simp only [List.mem_cons, List.not_mem_nil, or_false] at hc; (first | subst hc | rcases hc with rfl | rfl) <;> rfl)) (by first | omega | (simp [*]; done) | (simp [*] <;> omega)) (by first | omega | (simp [*]; done) | (simp [*] <;> omega)) _ rfl) rfl ?_; rintro _ w17 ⟨aq19, cq19, rfl, hcq19, hS18⟩; simp only [List.cons_append, List.nil_append] at hS18; refine wl_val (r_assign (v := .slice _ _ _) rfl) rfl ?_; refine wl_nil ?_; refine c_then ?_; refine wp_ret ?_; refine ret1 Try.results20 ?_
  rw [stepsL_hi (i := i) (n := n) (by omega) (by omega), sidesL_hi (i := i) (n := n) (by omega) (by omega), List.map_append]
  exact ⟨_, _, rfl, hcq19, hS18.drop1⟩

theorem sides_ok : ∀ (n i : Nat) (w : World), 1 ≤ n → i < n → n ≤ 1099511627776 → Ret Try.prog 20 [vi i, vi n] w (fun v w' => ∃ a' c', v = .slice a' (stepsL i n) c' ∧ stepsL i n ≤ c' ∧ St w [] w' [.row (.slice a' (stepsL i n) c') 4 1 (stepsL i n) ((sidesL i n).map .bool)]) := by
  intro n
  induction n using Nat.strongRecOn with
  | _ n ih => exact fun i w h0 hi hn => sides_step n (fun i k w hlt h0 hi => ih k hlt i w h0 hi (by omega)) i n w rfl h0 hi hn

theorem rootBy_ok (leaf : List UInt8) (ix sz : Int) (pa : Option Addr) (pc : Nat) (pl : List (List UInt8)) (w : World) (hleaf : leaf.length = 32) (hp : Row w pa (pl.flatten.map b8)) (h32 : S32 pl) (hpc : pl.length ≤ pc) (hpm : pl.length ≤ 4398046511104) (hi1 : -9223372036854775808 ≤ ix) (hi2 : ix ≤ 9223372036854775807) (hs1 : -9223372036854775808 ≤ sz) (hs2 : sz ≤ 9223372036854775807) :
    Ret Try.prog 33 [.agg (leaf.map b8).toArray, .agg #[.int .i64 ix, .int .i64 sz, .slice pa pl.length pc]] w (fun v w' => v = .tuple #[.agg ((rootByL leaf ix sz pl).map b8).toArray, .int .i64 (rootByE ix sz pl.length)] ∧ St w [] w' []) := by
  refine enter Try.func33 rfl Try.ntmps33 rfl ?_
  have hS := St.refl w []
  refine c_seq ?_; refine c_region ?_; refine wl_exv (x_box hS (v := .agg _) rfl rfl) rfl ?_; rintro _ w1 ⟨b2, rfl, hS2⟩; refine wl_exv (x_box hS2 (v := .agg _) rfl rfl) rfl ?_; rintro _ w3 ⟨b3, rfl, hS4⟩; refine wl_exv (x_alloc (C := ((List.replicate 32 (0 : UInt8)).map b8)) hS4 ti26 rfl) rfl ?_; rintro _ w5 ⟨b4, rfl, hS6⟩; refine wl_val (r_assign (v := .int .i64 0) rfl) rfl ?_; refine wl_nil ?_; refine c_then ?_; refine c_seq ?_; refine c_block ?_; refine c_seq ?_; refine c_region ?_; refine wl_val (r_field fa37_1 rfl) rfl ?_; refine wl_val (r_loadB1 ti3.und rfl rfl (hS6.heap (.tail _ (.head _))) rfl) rfl ?_
  refine wl_dec (r_lss rfl rfl) rfl (fun h1_2 => ?_) (fun h1_2 => ?_)
  · refine wl_val (r_move (v := .bool _) rfl) rfl ?_
    refine wl_not rfl ?_; refine wl_not rfl ?_; refine wl_not rfl ?_; refine wl_val (r_pick_t rfl (v := .bool true) rfl) rfl ?_; refine wl_val (r_assign (v := .bool _) rfl) rfl ?_; refine wl_nil ?_; refine c_then ?_; refine c_true rfl ?_; refine c_seq ?_; refine c_region ?_; refine wl_val (r_build0 (cs := ((List.replicate 32 (0 : UInt8)).map b8)) ti26.und ti26 ti5) rfl ?_; refine wl_exs (x_storeW [] hS6 ti26 rfl rfl (by first | (simp [*]; done) | (simp [*] <;> omega) | omega) (by first | (simp [*]; done) | (simp [*] <;> omega) | omega) (by repeat' first | exact one_nil | exact one_b8 _ | exact one_v32 _ | exact one_all rfl | refine one_cons rfl ?_ | refine one_app ?_ ?_)) rfl ?_; intro w7 hS8; simp only [List.cons_append, List.nil_append] at hS8; refine wl_val (r_assign (v := .int .i64 4) rfl) rfl ?_; refine wl_nil ?_; refine c_then ?_; refine wp_ret ?_; refine c_inR ?_; refine c_thenR ?_; refine ret2 Try.results33 ⟨_, rfl, run_loadVar_blk ti26 rfl (hS8.heap (.head _)) (by first | (rw [List.length_map]; exact leadL_len _ _ _ _ hleaf) | simp)⟩ rfl ?_
    first | exact ⟨rb_res (rootByE_range (by omega)) (by decide), hS8.fin⟩ | exact ⟨rb_res (rootByE_none (by omega) (by omega) (by omega)) (by decide), hS8.fin⟩ | exact ⟨rb_res (rootByE_proof (by omega) (by omega) (by omega) (by omega)) (by decide), hS8.fin⟩ | exact ⟨rb_ok (by omega) (by omega) (by omega) (by omega) rfl, hS8.fin⟩
  refine wl_val (r_move (v := .bool _) rfl) rfl ?_; refine wl_val (r_field fa37_1 rfl) rfl ?_; refine wl_val (r_loadB1 ti3.und rfl rfl (hS6.heap (.tail _ (.head _))) rfl) rfl ?_
  refine wl_dec (r_gtr rfl rfl) rfl (fun h1_6 => ?_) (fun h1_6 => ?_)
  · refine wl_val (r_pick_f rfl (v := .bool _) rfl) rfl ?_
    refine wl_val (r_assign (v := .bool _) rfl) rfl ?_; refine wl_nil ?_; refine c_then ?_; refine c_true rfl ?_; refine c_seq ?_; refine c_region ?_; refine wl_val (r_build0 (cs := ((List.replicate 32 (0 : UInt8)).map b8)) ti26.und ti26 ti5) rfl ?_; refine wl_exs (x_storeW [] hS6 ti26 rfl rfl (by first | (simp [*]; done) | (simp [*] <;> omega) | omega) (by first | (simp [*]; done) | (simp [*] <;> omega) | omega) (by repeat' first | exact one_nil | exact one_b8 _ | exact one_v32 _ | exact one_all rfl | refine one_cons rfl ?_ | refine one_app ?_ ?_)) rfl ?_; intro w9 hS10; simp only [List.cons_append, List.nil_append] at hS10; refine wl_val (r_assign (v := .int .i64 4) rfl) rfl ?_; refine wl_nil ?_; refine c_then ?_; refine wp_ret ?_; refine c_inR ?_; refine c_thenR ?_; refine ret2 Try.results33 ⟨_, rfl, run_loadVar_blk ti26 rfl (hS10.heap (.head _)) (by first | (rw [List.length_map]; exact leadL_len _ _ _ _ hleaf) | simp)⟩ rfl ?_
    first | exact ⟨rb_res (rootByE_range (by omega)) (by decide), hS10.fin⟩ | exact ⟨rb_res (rootByE_none (by omega) (by omega) (by omega)) (by decide), hS10.fin⟩ | exact ⟨rb_res (rootByE_proof (by omega) (by omega) (by omega) (by omega)) (by decide), hS10.fin⟩ | exact ⟨rb_ok (by omega) (by omega) (by omega) (by omega) rfl, hS10.fin⟩
  refine wl_val (r_pick_f rfl (v := .bool _) rfl) rfl ?_; refine wl_val (r_assign (v := .bool _) rfl) rfl ?_; refine wl_nil ?_; refine c_then ?_; refine c_false rfl ?_; refine c_seq ?_; refine c_region ?_; refine wl_val (r_field fa37_0 rfl) rfl ?_; refine wl_val (r_loadB1 ti3.und rfl rfl (hS6.heap (.tail _ (.head _))) rfl) rfl ?_
  refine wl_dec (r_lss rfl rfl) rfl (fun h3_2 => ?_) (fun h3_2 => ?_)
  · refine wl_val (r_move (v := .bool _) rfl) rfl ?_
    refine wl_not rfl ?_; refine wl_not rfl ?_; refine wl_not rfl ?_; refine wl_not rfl ?_; refine wl_not rfl ?_; refine wl_val (r_pick_t rfl (v := .bool true) rfl) rfl ?_; refine wl_val (r_assign (v := .bool _) rfl) rfl ?_; refine wl_nil ?_; refine c_then ?_; refine c_true rfl ?_; refine c_seq ?_; refine c_region ?_; refine wl_val (r_build0 (cs := ((List.replicate 32 (0 : UInt8)).map b8)) ti26.und ti26 ti5) rfl ?_; refine wl_exs (x_storeW [] hS6 ti26 rfl rfl (by first | (simp [*]; done) | (simp [*] <;> omega) | omega) (by first | (simp [*]; done) | (simp [*] <;> omega) | omega) (by repeat' first | exact one_nil | exact one_b8 _ | exact one_v32 _ | exact one_all rfl | refine one_cons rfl ?_ | refine one_app ?_ ?_)) rfl ?_; intro w11 hS12; simp only [List.cons_append, List.nil_append] at hS12; refine wl_val (r_assign (v := .int .i64 7) rfl) rfl ?_; refine wl_nil ?_; refine c_then ?_; refine wp_ret ?_; refine c_inR ?_; refine c_thenR ?_; refine ret2 Try.results33 ⟨_, rfl, run_loadVar_blk ti26 rfl (hS12.heap (.head _)) (by first | (rw [List.length_map]; exact leadL_len _ _ _ _ hleaf) | simp)⟩ rfl ?_
    first | exact ⟨rb_res (rootByE_range (by omega)) (by decide), hS12.fin⟩ | exact ⟨rb_res (rootByE_none (by omega) (by omega) (by omega)) (by decide), hS12.fin⟩ | exact ⟨rb_res (rootByE_proof (by omega) (by omega) (by omega) (by omega)) (by decide), hS12.fin⟩ | exact ⟨rb_ok (by omega) (by omega) (by omega) (by omega) rfl, hS12.fin⟩
  refine wl_val (r_move (v := .bool _) rfl) rfl ?_; refine wl_val (r_field fa37_0 rfl) rfl ?_; refine wl_val (r_loadB1 ti3.und rfl rfl (hS6.heap (.tail _ (.head _))) rfl) rfl ?_; refine wl_val (r_field fa37_1 rfl) rfl ?_; refine wl_val (r_loadB1 ti3.und rfl rfl (hS6.heap (.tail _ (.head _))) rfl) rfl ?_
  refine wl_dec (r_geq rfl rfl) rfl (fun h3_8 => ?_) (fun h3_8 => ?_)
  · refine wl_val (r_pick_f rfl (v := .bool _) rfl) rfl ?_
    refine wl_val (r_assign (v := .bool _) rfl) rfl ?_; refine wl_nil ?_; refine c_then ?_; refine c_true rfl ?_; refine c_seq ?_; refine c_region ?_; refine wl_val (r_build0 (cs := ((List.replicate 32 (0 : UInt8)).map b8)) ti26.und ti26 ti5) rfl ?_; refine wl_exs (x_storeW [] hS6 ti26 rfl rfl (by first | (simp [*]; done) | (simp [*] <;> omega) | omega) (by first | (simp [*]; done) | (simp [*] <;> omega) | omega) (by repeat' first | exact one_nil | exact one_b8 _ | exact one_v32 _ | exact one_all rfl | refine one_cons rfl ?_ | refine one_app ?_ ?_)) rfl ?_; intro w13 hS14; simp only [List.cons_append, List.nil_append] at hS14; refine wl_val (r_assign (v := .int .i64 7) rfl) rfl ?_; refine wl_nil ?_; refine c_then ?_; refine wp_ret ?_; refine c_inR ?_; refine c_thenR ?_; refine ret2 Try.results33 ⟨_, rfl, run_loadVar_blk ti26 rfl (hS14.heap (.head _)) (by first | (rw [List.length_map]; exact leadL_len _ _ _ _ hleaf) | simp)⟩ rfl ?_
    first | exact ⟨rb_res (rootByE_range (by omega)) (by decide), hS14.fin⟩ | exact ⟨rb_res (rootByE_none (by omega) (by omega) (by omega)) (by decide), hS14.fin⟩ | exact ⟨rb_res (rootByE_proof (by omega) (by omega) (by omega) (by omega)) (by decide), hS14.fin⟩ | exact ⟨rb_ok (by omega) (by omega) (by omega) (by omega) rfl, hS14.fin⟩
  refine wl_val (r_pick_f rfl (v := .bool _) rfl) rfl ?_; refine wl_val (r_assign (v := .bool _) rfl) rfl ?_; refine wl_nil ?_; refine c_then ?_; refine c_false rfl ?_; refine c_seq ?_
  obtain ⟨sz', rfl⟩ : ∃ i : Nat, sz = (i : Int) := ⟨sz.toNat, (by omega)⟩
  obtain ⟨ix', rfl⟩ : ∃ i : Nat, ix = (i : Int) := ⟨ix.toNat, (by omega)⟩
  refine c_drawS 8 hMixed hS6 ?_; intro w15 hS16; refine g_take 0 rfl (by decide +kernel) rfl (fun _ _ _ h => h) hS16 (fun wF hF => r_field fa37_2 rfl) ?_; refine g_take 1 rfl (by decide +kernel) rfl (fun _ _ _ h => h) hS16 (fun wF hF => r_loadB1 ti35.und rfl rfl (hF.heap (.tail _ (.head _))) rfl) ?_; refine g_take 2 rfl (by decide +kernel) rfl (fun _ _ _ h => h) hS16 (fun wF hF => r_len (T := 35) rfl ti35.und rfl _ rfl) ?_; refine g_take 3 rfl (by decide +kernel) rfl (fun _ _ _ h => h) hS16 (fun wF hF => r_field fa37_0 rfl) ?_; refine g_take 4 rfl (by decide +kernel) rfl (fun _ _ _ h => h) hS16 (fun wF hF => r_loadB1 ti3.und rfl rfl (hF.heap (.tail _ (.head _))) rfl) ?_; refine g_take 5 rfl (by decide +kernel) rfl (fun _ _ _ h => h) hS16 (fun wF hF => r_field fa37_1 rfl) ?_; refine g_take 6 rfl (by decide +kernel) rfl (fun _ _ _ h => h) hS16 (fun wF hF => r_loadB1 ti3.und rfl rfl (hF.heap (.tail _ (.head _))) rfl) ?_; refine g_one 7 (by decide +kernel) (by decide +kernel) ?_; refine o_call rfl (r_call fn42 rfl rfl) rfl (steps_ok ix' sz' _ (by omega) (by omega) (by omega)) ?_; rintro _ w17 ⟨rfl, hx18⟩
  have hS19 := hS16.ext hx18
  refine ⟨hS19, ?_⟩
  refine g_tail (by decide +kernel) rfl (by decide +kernel) ?_
  refine wl_dec (r_neq rfl rfl) rfl (fun h5_8 => ?_) (fun h5_8 => ?_)
  · refine wl_val (r_assign (v := .bool _) rfl) rfl ?_
    refine wl_nil ?_; refine c_then ?_; refine c_true rfl ?_; refine c_seq ?_; refine c_region ?_; refine wl_val (r_build0 (cs := ((List.replicate 32 (0 : UInt8)).map b8)) ti26.und ti26 ti5) rfl ?_; refine wl_exs (x_storeW [] hS19 ti26 rfl rfl (by first | (simp [*]; done) | (simp [*] <;> omega) | omega) (by first | (simp [*]; done) | (simp [*] <;> omega) | omega) (by repeat' first | exact one_nil | exact one_b8 _ | exact one_v32 _ | exact one_all rfl | refine one_cons rfl ?_ | refine one_app ?_ ?_)) rfl ?_; intro w20 hS21; simp only [List.cons_append, List.nil_append] at hS21; refine wl_val (r_assign (v := .int .i64 12) rfl) rfl ?_; refine wl_nil ?_; refine c_then ?_; refine wp_ret ?_; refine c_inR ?_; refine c_thenR ?_; refine ret2 Try.results33 ⟨_, rfl, run_loadVar_blk ti26 rfl (hS21.heap (.head _)) (by first | (rw [List.length_map]; exact leadL_len _ _ _ _ hleaf) | simp)⟩ rfl ?_
    first | exact ⟨rb_res (rootByE_range (by omega)) (by decide), hS21.fin⟩ | exact ⟨rb_res (rootByE_none (by omega) (by omega) (by omega)) (by decide), hS21.fin⟩ | exact ⟨rb_res (rootByE_proof (by omega) (by omega) (by omega) (by omega)) (by decide), hS21.fin⟩ | exact ⟨rb_ok (by omega) (by omega) (by omega) (by omega) rfl, hS21.fin⟩
  refine wl_val (r_assign (v := .bool _) rfl) rfl ?_; refine wl_nil ?_; refine c_then ?_; refine c_false rfl ?_; refine wp_skip ?_; refine c_inN ?_; refine c_then ?_; refine c_seq ?_; refine c_region ?_; refine wl_val (r_loadB ti26 rfl rfl (hS19.heap (.tail _ (.tail _ (.head _)))) (by first | (simp [*]; done) | (simp [*] <;> omega) | omega)) rfl ?_; refine wl_val (r_field fa37_0 rfl) rfl ?_; refine wl_val (r_loadB1 ti3.und rfl rfl (hS19.heap (.tail _ (.head _))) rfl) rfl ?_; refine wl_val (r_field fa37_1 rfl) rfl ?_; refine wl_val (r_loadB1 ti3.und rfl rfl (hS19.heap (.tail _ (.head _))) rfl) rfl ?_; refine wl_val (r_field fa37_2 rfl) rfl ?_; refine wl_val (r_loadB1 ti35.und rfl rfl (hS19.heap (.tail _ (.head _))) rfl) rfl ?_; refine wl_call (r_call fn43 rfl rfl) rfl (lead_ok sz' leaf ix' _ _ _ pl _ hleaf (hp.st hS19) h32 rfl (by omega) (by omega) (by omega) hpc (by omega)) ?_; rintro _ w22 ⟨rfl, hx23⟩
  have hS24 := hS19.ext hx23
  refine wl_exs (x_storeW [] hS24 ti26 rfl rfl (by rw [List.length_map]; exact leadL_len _ _ _ _ hleaf) (by simp) (one_b8 _)) rfl ?_; intro w25 hS26; simp only [List.cons_append, List.nil_append] at hS26; refine wl_val (r_assign (v := .int .i64 0) rfl) rfl ?_; refine wl_nil ?_; refine c_then ?_; refine wp_ret ?_; refine ret2 Try.results33 ⟨_, rfl, run_loadVar_blk ti26 rfl (hS26.heap (.head _)) (by first | (rw [List.length_map]; exact leadL_len _ _ _ _ hleaf) | simp)⟩ rfl ?_
  first | exact ⟨rb_res (rootByE_range (by omega)) (by decide), hS26.fin⟩ | exact ⟨rb_res (rootByE_none (by omega) (by omega) (by omega)) (by decide), hS26.fin⟩ | exact ⟨rb_res (rootByE_proof (by omega) (by omega) (by omega) (by omega)) (by decide), hS26.fin⟩ | exact ⟨rb_ok (by omega) (by omega) (by omega) (by omega) rfl, hS26.fin⟩

theorem rrootBy_ok (leaf : List UInt8) (ix sz : Int) (pa : Option Addr) (pc : Nat) (pl : List (List UInt8)) (w : World) (hleaf : leaf.length = 32) (hp : Row w pa (pl.flatten.map b8)) (h32 : S32 pl) (hpc : pl.length ≤ pc) (hpm : pl.length ≤ 4398046511104) (hi1 : -9223372036854775808 ≤ ix) (hi2 : ix ≤ 9223372036854775807) (hs1 : -9223372036854775808 ≤ sz) (hs2 : sz ≤ 9223372036854775807) :
    Ret Try.prog 11 [.agg (leaf.map b8).toArray, .agg #[.int .i64 ix, .int .i64 sz, .slice pa pl.length pc]] w (fun v w' => v = .tuple #[.agg ((rootByL leaf ix sz pl).map b8).toArray, .int .i64 (rootByE ix sz pl.length)] ∧ St w [] w' []) := by
  refine enter Try.func11 rfl Try.ntmps11 rfl ?_
  have hS := St.refl w []
  refine c_seq ?_; refine c_region ?_; refine wl_exv (x_box hS (v := .agg _) rfl rfl) rfl ?_; rintro _ w1 ⟨b2, rfl, hS2⟩; refine wl_exv (x_box hS2 (v := .agg _) rfl rfl) rfl ?_; rintro _ w3 ⟨b3, rfl, hS4⟩; refine wl_exv (x_alloc (C := ((List.replicate 32 (0 : UInt8)).map b8)) hS4 ti26 rfl) rfl ?_; rintro _ w5 ⟨b4, rfl, hS6⟩; refine wl_val (r_assign (v := .int .i64 0) rfl) rfl ?_; refine wl_nil ?_; refine c_then ?_; refine c_seq ?_; refine c_block ?_; refine c_seq ?_; refine c_region ?_; refine wl_val (r_field fa37_1 rfl) rfl ?_; refine wl_val (r_loadB1 ti3.und rfl rfl (hS6.heap (.tail _ (.head _))) rfl) rfl ?_
  refine wl_dec (r_lss rfl rfl) rfl (fun h1_2 => ?_) (fun h1_2 => ?_)
  · refine wl_val (r_move (v := .bool _) rfl) rfl ?_
    refine wl_not rfl ?_; refine wl_not rfl ?_; refine wl_not rfl ?_; refine wl_val (r_pick_t rfl (v := .bool true) rfl) rfl ?_; refine wl_val (r_assign (v := .bool _) rfl) rfl ?_; refine wl_nil ?_; refine c_then ?_; refine c_true rfl ?_; refine c_seq ?_; refine c_region ?_; refine wl_val (r_build0 (cs := ((List.replicate 32 (0 : UInt8)).map b8)) ti26.und ti26 ti5) rfl ?_; refine wl_exs (x_storeW [] hS6 ti26 rfl rfl (by first | (simp [*]; done) | (simp [*] <;> omega) | omega) (by first | (simp [*]; done) | (simp [*] <;> omega) | omega) (by repeat' first | exact one_nil | exact one_b8 _ | exact one_v32 _ | exact one_all rfl | refine one_cons rfl ?_ | refine one_app ?_ ?_)) rfl ?_; intro w7 hS8; simp only [List.cons_append, List.nil_append] at hS8; refine wl_val (r_assign (v := .int .i64 4) rfl) rfl ?_; refine wl_nil ?_; refine c_then ?_; refine wp_ret ?_; refine c_inR ?_; refine c_thenR ?_; refine ret2 Try.results11 ⟨_, rfl, run_loadVar_blk ti26 rfl (hS8.heap (.head _)) (by first | (rw [List.length_map]; exact climb_len _ _ _ hleaf _) | simp)⟩ rfl ?_
    first | exact ⟨rb_res (rootByE_range (by omega)) (by decide), hS8.fin⟩ | exact ⟨rb_res (rootByE_none (by omega) (by omega) (by omega)) (by decide), hS8.fin⟩ | exact ⟨rb_res (rootByE_proof (by omega) (by omega) (by omega) (by omega)) (by decide), hS8.fin⟩ | exact ⟨rb_ok (by omega) (by omega) (by omega) (by omega) (climb_all (by omega) (by omega)), hS8.fin⟩
  refine wl_val (r_move (v := .bool _) rfl) rfl ?_; refine wl_val (r_field fa37_1 rfl) rfl ?_; refine wl_val (r_loadB1 ti3.und rfl rfl (hS6.heap (.tail _ (.head _))) rfl) rfl ?_
  refine wl_dec (r_gtr rfl rfl) rfl (fun h1_6 => ?_) (fun h1_6 => ?_)
  · refine wl_val (r_pick_f rfl (v := .bool _) rfl) rfl ?_
    refine wl_val (r_assign (v := .bool _) rfl) rfl ?_; refine wl_nil ?_; refine c_then ?_; refine c_true rfl ?_; refine c_seq ?_; refine c_region ?_; refine wl_val (r_build0 (cs := ((List.replicate 32 (0 : UInt8)).map b8)) ti26.und ti26 ti5) rfl ?_; refine wl_exs (x_storeW [] hS6 ti26 rfl rfl (by first | (simp [*]; done) | (simp [*] <;> omega) | omega) (by first | (simp [*]; done) | (simp [*] <;> omega) | omega) (by repeat' first | exact one_nil | exact one_b8 _ | exact one_v32 _ | exact one_all rfl | refine one_cons rfl ?_ | refine one_app ?_ ?_)) rfl ?_; intro w9 hS10; simp only [List.cons_append, List.nil_append] at hS10; refine wl_val (r_assign (v := .int .i64 4) rfl) rfl ?_; refine wl_nil ?_; refine c_then ?_; refine wp_ret ?_; refine c_inR ?_; refine c_thenR ?_; refine ret2 Try.results11 ⟨_, rfl, run_loadVar_blk ti26 rfl (hS10.heap (.head _)) (by first | (rw [List.length_map]; exact climb_len _ _ _ hleaf _) | simp)⟩ rfl ?_
    first | exact ⟨rb_res (rootByE_range (by omega)) (by decide), hS10.fin⟩ | exact ⟨rb_res (rootByE_none (by omega) (by omega) (by omega)) (by decide), hS10.fin⟩ | exact ⟨rb_res (rootByE_proof (by omega) (by omega) (by omega) (by omega)) (by decide), hS10.fin⟩ | exact ⟨rb_ok (by omega) (by omega) (by omega) (by omega) (climb_all (by omega) (by omega)), hS10.fin⟩
  refine wl_val (r_pick_f rfl (v := .bool _) rfl) rfl ?_; refine wl_val (r_assign (v := .bool _) rfl) rfl ?_; refine wl_nil ?_; refine c_then ?_; refine c_false rfl ?_; refine c_seq ?_; refine c_region ?_; refine wl_val (r_field fa37_0 rfl) rfl ?_; refine wl_val (r_loadB1 ti3.und rfl rfl (hS6.heap (.tail _ (.head _))) rfl) rfl ?_
  refine wl_dec (r_lss rfl rfl) rfl (fun h3_2 => ?_) (fun h3_2 => ?_)
  · refine wl_val (r_move (v := .bool _) rfl) rfl ?_
    refine wl_not rfl ?_; refine wl_not rfl ?_; refine wl_not rfl ?_; refine wl_not rfl ?_; refine wl_not rfl ?_; refine wl_val (r_pick_t rfl (v := .bool true) rfl) rfl ?_; refine wl_val (r_assign (v := .bool _) rfl) rfl ?_; refine wl_nil ?_; refine c_then ?_; refine c_true rfl ?_; refine c_seq ?_; refine c_region ?_; refine wl_val (r_build0 (cs := ((List.replicate 32 (0 : UInt8)).map b8)) ti26.und ti26 ti5) rfl ?_; refine wl_exs (x_storeW [] hS6 ti26 rfl rfl (by first | (simp [*]; done) | (simp [*] <;> omega) | omega) (by first | (simp [*]; done) | (simp [*] <;> omega) | omega) (by repeat' first | exact one_nil | exact one_b8 _ | exact one_v32 _ | exact one_all rfl | refine one_cons rfl ?_ | refine one_app ?_ ?_)) rfl ?_; intro w11 hS12; simp only [List.cons_append, List.nil_append] at hS12; refine wl_val (r_assign (v := .int .i64 7) rfl) rfl ?_; refine wl_nil ?_; refine c_then ?_; refine wp_ret ?_; refine c_inR ?_; refine c_thenR ?_; refine ret2 Try.results11 ⟨_, rfl, run_loadVar_blk ti26 rfl (hS12.heap (.head _)) (by first | (rw [List.length_map]; exact climb_len _ _ _ hleaf _) | simp)⟩ rfl ?_
    first | exact ⟨rb_res (rootByE_range (by omega)) (by decide), hS12.fin⟩ | exact ⟨rb_res (rootByE_none (by omega) (by omega) (by omega)) (by decide), hS12.fin⟩ | exact ⟨rb_res (rootByE_proof (by omega) (by omega) (by omega) (by omega)) (by decide), hS12.fin⟩ | exact ⟨rb_ok (by omega) (by omega) (by omega) (by omega) (climb_all (by omega) (by omega)), hS12.fin⟩
  refine wl_val (r_move (v := .bool _) rfl) rfl ?_; refine wl_val (r_field fa37_0 rfl) rfl ?_; refine wl_val (r_loadB1 ti3.und rfl rfl (hS6.heap (.tail _ (.head _))) rfl) rfl ?_; refine wl_val (r_field fa37_1 rfl) rfl ?_; refine wl_val (r_loadB1 ti3.und rfl rfl (hS6.heap (.tail _ (.head _))) rfl) rfl ?_
  refine wl_dec (r_geq rfl rfl) rfl (fun h3_8 => ?_) (fun h3_8 => ?_)
  · refine wl_val (r_pick_f rfl (v := .bool _) rfl) rfl ?_
    refine wl_val (r_assign (v := .bool _) rfl) rfl ?_; refine wl_nil ?_; refine c_then ?_; refine c_true rfl ?_; refine c_seq ?_; refine c_region ?_; refine wl_val (r_build0 (cs := ((List.replicate 32 (0 : UInt8)).map b8)) ti26.und ti26 ti5) rfl ?_; refine wl_exs (x_storeW [] hS6 ti26 rfl rfl (by first | (simp [*]; done) | (simp [*] <;> omega) | omega) (by first | (simp [*]; done) | (simp [*] <;> omega) | omega) (by repeat' first | exact one_nil | exact one_b8 _ | exact one_v32 _ | exact one_all rfl | refine one_cons rfl ?_ | refine one_app ?_ ?_)) rfl ?_; intro w13 hS14; simp only [List.cons_append, List.nil_append] at hS14; refine wl_val (r_assign (v := .int .i64 7) rfl) rfl ?_; refine wl_nil ?_; refine c_then ?_; refine wp_ret ?_; refine c_inR ?_; refine c_thenR ?_; refine ret2 Try.results11 ⟨_, rfl, run_loadVar_blk ti26 rfl (hS14.heap (.head _)) (by first | (rw [List.length_map]; exact climb_len _ _ _ hleaf _) | simp)⟩ rfl ?_
    first | exact ⟨rb_res (rootByE_range (by omega)) (by decide), hS14.fin⟩ | exact ⟨rb_res (rootByE_none (by omega) (by omega) (by omega)) (by decide), hS14.fin⟩ | exact ⟨rb_res (rootByE_proof (by omega) (by omega) (by omega) (by omega)) (by decide), hS14.fin⟩ | exact ⟨rb_ok (by omega) (by omega) (by omega) (by omega) (climb_all (by omega) (by omega)), hS14.fin⟩
  refine wl_val (r_pick_f rfl (v := .bool _) rfl) rfl ?_; refine wl_val (r_assign (v := .bool _) rfl) rfl ?_; refine wl_nil ?_; refine c_then ?_; refine c_false rfl ?_; refine wp_skip ?_; refine c_inN ?_; refine c_then ?_; refine c_seq ?_
  obtain ⟨sz', rfl⟩ : ∃ i : Nat, sz = (i : Int) := ⟨sz.toNat, (by omega)⟩
  obtain ⟨ix', rfl⟩ : ∃ i : Nat, ix = (i : Int) := ⟨ix.toNat, (by omega)⟩
  refine c_region ?_; refine wl_val (r_field fa37_0 rfl) rfl ?_; refine wl_val (r_loadB1 ti3.und rfl rfl (hS6.heap (.tail _ (.head _))) rfl) rfl ?_; refine wl_val (r_field fa37_1 rfl) rfl ?_; refine wl_val (r_loadB1 ti3.und rfl rfl (hS6.heap (.tail _ (.head _))) rfl) rfl ?_; refine wl_call (r_call fn20 rfl rfl) rfl (sides_ok sz' ix' _ (by omega) (by omega) (by omega)) ?_; rintro _ w15 ⟨a35, c35, rfl, hc35, hx16⟩
  have hS17 := hS6.call hx16
  simp only [List.cons_append, List.nil_append] at hS17; refine wl_val (r_assign (v := .slice _ _ _) rfl) rfl ?_; refine wl_nil ?_; refine c_then ?_; refine c_seq ?_; refine c_seq ?_; refine c_region ?_; refine wl_val (r_move (v := .slice _ _ _) rfl) rfl ?_; refine wl_val (r_len (T := 58) rfl ti58.und rfl _ rfl) rfl ?_; refine wl_val (r_field fa37_2 rfl) rfl ?_; refine wl_val (r_loadB1 ti35.und rfl rfl (hS17.heap (.tail _ (.tail _ (.head _)))) rfl) rfl ?_; refine wl_val (r_len (T := 35) rfl ti35.und rfl _ rfl) rfl ?_
  refine wl_dec (r_neq rfl rfl) rfl (fun h6_5 => ?_) (fun h6_5 => ?_)
  · refine wl_nil ?_
    refine c_then ?_; refine c_true rfl ?_; refine c_seq ?_; refine c_region ?_; refine wl_val (r_build0 (cs := ((List.replicate 32 (0 : UInt8)).map b8)) ti26.und ti26 ti5) rfl ?_; refine wl_exs (x_storeW [_] hS17 ti26 rfl rfl (by first | (simp [*]; done) | (simp [*] <;> omega) | omega) (by first | (simp [*]; done) | (simp [*] <;> omega) | omega) (by repeat' first | exact one_nil | exact one_b8 _ | exact one_v32 _ | exact one_all rfl | refine one_cons rfl ?_ | refine one_app ?_ ?_)) rfl ?_; intro w18 hS19; simp only [List.cons_append, List.nil_append] at hS19; refine wl_val (r_assign (v := .int .i64 12) rfl) rfl ?_; refine wl_nil ?_; refine c_then ?_; refine wp_ret ?_; refine c_thenR ?_; refine ret2 Try.results11 ⟨_, rfl, run_loadVar_blk ti26 rfl (hS19.heap (.tail _ (.head _))) (by first | (rw [List.length_map]; exact climb_len _ _ _ hleaf _) | simp)⟩ rfl ?_
    first | exact ⟨rb_res (rootByE_range (by omega)) (by decide), hS19.fin⟩ | exact ⟨rb_res (rootByE_none (by omega) (by omega) (by omega)) (by decide), hS19.fin⟩ | exact ⟨rb_res (rootByE_proof (by omega) (by omega) (by omega) (by omega)) (by decide), hS19.fin⟩ | exact ⟨rb_ok (by omega) (by omega) (by omega) (by omega) (climb_all (by omega) (by omega)), hS19.fin⟩
  refine wl_nil ?_; refine c_then ?_; refine c_false rfl ?_; refine wp_skip ?_; refine c_then ?_; refine c_seq ?_; refine c_seq ?_; refine c_region ?_; refine wl_val (r_move (v := .slice _ _ _) rfl) rfl ?_; refine wl_val (r_len (T := 58) rfl ti58.und rfl _ rfl) rfl ?_; refine wl_val (r_move (v := .int .i64 0) rfl) rfl ?_; refine wl_nil ?_; refine c_then ?_; refine c_block ?_
  obtain ⟨LT20, hLT20, hS21⟩ := St.frame [_] [_, _, _] (hS17.perm ((List.Perm.cons _ (List.Perm.refl _)).trans (List.perm_middle (l₁ := [_, _, _])).symm))
  simp only [List.cons_append, List.nil_append] at hS21
  have hm20_r35 := inL hLT20 (.head _)
  have hm20_b4 := inL hLT20 (.tail _ (.head _))
  have hm20_b3 := inL hLT20 (.tail _ (.tail _ (.head _)))
  refine c_loopE [2, 3, 4, 5, 43, 44] (fun d e w' => ∃ (k : Nat), Kw.look e 45 = vi k ∧ d = stepsL ix' sz' - k ∧ St w [] w' (.blk b2 (cl ((climb leaf (sidesL ix' sz') pl k).map b8) 26) :: LT20) ∧ (k ≤ stepsL ix' sz')) (stepsL ix' sz' - 0) ?_ ?_
  · exact ⟨0, rfl, rfl, hS21, Nat.zero_le _⟩
  · rintro d25 e22 w23 ⟨k, hc0_45, rfl, hS24, hk⟩ -
    refine c_set (d := 45) hc0_45 ?_; refine c_seq ?_; refine c_region ?_
    refine wl_dec (r_lss rfl rfl) rfl (fun h9_0 => ?_) (fun h9_0 => ?_)
    · refine wl_nil ?_
      refine c_then ?_; refine c_seq ?_; refine c_true rfl ?_; refine wp_skip ?_; refine c_then ?_; refine c_seq ?_; refine c_block ?_; refine c_seq ?_; refine c_region ?_; refine wl_val (r_move (v := .int .i64 _) rfl) rfl ?_; refine wl_val (r_ixS ti58.und ti4 rfl rfl (St.rowAt hS24 (.tail _ hm20_r35)) (by omega) (by rw [List.length_map, sides_steps _ _ _ (Nat.le_refl _)]; omega)) rfl ?_; refine wl_val (r_loadS1 ti4.und rfl rfl (St.rowAt hS24 (.tail _ hm20_r35)) (by rw [Nat.mul_one]; exact map_gt _ _ _ (by rw [sides_steps _ _ _ (Nat.le_refl _)]; omega))) rfl ?_; refine wl_val (r_assign (v := .int .i64 _) rfl) rfl ?_; refine wl_val (r_assign (v := .bool _) rfl) rfl ?_; refine wl_nil ?_; refine c_then ?_; refine c_seq ?_
      rcases bool_cases (gt (sidesL ix' sz') k) with hq | hq
      · refine c_set (d := 8) (v := .bool true) (congrArg Value.bool hq) ?_
        refine c_region ?_; refine wl_val (r_move (v := .bool _) rfl) rfl ?_; refine wl_nil ?_; refine c_then ?_; refine c_true rfl ?_; refine c_drawS 6 hMixed hS24 ?_; intro w26 hS27; refine g_take 0 rfl (by decide +kernel) rfl (fun _ _ _ h => h) hS27 (fun wF hF => r_field fa37_2 rfl) ?_; refine g_take 1 rfl (by decide +kernel) rfl (fun _ _ _ h => h) hS27 (fun wF hF => r_loadB1 ti35.und rfl rfl (hF.heap (.tail _ hm20_b3)) rfl) ?_; refine g_take 2 rfl (by decide +kernel) rfl (fun _ _ _ h => h) hS27 (fun wF hF => r_move (v := .int .i64 _) rfl) ?_; refine g_take 3 rfl (by decide +kernel) rfl (fun _ _ _ h => h) hS27 (fun wF hF => r_ix32 ti35.und ti26 rfl rfl (hp.st hF) h32 (by first | (simp [*]; done) | (simp [*] <;> omega) | omega) (by first | omega | (simp [*]; done) | (simp [*] <;> omega))) ?_; refine g_take 4 rfl (by decide +kernel) rfl (fun _ _ _ h => h) hS27 (fun wF hF => r_load32 ti26 rfl rfl (hp.st hF) h32 (by first | omega | (simp [*]; done) | (simp [*] <;> omega))) ?_; refine g_take 5 rfl (by decide +kernel) rfl (fun _ _ _ h => h) hS27 (fun wF hF => r_loadB ti26 rfl rfl (hF.heap (.head _)) (by rw [List.length_map]; exact climb_len _ _ _ hleaf _)) ?_; refine g_tail (by decide +kernel) rfl (by decide +kernel) ?_; refine wl_call (r_call fn21 rfl rfl) rfl (rnode_ok _ _ _ (h32.gt (by omega)) (climb_len _ _ _ hleaf _)) ?_; rintro _ w28 ⟨rfl, hx29⟩
        have hS30 := hS27.ext hx29
        refine wl_exs (x_storeW [] hS30 ti26 rfl rfl (by simp) (by rw [List.length_map]; exact climb_len _ _ _ hleaf _) (one_b8 _)) rfl ?_; intro w31 hS32; simp only [List.cons_append, List.nil_append] at hS32; refine wl_nil ?_; refine c_inN ?_; refine c_then ?_; refine c_region ?_; refine wl_val (r_addn (b := 1) rfl rfl (by omega)) rfl ?_; refine wl_val (r_move (v := .int .i64 _) rfl) rfl ?_; refine wl_nil ?_; refine c_then ?_
        have ec : climb leaf (sidesL ix' sz') pl (k + 1) = nodeL (gt pl k) (climb leaf (sidesL ix' sz') pl k) := by rw [climb, if_pos hq]
        rw [← ec] at hS32
        exact ⟨stepsL ix' sz' - (k + 1), _, by omega, rfl, ⟨k + 1, rfl, rfl, hS32, by omega⟩, ⟨rfl, rfl, rfl, rfl, rfl, rfl, trivial⟩⟩
      refine c_set (d := 8) (v := .bool false) (congrArg Value.bool hq) ?_; refine c_region ?_; refine wl_val (r_move (v := .bool _) rfl) rfl ?_; refine wl_nil ?_; refine c_then ?_; refine c_false rfl ?_; refine c_drawS 6 hMixed hS24 ?_; intro w33 hS34; refine g_take 0 rfl (by decide +kernel) rfl (fun _ _ _ h => h) hS34 (fun wF hF => r_loadB ti26 rfl rfl (hF.heap (.head _)) (by rw [List.length_map]; exact climb_len _ _ _ hleaf _)) ?_; refine g_take 1 rfl (by decide +kernel) rfl (fun _ _ _ h => h) hS34 (fun wF hF => r_field fa37_2 rfl) ?_; refine g_take 2 rfl (by decide +kernel) rfl (fun _ _ _ h => h) hS34 (fun wF hF => r_loadB1 ti35.und rfl rfl (hF.heap (.tail _ hm20_b3)) rfl) ?_; refine g_take 3 rfl (by decide +kernel) rfl (fun _ _ _ h => h) hS34 (fun wF hF => r_move (v := .int .i64 _) rfl) ?_; refine g_take 4 rfl (by decide +kernel) rfl (fun _ _ _ h => h) hS34 (fun wF hF => r_ix32 ti35.und ti26 rfl rfl (hp.st hF) h32 (by first | (simp [*]; done) | (simp [*] <;> omega) | omega) (by first | omega | (simp [*]; done) | (simp [*] <;> omega))) ?_; refine g_take 5 rfl (by decide +kernel) rfl (fun _ _ _ h => h) hS34 (fun wF hF => r_load32 ti26 rfl rfl (hp.st hF) h32 (by first | omega | (simp [*]; done) | (simp [*] <;> omega))) ?_; refine g_tail (by decide +kernel) rfl (by decide +kernel) ?_; refine wl_call (r_call fn21 rfl rfl) rfl (rnode_ok _ _ _ (climb_len _ _ _ hleaf _) (h32.gt (by omega))) ?_; rintro _ w35 ⟨rfl, hx36⟩
      have hS37 := hS34.ext hx36
      refine wl_exs (x_storeW [] hS37 ti26 rfl rfl (by simp) (by rw [List.length_map]; exact climb_len _ _ _ hleaf _) (one_b8 _)) rfl ?_; intro w38 hS39; simp only [List.cons_append, List.nil_append] at hS39; refine wl_nil ?_; refine c_inN ?_; refine c_then ?_; refine c_region ?_; refine wl_val (r_addn (b := 1) rfl rfl (by omega)) rfl ?_; refine wl_val (r_move (v := .int .i64 _) rfl) rfl ?_; refine wl_nil ?_; refine c_then ?_
      have ec : climb leaf (sidesL ix' sz') pl (k + 1) = nodeL (climb leaf (sidesL ix' sz') pl k) (gt pl k) := by rw [climb, if_neg (by rw [hq]; decide)]
      rw [← ec] at hS39
      exact ⟨stepsL ix' sz' - (k + 1), _, by omega, rfl, ⟨k + 1, rfl, rfl, hS39, by omega⟩, ⟨rfl, rfl, rfl, rfl, rfl, rfl, trivial⟩⟩
    refine wl_nil ?_; refine c_then ?_; refine c_seq ?_; refine c_false rfl ?_; refine wp_exit ?_; refine c_thenE ?_; refine c_thenE ?_; refine c_inE ?_; refine c_then ?_; refine c_seq ?_; refine c_region ?_; refine wl_val (r_loadB ti26 rfl rfl (hS24.heap (.head _)) (by rw [List.length_map]; exact climb_len _ _ _ hleaf _)) rfl ?_
    subst hLT20
    refine wl_exs (x_storeW [_, _] hS24 ti26 rfl rfl (by rw [List.length_map]; exact climb_len _ _ _ hleaf _) (by simp) (one_b8 _)) rfl ?_; intro w40 hS41; simp only [List.cons_append, List.nil_append] at hS41; refine wl_val (r_assign (v := .int .i64 0) rfl) rfl ?_; refine wl_nil ?_; refine c_then ?_; refine wp_ret ?_; refine ret2 Try.results11 ⟨_, rfl, run_loadVar_blk ti26 rfl (hS41.heap (.tail _ (.tail _ (.head _)))) (by first | (rw [List.length_map]; exact climb_len _ _ _ hleaf _) | simp)⟩ rfl ?_
    first | exact ⟨rb_res (rootByE_range (by omega)) (by decide), hS41.fin⟩ | exact ⟨rb_res (rootByE_none (by omega) (by omega) (by omega)) (by decide), hS41.fin⟩ | exact ⟨rb_res (rootByE_proof (by omega) (by omega) (by omega) (by omega)) (by decide), hS41.fin⟩ | exact ⟨rb_ok (by omega) (by omega) (by omega) (by omega) (climb_all (by omega) (by omega)), hS41.fin⟩

theorem proved_ok (root : List UInt8) (hroot : root.length = 32) (leaf : List UInt8) (ix sz : Int) (pa : Option Addr) (pc : Nat) (pl : List (List UInt8)) (w : World) (hleaf : leaf.length = 32) (hp : Row w pa (pl.flatten.map b8)) (h32 : S32 pl) (hpc : pl.length ≤ pc) (hpm : pl.length ≤ 4398046511104) (hi1 : -9223372036854775808 ≤ ix) (hi2 : ix ≤ 9223372036854775807) (hs1 : -9223372036854775808 ≤ sz) (hs2 : sz ≤ 9223372036854775807) :
    Ret Try.prog 24 [.agg (root.map b8).toArray, .agg (leaf.map b8).toArray, .agg #[.int .i64 ix, .int .i64 sz, .slice pa pl.length pc]] w (fun v w' => v = .int .i64 (provedE root leaf ix sz pl) ∧ St w [] w' []) := by
  refine enter Try.func24 rfl Try.ntmps24 rfl ?_
  have hS := St.refl w []
  refine c_seq ?_; refine c_region ?_; refine wl_exv (x_box hS (v := .agg _) rfl rfl) rfl ?_; rintro _ w1 ⟨b3, rfl, hS2⟩; refine wl_exv (x_box hS2 (v := .agg _) rfl rfl) rfl ?_; rintro _ w3 ⟨b4, rfl, hS4⟩; refine wl_exv (x_box hS4 (v := .agg _) rfl rfl) rfl ?_; rintro _ w5 ⟨b5, rfl, hS6⟩; refine wl_val (r_assign (v := .int .i64 0) rfl) rfl ?_; refine wl_nil ?_; refine c_then ?_; refine c_seq ?_; refine c_region ?_; refine wl_val (r_loadB ti26 rfl rfl (hS6.heap (.tail _ (.head _))) (by first | (simp [*]; done) | (simp [*] <;> omega) | omega)) rfl ?_; refine wl_val (r_loadB ti37 ag37 rfl (hS6.heap (.head _)) (by first | (simp [*]; done) | (simp [*] <;> omega) | omega)) rfl ?_; refine wl_call (r_call fn33 rfl rfl) rfl (rootBy_ok leaf ix sz pa pc pl _ hleaf (hp.st hS6) h32 hpc hpm hi1 hi2 hs1 hs2) ?_; rintro _ w7 ⟨rfl, hx8⟩
  have hS9 := hS6.ext hx8
  refine wl_val (r_move (v := .tuple _) rfl) rfl ?_; refine wl_val (r_extract (v := .agg _) rfl rfl) rfl ?_; refine wl_val (r_extract (v := .int .i64 _) rfl rfl) rfl ?_; refine wl_exv (x_alloc (C := ((List.replicate 32 (0 : UInt8)).map b8)) hS9 ti26 rfl) rfl ?_; rintro _ w10 ⟨b7, rfl, hS11⟩; refine wl_exs (x_storeW [] hS11 ti26 rfl rfl (by rw [List.length_map]; exact rootByL_len _ _ _ _ hleaf) (by simp) (one_b8 _)) rfl ?_; intro w12 hS13; simp only [List.cons_append, List.nil_append] at hS13; refine wl_val (r_assign (v := .int .i64 _) rfl) rfl ?_; refine wl_nil ?_; refine c_then ?_; refine c_seq ?_; refine c_seq ?_; refine c_region ?_; refine wl_val (r_move (v := .int .i64 _) rfl) rfl ?_
  refine wl_dec (r_eql rfl rfl) rfl (fun h2_1 => ?_) (fun h2_1 => ?_)
  · refine wl_val (r_move (v := .bool _) rfl) rfl ?_
    refine wl_val (r_loadB ti26 rfl rfl (hS13.heap (.head _)) (by rw [List.length_map]; exact rootByL_len _ _ _ _ hleaf)) rfl ?_; refine wl_val (r_loadB ti26 rfl rfl (hS13.heap (.tail _ (.tail _ (.tail _ (.head _))))) (by first | (simp [*]; done) | (simp [*] <;> omega) | omega)) rfl ?_
    refine wl_dec (r_neqA (u := undef) eg26 rfl rfl (eqIs_b8 ti26.und ti5 _ _ (rootByL_len _ _ _ _ hleaf) hroot)) rfl (fun h2_5 => ?_) (fun h2_5 => ?_)
    · refine wl_val (r_pick_t rfl (v := .bool _) rfl) rfl ?_
      refine wl_nil ?_; refine c_then ?_; refine c_true rfl ?_; refine c_seq ?_; refine c_region ?_; refine wl_val (r_assign (v := .int .i64 12) rfl) rfl ?_; refine wl_nil ?_; refine c_then ?_; refine wp_ret ?_; refine c_thenR ?_; refine ret1 Try.results24 ?_
      exact ⟨congrArg (Value.int .i64) ((provedE_bad h2_1 h2_5).symm), hS13.fin⟩
    refine wl_val (r_pick_t rfl (v := .bool _) rfl) rfl ?_; refine wl_nil ?_; refine c_then ?_; refine c_false rfl ?_; refine wp_skip ?_; refine c_then ?_; refine c_seq ?_; refine c_region ?_; refine wl_val (r_move (v := .int .i64 _) rfl) rfl ?_; refine wl_val (r_assign (v := .int .i64 _) rfl) rfl ?_; refine wl_nil ?_; refine c_then ?_; refine wp_ret ?_; refine ret1 Try.results24 ?_
    exact ⟨congrArg (Value.int .i64) ((provedE_ok h2_5).symm), hS13.fin⟩
  refine wl_val (r_move (v := .bool _) rfl) rfl ?_; refine wl_not rfl ?_; refine wl_not rfl ?_; refine wl_not rfl ?_; refine wl_val (r_pick_f rfl (v := .bool false) rfl) rfl ?_; refine wl_nil ?_; refine c_then ?_; refine c_false rfl ?_; refine wp_skip ?_; refine c_then ?_; refine c_seq ?_; refine c_region ?_; refine wl_val (r_move (v := .int .i64 _) rfl) rfl ?_; refine wl_val (r_assign (v := .int .i64 _) rfl) rfl ?_; refine wl_nil ?_; refine c_then ?_; refine wp_ret ?_; refine ret1 Try.results24 ?_
  exact ⟨congrArg (Value.int .i64) ((provedE_no h2_1).symm), hS13.fin⟩

end Go.Proofs.Ytflfocmfdlmjiaa
end
section
namespace Go.Proofs.Ytflfocmfdlmjiaa
open Go.Kw
set_option linter.unusedVariables false
set_option linter.unusedSimpArgs false
set_option maxRecDepth 100000
theorem path_step (N : Nat) (IH : ∀ (l : List (List UInt8)) (i : Nat) (a : Option Addr) (n c : Nat) (w : World), n < N → Row w a (l.flatten.map b8) → S32 l → l.length = n → i < n → n ≤ c → n ≤ 4398046511104 → Ret Try.prog 29 [.slice a n c, vi i] w (fun v w' => ∃ a' c', v = .slice a' (stepsL i n) c' ∧ stepsL i n ≤ c' ∧ St w [] w' [.row (.slice a' (stepsL i n) c') 26 32 (stepsL i n) ((pathL l i).flatten.map b8)])) (l : List (List UInt8)) (i : Nat) (a : Option Addr) (n c : Nat) (w : World) (hN : n = N) (hb : Row w a (l.flatten.map b8)) (h32 : S32 l) (hl : l.length = n) (hi : i < n) (hc : n ≤ c) (hm : n ≤ 4398046511104) :
    Ret Try.prog 29 [.slice a n c, vi i] w (fun v w' => ∃ a' c', v = .slice a' (stepsL i n) c' ∧ stepsL i n ≤ c' ∧ St w [] w' [.row (.slice a' (stepsL i n) c') 26 32 (stepsL i n) ((pathL l i).flatten.map b8)]) := by
  refine enter Try.func29 rfl Try.ntmps29 rfl ?_
  have hS := St.refl w []
  refine c_seq ?_; refine c_region ?_; refine wl_val (r_assign (v := .slice none 0 0) rfl) rfl ?_; refine wl_nil ?_; refine c_then ?_; refine c_seq ?_; refine c_seq ?_; refine c_region ?_; refine wl_val (r_move (v := .slice _ _ _) rfl) rfl ?_; refine wl_val (r_len (T := 35) rfl ti35.und rfl _ rfl) rfl ?_
  refine wl_dec (r_eql rfl rfl) rfl (fun h1_2 => ?_) (fun h1_2 => ?_)
  · refine wl_nil ?_
    refine c_then ?_; refine c_true rfl ?_; refine c_seq ?_; refine c_region ?_; refine wl_val (r_assign (v := .slice none 0 0) rfl) rfl ?_; refine wl_nil ?_; refine c_then ?_; refine wp_ret ?_; refine c_thenR ?_; refine ret1 Try.results29 ?_
    obtain rfl : n = 1 := by omega
    rw [stepsL_one, pathL_one _ hl]
    exact ⟨none, 0, rfl, Nat.zero_le _, hS.nilRow⟩
  refine wl_nil ?_; refine c_then ?_; refine c_false rfl ?_; refine wp_skip ?_; refine c_then ?_; refine c_seq ?_; refine c_region ?_; refine wl_val (r_move (v := .slice _ _ _) rfl) rfl ?_; refine wl_val (r_len (T := 35) rfl ti35.und rfl _ rfl) rfl ?_; refine wl_call (r_call fn36 rfl rfl) rfl (split_ok _ _ (by first | omega | (simp [*]; done) | (simp [*] <;> omega)) (by first | omega | (simp [*]; done) | (simp [*] <;> omega))) ?_; rintro _ w1 ⟨rfl, hx2⟩
  have hS3 := hS.ext hx2
  refine wl_val (r_assign (v := .int .i64 _) rfl) rfl ?_; refine wl_nil ?_; refine c_then ?_; refine c_seq ?_; refine c_seq ?_
  have hlt := halfN_lt (n := n) (by omega)
  have hpo := halfN_pos n
  refine c_region ?_; refine wl_val (r_move (v := .int .i64 _) rfl) rfl ?_; refine wl_val (r_move (v := .int .i64 _) rfl) rfl ?_
  refine wl_dec (r_lss rfl rfl) rfl (fun h4_2 => ?_) (fun h4_2 => ?_)
  · refine wl_nil ?_
    refine c_then ?_; refine c_true rfl ?_; refine c_seq ?_
    have hsl := steps_le _ i (halfN n) (Nat.le_refl _)
    have ht : Row w a ((l.take (halfN n)).flatten.map b8) := hb.take32 h32 _
    have hd : Row w (sub a c (halfN n) 32) ((l.drop (halfN n)).flatten.map b8) := hb.from32 h32 (by omega) (halfN n)
    refine c_drawS 8 hMixed hS3 ?_; intro w4 hS5; refine g_take 0 rfl (by decide +kernel) rfl (fun _ _ _ h => h) hS5 (fun wF hF => r_move (v := .slice _ _ _) rfl) ?_; refine g_take 1 rfl (by decide +kernel) rfl (fun _ _ _ h => h) hS5 (fun wF hF => r_move (v := .int .i64 _) rfl) ?_; refine g_take 2 rfl (by decide +kernel) rfl (fun _ _ _ h => h) hS5 (fun wF hF => r_sl_h ti35.und ti26 rfl rfl (by omega)) ?_; refine g_take 3 rfl (by decide +kernel) rfl (fun _ _ _ h => h) hS5 (fun wF hF => r_move (v := .int .i64 _) rfl) ?_; refine g_take 5 rfl (by decide +kernel) rfl (fun _ _ _ h => h) hS5 (fun wF hF => r_move (v := .slice _ _ _) rfl) ?_; refine g_take 6 rfl (by decide +kernel) rfl (fun _ _ _ h => h) hS5 (fun wF hF => r_move (v := .int .i64 _) rfl) ?_; refine g_take 7 rfl (by decide +kernel) rfl (fun _ _ _ h => h) hS5 (fun wF hF => r_sl_l ti35.und ti26 rfl rfl (by omega)) ?_; refine g_one 4 (by decide +kernel) (by decide +kernel) ?_; refine o_call rfl (r_call fn29 rfl rfl) rfl (IH (l.take (halfN n)) (i) _ _ _ _ (by omega) (ht.st hS5) (h32.take _) (by simp; omega) (by omega) (by omega) (by omega)) ?_; rintro _ w6 ⟨a19, c19, rfl, hc19, hx7⟩
    have hS8 := hS5.call hx7
    simp only [List.cons_append, List.nil_append] at hS8
    refine ⟨hS8.drop1, ?_⟩
    refine g_tail (by decide +kernel) rfl (by decide +kernel) ?_; refine wl_call (r_call fn28 rfl rfl) rfl (rootOf_ok _ (l.drop (halfN n)) _ _ _ (hd.st hS8) (h32.drop _) (by simp; omega) (by omega) (by omega) (by omega)) ?_; rintro _ w9 ⟨rfl, hx10⟩
    have hS11 := hS8.ext hx10
    refine wl_exv (x_litA1 hS11 ti35.und ti26 rfl (by rw [List.length_map]; exact rootL_len _ (h32.drop _) (by simp; omega)) rfl (by decide) (by decide)) rfl ?_; rintro _ w12 ⟨b24, rfl, hS13⟩; refine wl_exv (x_append [_] hS13 ti35.und ti26 rfl (by decide) rfl rfl (Row.of_at (at_all (hS13.heap (.head _)))) (by rw [List.length_map]; exact rootL_len _ (h32.drop _) (by simp; omega)) (by first | exact one_b8 _ | exact one_v32 _ | (intro c hc; simp only [List.mem_cons, List.not_mem_nil, or_false] at hc; (first | subst hc | rcases hc with rfl | rfl) <;> rfl)) (by first | omega | (simp [*]; done) | (simp [*] <;> omega)) (by first | omega | (simp [*]; done) | (simp [*] <;> omega)) _ rfl) rfl ?_; rintro _ w14 ⟨aq16, cq16, rfl, hcq16, hS15⟩; simp only [List.cons_append, List.nil_append] at hS15; refine wl_val (r_assign (v := .slice _ _ _) rfl) rfl ?_; refine wl_nil ?_; refine c_then ?_; refine wp_ret ?_; refine c_thenR ?_; refine ret1 Try.results29 ?_
    rw [stepsL_lo (i := i) (n := n) (by omega) (by omega), pathL_lo (i := i) hl (by omega) (by omega), flat_snoc, List.map_append]
    exact ⟨_, _, rfl, hcq16, hS15.drop1⟩
  refine wl_nil ?_; refine c_then ?_; refine c_false rfl ?_; refine wp_skip ?_; refine c_then ?_; refine c_seq ?_
  have hsl := steps_le _ (i - halfN n) (n - halfN n) (Nat.le_refl _)
  have ht : Row w a ((l.take (halfN n)).flatten.map b8) := hb.take32 h32 _
  have hd : Row w (sub a c (halfN n) 32) ((l.drop (halfN n)).flatten.map b8) := hb.from32 h32 (by omega) (halfN n)
  refine c_drawS 10 hMixed hS3 ?_; intro w17 hS18; refine g_take 0 rfl (by decide +kernel) rfl (fun _ _ _ h => h) hS18 (fun wF hF => r_move (v := .slice _ _ _) rfl) ?_; refine g_take 1 rfl (by decide +kernel) rfl (fun _ _ _ h => h) hS18 (fun wF hF => r_move (v := .int .i64 _) rfl) ?_; refine g_take 2 rfl (by decide +kernel) rfl (fun _ _ _ h => h) hS18 (fun wF hF => r_sl_l ti35.und ti26 rfl rfl (by omega)) ?_; refine g_take 3 rfl (by decide +kernel) rfl (fun _ _ _ h => h) hS18 (fun wF hF => r_move (v := .int .i64 _) rfl) ?_; refine g_take 4 rfl (by decide +kernel) rfl (fun _ _ _ h => h) hS18 (fun wF hF => r_move (v := .int .i64 _) rfl) ?_; refine g_take 5 rfl (by decide +kernel) rfl (fun _ _ _ h => h) hS18 (fun wF hF => r_subn rfl rfl (by omega) (by omega)) ?_; refine g_take 7 rfl (by decide +kernel) rfl (fun _ _ _ h => h) hS18 (fun wF hF => r_move (v := .slice _ _ _) rfl) ?_; refine g_take 8 rfl (by decide +kernel) rfl (fun _ _ _ h => h) hS18 (fun wF hF => r_move (v := .int .i64 _) rfl) ?_; refine g_take 9 rfl (by decide +kernel) rfl (fun _ _ _ h => h) hS18 (fun wF hF => r_sl_h ti35.und ti26 rfl rfl (by omega)) ?_; refine g_one 6 (by decide +kernel) (by decide +kernel) ?_; refine o_call rfl (r_call fn29 rfl rfl) rfl (IH (l.drop (halfN n)) (i - halfN n) _ _ _ _ (by omega) (hd.st hS18) (h32.drop _) (by simp; omega) (by omega) (by omega) (by omega)) ?_; rintro _ w19 ⟨a32, c32, rfl, hc32, hx20⟩
  have hS21 := hS18.call hx20
  simp only [List.cons_append, List.nil_append] at hS21
  refine ⟨hS21.drop1, ?_⟩
  refine g_tail (by decide +kernel) rfl (by decide +kernel) ?_; refine wl_call (r_call fn28 rfl rfl) rfl (rootOf_ok _ (l.take (halfN n)) _ _ _ (ht.st hS21) (h32.take _) (by simp; omega) (by omega) (by omega) (by omega)) ?_; rintro _ w22 ⟨rfl, hx23⟩
  have hS24 := hS21.ext hx23
  refine wl_exv (x_litA1 hS24 ti35.und ti26 rfl (by rw [List.length_map]; exact rootL_len _ (h32.take _) (by simp; omega)) rfl (by decide) (by decide)) rfl ?_; rintro _ w25 ⟨b37, rfl, hS26⟩; refine wl_exv (x_append [_] hS26 ti35.und ti26 rfl (by decide) rfl rfl (Row.of_at (at_all (hS26.heap (.head _)))) (by rw [List.length_map]; exact rootL_len _ (h32.take _) (by simp; omega)) (by first | exact one_b8 _ | exact one_v32 _ | (intro c hc; simp only [List.mem_cons, List.not_mem_nil, or_false] at hc; (first | subst hc | rcases hc with rfl | rfl) <;> rfl)) (by first | omega | (simp [*]; done) | (simp [*] <;> omega)) (by first | omega | (simp [*]; done) | (simp [*] <;> omega)) _ rfl) rfl ?_; rintro _ w27 ⟨aq29, cq29, rfl, hcq29, hS28⟩; simp only [List.cons_append, List.nil_append] at hS28; refine wl_val (r_assign (v := .slice _ _ _) rfl) rfl ?_; refine wl_nil ?_; refine c_then ?_; refine wp_ret ?_; refine ret1 Try.results29 ?_
  rw [stepsL_hi (i := i) (n := n) (by omega) (by omega), pathL_hi (i := i) hl (by omega) (by omega), flat_snoc, List.map_append]
  exact ⟨_, _, rfl, hcq29, hS28.drop1⟩

theorem path_ok : ∀ (n : Nat) (l : List (List UInt8)) (i : Nat) (a : Option Addr) (c : Nat) (w : World) (hb : Row w a (l.flatten.map b8)) (h32 : S32 l) (hl : l.length = n) (hi : i < n) (hc : n ≤ c) (hm : n ≤ 4398046511104), Ret Try.prog 29 [.slice a n c, vi i] w (fun v w' => ∃ a' c', v = .slice a' (stepsL i n) c' ∧ stepsL i n ≤ c' ∧ St w [] w' [.row (.slice a' (stepsL i n) c') 26 32 (stepsL i n) ((pathL l i).flatten.map b8)]) := by
  intro n
  induction n using Nat.strongRecOn with
  | _ n ih => exact fun l i a c w h1 h2 h3 h4 h5 h6 => path_step n (fun l i a m c w hlt h1 h2 h3 h4 h5 h6 => ih m hlt l i a c w h1 h2 h3 h4 h5 h6) l i a n c w rfl h1 h2 h3 h4 h5 h6

end Go.Proofs.Ytflfocmfdlmjiaa
end
section
namespace Go.Proofs.Ytflfocmfdlmjiaa
open Go.Kw
set_option linter.unusedVariables false
set_option linter.unusedSimpArgs false
set_option maxRecDepth 100000
theorem prove_ok (l : List (List UInt8)) (a : Option Addr) (n c : Nat) (ix : Int) (w : World) (hb : Row w a (l.flatten.map b8)) (h32 : S32 l) (hl : l.length = n) (hc : n ≤ c) (hi1 : -9223372036854775808 ≤ ix) (hi2 : ix ≤ 9223372036854775807) :
    Ret Try.prog 18 [.slice a n c, .int .i64 ix] w (fun v w' => (n = 0 ∧ v = .tuple #[.agg #[.int .i64 0, .int .i64 0, .slice none 0 0], vi 10] ∧ St w [] w' []) ∨ (65536 < n ∧ v = .tuple #[.agg #[.int .i64 0, .int .i64 0, .slice none 0 0], vi 5] ∧ St w [] w' []) ∨ ((0 < n ∧ n ≤ 65536 ∧ (ix < 0 ∨ n ≤ ix)) ∧ v = .tuple #[.agg #[.int .i64 0, .int .i64 0, .slice none 0 0], vi 7] ∧ St w [] w' []) ∨ ((0 < n ∧ n ≤ 65536 ∧ ¬ (ix < 0 ∨ n ≤ ix)) ∧ ∃ a' c', v = .tuple #[.agg #[.int .i64 ix, vi n, .slice a' (stepsL ix.toNat n) c'], vi 0] ∧ stepsL ix.toNat n ≤ c' ∧ St w [] w' [.row (.slice a' (stepsL ix.toNat n) c') 26 32 (stepsL ix.toNat n) ((pathL l ix.toNat).flatten.map b8)])) := by
  refine enter Try.func18 rfl Try.ntmps18 rfl ?_
  have hS := St.refl w []
  refine c_seq ?_; refine c_region ?_; refine wl_exv (x_alloc (C := [.int .i64 0, .int .i64 0, .slice none 0 0]) hS ti37 rfl) rfl ?_; rintro _ w1 ⟨b4, rfl, hS2⟩; refine wl_val (r_assign (v := .int .i64 0) rfl) rfl ?_; refine wl_nil ?_; refine c_then ?_; refine c_seq ?_; refine c_seq ?_; refine c_region ?_; refine wl_val (r_move (v := .slice _ _ _) rfl) rfl ?_; refine wl_call (r_call fn27 rfl rfl) rfl (listFault_ok _ _ _ _) ?_
  rintro _ w3 (⟨hlf, rfl, hx4⟩ | ⟨hlf, rfl, hx4⟩ | ⟨hlf, rfl, hx4⟩)
  · have hS5 := hS2.ext hx4
    refine wl_val (r_assign (v := .int .i64 _) rfl) rfl ?_; refine wl_nil ?_; refine c_then ?_; refine c_seq ?_; refine c_region ?_; refine wl_val (r_move (v := .int .i64 _) rfl) rfl ?_; refine wl_dec_t (r_neq rfl rfl) rfl (by decide) ?_; refine wl_nil ?_; refine c_then ?_; refine c_true rfl ?_; refine c_seq ?_; refine c_region ?_; refine wl_val (r_buildZ pl37 ti37) rfl ?_; refine wl_val (r_move (v := .int .i64 _) rfl) rfl ?_; refine wl_exs (x_storeW [] hS5 ti37 rfl rfl (by first | (simp [*]; done) | (simp [*] <;> omega) | omega) (by first | (simp [*]; done) | (simp [*] <;> omega) | omega) (by repeat' first | exact one_nil | exact one_b8 _ | exact one_v32 _ | exact one_all rfl | refine one_cons rfl ?_ | refine one_app ?_ ?_)) rfl ?_; intro w6 hS7; simp only [List.cons_append, List.nil_append] at hS7; refine wl_val (r_assign (v := .int .i64 _) rfl) rfl ?_; refine wl_nil ?_; refine c_then ?_; refine wp_ret ?_; refine c_thenR ?_; refine ret2 Try.results18 ⟨_, rfl, run_loadVar_blk ti37 ag37 (hS7.heap (.head _)) (by first | (simp [*]; done) | (simp [*] <;> omega) | omega)⟩ rfl ?_
    first | exact .inl ⟨by omega, rfl, hS7.fin⟩ | exact .inr (.inl ⟨by omega, rfl, hS7.fin⟩) | exact .inr (.inr (.inl ⟨by omega, rfl, hS7.fin⟩))
  · have hS5 := hS2.ext hx4
    refine wl_val (r_assign (v := .int .i64 _) rfl) rfl ?_; refine wl_nil ?_; refine c_then ?_; refine c_seq ?_; refine c_region ?_; refine wl_val (r_move (v := .int .i64 _) rfl) rfl ?_; refine wl_dec_t (r_neq rfl rfl) rfl (by decide) ?_; refine wl_nil ?_; refine c_then ?_; refine c_true rfl ?_; refine c_seq ?_; refine c_region ?_; refine wl_val (r_buildZ pl37 ti37) rfl ?_; refine wl_val (r_move (v := .int .i64 _) rfl) rfl ?_; refine wl_exs (x_storeW [] hS5 ti37 rfl rfl (by first | (simp [*]; done) | (simp [*] <;> omega) | omega) (by first | (simp [*]; done) | (simp [*] <;> omega) | omega) (by repeat' first | exact one_nil | exact one_b8 _ | exact one_v32 _ | exact one_all rfl | refine one_cons rfl ?_ | refine one_app ?_ ?_)) rfl ?_; intro w8 hS9; simp only [List.cons_append, List.nil_append] at hS9; refine wl_val (r_assign (v := .int .i64 _) rfl) rfl ?_; refine wl_nil ?_; refine c_then ?_; refine wp_ret ?_; refine c_thenR ?_; refine ret2 Try.results18 ⟨_, rfl, run_loadVar_blk ti37 ag37 (hS9.heap (.head _)) (by first | (simp [*]; done) | (simp [*] <;> omega) | omega)⟩ rfl ?_
    first | exact .inl ⟨by omega, rfl, hS9.fin⟩ | exact .inr (.inl ⟨by omega, rfl, hS9.fin⟩) | exact .inr (.inr (.inl ⟨by omega, rfl, hS9.fin⟩))
  have hS5 := hS2.ext hx4
  refine wl_val (r_assign (v := .int .i64 _) rfl) rfl ?_; refine wl_nil ?_; refine c_then ?_; refine c_seq ?_; refine c_region ?_; refine wl_val (r_move (v := .int .i64 _) rfl) rfl ?_; refine wl_dec_f (r_neq rfl rfl) rfl (by decide) ?_; refine wl_nil ?_; refine c_then ?_; refine c_false rfl ?_; refine wp_skip ?_; refine c_then ?_; refine c_seq ?_; refine c_seq ?_; refine c_region ?_; refine wl_val (r_move (v := .int .i64 _) rfl) rfl ?_
  refine wl_dec (r_lss rfl rfl) rfl (fun h4_1 => ?_) (fun h4_1 => ?_)
  · refine wl_val (r_move (v := .bool _) rfl) rfl ?_
    refine wl_not rfl ?_; refine wl_not rfl ?_; refine wl_not rfl ?_; refine wl_not rfl ?_; refine wl_val (r_pick_t rfl (v := .bool true) rfl) rfl ?_; refine wl_nil ?_; refine c_then ?_; refine c_true rfl ?_; refine c_seq ?_; refine c_region ?_; refine wl_val (r_buildZ pl37 ti37) rfl ?_; refine wl_exs (x_storeW [] hS5 ti37 rfl rfl (by first | (simp [*]; done) | (simp [*] <;> omega) | omega) (by first | (simp [*]; done) | (simp [*] <;> omega) | omega) (by repeat' first | exact one_nil | exact one_b8 _ | exact one_v32 _ | exact one_all rfl | refine one_cons rfl ?_ | refine one_app ?_ ?_)) rfl ?_; intro w10 hS11; simp only [List.cons_append, List.nil_append] at hS11; refine wl_val (r_assign (v := .int .i64 7) rfl) rfl ?_; refine wl_nil ?_; refine c_then ?_; refine wp_ret ?_; refine c_thenR ?_; refine ret2 Try.results18 ⟨_, rfl, run_loadVar_blk ti37 ag37 (hS11.heap (.head _)) (by first | (simp [*]; done) | (simp [*] <;> omega) | omega)⟩ rfl ?_
    first | exact .inl ⟨by omega, rfl, hS11.fin⟩ | exact .inr (.inl ⟨by omega, rfl, hS11.fin⟩) | exact .inr (.inr (.inl ⟨by omega, rfl, hS11.fin⟩))
  refine wl_val (r_move (v := .bool _) rfl) rfl ?_; refine wl_val (r_move (v := .int .i64 _) rfl) rfl ?_; refine wl_val (r_move (v := .slice _ _ _) rfl) rfl ?_; refine wl_val (r_len (T := 35) rfl ti35.und rfl _ rfl) rfl ?_
  refine wl_dec (r_geq rfl rfl) rfl (fun h4_6 => ?_) (fun h4_6 => ?_)
  · refine wl_val (r_pick_f rfl (v := .bool _) rfl) rfl ?_
    refine wl_nil ?_; refine c_then ?_; refine c_true rfl ?_; refine c_seq ?_; refine c_region ?_; refine wl_val (r_buildZ pl37 ti37) rfl ?_; refine wl_exs (x_storeW [] hS5 ti37 rfl rfl (by first | (simp [*]; done) | (simp [*] <;> omega) | omega) (by first | (simp [*]; done) | (simp [*] <;> omega) | omega) (by repeat' first | exact one_nil | exact one_b8 _ | exact one_v32 _ | exact one_all rfl | refine one_cons rfl ?_ | refine one_app ?_ ?_)) rfl ?_; intro w12 hS13; simp only [List.cons_append, List.nil_append] at hS13; refine wl_val (r_assign (v := .int .i64 7) rfl) rfl ?_; refine wl_nil ?_; refine c_then ?_; refine wp_ret ?_; refine c_thenR ?_; refine ret2 Try.results18 ⟨_, rfl, run_loadVar_blk ti37 ag37 (hS13.heap (.head _)) (by first | (simp [*]; done) | (simp [*] <;> omega) | omega)⟩ rfl ?_
    first | exact .inl ⟨by omega, rfl, hS13.fin⟩ | exact .inr (.inl ⟨by omega, rfl, hS13.fin⟩) | exact .inr (.inr (.inl ⟨by omega, rfl, hS13.fin⟩))
  refine wl_val (r_pick_f rfl (v := .bool _) rfl) rfl ?_; refine wl_nil ?_; refine c_then ?_; refine c_false rfl ?_; refine wp_skip ?_; refine c_then ?_; refine c_seq ?_
  obtain ⟨ix', rfl⟩ : ∃ i : Nat, ix = (i : Int) := ⟨ix.toNat, (by omega)⟩
  refine c_region ?_; refine wl_val (r_move (v := .int .i64 _) rfl) rfl ?_; refine wl_val (r_move (v := .slice _ _ _) rfl) rfl ?_; refine wl_val (r_len (T := 35) rfl ti35.und rfl _ rfl) rfl ?_; refine wl_val (r_move (v := .slice _ _ _) rfl) rfl ?_; refine wl_val (r_move (v := .int .i64 _) rfl) rfl ?_; refine wl_call (r_call fn29 rfl rfl) rfl (path_ok n l ix' _ _ _ (hb.st hS5) h32 hl (by omega) hc (by omega)) ?_; rintro _ w14 ⟨a27, c27, rfl, hc27, hx15⟩
  have hS16 := hS5.call hx15
  simp only [List.cons_append, List.nil_append] at hS16; refine wl_val (r_buildF (vs := [.int .i64 _, .int .i64 _, .slice _ _ _]) (out := [.int .i64 _, .int .i64 _, .slice _ _ _]) pl37 ti37 rfl rfl (by intro i hi; match i, hi with | 0, _ => rfl | 1, _ => rfl | 2, _ => rfl) rfl) rfl ?_; refine wl_exs (x_storeW [_] hS16 ti37 rfl rfl (by first | (simp [*]; done) | (simp [*] <;> omega) | omega) (by first | (simp [*]; done) | (simp [*] <;> omega) | omega) (by repeat' first | exact one_nil | exact one_b8 _ | exact one_v32 _ | exact one_all rfl | refine one_cons rfl ?_ | refine one_app ?_ ?_)) rfl ?_; intro w17 hS18; simp only [List.cons_append, List.nil_append] at hS18; refine wl_val (r_assign (v := .int .i64 0) rfl) rfl ?_; refine wl_nil ?_; refine c_then ?_; refine wp_ret ?_; refine ret2 Try.results18 ⟨_, rfl, run_loadVar_blk ti37 ag37 (hS18.heap (.tail _ (.head _))) (by first | (simp [*]; done) | (simp [*] <;> omega) | omega)⟩ rfl ?_
  exact .inr (.inr (.inr ⟨by omega, _, _, rfl, hc27, (hS18.perm ((List.Perm.cons _ (List.Perm.refl _)).trans (List.perm_middle (l₁ := [_])).symm)).drop1⟩))

theorem proved_n (root leaf : List UInt8) (ix sz : Int) (pa : Option Addr) (pn pc : Nat) (pl : List (List UInt8)) (w : World) (hroot : root.length = 32) (hleaf : leaf.length = 32) (hp : Row w pa (pl.flatten.map b8)) (h32 : S32 pl) (hpl : pl.length = pn) (hpc : pn ≤ pc) (hpm : pn ≤ 4398046511104) (hi1 : -9223372036854775808 ≤ ix) (hi2 : ix ≤ 9223372036854775807) (hs1 : -9223372036854775808 ≤ sz) (hs2 : sz ≤ 9223372036854775807) :
    Ret Try.prog 24 [.agg (root.map b8).toArray, .agg (leaf.map b8).toArray, .agg #[.int .i64 ix, .int .i64 sz, .slice pa pn pc]] w (fun v w' => v = .int .i64 (provedE root leaf ix sz pl) ∧ St w [] w' []) := by
  subst hpl
  exact proved_ok root hroot leaf ix sz pa pc pl w hleaf hp h32 hpc hpm hi1 hi2 hs1 hs2

end Go.Proofs.Ytflfocmfdlmjiaa
end
