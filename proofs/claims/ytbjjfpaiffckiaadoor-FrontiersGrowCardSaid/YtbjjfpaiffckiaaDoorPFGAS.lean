/- What the law's proof leans on. No condition. -/
import Derived.Test.YtbjjfpaiffckiaaDoorPFGAH
import Derived.Test.YtbjjfpaiffckiaaDoorPFGAQ
import Derived.Test.YtbjjfpaiffckiaaDoorPFGAR
section
namespace Go.Proofs.YtbjjfpaiffckiaaDoor
open Go.Kw
set_option linter.unusedVariables false
set_option linter.unusedSimpArgs false
set_option maxRecDepth 100000
theorem concat2_n (x y : List UInt8) (a1 a2 a : Option Addr) (n1 n2 c1 c2 c : Nat) (w : World) (hb : Row w a [.slice a1 n1 c1, .slice a2 n2 c2]) (h1 : Row w a1 (x.map b8)) (h2 : Row w a2 (y.map b8)) (l1 : x.length = n1) (l2 : y.length = n2) (hn : n1 + n2 ≤ 140737488355328) :
    Ret Tryd.prog 28 [.slice a 2 c] w (fun v w' => ∃ a' c', v = .slice a' (n1 + n2) c' ∧ n1 + n2 ≤ c' ∧ St w [] w' [.row (.slice a' (n1 + n2) c') 5 1 (n1 + n2) ((x ++ y).map b8)]) := by
  subst l1; subst l2
  refine (concat2_ok x y a1 a2 a c1 c2 c w hb h1 h2 hn).mono ?_
  rintro v w' ⟨a', c', hv, hc, hS⟩
  rw [List.length_append] at hv hc hS
  exact ⟨a', c', hv, hc, hS⟩

theorem half_ok (n : Nat) (w : World) (hn : 2 ≤ n) (hm : n ≤ 140737488355328) :
    Ret Tryd.prog 23 [vi n] w (fun v w' => v = vi (halfN n) ∧ St w [] w' []) := by
  refine enter Tryd.func23 rfl Tryd.ntmps23 rfl ?_
  have hS := St.refl w []
  refine c_seq ?_; refine c_region ?_; refine wl_val (r_assign (v := .int .i64 0) rfl) rfl ?_; refine wl_nil ?_; refine c_then ?_; refine c_seq ?_; refine c_region ?_; refine wl_val (r_assign (v := .int .i64 1) rfl) rfl ?_; refine wl_nil ?_; refine c_then ?_; refine c_seq ?_; refine c_block ?_; refine c_loopE [0, 2] (fun d e w' => ∃ (j : Nat), Kw.look e 3 = vi (2 ^ j) ∧ d = n - 2 ^ j ∧ St w [] w' [] ∧ (2 ^ j < n)) (n - 1) ?_ ?_
  · exact ⟨0, rfl, rfl, hS, by omega⟩
  · rintro d4 e1 w2 ⟨j, hc0_3, rfl, hS3, hI0_0⟩ -
    refine c_set (d := 3) hc0_3 ?_; refine c_seq ?_; refine c_seq ?_; refine c_region ?_; refine wl_val (r_move (v := .int .i64 _) rfl) rfl ?_; refine wl_val (r_muln (a := 2) rfl rfl (by omega)) rfl ?_; refine wl_val (r_move (v := .int .i64 _) rfl) rfl ?_
    refine wl_dec (r_lss rfl rfl) rfl (fun h2_3 => ?_) (fun h2_3 => ?_)
    · refine wl_nil ?_
      refine c_then ?_; refine c_true rfl ?_; refine wp_skip ?_; refine c_then ?_; refine c_block ?_; refine c_region ?_; refine wl_val (r_move (v := .int .i64 _) rfl) rfl ?_; refine wl_val (r_muln (b := 2) rfl rfl (by omega)) rfl ?_; refine wl_val (r_assign (v := .int .i64 _) rfl) rfl ?_; refine wl_nil ?_; refine c_inN ?_; refine c_then ?_
      have hp := Nat.two_pow_pos j
      exact ⟨n - 2 ^ (j + 1), _, by rw [Nat.pow_succ]; omega, rfl, ⟨j + 1, congrArg vi (Nat.pow_succ ..).symm, rfl, hS3, by rw [Nat.pow_succ]; omega⟩, ⟨rfl, rfl, trivial⟩⟩
    refine wl_nil ?_; refine c_then ?_; refine c_false rfl ?_; refine wp_exit ?_; refine c_thenE ?_; refine c_thenE ?_; refine c_inE ?_; refine c_then ?_; refine c_seq ?_; refine c_region ?_; refine wl_val (r_move (v := .int .i64 _) rfl) rfl ?_; refine wl_val (r_assign (v := .int .i64 _) rfl) rfl ?_; refine wl_nil ?_; refine c_then ?_; refine wp_ret ?_; refine ret1 Tryd.results23 ?_
    exact ⟨congrArg vi (halfN_of hn hI0_0 (by omega)).symm, hS3.fin⟩

theorem node_ok (a b : List UInt8) (w : World) (ha : a.length = 32) (hb : b.length = 32) :
    Ret Tryd.prog 19 [.agg (a.map b8).toArray, .agg (b.map b8).toArray] w (fun v w' => v = .agg ((nodeL a b).map b8).toArray ∧ St w [] w' []) := by
  refine enter Tryd.func19 rfl Tryd.ntmps19 rfl ?_
  have hS := St.refl w []
  refine c_seq ?_; refine c_region ?_; refine wl_exv (x_box hS (v := .agg _) rfl rfl) rfl ?_; rintro _ w1 ⟨b2, rfl, hS2⟩; refine wl_exv (x_box hS2 (v := .agg _) rfl rfl) rfl ?_; rintro _ w3 ⟨b3, rfl, hS4⟩; refine wl_exv (x_alloc (C := ((List.replicate 32 (0 : UInt8)).map b8)) hS4 ti29 rfl) rfl ?_; rintro _ w5 ⟨b4, rfl, hS6⟩; refine wl_nil ?_; refine c_then ?_; refine c_seq ?_; refine c_drawS 10 hMixed hS6 ?_; intro w7 hS8; refine g_take 0 rfl (by decide +kernel) rfl (fun _ _ _ h => h) hS8 (fun wF hF => r_sa1_0 ti29.und ti5 rfl ) ?_; refine g_take 1 rfl (by decide +kernel) rfl (fun _ _ _ h => h) hS8 (fun wF hF => r_sa1_0 ti29.und ti5 rfl ) ?_; refine g_all (rs := [2, 8]) (by decide +kernel) (by decide +kernel) rfl ?_
  simp only [List.forall_mem_cons, List.not_mem_nil, false_imp_iff, implies_true, and_true]
  refine ⟨?_, ?_⟩
  · refine o_exv rfl (x_lit (vs := [.slice _ _ _, .slice _ _ _]) hS8 ti22.und ti43 rfl rfl rfl (by intro c hc; simp only [List.mem_cons, List.not_mem_nil, or_false] at hc; rcases hc with rfl | rfl <;> rfl) (by decide)) rfl ?_
    rintro _ w9 ⟨b10, rfl, hS10⟩
    refine ⟨hS10.drop1, ?_⟩
    refine g_all (rs := [3, 8]) (by decide +kernel) (by decide +kernel) rfl ?_
    simp only [List.forall_mem_cons, List.not_mem_nil, false_imp_iff, implies_true, and_true]
    refine ⟨?_, ?_⟩
    · refine o_call rfl (r_call fn28 rfl rfl) rfl (concat2_n a b _ _ _ _ _ _ _ _ _ (Row.of_at (at_all (hS10.heap (.head _)))) (Row.of_at (at_all (hS10.heap (.tail _ (.tail _ (.tail _ (.head _))))))) (Row.of_at (at_all (hS10.heap (.tail _ (.tail _ (.head _)))))) (by first | (simp [*]; done) | (simp [*] <;> omega) | omega) (by first | (simp [*]; done) | (simp [*] <;> omega) | omega) (by decide)) ?_
      rintro _ w11 ⟨a11, c11, rfl, hc11, hx12⟩
      have hS13 := hS10.call hx12
      simp only [List.cons_append, List.nil_append] at hS13
      refine ⟨hS13.drop1.drop1, ?_⟩
      refine g_all (rs := [4, 8]) (by decide +kernel) (by decide +kernel) rfl ?_
      simp only [List.forall_mem_cons, List.not_mem_nil, false_imp_iff, implies_true, and_true]
      refine ⟨?_, ?_⟩
      · refine o_call rfl (r_call fn27 rfl rfl) rfl (sumOf_in 2 (a ++ b) _ _ _ _ (by decide) (St.rowAt hS13 (.head _)) (by simp [ha, hb]) hc11 (by decide)) ?_
        rintro _ w14 ⟨rfl, hx15⟩
        have hS16 := hS13.ext hx15
        refine ⟨hS16.drop1.drop1, ?_⟩
        refine g_take 5 rfl (by decide +kernel) rfl (fun _ _ _ h => h) hS16.drop1.drop1 (fun wF hF => r_move (v := .tuple _) rfl) ?_; refine g_take 6 rfl (by decide +kernel) rfl (fun _ _ _ h => h) hS16.drop1.drop1 (fun wF hF => r_extract (v := .agg _) rfl rfl) ?_; refine g_take 7 rfl (by decide +kernel) rfl (fun _ _ _ h => h) hS16.drop1.drop1 (fun wF hF => r_extract (v := .int .i64 _) rfl rfl) ?_; refine g_one 8 (by decide +kernel) (by decide +kernel) ?_; refine o_exv rfl (x_alloc (C := ((List.replicate 32 (0 : UInt8)).map b8)) hS16 ti29 rfl) rfl ?_; rintro _ w17 ⟨b5, rfl, hS18⟩
        refine ⟨hS18.drop1.drop1.drop1, ?_⟩
        refine g_one 9 (by decide +kernel) (by decide +kernel) ?_; refine o_exs rfl (x_storeW [] hS18 ti29 rfl rfl (by first | (simp [*]; done) | (simp [*] <;> omega) | omega) (by first | (simp [*]; done) | (simp [*] <;> omega) | omega) (by repeat' first | exact one_nil | exact one_b8 _ | exact one_v32 _ | exact one_all rfl | refine one_cons rfl ?_ | refine one_app ?_ ?_)) rfl ?_; intro w19 hS20; simp only [List.cons_append, List.nil_append] at hS20
        refine ⟨hS20.drop1.drop1.drop1, ?_⟩
        refine g_tail (by decide +kernel) rfl (by decide +kernel) ?_; refine wl_val (r_assign (v := .int .i64 _) rfl) rfl ?_; refine wl_nil ?_; refine c_then ?_; refine c_seq ?_; refine c_region ?_; refine wl_val (r_loadB ti29 rfl rfl (hS20.heap (.head _)) (by first | (simp [*]; done) | (simp [*] <;> omega) | omega)) rfl ?_; refine wl_exs (x_storeW [_, _, _] hS20 ti29 rfl rfl (by first | (simp [*]; done) | (simp [*] <;> omega) | omega) (by first | (simp [*]; done) | (simp [*] <;> omega) | omega) (by repeat' first | exact one_nil | exact one_b8 _ | exact one_v32 _ | exact one_all rfl | refine one_cons rfl ?_ | refine one_app ?_ ?_)) rfl ?_; intro w21 hS22; simp only [List.cons_append, List.nil_append] at hS22; refine wl_nil ?_; refine c_then ?_; refine wp_ret ?_; refine retc Tryd.results19 ⟨_, rfl, run_loadVar_blk ti29 rfl (hS22.heap (.tail _ (.tail _ (.tail _ (.head _))))) (by first | (simp [*]; done) | (simp [*] <;> omega) | omega)⟩ ?_
        exact ⟨rfl, hS22.fin⟩
      · refine o_exv rfl (x_alloc (C := ((List.replicate 32 (0 : UInt8)).map b8)) hS13 ti29 rfl) rfl ?_
        rintro _ w23 ⟨b5, rfl, hS24⟩
        refine ⟨hS24.drop1.drop1.drop1, ?_⟩
        refine g_one 4 (by decide +kernel) (by decide +kernel) ?_; refine o_call rfl (r_call fn27 rfl rfl) rfl (sumOf_in 2 (a ++ b) _ _ _ _ (by decide) (St.rowAt hS24 (.tail _ (.head _))) (by simp [ha, hb]) hc11 (by decide)) ?_; rintro _ w25 ⟨rfl, hx26⟩
        have hS27 := hS24.ext hx26
        refine ⟨hS27.drop1.drop1.drop1, ?_⟩
        refine g_take 5 rfl (by decide +kernel) rfl (fun _ _ _ h => h) hS27.drop1.drop1.drop1 (fun wF hF => r_move (v := .tuple _) rfl) ?_; refine g_take 6 rfl (by decide +kernel) rfl (fun _ _ _ h => h) hS27.drop1.drop1.drop1 (fun wF hF => r_extract (v := .agg _) rfl rfl) ?_; refine g_take 7 rfl (by decide +kernel) rfl (fun _ _ _ h => h) hS27.drop1.drop1.drop1 (fun wF hF => r_extract (v := .int .i64 _) rfl rfl) ?_; refine g_one 9 (by decide +kernel) (by decide +kernel) ?_; refine o_exs rfl (x_storeW [] hS27 ti29 rfl rfl (by first | (simp [*]; done) | (simp [*] <;> omega) | omega) (by first | (simp [*]; done) | (simp [*] <;> omega) | omega) (by repeat' first | exact one_nil | exact one_b8 _ | exact one_v32 _ | exact one_all rfl | refine one_cons rfl ?_ | refine one_app ?_ ?_)) rfl ?_; intro w28 hS29; simp only [List.cons_append, List.nil_append] at hS29
        refine ⟨hS29.drop1.drop1.drop1, ?_⟩
        refine g_tail (by decide +kernel) rfl (by decide +kernel) ?_; refine wl_val (r_assign (v := .int .i64 _) rfl) rfl ?_; refine wl_nil ?_; refine c_then ?_; refine c_seq ?_; refine c_region ?_; refine wl_val (r_loadB ti29 rfl rfl (hS29.heap (.head _)) (by first | (simp [*]; done) | (simp [*] <;> omega) | omega)) rfl ?_; refine wl_exs (x_storeW [_, _, _] hS29 ti29 rfl rfl (by first | (simp [*]; done) | (simp [*] <;> omega) | omega) (by first | (simp [*]; done) | (simp [*] <;> omega) | omega) (by repeat' first | exact one_nil | exact one_b8 _ | exact one_v32 _ | exact one_all rfl | refine one_cons rfl ?_ | refine one_app ?_ ?_)) rfl ?_; intro w30 hS31; simp only [List.cons_append, List.nil_append] at hS31; refine wl_nil ?_; refine c_then ?_; refine wp_ret ?_; refine retc Tryd.results19 ⟨_, rfl, run_loadVar_blk ti29 rfl (hS31.heap (.tail _ (.tail _ (.tail _ (.head _))))) (by first | (simp [*]; done) | (simp [*] <;> omega) | omega)⟩ ?_
        exact ⟨rfl, hS31.fin⟩
    · refine o_exv rfl (x_alloc (C := ((List.replicate 32 (0 : UInt8)).map b8)) hS10 ti29 rfl) rfl ?_
      rintro _ w32 ⟨b5, rfl, hS33⟩
      refine ⟨hS33.drop1.drop1, ?_⟩
      refine g_one 3 (by decide +kernel) (by decide +kernel) ?_; refine o_call rfl (r_call fn28 rfl rfl) rfl (concat2_n a b _ _ _ _ _ _ _ _ _ (Row.of_at (at_all (hS33.heap (.tail _ (.head _))))) (Row.of_at (at_all (hS33.heap (.tail _ (.tail _ (.tail _ (.tail _ (.head _)))))))) (Row.of_at (at_all (hS33.heap (.tail _ (.tail _ (.tail _ (.head _))))))) (by first | (simp [*]; done) | (simp [*] <;> omega) | omega) (by first | (simp [*]; done) | (simp [*] <;> omega) | omega) (by decide)) ?_; rintro _ w34 ⟨a11, c11, rfl, hc11, hx35⟩
      have hS36 := hS33.call hx35
      simp only [List.cons_append, List.nil_append] at hS36
      refine ⟨hS36.drop1.drop1.drop1, ?_⟩
      refine g_one 4 (by decide +kernel) (by decide +kernel) ?_; refine o_call rfl (r_call fn27 rfl rfl) rfl (sumOf_in 2 (a ++ b) _ _ _ _ (by decide) (St.rowAt hS36 (.head _)) (by simp [ha, hb]) hc11 (by decide)) ?_; rintro _ w37 ⟨rfl, hx38⟩
      have hS39 := hS36.ext hx38
      refine ⟨hS39.drop1.drop1.drop1, ?_⟩
      refine g_take 5 rfl (by decide +kernel) rfl (fun _ _ _ h => h) hS39.drop1.drop1.drop1 (fun wF hF => r_move (v := .tuple _) rfl) ?_; refine g_take 6 rfl (by decide +kernel) rfl (fun _ _ _ h => h) hS39.drop1.drop1.drop1 (fun wF hF => r_extract (v := .agg _) rfl rfl) ?_; refine g_take 7 rfl (by decide +kernel) rfl (fun _ _ _ h => h) hS39.drop1.drop1.drop1 (fun wF hF => r_extract (v := .int .i64 _) rfl rfl) ?_; refine g_one 9 (by decide +kernel) (by decide +kernel) ?_; refine o_exs rfl (x_storeW [_] hS39 ti29 rfl rfl (by first | (simp [*]; done) | (simp [*] <;> omega) | omega) (by first | (simp [*]; done) | (simp [*] <;> omega) | omega) (by repeat' first | exact one_nil | exact one_b8 _ | exact one_v32 _ | exact one_all rfl | refine one_cons rfl ?_ | refine one_app ?_ ?_)) rfl ?_; intro w40 hS41; simp only [List.cons_append, List.nil_append] at hS41
      refine ⟨hS41.drop1.drop1.drop1, ?_⟩
      refine g_tail (by decide +kernel) rfl (by decide +kernel) ?_; refine wl_val (r_assign (v := .int .i64 _) rfl) rfl ?_; refine wl_nil ?_; refine c_then ?_; refine c_seq ?_; refine c_region ?_; refine wl_val (r_loadB ti29 rfl rfl (hS41.heap (.tail _ (.head _))) (by first | (simp [*]; done) | (simp [*] <;> omega) | omega)) rfl ?_; refine wl_exs (x_storeW [_, _, _] hS41 ti29 rfl rfl (by first | (simp [*]; done) | (simp [*] <;> omega) | omega) (by first | (simp [*]; done) | (simp [*] <;> omega) | omega) (by repeat' first | exact one_nil | exact one_b8 _ | exact one_v32 _ | exact one_all rfl | refine one_cons rfl ?_ | refine one_app ?_ ?_)) rfl ?_; intro w42 hS43; simp only [List.cons_append, List.nil_append] at hS43; refine wl_nil ?_; refine c_then ?_; refine wp_ret ?_; refine retc Tryd.results19 ⟨_, rfl, run_loadVar_blk ti29 rfl (hS43.heap (.tail _ (.tail _ (.tail _ (.head _))))) (by first | (simp [*]; done) | (simp [*] <;> omega) | omega)⟩ ?_
      exact ⟨rfl, hS43.fin⟩
  · refine o_exv rfl (x_alloc (C := ((List.replicate 32 (0 : UInt8)).map b8)) hS8 ti29 rfl) rfl ?_
    rintro _ w44 ⟨b5, rfl, hS45⟩
    refine ⟨hS45.drop1, ?_⟩
    refine g_one 2 (by decide +kernel) (by decide +kernel) ?_; refine o_exv rfl (x_lit (vs := [.slice _ _ _, .slice _ _ _]) hS45 ti22.und ti43 rfl rfl rfl (by intro c hc; simp only [List.mem_cons, List.not_mem_nil, or_false] at hc; rcases hc with rfl | rfl <;> rfl) (by decide)) rfl ?_; rintro _ w46 ⟨b10, rfl, hS47⟩
    refine ⟨hS47.drop1.drop1, ?_⟩
    refine g_one 3 (by decide +kernel) (by decide +kernel) ?_; refine o_call rfl (r_call fn28 rfl rfl) rfl (concat2_n a b _ _ _ _ _ _ _ _ _ (Row.of_at (at_all (hS47.heap (.head _)))) (Row.of_at (at_all (hS47.heap (.tail _ (.tail _ (.tail _ (.tail _ (.head _)))))))) (Row.of_at (at_all (hS47.heap (.tail _ (.tail _ (.tail _ (.head _))))))) (by first | (simp [*]; done) | (simp [*] <;> omega) | omega) (by first | (simp [*]; done) | (simp [*] <;> omega) | omega) (by decide)) ?_; rintro _ w48 ⟨a11, c11, rfl, hc11, hx49⟩
    have hS50 := hS47.call hx49
    simp only [List.cons_append, List.nil_append] at hS50
    refine ⟨hS50.drop1.drop1.drop1, ?_⟩
    refine g_one 4 (by decide +kernel) (by decide +kernel) ?_; refine o_call rfl (r_call fn27 rfl rfl) rfl (sumOf_in 2 (a ++ b) _ _ _ _ (by decide) (St.rowAt hS50 (.head _)) (by simp [ha, hb]) hc11 (by decide)) ?_; rintro _ w51 ⟨rfl, hx52⟩
    have hS53 := hS50.ext hx52
    refine ⟨hS53.drop1.drop1.drop1, ?_⟩
    refine g_take 5 rfl (by decide +kernel) rfl (fun _ _ _ h => h) hS53.drop1.drop1.drop1 (fun wF hF => r_move (v := .tuple _) rfl) ?_; refine g_take 6 rfl (by decide +kernel) rfl (fun _ _ _ h => h) hS53.drop1.drop1.drop1 (fun wF hF => r_extract (v := .agg _) rfl rfl) ?_; refine g_take 7 rfl (by decide +kernel) rfl (fun _ _ _ h => h) hS53.drop1.drop1.drop1 (fun wF hF => r_extract (v := .int .i64 _) rfl rfl) ?_; refine g_one 9 (by decide +kernel) (by decide +kernel) ?_; refine o_exs rfl (x_storeW [_, _] hS53 ti29 rfl rfl (by first | (simp [*]; done) | (simp [*] <;> omega) | omega) (by first | (simp [*]; done) | (simp [*] <;> omega) | omega) (by repeat' first | exact one_nil | exact one_b8 _ | exact one_v32 _ | exact one_all rfl | refine one_cons rfl ?_ | refine one_app ?_ ?_)) rfl ?_; intro w54 hS55; simp only [List.cons_append, List.nil_append] at hS55
    refine ⟨hS55.drop1.drop1.drop1, ?_⟩
    refine g_tail (by decide +kernel) rfl (by decide +kernel) ?_; refine wl_val (r_assign (v := .int .i64 _) rfl) rfl ?_; refine wl_nil ?_; refine c_then ?_; refine c_seq ?_; refine c_region ?_; refine wl_val (r_loadB ti29 rfl rfl (hS55.heap (.tail _ (.tail _ (.head _)))) (by first | (simp [*]; done) | (simp [*] <;> omega) | omega)) rfl ?_; refine wl_exs (x_storeW [_, _, _] hS55 ti29 rfl rfl (by first | (simp [*]; done) | (simp [*] <;> omega) | omega) (by first | (simp [*]; done) | (simp [*] <;> omega) | omega) (by repeat' first | exact one_nil | exact one_b8 _ | exact one_v32 _ | exact one_all rfl | refine one_cons rfl ?_ | refine one_app ?_ ?_)) rfl ?_; intro w56 hS57; simp only [List.cons_append, List.nil_append] at hS57; refine wl_nil ?_; refine c_then ?_; refine wp_ret ?_; refine retc Tryd.results19 ⟨_, rfl, run_loadVar_blk ti29 rfl (hS57.heap (.tail _ (.tail _ (.tail _ (.head _))))) (by first | (simp [*]; done) | (simp [*] <;> omega) | omega)⟩ ?_
    exact ⟨rfl, hS57.fin⟩

theorem rnode_ok (a b : List UInt8) (w : World) (ha : a.length = 32) (hb : b.length = 32) :
    Ret Tryd.prog 24 [.agg (a.map b8).toArray, .agg (b.map b8).toArray] w (fun v w' => v = .agg ((nodeL a b).map b8).toArray ∧ St w [] w' []) := by
  refine enter Tryd.func24 rfl Tryd.ntmps24 rfl ?_
  have hS := St.refl w []
  refine c_seq ?_; refine c_region ?_; refine wl_exv (x_box hS (v := .agg _) rfl rfl) rfl ?_; rintro _ w1 ⟨b2, rfl, hS2⟩; refine wl_exv (x_box hS2 (v := .agg _) rfl rfl) rfl ?_; rintro _ w3 ⟨b3, rfl, hS4⟩; refine wl_exv (x_alloc (C := ((List.replicate 32 (0 : UInt8)).map b8)) hS4 ti29 rfl) rfl ?_; rintro _ w5 ⟨b4, rfl, hS6⟩; refine wl_nil ?_; refine c_then ?_; refine c_seq ?_; refine c_drawS 3 hMixed hS6 ?_; intro w7 hS8; refine g_take 0 rfl (by decide +kernel) rfl (fun _ _ _ h => h) hS8 (fun wF hF => r_sa1_0 ti29.und ti5 rfl ) ?_; refine g_take 2 rfl (by decide +kernel) rfl (fun _ _ _ h => h) hS8 (fun wF hF => r_sa1_0 ti29.und ti5 rfl ) ?_; refine g_one 1 (by decide +kernel) (by decide +kernel) ?_; refine o_call rfl (r_call fn33 rfl rfl) rfl (clone_n _ _ _ _ _ (Row.of_at (at_all (hS8.heap (.tail _ (.tail _ (.head _)))))) (by first | (simp [*]; done) | (simp [*] <;> omega) | omega) (by first | (simp [*]; done) | (simp [*] <;> omega) | omega)) ?_; rintro _ w9 ⟨a6, c6, rfl, hc6, hx10⟩
  have hS11 := hS8.call hx10
  simp only [List.cons_append, List.nil_append] at hS11
  refine ⟨hS11.drop1, ?_⟩
  refine g_tail (by decide +kernel) rfl (by decide +kernel) ?_; refine wl_exv (x_append [] hS11 ti43.und ti5 rfl (by decide) rfl rfl (Row.of_at (at_all (hS11.heap (.tail _ (.tail _ (.head _)))))) (by first | (simp [*]; done) | (simp [*] <;> omega) | omega) (by first | exact one_b8 _ | exact one_v32 _ | (intro c hc; simp only [List.mem_cons, List.not_mem_nil, or_false] at hc; (first | subst hc | rcases hc with rfl | rfl) <;> rfl)) (by first | omega | (simp [*]; done) | (simp [*] <;> omega)) (by first | omega | (simp [*]; done) | (simp [*] <;> omega)) _ rfl) rfl ?_; rintro _ w12 ⟨aq14, cq14, rfl, hcq14, hS13⟩; simp only [List.cons_append, List.nil_append] at hS13; refine wl_call (r_call fn26 rfl rfl) rfl (rsum_ok 2 (a ++ b) _ _ _ _ (by rw [List.map_append]; exact (St.rowAt hS13 (.head _))) (by simp [ha, hb]) (by decide)) ?_; rintro _ w15 ⟨rfl, hx16⟩
  have hS17 := hS13.ext hx16
  refine wl_exs (x_storeW [_] hS17 ti29 rfl rfl (by first | (simp [*]; done) | (simp [*] <;> omega) | omega) (by first | (simp [*]; done) | (simp [*] <;> omega) | omega) (by repeat' first | exact one_nil | exact one_b8 _ | exact one_v32 _ | exact one_all rfl | refine one_cons rfl ?_ | refine one_app ?_ ?_)) rfl ?_; intro w18 hS19; simp only [List.cons_append, List.nil_append] at hS19; refine wl_nil ?_; refine c_then ?_; refine wp_ret ?_; refine retc Tryd.results24 ⟨_, rfl, run_loadVar_blk ti29 rfl (hS19.heap (.tail _ (.head _))) (by first | (simp [*]; done) | (simp [*] <;> omega) | omega)⟩ ?_
  exact ⟨rfl, hS19.fin⟩

end Go.Proofs.YtbjjfpaiffckiaaDoor
end
section
namespace Go.Proofs.YtbjjfpaiffckiaaDoor
open Go.Kw
set_option linter.unusedVariables false
set_option linter.unusedSimpArgs false
set_option maxRecDepth 100000
theorem rroot_step (N : Nat) (IH : ∀ (l : List (List UInt8)) (a : Option Addr) (n c : Nat) (w : World), n < N → Row w a (l.flatten.map b8) → S32 l → l.length = n → 0 < n → n ≤ c → Ret Tryd.prog 14 [.slice a n c] w (fun v w' => v = .agg ((rootL l).map b8).toArray ∧ St w [] w' [])) (l : List (List UInt8)) (a : Option Addr) (n c : Nat) (w : World) (hN : n = N) (hb : Row w a (l.flatten.map b8)) (h32 : S32 l) (hl : l.length = n) (h0 : 0 < n) (hc : n ≤ c) (hm : n ≤ 140737488355328) :
    Ret Tryd.prog 14 [.slice a n c] w (fun v w' => v = .agg ((rootL l).map b8).toArray ∧ St w [] w' []) := by
  refine enter Tryd.func14 rfl Tryd.ntmps14 rfl ?_
  have hS := St.refl w []
  refine c_seq ?_; refine c_region ?_; refine wl_exv (x_alloc (C := ((List.replicate 32 (0 : UInt8)).map b8)) hS ti29 rfl) rfl ?_; rintro _ w1 ⟨b2, rfl, hS2⟩; refine wl_nil ?_; refine c_then ?_; refine c_seq ?_; refine c_seq ?_; refine c_region ?_; refine wl_val (r_move (v := .slice _ _ _) rfl) rfl ?_; refine wl_val (r_len (T := 24) rfl ti24.und rfl _ rfl) rfl ?_
  refine wl_dec (r_eql rfl rfl) rfl (fun h1_2 => ?_) (fun h1_2 => ?_)
  · refine wl_nil ?_
    refine c_then ?_; refine c_true rfl ?_; refine c_seq ?_; refine c_region ?_; refine wl_val (r_move (v := .slice _ _ _) rfl) rfl ?_; refine wl_val (r_ix32 (m := 0) ti24.und ti29 rfl rfl (hb.st hS2) h32 hl (by omega)) rfl ?_; refine wl_val (r_load32 ti29 rfl rfl (hb.st hS2) h32 (by omega)) rfl ?_; refine wl_exs (x_storeW [] hS2 ti29 rfl rfl (by rw [List.length_map]; exact h32.gt (by omega)) (by simp) (one_b8 _)) rfl ?_; intro w3 hS4; simp only [List.cons_append, List.nil_append] at hS4; refine wl_nil ?_; refine c_then ?_; refine wp_ret ?_; refine c_thenR ?_; refine retc Tryd.results14 ⟨_, rfl, run_loadVar_blk ti29 rfl (hS4.heap (.head _)) (by first | (rw [List.length_map]; exact h32.gt (by omega)) | simp)⟩ ?_
    first | exact ⟨by rw [rootL_one (by omega)], hS4.fin⟩ | exact ⟨by rw [rootL_two hl (by omega) h0], hS4.fin⟩
  refine wl_nil ?_; refine c_then ?_; refine c_false rfl ?_; refine wp_skip ?_; refine c_then ?_; refine c_seq ?_; refine c_region ?_; refine wl_val (r_move (v := .slice _ _ _) rfl) rfl ?_; refine wl_val (r_len (T := 24) rfl ti24.und rfl _ rfl) rfl ?_; refine wl_call (r_call fn23 rfl rfl) rfl (half_ok _ _ (by first | omega | (simp [*]; done) | (simp [*] <;> omega)) (by first | omega | (simp [*]; done) | (simp [*] <;> omega))) ?_; rintro _ w5 ⟨rfl, hx6⟩
  have hS7 := hS2.ext hx6
  refine wl_val (r_assign (v := .int .i64 _) rfl) rfl ?_; refine wl_nil ?_; refine c_then ?_; refine c_seq ?_
  have hlt := halfN_lt (n := n) (by omega)
  have hpo := halfN_pos n
  refine c_drawS 7 hMixed hS7 ?_; intro w8 hS9; refine g_take 0 rfl (by decide +kernel) rfl (fun _ _ _ h => h) hS9 (fun wF hF => r_move (v := .slice _ _ _) rfl) ?_; refine g_take 1 rfl (by decide +kernel) rfl (fun _ _ _ h => h) hS9 (fun wF hF => r_move (v := .int .i64 _) rfl) ?_; refine g_take 2 rfl (by decide +kernel) rfl (fun _ _ _ h => h) hS9 (fun wF hF => r_sl_h ti24.und ti29 rfl rfl (by omega)) ?_
  have ht : Row w a ((l.take (halfN n)).flatten.map b8) := hb.take32 h32 _
  refine g_take 4 rfl (by decide +kernel) rfl (fun _ _ _ h => h) hS9 (fun wF hF => r_move (v := .slice _ _ _) rfl) ?_; refine g_take 5 rfl (by decide +kernel) rfl (fun _ _ _ h => h) hS9 (fun wF hF => r_move (v := .int .i64 _) rfl) ?_; refine g_take 6 rfl (by decide +kernel) rfl (fun _ _ _ h => h) hS9 (fun wF hF => r_sl_l ti24.und ti29 rfl rfl (by omega)) ?_
  have hd : Row w (sub a c (halfN n) 32) ((l.drop (halfN n)).flatten.map b8) := hb.from32 h32 (by omega) (halfN n)
  refine g_one 3 (by decide +kernel) (by decide +kernel) ?_; refine o_call rfl (r_call fn14 rfl rfl) rfl (IH (l.take (halfN n)) _ _ _ _ (by omega) (ht.st hS9) (h32.take _) (by simp; omega) hpo (by omega)) ?_; rintro _ w10 ⟨rfl, hx11⟩
  have hS12 := hS9.ext hx11
  refine ⟨hS12, ?_⟩
  refine g_tail (by decide +kernel) rfl (by decide +kernel) ?_; refine wl_call (r_call fn14 rfl rfl) rfl (IH (l.drop (halfN n)) _ _ _ _ (by omega) (hd.st hS12) (h32.drop _) (by simp; omega) (by omega) (by omega)) ?_; rintro _ w13 ⟨rfl, hx14⟩
  have hS15 := hS12.ext hx14
  refine wl_call (r_call fn24 rfl rfl) rfl (rnode_ok _ _ _ (rootL_len _ (h32.take _) (by simp; omega)) (rootL_len _ (h32.drop _) (by simp; omega))) ?_; rintro _ w16 ⟨rfl, hx17⟩
  have hS18 := hS15.ext hx17
  refine wl_exs (x_storeW [] hS18 ti29 rfl rfl (by first | (simp [*]; done) | (simp [*] <;> omega) | omega) (by first | (simp [*]; done) | (simp [*] <;> omega) | omega) (by repeat' first | exact one_nil | exact one_b8 _ | exact one_v32 _ | exact one_all rfl | refine one_cons rfl ?_ | refine one_app ?_ ?_)) rfl ?_; intro w19 hS20; simp only [List.cons_append, List.nil_append] at hS20; refine wl_nil ?_; refine c_then ?_; refine wp_ret ?_; refine retc Tryd.results14 ⟨_, rfl, run_loadVar_blk ti29 rfl (hS20.heap (.head _)) (by first | (rw [List.length_map]; exact h32.gt (by omega)) | simp)⟩ ?_
  first | exact ⟨by rw [rootL_one (by omega)], hS20.fin⟩ | exact ⟨by rw [rootL_two hl (by omega) h0], hS20.fin⟩

theorem rroot_ok : ∀ (n : Nat) (l : List (List UInt8)) (a : Option Addr) (c : Nat) (w : World) (hb : Row w a (l.flatten.map b8)) (h32 : S32 l) (hl : l.length = n) (h0 : 0 < n) (hc : n ≤ c) (hm : n ≤ 140737488355328), Ret Tryd.prog 14 [.slice a n c] w (fun v w' => v = .agg ((rootL l).map b8).toArray ∧ St w [] w' []) := by
  intro n
  induction n using Nat.strongRecOn with
  | _ n ih => exact fun l a c w hb h32 hl h0 hc hm => rroot_step n (fun l a m c w hlt hb h32 hl h0 hc => ih m hlt l a c w hb h32 hl h0 hc (by omega)) l a n c w rfl hb h32 hl h0 hc hm

theorem rleaf_ok (t : List UInt8) (a : Option Addr) (n c : Nat) (w : World) (hb : Row w a (t.map b8)) (hl : t.length = n) (hc : n ≤ c) (hn : n ≤ 1048576) :
    Ret Tryd.prog 17 [.slice a n c] w (fun v w' => v = .agg ((leafL t).map b8).toArray ∧ St w [] w' []) := by
  refine enter Tryd.func17 rfl Tryd.ntmps17 rfl ?_
  have hS := St.refl w []
  refine c_seq ?_; refine c_region ?_; refine wl_exv (x_alloc (C := ((List.replicate 32 (0 : UInt8)).map b8)) hS ti29 rfl) rfl ?_; rintro _ w1 ⟨b2, rfl, hS2⟩; refine wl_nil ?_; refine c_then ?_; refine c_seq ?_; refine c_region ?_; refine wl_val (r_move (v := .slice _ _ _) rfl) rfl ?_; refine wl_call (r_call fn26 rfl rfl) rfl (rsum_ok 1 t _ _ _ _ (hb.st hS2) hl (by omega)) ?_; rintro _ w3 ⟨rfl, hx4⟩
  have hS5 := hS2.ext hx4
  refine wl_exs (x_storeW [] hS5 ti29 rfl rfl (by first | (simp [*]; done) | (simp [*] <;> omega) | omega) (by first | (simp [*]; done) | (simp [*] <;> omega) | omega) (by repeat' first | exact one_nil | exact one_b8 _ | exact one_v32 _ | exact one_all rfl | refine one_cons rfl ?_ | refine one_app ?_ ?_)) rfl ?_; intro w6 hS7; simp only [List.cons_append, List.nil_append] at hS7; refine wl_nil ?_; refine c_then ?_; refine wp_ret ?_; refine retc Tryd.results17 ⟨_, rfl, run_loadVar_blk ti29 rfl (hS7.heap (.head _)) (by first | (simp [*]; done) | (simp [*] <;> omega) | omega)⟩ ?_
  exact ⟨rfl, hS7.fin⟩

theorem short_ok (a : Option Addr) (n c : Nat) (w : World) (hc : n ≤ c) :
    Ret Tryd.prog 18 [.slice a n c] w (fun v w' => v = .slice a (min n 3000) c ∧ St w [] w' []) := by
  refine enter Tryd.func18 rfl Tryd.ntmps18 rfl ?_
  have hS := St.refl w []
  refine c_seq ?_; refine c_region ?_; refine wl_val (r_assign (v := .slice none 0 0) rfl) rfl ?_; refine wl_nil ?_; refine c_then ?_; refine c_seq ?_; refine c_region ?_; refine wl_val (r_move (v := .slice _ _ _) rfl) rfl ?_; refine wl_val (r_move (v := .slice _ _ _) rfl) rfl ?_; refine wl_val (r_len (T := 43) rfl ti43.und rfl _ rfl) rfl ?_; refine wl_val (r_min2n (b := 3000) rfl rfl _ rfl) rfl ?_; refine wl_val (r_sl_h ti43.und ti5 rfl rfl (by omega)) rfl ?_; refine wl_val (r_assign (v := .slice _ _ _) rfl) rfl ?_; refine wl_nil ?_; refine c_then ?_; refine wp_ret ?_; refine ret1 Tryd.results18 ?_
  exact ⟨rfl, hS.fin⟩

theorem leaves_ok (ps : List Piece) (a : Option Addr) (c : Nat) (w : World) (hb : Row w a (ps.map Piece.v)) (hr : ∀ q ∈ ps, Row w q.a (q.xs.map b8) ∧ q.xs.length ≤ q.c ∧ q.xs.length ≤ 140737488351232) (hlc : ps.length ≤ c) :
    Ret Tryd.prog 5 [.slice a ps.length c] w (fun v w' => ∃ a' c', v = .slice a' (min ps.length 40) c' ∧ min ps.length 40 ≤ c' ∧ St w [] w' [.row (.slice a' (min ps.length 40) c') 29 32 (min ps.length 40) ((leavesL ps).flatten.map b8)]) := by
  refine enter Tryd.func5 rfl Tryd.ntmps5 rfl ?_
  have hS := St.refl w []
  refine c_seq ?_; refine c_region ?_; refine wl_val (r_assign (v := .slice none 0 0) rfl) rfl ?_; refine wl_nil ?_; refine c_then ?_; refine c_seq ?_; refine c_region ?_; refine wl_val (r_assign (v := .slice none 0 0) rfl) rfl ?_; refine wl_nil ?_; refine c_then ?_; refine c_seq ?_; refine c_seq ?_; refine c_region ?_; refine wl_val (r_move (v := .slice _ _ _) rfl) rfl ?_; refine wl_val (r_move (v := .slice _ _ _) rfl) rfl ?_; refine wl_val (r_len (T := 22) rfl ti22.und rfl _ rfl) rfl ?_; refine wl_val (r_min2n (b := 40) rfl rfl _ rfl) rfl ?_; refine wl_val (r_sl_h ti22.und ti43 rfl rfl (by omega)) rfl ?_; refine wl_val (r_len (T := 22) rfl ti22.und rfl _ rfl) rfl ?_; refine wl_val (r_move (v := .int .i64 0) rfl) rfl ?_; refine wl_nil ?_; refine c_then ?_; refine c_block ?_; refine c_loopE [2, 10, 11] (fun d e w' => ∃ (k : Nat) (a3 : Option Addr) (c3 : Nat), Kw.look e 12 = vi k ∧ Kw.look e 3 = .slice a3 k c3 ∧ d = min ps.length 40 - k ∧ St w [] w' [.row (.slice a3 k c3) 29 32 k (((leavesL ps).take k).flatten.map b8)] ∧ (k ≤ min ps.length 40) ∧ (k ≤ c3)) (min ps.length 40 - 0) ?_ ?_
  · exact ⟨0, none, 0, rfl, rfl, rfl, hS.nilRow, Nat.zero_le _, Nat.zero_le _⟩
  · rintro d4 e1 w2 ⟨k, a3, c3, hc0_12, hc0_3, rfl, hS3, hk, hk3⟩ -
    refine c_set (d := 12) hc0_12 ?_; refine c_set (d := 3) hc0_3 ?_; refine c_seq ?_; refine c_region ?_
    refine wl_dec (r_lss rfl rfl) rfl (fun h3_0 => ?_) (fun h3_0 => ?_)
    · refine wl_nil ?_
      refine c_then ?_; refine c_seq ?_; refine c_true rfl ?_; refine wp_skip ?_; refine c_then ?_; refine c_seq ?_; refine c_block ?_; refine c_seq ?_
      have hrk := hr (gt ps k) (gt_mem ps k (by omega))
      have ht : Row w (gt ps k).a (((gt ps k).xs.take 3000).map b8) := by have := hrk.1.take (n := 3000); rwa [← List.map_take] at this
      refine c_region ?_; refine wl_val (r_ixS ti22.und ti43 rfl rfl (hb.st hS3) (by first | omega | (simp [*]; done) | (simp [*] <;> omega)) (by first | (simp [*]; done) | (simp [*] <;> omega) | omega)) rfl ?_; refine wl_val (r_loadS1 ti43.und rfl rfl (hb.st hS3) (by rw [Nat.mul_one]; exact map_gt _ _ _ (by first | omega | (simp [*]; done) | (simp [*] <;> omega)))) rfl ?_; refine wl_val (r_assign (v := .slice _ _ _) rfl) rfl ?_; refine wl_nil ?_; refine c_then ?_; refine c_region ?_; refine wl_val (r_move (v := .slice _ _ _) rfl) rfl ?_; refine wl_val (r_move (v := .slice _ _ _) rfl) rfl ?_; refine wl_call (r_call fn18 rfl rfl) rfl (short_ok _ _ _ _ hrk.2.1) ?_; rintro _ w5 ⟨rfl, hx6⟩
      have hS7 := hS3.ext hx6
      refine wl_call (r_call fn17 rfl rfl) rfl (rleaf_ok ((gt ps k).xs.take 3000) _ _ _ _ (ht.st hS7) (by simp [Nat.min_comm]) (by have := hrk.2.1; simp [Sl.v] at *; omega) (by omega)) ?_; rintro _ w8 ⟨rfl, hx9⟩
      have hS10 := hS7.ext hx9
      refine wl_exv (x_litA1 hS10 ti24.und ti29 rfl (by first | (simp [*]; done) | (simp [*] <;> omega) | omega) rfl (by decide) (by decide)) rfl ?_; rintro _ w11 ⟨b20, rfl, hS12⟩; refine wl_exv (x_append [_] hS12 ti24.und ti29 rfl (by decide) rfl rfl (Row.of_at (at_all (hS12.heap (.head _)))) (by first | (simp [*]; done) | (simp [*] <;> omega) | omega) (by first | exact one_b8 _ | exact one_v32 _ | (intro c hc; simp only [List.mem_cons, List.not_mem_nil, or_false] at hc; (first | subst hc | rcases hc with rfl | rfl) <;> rfl)) (by first | omega | (simp [*]; done) | (simp [*] <;> omega)) (by first | omega | (simp [*]; done) | (simp [*] <;> omega)) _ rfl) rfl ?_; rintro _ w13 ⟨aq15, cq15, rfl, hcq15, hS14⟩; simp only [List.cons_append, List.nil_append] at hS14; refine wl_val (r_assign (v := .slice _ _ _) rfl) rfl ?_; refine wl_nil ?_; refine c_inN ?_; refine c_then ?_; refine c_region ?_; refine wl_val (r_addn (b := 1) rfl rfl (by omega)) rfl ?_; refine wl_val (r_move (v := .int .i64 _) rfl) rfl ?_; refine wl_nil ?_; refine c_then ?_
      rw [← List.map_append, ← leavesL_gt ps k (by omega), ← flat_take1 _ k (by rw [leavesL_len]; omega)] at hS14
      exact ⟨min ps.length 40 - (k + 1), _, by omega, rfl, ⟨k + 1, _, _, rfl, rfl, rfl, hS14.drop1, by omega, hcq15⟩, ⟨rfl, rfl, rfl, trivial⟩⟩
    refine wl_nil ?_; refine c_then ?_; refine c_seq ?_; refine c_false rfl ?_; refine wp_exit ?_; refine c_thenE ?_; refine c_thenE ?_; refine c_inE ?_; refine c_then ?_; refine c_seq ?_; refine c_region ?_; refine wl_val (r_move (v := .slice _ _ _) rfl) rfl ?_; refine wl_val (r_assign (v := .slice _ _ _) rfl) rfl ?_; refine wl_nil ?_; refine c_then ?_; refine wp_ret ?_; refine ret1 Tryd.results5 ?_
    obtain rfl : k = min ps.length 40 := by omega
    rw [List.take_of_length_le (by rw [leavesL_len]; omega)] at hS3
    exact ⟨_, _, rfl, hk3, hS3⟩

end Go.Proofs.YtbjjfpaiffckiaaDoor
end
section
namespace Go.Proofs.YtbjjfpaiffckiaaDoor
open Go.Kw
set_option linter.unusedVariables false
set_option linter.unusedSimpArgs false
set_option maxRecDepth 100000
theorem equals_ok (xs ys : List (List UInt8)) (a1 a2 : Option Addr) (n1 n2 c1 c2 : Nat) (w : World) (h1 : Row w a1 (xs.flatten.map b8)) (h2 : Row w a2 (ys.flatten.map b8)) (s1 : S32 xs) (s2 : S32 ys) (l1 : xs.length = n1) (l2 : ys.length = n2) (hn : n1 ≤ 4398046511104) :
    Ret Tryd.prog 12 [.slice a1 n1 c1, .slice a2 n2 c2] w (fun v w' => v = .bool (decide (xs = ys)) ∧ St w [] w' []) := by
  refine enter Tryd.func12 rfl Tryd.ntmps12 rfl ?_
  have hS := St.refl w []
  refine c_seq ?_; refine c_region ?_; refine wl_val (r_assign (v := .bool false) rfl) rfl ?_; refine wl_nil ?_; refine c_then ?_; refine c_seq ?_; refine c_seq ?_; refine c_region ?_; refine wl_val (r_move (v := .slice _ _ _) rfl) rfl ?_; refine wl_val (r_len (T := 24) rfl ti24.und rfl _ rfl) rfl ?_; refine wl_val (r_move (v := .slice _ _ _) rfl) rfl ?_; refine wl_val (r_len (T := 24) rfl ti24.und rfl _ rfl) rfl ?_
  refine wl_dec (r_neq rfl rfl) rfl (fun h1_4 => ?_) (fun h1_4 => ?_)
  · refine wl_nil ?_
    refine c_then ?_; refine c_true rfl ?_; refine c_seq ?_; refine c_region ?_; refine wl_val (r_assign (v := .bool false) rfl) rfl ?_; refine wl_nil ?_; refine c_then ?_; refine wp_ret ?_; refine c_thenR ?_; refine ret1 Tryd.results12 ?_
    exact ⟨congrArg Value.bool (decide_eq_false (fun h => h1_4 (by rw [← l1, ← l2, h]))).symm, hS.fin⟩
  refine wl_nil ?_; refine c_then ?_; refine c_false rfl ?_; refine wp_skip ?_; refine c_then ?_; refine c_seq ?_; refine c_seq ?_; refine c_region ?_; refine wl_val (r_move (v := .slice _ _ _) rfl) rfl ?_; refine wl_val (r_len (T := 24) rfl ti24.und rfl _ rfl) rfl ?_; refine wl_val (r_move (v := .int .i64 0) rfl) rfl ?_; refine wl_nil ?_; refine c_then ?_; refine c_block ?_; refine c_loopE [0, 1, 12] (fun d e w' => ∃ (k : Nat), Kw.look e 13 = vi k ∧ d = n1 - k ∧ St w [] w' [] ∧ (k ≤ n1) ∧ (xs.take k = ys.take k)) (n1 - 0) ?_ ?_
  · exact ⟨0, rfl, rfl, hS, Nat.zero_le _, rfl⟩
  · rintro d4 e1 w2 ⟨k, hc0_13, rfl, hS3, hk, he⟩ -
    refine c_set (d := 13) hc0_13 ?_; refine c_seq ?_; refine c_region ?_
    refine wl_dec (r_lss rfl rfl) rfl (fun h4_0 => ?_) (fun h4_0 => ?_)
    · refine wl_nil ?_
      refine c_then ?_; refine c_seq ?_; refine c_true rfl ?_; refine wp_skip ?_; refine c_then ?_; refine c_seq ?_; refine c_block ?_; refine c_seq ?_; refine c_region ?_; refine wl_val (r_move (v := .int .i64 _) rfl) rfl ?_; refine wl_val (r_assign (v := .int .i64 _) rfl) rfl ?_; refine wl_nil ?_; refine c_then ?_; refine c_seq ?_; refine c_drawS 8 hMixed hS3 ?_; intro w5 hS6; refine g_take 0 rfl (by decide +kernel) rfl (fun _ _ _ h => h) hS6 (fun wF hF => r_move (v := .slice _ _ _) rfl) ?_; refine g_take 1 rfl (by decide +kernel) rfl (fun _ _ _ h => h) hS6 (fun wF hF => r_move (v := .int .i64 _) rfl) ?_; refine g_take 2 rfl (by decide +kernel) rfl (fun _ _ _ h => h) hS6 (fun wF hF => r_ix32 ti24.und ti29 rfl rfl (h1.st hF) s1 l1 (by omega)) ?_; refine g_take 3 rfl (by decide +kernel) rfl (fun _ _ _ h => h) hS6 (fun wF hF => r_load32 ti29 rfl rfl (h1.st hF) s1 (by omega)) ?_; refine g_take 4 rfl (by decide +kernel) rfl (fun _ _ _ h => h) hS6 (fun wF hF => r_move (v := .slice _ _ _) rfl) ?_; refine g_take 5 rfl (by decide +kernel) rfl (fun _ _ _ h => h) hS6 (fun wF hF => r_move (v := .int .i64 _) rfl) ?_; refine g_take 6 rfl (by decide +kernel) rfl (fun _ _ _ h => h) hS6 (fun wF hF => r_ix32 ti24.und ti29 rfl rfl (h2.st hF) s2 l2 (by omega)) ?_; refine g_take 7 rfl (by decide +kernel) rfl (fun _ _ _ h => h) hS6 (fun wF hF => r_load32 ti29 rfl rfl (h2.st hF) s2 (by omega)) ?_; refine g_tail (by decide +kernel) rfl (by decide +kernel) ?_
      refine wl_dec (r_neqA (u := undef) eg29 rfl rfl (eqIs_b8 ti29.und ti5 _ _ (s1.gt (by omega)) (s2.gt (by omega)))) rfl (fun h6_8 => ?_) (fun h6_8 => ?_)
      · refine wl_nil ?_
        refine c_then ?_; refine c_true rfl ?_; refine c_seq ?_; refine c_region ?_; refine wl_val (r_assign (v := .bool false) rfl) rfl ?_; refine wl_nil ?_; refine c_then ?_; refine wp_ret ?_; refine c_inR ?_; refine c_thenR ?_; refine c_thenR ?_; refine c_inR ?_; refine c_thenR ?_; refine ret1 Tryd.results12 ?_
        exact ⟨congrArg Value.bool (decide_eq_false (ne32 h6_8)).symm, hS6.fin⟩
      refine wl_nil ?_; refine c_then ?_; refine c_false rfl ?_; refine wp_skip ?_; refine c_inN ?_; refine c_then ?_; refine c_region ?_; refine wl_val (r_addn (b := 1) rfl rfl (by omega)) rfl ?_; refine wl_val (r_move (v := .int .i64 _) rfl) rfl ?_; refine wl_nil ?_; refine c_then ?_
      exact ⟨n1 - (k + 1), _, by omega, rfl, ⟨k + 1, rfl, rfl, hS6, by omega, ext32 he (by omega) (by omega) (Classical.not_not.1 h6_8)⟩, ⟨rfl, rfl, rfl, trivial⟩⟩
    refine wl_nil ?_; refine c_then ?_; refine c_seq ?_; refine c_false rfl ?_; refine wp_exit ?_; refine c_thenE ?_; refine c_thenE ?_; refine c_inE ?_; refine c_then ?_; refine c_seq ?_; refine c_region ?_; refine wl_val (r_assign (v := .bool true) rfl) rfl ?_; refine wl_nil ?_; refine c_then ?_; refine wp_ret ?_; refine ret1 Tryd.results12 ?_
    obtain rfl : k = n1 := by omega
    exact ⟨congrArg Value.bool (decide_eq_true (by rw [List.take_of_length_le (by omega), List.take_of_length_le (by omega)] at he; exact he)).symm, hS3.fin⟩

theorem clones_ok (l : List (List UInt8)) (a : Option Addr) (n c : Nat) (w : World) (hb : Row w a (l.flatten.map b8)) (h32 : S32 l) (hl : l.length = n) (hn : n ≤ 4398046511104) :
    Ret Tryd.prog 20 [.slice a n c] w (fun v w' => ∃ a' c', v = .slice a' n c' ∧ n ≤ c' ∧ St w [] w' [.row (.slice a' n c') 29 32 n ((l).flatten.map b8)]) := by
  refine enter Tryd.func20 rfl Tryd.ntmps20 rfl ?_
  have hS := St.refl w []
  refine c_seq ?_; refine c_region ?_; refine wl_val (r_assign (v := .slice none 0 0) rfl) rfl ?_; refine wl_nil ?_; refine c_then ?_; refine c_seq ?_; refine c_seq ?_; refine c_region ?_; refine wl_val (r_move (v := .slice _ _ _) rfl) rfl ?_
  refine wl_dec (r_eqlSn ti24.und rfl rfl) rfl (fun h1_1 => ?_) (fun h1_1 => ?_)
  · refine wl_nil ?_
    refine c_then ?_; refine c_true rfl ?_; refine c_seq ?_; refine c_region ?_; refine wl_val (r_assign (v := .slice none 0 0) rfl) rfl ?_; refine wl_nil ?_; refine c_then ?_; refine wp_ret ?_; refine c_thenR ?_; refine ret1 Tryd.results20 ?_
    have h0 : l = [] := by cases l with | nil => rfl | cons x l => exact absurd (by subst h1_1; exact row_none hb) (by simp [h32 x (by simp)]; intro h; have := h32 x (by simp); rw [h] at this; cases this)
    subst h0
    obtain rfl : n = 0 := hl.symm
    exact ⟨none, 0, rfl, Nat.le_refl _, hS.nilRow⟩
  refine wl_nil ?_; refine c_then ?_; refine c_false rfl ?_; refine wp_skip ?_; refine c_then ?_; refine c_seq ?_; refine c_region ?_; refine wl_exv (x_lit0 hS ti24.und ti29) rfl ?_; rintro _ w1 ⟨b5, rfl, hS2⟩; refine wl_val (r_move (v := .slice _ _ _) rfl) rfl ?_; refine wl_exv (x_append [] hS2 ti24.und ti29 rfl (by decide) rfl rfl (hb.st hS2) (by rw [flat32_lenV h32, hl]) (by first | exact one_b8 _ | exact one_v32 _ | (intro c hc; simp only [List.mem_cons, List.not_mem_nil, or_false] at hc; (first | subst hc | rcases hc with rfl | rfl) <;> rfl)) (by first | omega | (simp [*]; done) | (simp [*] <;> omega)) (by first | omega | (simp [*]; done) | (simp [*] <;> omega)) _ rfl) rfl ?_; rintro _ w3 ⟨aq5, cq5, rfl, hcq5, hS4⟩; simp only [List.cons_append, List.nil_append] at hS4; refine wl_val (r_assign (v := .slice _ _ _) rfl) rfl ?_; refine wl_nil ?_; refine c_then ?_; refine wp_ret ?_; refine ret1 Tryd.results20 ?_
  rw [Nat.zero_add] at *
  exact ⟨_, _, rfl, hcq5, hS4⟩

end Go.Proofs.YtbjjfpaiffckiaaDoor
end
section
namespace Go.Proofs.YtbjjfpaiffckiaaDoor
open Go.Kw
set_option linter.unusedVariables false
set_option linter.unusedSimpArgs false
set_option maxRecDepth 100000
theorem equals_t (xs ys : List (List UInt8)) (a1 a2 : Option Addr) (n1 n2 c1 c2 : Nat) (w : World) (h1 : Row w a1 (xs.flatten.map b8)) (h2 : Row w a2 (ys.flatten.map b8)) (s1 : S32 xs) (s2 : S32 ys) (l1 : xs.length = n1) (l2 : ys.length = n2) (hn : n1 ≤ 4398046511104) (h : xs = ys) :
    Ret Tryd.prog 12 [.slice a1 n1 c1, .slice a2 n2 c2] w (fun v w' => v = .bool true ∧ St w [] w' []) :=
  (equals_ok xs ys a1 a2 n1 n2 c1 c2 w h1 h2 s1 s2 l1 l2 hn).mono fun v w' hv => by rw [decide_eq_true h] at hv; exact hv

end Go.Proofs.YtbjjfpaiffckiaaDoor
end
