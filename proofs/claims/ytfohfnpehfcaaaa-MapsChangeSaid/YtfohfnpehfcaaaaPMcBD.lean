/- What the law's proof leans on. No condition. -/
import Derived.Test.YtfohfnpehfcaaaaPMcAH
import Derived.Test.YtfohfnpehfcaaaaPMcBC
import Derived.Test.YtfohfnpehfcaaaaPMcAN
namespace Go.Proofs.Ytfohfnpehfcaaaa
open Go.Kw
set_option linter.unusedVariables false
set_option linter.unusedSimpArgs false
set_option maxRecDepth 100000
theorem concat2_n (x y : List UInt8) (a1 a2 a : Option Addr) (n1 n2 c1 c2 c : Nat) (w : World) (hb : Row w a [.slice a1 n1 c1, .slice a2 n2 c2]) (h1 : Row w a1 (x.map b8)) (h2 : Row w a2 (y.map b8)) (l1 : x.length = n1) (l2 : y.length = n2) (hn : n1 + n2 ≤ 140737488355328) :
    Ret Try.prog 130 [.slice a 2 c] w (fun v w' => ∃ a' c', v = .slice a' (n1 + n2) c' ∧ n1 + n2 ≤ c' ∧ St w [] w' [.row (.slice a' (n1 + n2) c') 5 1 (n1 + n2) ((x ++ y).map b8)]) := by
  subst l1; subst l2
  refine (concat2_ok x y a1 a2 a c1 c2 c w hb h1 h2 hn).mono ?_
  rintro v w' ⟨a', c', hv, hc, hS⟩
  rw [List.length_append] at hv hc hS
  exact ⟨a', c', hv, hc, hS⟩

theorem node_ok (a b : List UInt8) (w : World) (ha : a.length = 32) (hb : b.length = 32) :
    Ret Try.prog 52 [.agg (a.map b8).toArray, .agg (b.map b8).toArray] w (fun v w' => v = .agg ((nodeL a b).map b8).toArray ∧ St w [] w' []) := by
  refine enter Try.func52 rfl Try.ntmps52 rfl ?_
  have hS := St.refl w []
  refine c_seq ?_; refine c_region ?_; refine wl_exv (x_box hS (v := .agg _) rfl rfl) rfl ?_; rintro _ w1 ⟨b2, rfl, hS2⟩; refine wl_exv (x_box hS2 (v := .agg _) rfl rfl) rfl ?_; rintro _ w3 ⟨b3, rfl, hS4⟩; refine wl_exv (x_alloc (C := ((List.replicate 32 (0 : UInt8)).map b8)) hS4 ti49 rfl) rfl ?_; rintro _ w5 ⟨b4, rfl, hS6⟩; refine wl_nil ?_; refine c_then ?_; refine c_seq ?_; refine c_drawS 10 hMixed hS6 ?_; intro w7 hS8; refine g_take 0 rfl (by decide +kernel) rfl (fun _ _ _ h => h) hS8 (fun wF hF => r_sa1_0 ti49.und ti5 rfl ) ?_; refine g_take 1 rfl (by decide +kernel) rfl (fun _ _ _ h => h) hS8 (fun wF hF => r_sa1_0 ti49.und ti5 rfl ) ?_; refine g_all (rs := [2, 8]) (by decide +kernel) (by decide +kernel) rfl ?_
  simp only [List.forall_mem_cons, List.not_mem_nil, false_imp_iff, implies_true, and_true]
  refine ⟨?_, ?_⟩
  · refine o_exv rfl (x_lit (vs := [.slice _ _ _, .slice _ _ _]) hS8 ti43.und ti22 rfl rfl rfl (by intro c hc; simp only [List.mem_cons, List.not_mem_nil, or_false] at hc; rcases hc with rfl | rfl <;> rfl) (by decide)) rfl ?_
    rintro _ w9 ⟨b10, rfl, hS10⟩
    refine ⟨hS10.drop1, ?_⟩
    refine g_all (rs := [3, 8]) (by decide +kernel) (by decide +kernel) rfl ?_
    simp only [List.forall_mem_cons, List.not_mem_nil, false_imp_iff, implies_true, and_true]
    refine ⟨?_, ?_⟩
    · refine o_call rfl (r_call fn130 rfl rfl) rfl (concat2_n a b _ _ _ _ _ _ _ _ _ (Row.of_at (at_all (hS10.heap (.head _)))) (Row.of_at (at_all (hS10.heap (.tail _ (.tail _ (.tail _ (.head _))))))) (Row.of_at (at_all (hS10.heap (.tail _ (.tail _ (.head _)))))) (by first | (simp [*]; done) | (simp [*] <;> omega) | omega) (by first | (simp [*]; done) | (simp [*] <;> omega) | omega) (by decide)) ?_
      rintro _ w11 ⟨a11, c11, rfl, hc11, hx12⟩
      have hS13 := hS10.call hx12
      simp only [List.cons_append, List.nil_append] at hS13
      refine ⟨hS13.drop1.drop1, ?_⟩
      refine g_all (rs := [4, 8]) (by decide +kernel) (by decide +kernel) rfl ?_
      simp only [List.forall_mem_cons, List.not_mem_nil, false_imp_iff, implies_true, and_true]
      refine ⟨?_, ?_⟩
      · refine o_call rfl (r_call fn44 rfl rfl) rfl (sumOf_in 2 (a ++ b) _ _ _ _ (by decide) (St.rowAt hS13 (.head _)) (by simp [ha, hb]) hc11 (by decide)) ?_
        rintro _ w14 ⟨rfl, hx15⟩
        have hS16 := hS13.ext hx15
        refine ⟨hS16.drop1.drop1, ?_⟩
        refine g_take 5 rfl (by decide +kernel) rfl (fun _ _ _ h => h) hS16.drop1.drop1 (fun wF hF => r_move (v := .tuple _) rfl) ?_; refine g_take 6 rfl (by decide +kernel) rfl (fun _ _ _ h => h) hS16.drop1.drop1 (fun wF hF => r_extract (v := .agg _) rfl rfl) ?_; refine g_take 7 rfl (by decide +kernel) rfl (fun _ _ _ h => h) hS16.drop1.drop1 (fun wF hF => r_extract (v := .int .i64 _) rfl rfl) ?_; refine g_one 8 (by decide +kernel) (by decide +kernel) ?_; refine o_exv rfl (x_alloc (C := ((List.replicate 32 (0 : UInt8)).map b8)) hS16 ti49 rfl) rfl ?_; rintro _ w17 ⟨b5, rfl, hS18⟩
        refine ⟨hS18.drop1.drop1.drop1, ?_⟩
        refine g_one 9 (by decide +kernel) (by decide +kernel) ?_; refine o_exs rfl (x_storeW [] hS18 ti49 rfl rfl (by first | (simp [*]; done) | (simp [*] <;> omega) | omega) (by first | (simp [*]; done) | (simp [*] <;> omega) | omega) (by repeat' first | exact one_nil | exact one_b8 _ | exact one_v32 _ | exact one_all rfl | refine one_cons rfl ?_ | refine one_app ?_ ?_)) rfl ?_; intro w19 hS20; simp only [List.cons_append, List.nil_append] at hS20
        refine ⟨hS20.drop1.drop1.drop1, ?_⟩
        refine g_tail (by decide +kernel) rfl (by decide +kernel) ?_; refine wl_val (r_assign (v := .int .i64 _) rfl) rfl ?_; refine wl_nil ?_; refine c_then ?_; refine c_seq ?_; refine c_region ?_; refine wl_val (r_loadB ti49 rfl rfl (hS20.heap (.head _)) (by first | (simp [*]; done) | (simp [*] <;> omega) | omega)) rfl ?_; refine wl_exs (x_storeW [_, _, _] hS20 ti49 rfl rfl (by first | (simp [*]; done) | (simp [*] <;> omega) | omega) (by first | (simp [*]; done) | (simp [*] <;> omega) | omega) (by repeat' first | exact one_nil | exact one_b8 _ | exact one_v32 _ | exact one_all rfl | refine one_cons rfl ?_ | refine one_app ?_ ?_)) rfl ?_; intro w21 hS22; simp only [List.cons_append, List.nil_append] at hS22; refine wl_nil ?_; refine c_then ?_; refine wp_ret ?_; refine retc Try.results52 ⟨_, rfl, run_loadVar_blk ti49 rfl (hS22.heap (.tail _ (.tail _ (.tail _ (.head _))))) (by first | (simp [*]; done) | (simp [*] <;> omega) | omega)⟩ ?_
        exact ⟨rfl, hS22.fin⟩
      · refine o_exv rfl (x_alloc (C := ((List.replicate 32 (0 : UInt8)).map b8)) hS13 ti49 rfl) rfl ?_
        rintro _ w23 ⟨b5, rfl, hS24⟩
        refine ⟨hS24.drop1.drop1.drop1, ?_⟩
        refine g_one 4 (by decide +kernel) (by decide +kernel) ?_; refine o_call rfl (r_call fn44 rfl rfl) rfl (sumOf_in 2 (a ++ b) _ _ _ _ (by decide) (St.rowAt hS24 (.tail _ (.head _))) (by simp [ha, hb]) hc11 (by decide)) ?_; rintro _ w25 ⟨rfl, hx26⟩
        have hS27 := hS24.ext hx26
        refine ⟨hS27.drop1.drop1.drop1, ?_⟩
        refine g_take 5 rfl (by decide +kernel) rfl (fun _ _ _ h => h) hS27.drop1.drop1.drop1 (fun wF hF => r_move (v := .tuple _) rfl) ?_; refine g_take 6 rfl (by decide +kernel) rfl (fun _ _ _ h => h) hS27.drop1.drop1.drop1 (fun wF hF => r_extract (v := .agg _) rfl rfl) ?_; refine g_take 7 rfl (by decide +kernel) rfl (fun _ _ _ h => h) hS27.drop1.drop1.drop1 (fun wF hF => r_extract (v := .int .i64 _) rfl rfl) ?_; refine g_one 9 (by decide +kernel) (by decide +kernel) ?_; refine o_exs rfl (x_storeW [] hS27 ti49 rfl rfl (by first | (simp [*]; done) | (simp [*] <;> omega) | omega) (by first | (simp [*]; done) | (simp [*] <;> omega) | omega) (by repeat' first | exact one_nil | exact one_b8 _ | exact one_v32 _ | exact one_all rfl | refine one_cons rfl ?_ | refine one_app ?_ ?_)) rfl ?_; intro w28 hS29; simp only [List.cons_append, List.nil_append] at hS29
        refine ⟨hS29.drop1.drop1.drop1, ?_⟩
        refine g_tail (by decide +kernel) rfl (by decide +kernel) ?_; refine wl_val (r_assign (v := .int .i64 _) rfl) rfl ?_; refine wl_nil ?_; refine c_then ?_; refine c_seq ?_; refine c_region ?_; refine wl_val (r_loadB ti49 rfl rfl (hS29.heap (.head _)) (by first | (simp [*]; done) | (simp [*] <;> omega) | omega)) rfl ?_; refine wl_exs (x_storeW [_, _, _] hS29 ti49 rfl rfl (by first | (simp [*]; done) | (simp [*] <;> omega) | omega) (by first | (simp [*]; done) | (simp [*] <;> omega) | omega) (by repeat' first | exact one_nil | exact one_b8 _ | exact one_v32 _ | exact one_all rfl | refine one_cons rfl ?_ | refine one_app ?_ ?_)) rfl ?_; intro w30 hS31; simp only [List.cons_append, List.nil_append] at hS31; refine wl_nil ?_; refine c_then ?_; refine wp_ret ?_; refine retc Try.results52 ⟨_, rfl, run_loadVar_blk ti49 rfl (hS31.heap (.tail _ (.tail _ (.tail _ (.head _))))) (by first | (simp [*]; done) | (simp [*] <;> omega) | omega)⟩ ?_
        exact ⟨rfl, hS31.fin⟩
    · refine o_exv rfl (x_alloc (C := ((List.replicate 32 (0 : UInt8)).map b8)) hS10 ti49 rfl) rfl ?_
      rintro _ w32 ⟨b5, rfl, hS33⟩
      refine ⟨hS33.drop1.drop1, ?_⟩
      refine g_one 3 (by decide +kernel) (by decide +kernel) ?_; refine o_call rfl (r_call fn130 rfl rfl) rfl (concat2_n a b _ _ _ _ _ _ _ _ _ (Row.of_at (at_all (hS33.heap (.tail _ (.head _))))) (Row.of_at (at_all (hS33.heap (.tail _ (.tail _ (.tail _ (.tail _ (.head _)))))))) (Row.of_at (at_all (hS33.heap (.tail _ (.tail _ (.tail _ (.head _))))))) (by first | (simp [*]; done) | (simp [*] <;> omega) | omega) (by first | (simp [*]; done) | (simp [*] <;> omega) | omega) (by decide)) ?_; rintro _ w34 ⟨a11, c11, rfl, hc11, hx35⟩
      have hS36 := hS33.call hx35
      simp only [List.cons_append, List.nil_append] at hS36
      refine ⟨hS36.drop1.drop1.drop1, ?_⟩
      refine g_one 4 (by decide +kernel) (by decide +kernel) ?_; refine o_call rfl (r_call fn44 rfl rfl) rfl (sumOf_in 2 (a ++ b) _ _ _ _ (by decide) (St.rowAt hS36 (.head _)) (by simp [ha, hb]) hc11 (by decide)) ?_; rintro _ w37 ⟨rfl, hx38⟩
      have hS39 := hS36.ext hx38
      refine ⟨hS39.drop1.drop1.drop1, ?_⟩
      refine g_take 5 rfl (by decide +kernel) rfl (fun _ _ _ h => h) hS39.drop1.drop1.drop1 (fun wF hF => r_move (v := .tuple _) rfl) ?_; refine g_take 6 rfl (by decide +kernel) rfl (fun _ _ _ h => h) hS39.drop1.drop1.drop1 (fun wF hF => r_extract (v := .agg _) rfl rfl) ?_; refine g_take 7 rfl (by decide +kernel) rfl (fun _ _ _ h => h) hS39.drop1.drop1.drop1 (fun wF hF => r_extract (v := .int .i64 _) rfl rfl) ?_; refine g_one 9 (by decide +kernel) (by decide +kernel) ?_; refine o_exs rfl (x_storeW [_] hS39 ti49 rfl rfl (by first | (simp [*]; done) | (simp [*] <;> omega) | omega) (by first | (simp [*]; done) | (simp [*] <;> omega) | omega) (by repeat' first | exact one_nil | exact one_b8 _ | exact one_v32 _ | exact one_all rfl | refine one_cons rfl ?_ | refine one_app ?_ ?_)) rfl ?_; intro w40 hS41; simp only [List.cons_append, List.nil_append] at hS41
      refine ⟨hS41.drop1.drop1.drop1, ?_⟩
      refine g_tail (by decide +kernel) rfl (by decide +kernel) ?_; refine wl_val (r_assign (v := .int .i64 _) rfl) rfl ?_; refine wl_nil ?_; refine c_then ?_; refine c_seq ?_; refine c_region ?_; refine wl_val (r_loadB ti49 rfl rfl (hS41.heap (.tail _ (.head _))) (by first | (simp [*]; done) | (simp [*] <;> omega) | omega)) rfl ?_; refine wl_exs (x_storeW [_, _, _] hS41 ti49 rfl rfl (by first | (simp [*]; done) | (simp [*] <;> omega) | omega) (by first | (simp [*]; done) | (simp [*] <;> omega) | omega) (by repeat' first | exact one_nil | exact one_b8 _ | exact one_v32 _ | exact one_all rfl | refine one_cons rfl ?_ | refine one_app ?_ ?_)) rfl ?_; intro w42 hS43; simp only [List.cons_append, List.nil_append] at hS43; refine wl_nil ?_; refine c_then ?_; refine wp_ret ?_; refine retc Try.results52 ⟨_, rfl, run_loadVar_blk ti49 rfl (hS43.heap (.tail _ (.tail _ (.tail _ (.head _))))) (by first | (simp [*]; done) | (simp [*] <;> omega) | omega)⟩ ?_
      exact ⟨rfl, hS43.fin⟩
  · refine o_exv rfl (x_alloc (C := ((List.replicate 32 (0 : UInt8)).map b8)) hS8 ti49 rfl) rfl ?_
    rintro _ w44 ⟨b5, rfl, hS45⟩
    refine ⟨hS45.drop1, ?_⟩
    refine g_one 2 (by decide +kernel) (by decide +kernel) ?_; refine o_exv rfl (x_lit (vs := [.slice _ _ _, .slice _ _ _]) hS45 ti43.und ti22 rfl rfl rfl (by intro c hc; simp only [List.mem_cons, List.not_mem_nil, or_false] at hc; rcases hc with rfl | rfl <;> rfl) (by decide)) rfl ?_; rintro _ w46 ⟨b10, rfl, hS47⟩
    refine ⟨hS47.drop1.drop1, ?_⟩
    refine g_one 3 (by decide +kernel) (by decide +kernel) ?_; refine o_call rfl (r_call fn130 rfl rfl) rfl (concat2_n a b _ _ _ _ _ _ _ _ _ (Row.of_at (at_all (hS47.heap (.head _)))) (Row.of_at (at_all (hS47.heap (.tail _ (.tail _ (.tail _ (.tail _ (.head _)))))))) (Row.of_at (at_all (hS47.heap (.tail _ (.tail _ (.tail _ (.head _))))))) (by first | (simp [*]; done) | (simp [*] <;> omega) | omega) (by first | (simp [*]; done) | (simp [*] <;> omega) | omega) (by decide)) ?_; rintro _ w48 ⟨a11, c11, rfl, hc11, hx49⟩
    have hS50 := hS47.call hx49
    simp only [List.cons_append, List.nil_append] at hS50
    refine ⟨hS50.drop1.drop1.drop1, ?_⟩
    refine g_one 4 (by decide +kernel) (by decide +kernel) ?_; refine o_call rfl (r_call fn44 rfl rfl) rfl (sumOf_in 2 (a ++ b) _ _ _ _ (by decide) (St.rowAt hS50 (.head _)) (by simp [ha, hb]) hc11 (by decide)) ?_; rintro _ w51 ⟨rfl, hx52⟩
    have hS53 := hS50.ext hx52
    refine ⟨hS53.drop1.drop1.drop1, ?_⟩
    refine g_take 5 rfl (by decide +kernel) rfl (fun _ _ _ h => h) hS53.drop1.drop1.drop1 (fun wF hF => r_move (v := .tuple _) rfl) ?_; refine g_take 6 rfl (by decide +kernel) rfl (fun _ _ _ h => h) hS53.drop1.drop1.drop1 (fun wF hF => r_extract (v := .agg _) rfl rfl) ?_; refine g_take 7 rfl (by decide +kernel) rfl (fun _ _ _ h => h) hS53.drop1.drop1.drop1 (fun wF hF => r_extract (v := .int .i64 _) rfl rfl) ?_; refine g_one 9 (by decide +kernel) (by decide +kernel) ?_; refine o_exs rfl (x_storeW [_, _] hS53 ti49 rfl rfl (by first | (simp [*]; done) | (simp [*] <;> omega) | omega) (by first | (simp [*]; done) | (simp [*] <;> omega) | omega) (by repeat' first | exact one_nil | exact one_b8 _ | exact one_v32 _ | exact one_all rfl | refine one_cons rfl ?_ | refine one_app ?_ ?_)) rfl ?_; intro w54 hS55; simp only [List.cons_append, List.nil_append] at hS55
    refine ⟨hS55.drop1.drop1.drop1, ?_⟩
    refine g_tail (by decide +kernel) rfl (by decide +kernel) ?_; refine wl_val (r_assign (v := .int .i64 _) rfl) rfl ?_; refine wl_nil ?_; refine c_then ?_; refine c_seq ?_; refine c_region ?_; refine wl_val (r_loadB ti49 rfl rfl (hS55.heap (.tail _ (.tail _ (.head _)))) (by first | (simp [*]; done) | (simp [*] <;> omega) | omega)) rfl ?_; refine wl_exs (x_storeW [_, _, _] hS55 ti49 rfl rfl (by first | (simp [*]; done) | (simp [*] <;> omega) | omega) (by first | (simp [*]; done) | (simp [*] <;> omega) | omega) (by repeat' first | exact one_nil | exact one_b8 _ | exact one_v32 _ | exact one_all rfl | refine one_cons rfl ?_ | refine one_app ?_ ?_)) rfl ?_; intro w56 hS57; simp only [List.cons_append, List.nil_append] at hS57; refine wl_nil ?_; refine c_then ?_; refine wp_ret ?_; refine retc Try.results52 ⟨_, rfl, run_loadVar_blk ti49 rfl (hS57.heap (.tail _ (.tail _ (.tail _ (.head _))))) (by first | (simp [*]; done) | (simp [*] <;> omega) | omega)⟩ ?_
    exact ⟨rfl, hS57.fin⟩

theorem rnode_ok (a b : List UInt8) (w : World) (ha : a.length = 32) (hb : b.length = 32) :
    Ret Try.prog 53 [.agg (a.map b8).toArray, .agg (b.map b8).toArray] w (fun v w' => v = .agg ((nodeL a b).map b8).toArray ∧ St w [] w' []) := by
  refine enter Try.func53 rfl Try.ntmps53 rfl ?_
  have hS := St.refl w []
  refine c_seq ?_; refine c_region ?_; refine wl_exv (x_box hS (v := .agg _) rfl rfl) rfl ?_; rintro _ w1 ⟨b2, rfl, hS2⟩; refine wl_exv (x_box hS2 (v := .agg _) rfl rfl) rfl ?_; rintro _ w3 ⟨b3, rfl, hS4⟩; refine wl_exv (x_alloc (C := ((List.replicate 32 (0 : UInt8)).map b8)) hS4 ti49 rfl) rfl ?_; rintro _ w5 ⟨b4, rfl, hS6⟩; refine wl_nil ?_; refine c_then ?_; refine c_seq ?_; refine c_drawS 3 hMixed hS6 ?_; intro w7 hS8; refine g_take 0 rfl (by decide +kernel) rfl (fun _ _ _ h => h) hS8 (fun wF hF => r_sa1_0 ti49.und ti5 rfl ) ?_; refine g_take 2 rfl (by decide +kernel) rfl (fun _ _ _ h => h) hS8 (fun wF hF => r_sa1_0 ti49.und ti5 rfl ) ?_; refine g_one 1 (by decide +kernel) (by decide +kernel) ?_; refine o_call rfl (r_call fn21 rfl rfl) rfl (clone_n _ _ _ _ _ (Row.of_at (at_all (hS8.heap (.tail _ (.tail _ (.head _)))))) (by first | (simp [*]; done) | (simp [*] <;> omega) | omega) (by first | (simp [*]; done) | (simp [*] <;> omega) | omega)) ?_; rintro _ w9 ⟨a6, c6, rfl, hc6, hx10⟩
  have hS11 := hS8.call hx10
  simp only [List.cons_append, List.nil_append] at hS11
  refine ⟨hS11.drop1, ?_⟩
  refine g_tail (by decide +kernel) rfl (by decide +kernel) ?_; refine wl_exv (x_append [] hS11 ti22.und ti5 rfl (by decide) rfl rfl (Row.of_at (at_all (hS11.heap (.tail _ (.tail _ (.head _)))))) (by first | (simp [*]; done) | (simp [*] <;> omega) | omega) (by first | exact one_b8 _ | exact one_v32 _ | (intro c hc; simp only [List.mem_cons, List.not_mem_nil, or_false] at hc; (first | subst hc | rcases hc with rfl | rfl) <;> rfl)) (by first | omega | (simp [*]; done) | (simp [*] <;> omega)) (by first | omega | (simp [*]; done) | (simp [*] <;> omega)) _ rfl) rfl ?_; rintro _ w12 ⟨aq14, cq14, rfl, hcq14, hS13⟩; simp only [List.cons_append, List.nil_append] at hS13; refine wl_call (r_call fn33 rfl rfl) rfl (rsum_ok 2 (a ++ b) _ _ _ _ (by rw [List.map_append]; exact (St.rowAt hS13 (.head _))) (by simp [ha, hb]) (by decide)) ?_; rintro _ w15 ⟨rfl, hx16⟩
  have hS17 := hS13.ext hx16
  refine wl_exs (x_storeW [_] hS17 ti49 rfl rfl (by first | (simp [*]; done) | (simp [*] <;> omega) | omega) (by first | (simp [*]; done) | (simp [*] <;> omega) | omega) (by repeat' first | exact one_nil | exact one_b8 _ | exact one_v32 _ | exact one_all rfl | refine one_cons rfl ?_ | refine one_app ?_ ?_)) rfl ?_; intro w18 hS19; simp only [List.cons_append, List.nil_append] at hS19; refine wl_nil ?_; refine c_then ?_; refine wp_ret ?_; refine retc Try.results53 ⟨_, rfl, run_loadVar_blk ti49 rfl (hS19.heap (.tail _ (.head _))) (by first | (simp [*]; done) | (simp [*] <;> omega) | omega)⟩ ?_
  exact ⟨rfl, hS19.fin⟩

end Go.Proofs.Ytfohfnpehfcaaaa
