/- What the law's proof leans on. No condition. -/
import Derived.Test.YtbanoknkplcedaaPEMAH
import Derived.Test.YtbanoknkplcedaaPEMAQ
import Derived.Test.YtbanoknkplcedaaPEMBB
import Derived.Test.YtbanoknkplcedaaPEMBC
import Derived.Test.YtbanoknkplcedaaPEMBD
import Derived.Test.YtbanoknkplcedaaPEMBE
namespace Go.Proofs.Ytbanoknkplcedaa
open Go.Kw
set_option linter.unusedVariables false
set_option linter.unusedSimpArgs false
set_option maxRecDepth 100000
theorem isAct_ok (n : Int) (w : World) :
    Ret Try.prog 34 [.int .i64 n] w (fun v w' => ((1 ≤ n ∧ n ≤ 12) ∧ v = .bool true ∧ St w [] w' []) ∨ ((n < 1 ∨ 12 < n) ∧ v = .bool false ∧ St w [] w' [])) := by
  refine enter Try.func34 rfl Try.ntmps34 rfl ?_
  have hS := St.refl w []
  refine c_seq ?_; refine c_region ?_; refine wl_val (r_assign (v := .bool false) rfl) rfl ?_; refine wl_nil ?_; refine c_then ?_; refine c_seq ?_; refine c_region ?_; refine wl_val (r_move (v := .int .i64 _) rfl) rfl ?_
  refine wl_dec (r_geq rfl rfl) rfl (fun h1_1 => ?_) (fun h1_1 => ?_)
  · refine wl_val (r_move (v := .bool _) rfl) rfl ?_
    refine wl_val (r_move (v := .int .i64 _) rfl) rfl ?_
    refine wl_dec (r_leq rfl rfl) rfl (fun h1_4 => ?_) (fun h1_4 => ?_)
    · refine wl_val (r_pick_t rfl (v := .bool _) rfl) rfl ?_
      refine wl_val (r_assign (v := .bool _) rfl) rfl ?_; refine wl_nil ?_; refine c_then ?_; refine wp_ret ?_; refine ret1 Try.results34 ?_
      first | exact .inl ⟨by omega, rfl, hS.fin⟩ | exact .inr ⟨by omega, rfl, hS.fin⟩
    refine wl_val (r_pick_t rfl (v := .bool _) rfl) rfl ?_; refine wl_val (r_assign (v := .bool _) rfl) rfl ?_; refine wl_nil ?_; refine c_then ?_; refine wp_ret ?_; refine ret1 Try.results34 ?_
    first | exact .inl ⟨by omega, rfl, hS.fin⟩ | exact .inr ⟨by omega, rfl, hS.fin⟩
  refine wl_val (r_move (v := .bool _) rfl) rfl ?_; refine wl_not rfl ?_; refine wl_not rfl ?_; refine wl_val (r_pick_f rfl (v := .bool false) rfl) rfl ?_; refine wl_val (r_assign (v := .bool _) rfl) rfl ?_; refine wl_nil ?_; refine c_then ?_; refine wp_ret ?_; refine ret1 Try.results34 ?_
  first | exact .inl ⟨by omega, rfl, hS.fin⟩ | exact .inr ⟨by omega, rfl, hS.fin⟩

theorem outside_ok (n lo hi : Int) (w : World) :
    Ret Try.prog 56 [.int .i64 n, .int .i64 lo, .int .i64 hi] w (fun v w' => (outI n lo hi ∧ v = .bool true ∧ St w [] w' []) ∨ (¬ outI n lo hi ∧ v = .bool false ∧ St w [] w' [])) := by
  refine enter Try.func56 rfl Try.ntmps56 rfl ?_
  have hS := St.refl w []
  refine c_seq ?_; refine c_region ?_; refine wl_val (r_assign (v := .bool false) rfl) rfl ?_; refine wl_nil ?_; refine c_then ?_; refine c_seq ?_; refine c_region ?_; refine wl_val (r_move (v := .int .i64 _) rfl) rfl ?_; refine wl_val (r_move (v := .int .i64 _) rfl) rfl ?_
  refine wl_dec (r_lss rfl rfl) rfl (fun h1_2 => ?_) (fun h1_2 => ?_)
  · refine wl_val (r_move (v := .bool _) rfl) rfl ?_
    refine wl_not rfl ?_; refine wl_not rfl ?_; refine wl_not rfl ?_; refine wl_val (r_pick_t rfl (v := .bool true) rfl) rfl ?_; refine wl_val (r_assign (v := .bool _) rfl) rfl ?_; refine wl_nil ?_; refine c_then ?_; refine wp_ret ?_; refine ret1 Try.results56 ?_
    first | exact .inl ⟨by unfold outI; omega, rfl, hS.fin⟩ | exact .inr ⟨by unfold outI; omega, rfl, hS.fin⟩
  refine wl_val (r_move (v := .bool _) rfl) rfl ?_; refine wl_val (r_move (v := .int .i64 _) rfl) rfl ?_; refine wl_val (r_move (v := .int .i64 _) rfl) rfl ?_
  refine wl_dec (r_gtr rfl rfl) rfl (fun h1_6 => ?_) (fun h1_6 => ?_)
  · refine wl_val (r_pick_f rfl (v := .bool _) rfl) rfl ?_
    refine wl_val (r_assign (v := .bool _) rfl) rfl ?_; refine wl_nil ?_; refine c_then ?_; refine wp_ret ?_; refine ret1 Try.results56 ?_
    first | exact .inl ⟨by unfold outI; omega, rfl, hS.fin⟩ | exact .inr ⟨by unfold outI; omega, rfl, hS.fin⟩
  refine wl_val (r_pick_f rfl (v := .bool _) rfl) rfl ?_; refine wl_val (r_assign (v := .bool _) rfl) rfl ?_; refine wl_nil ?_; refine c_then ?_; refine wp_ret ?_; refine ret1 Try.results56 ?_
  first | exact .inl ⟨by unfold outI; omega, rfl, hS.fin⟩ | exact .inr ⟨by unfold outI; omega, rfl, hS.fin⟩

theorem needsOf_ok (a : Nat) (w : World) (h1 : 1 ≤ a) (h2 : a ≤ 12) :
    Ret Try.prog 24 [vi a] w (fun v w' => v = .agg (needV (needF a)).toArray ∧ St w [] w' []) := by
  refine enter Try.func24 rfl Try.ntmps24 rfl ?_
  have hS := St.refl w []
  refine c_seq ?_; refine c_region ?_; refine wl_exv (x_alloc (C := (List.replicate 12 (.bool false : Value))) hS ti56 rfl) rfl ?_; rintro _ w1 ⟨b2, rfl, hS2⟩; refine wl_nil ?_; refine c_then ?_; refine c_seq ?_; refine c_seq ?_; refine c_region ?_; refine wl_val (r_move (v := .int .i64 _) rfl) rfl ?_; refine wl_nil ?_; refine c_then ?_; refine c_block ?_; refine c_seq ?_; refine c_region ?_
  refine wl_dec (r_eql rfl rfl) rfl (fun h2_0 => ?_) (fun h2_0 => ?_)
  · refine wl_val (r_assign (v := .bool _) rfl) rfl ?_
    refine wl_nil ?_; refine c_then ?_; refine c_true rfl ?_; refine c_seq ?_; refine c_region ?_; refine wl_val (r_buildP (ps := [(0, .bool true)]) (out := [.bool true, .bool false, .bool false, .bool false, .bool false, .bool false, .bool false, .bool false, .bool false, .bool false, .bool false, .bool false]) pl56 ti56 rfl rfl) rfl ?_; refine wl_exs (x_storeW [] hS2 ti56 rfl rfl (by first | (simp [*]; done) | (simp [*] <;> omega) | omega) (by first | (simp [*]; done) | (simp [*] <;> omega) | omega) (by repeat' first | exact one_nil | exact one_b8 _ | exact one_v32 _ | exact one_all rfl | refine one_cons rfl ?_ | refine one_app ?_ ?_)) rfl ?_; intro w3 hS4; simp only [List.cons_append, List.nil_append] at hS4; refine wl_nil ?_; refine c_then ?_; refine wp_ret ?_; refine c_inR ?_; refine c_thenR ?_; refine retc Try.results24 ⟨_, rfl, run_loadVar_blk ti56 ag56 (hS4.heap (.head _)) rfl⟩ ?_
    obtain rfl : a = 1 := by omega
    exact ⟨rfl, hS4.fin⟩
  refine wl_val (r_assign (v := .bool _) rfl) rfl ?_; refine wl_nil ?_; refine c_then ?_; refine c_false rfl ?_; refine c_seq ?_; refine c_region ?_
  refine wl_dec (r_eql rfl rfl) rfl (fun h4_0 => ?_) (fun h4_0 => ?_)
  · refine wl_val (r_assign (v := .bool _) rfl) rfl ?_
    refine wl_nil ?_; refine c_then ?_; refine c_true rfl ?_; refine c_seq ?_; refine c_region ?_; refine wl_val (r_buildP (ps := [(1, .bool true), (2, .bool true)]) (out := [.bool false, .bool true, .bool true, .bool false, .bool false, .bool false, .bool false, .bool false, .bool false, .bool false, .bool false, .bool false]) pl56 ti56 rfl rfl) rfl ?_; refine wl_exs (x_storeW [] hS2 ti56 rfl rfl (by first | (simp [*]; done) | (simp [*] <;> omega) | omega) (by first | (simp [*]; done) | (simp [*] <;> omega) | omega) (by repeat' first | exact one_nil | exact one_b8 _ | exact one_v32 _ | exact one_all rfl | refine one_cons rfl ?_ | refine one_app ?_ ?_)) rfl ?_; intro w5 hS6; simp only [List.cons_append, List.nil_append] at hS6; refine wl_nil ?_; refine c_then ?_; refine wp_ret ?_; refine c_inR ?_; refine c_thenR ?_; refine retc Try.results24 ⟨_, rfl, run_loadVar_blk ti56 ag56 (hS6.heap (.head _)) rfl⟩ ?_
    obtain rfl : a = 2 := by omega
    exact ⟨rfl, hS6.fin⟩
  refine wl_val (r_assign (v := .bool _) rfl) rfl ?_; refine wl_nil ?_; refine c_then ?_; refine c_false rfl ?_; refine c_seq ?_; refine c_region ?_
  refine wl_dec (r_eql rfl rfl) rfl (fun h6_0 => ?_) (fun h6_0 => ?_)
  · refine wl_val (r_assign (v := .bool _) rfl) rfl ?_
    refine wl_nil ?_; refine c_then ?_; refine c_true rfl ?_; refine c_seq ?_; refine c_region ?_; refine wl_val (r_buildP (ps := [(1, .bool true)]) (out := [.bool false, .bool true, .bool false, .bool false, .bool false, .bool false, .bool false, .bool false, .bool false, .bool false, .bool false, .bool false]) pl56 ti56 rfl rfl) rfl ?_; refine wl_exs (x_storeW [] hS2 ti56 rfl rfl (by first | (simp [*]; done) | (simp [*] <;> omega) | omega) (by first | (simp [*]; done) | (simp [*] <;> omega) | omega) (by repeat' first | exact one_nil | exact one_b8 _ | exact one_v32 _ | exact one_all rfl | refine one_cons rfl ?_ | refine one_app ?_ ?_)) rfl ?_; intro w7 hS8; simp only [List.cons_append, List.nil_append] at hS8; refine wl_nil ?_; refine c_then ?_; refine wp_ret ?_; refine c_inR ?_; refine c_thenR ?_; refine retc Try.results24 ⟨_, rfl, run_loadVar_blk ti56 ag56 (hS8.heap (.head _)) rfl⟩ ?_
    obtain rfl : a = 3 := by omega
    exact ⟨rfl, hS8.fin⟩
  refine wl_val (r_assign (v := .bool _) rfl) rfl ?_; refine wl_nil ?_; refine c_then ?_; refine c_false rfl ?_; refine c_seq ?_; refine c_region ?_
  refine wl_dec (r_eql rfl rfl) rfl (fun h8_0 => ?_) (fun h8_0 => ?_)
  · refine wl_val (r_assign (v := .bool _) rfl) rfl ?_
    refine wl_nil ?_; refine c_then ?_; refine c_true rfl ?_; refine c_seq ?_; refine c_region ?_; refine wl_val (r_buildP (ps := [(3, .bool true), (4, .bool true)]) (out := [.bool false, .bool false, .bool false, .bool true, .bool true, .bool false, .bool false, .bool false, .bool false, .bool false, .bool false, .bool false]) pl56 ti56 rfl rfl) rfl ?_; refine wl_exs (x_storeW [] hS2 ti56 rfl rfl (by first | (simp [*]; done) | (simp [*] <;> omega) | omega) (by first | (simp [*]; done) | (simp [*] <;> omega) | omega) (by repeat' first | exact one_nil | exact one_b8 _ | exact one_v32 _ | exact one_all rfl | refine one_cons rfl ?_ | refine one_app ?_ ?_)) rfl ?_; intro w9 hS10; simp only [List.cons_append, List.nil_append] at hS10; refine wl_nil ?_; refine c_then ?_; refine wp_ret ?_; refine c_inR ?_; refine c_thenR ?_; refine retc Try.results24 ⟨_, rfl, run_loadVar_blk ti56 ag56 (hS10.heap (.head _)) rfl⟩ ?_
    obtain rfl : a = 4 := by omega
    exact ⟨rfl, hS10.fin⟩
  refine wl_val (r_assign (v := .bool _) rfl) rfl ?_; refine wl_nil ?_; refine c_then ?_; refine c_false rfl ?_; refine c_seq ?_; refine c_region ?_
  refine wl_dec (r_eql rfl rfl) rfl (fun h10_0 => ?_) (fun h10_0 => ?_)
  · refine wl_val (r_assign (v := .bool _) rfl) rfl ?_
    refine wl_nil ?_; refine c_then ?_; refine c_true rfl ?_; refine c_seq ?_; refine c_region ?_; refine wl_val (r_buildP (ps := [(5, .bool true), (4, .bool true)]) (out := [.bool false, .bool false, .bool false, .bool false, .bool true, .bool true, .bool false, .bool false, .bool false, .bool false, .bool false, .bool false]) pl56 ti56 rfl rfl) rfl ?_; refine wl_exs (x_storeW [] hS2 ti56 rfl rfl (by first | (simp [*]; done) | (simp [*] <;> omega) | omega) (by first | (simp [*]; done) | (simp [*] <;> omega) | omega) (by repeat' first | exact one_nil | exact one_b8 _ | exact one_v32 _ | exact one_all rfl | refine one_cons rfl ?_ | refine one_app ?_ ?_)) rfl ?_; intro w11 hS12; simp only [List.cons_append, List.nil_append] at hS12; refine wl_nil ?_; refine c_then ?_; refine wp_ret ?_; refine c_inR ?_; refine c_thenR ?_; refine retc Try.results24 ⟨_, rfl, run_loadVar_blk ti56 ag56 (hS12.heap (.head _)) rfl⟩ ?_
    obtain rfl : a = 5 := by omega
    exact ⟨rfl, hS12.fin⟩
  refine wl_val (r_assign (v := .bool _) rfl) rfl ?_; refine wl_nil ?_; refine c_then ?_; refine c_false rfl ?_; refine c_seq ?_; refine c_region ?_
  refine wl_dec (r_eql rfl rfl) rfl (fun h12_0 => ?_) (fun h12_0 => ?_)
  · refine wl_val (r_assign (v := .bool _) rfl) rfl ?_
    refine wl_nil ?_; refine c_then ?_; refine c_true rfl ?_; refine c_seq ?_; refine c_region ?_; refine wl_val (r_buildP (ps := [(6, .bool true), (5, .bool true), (4, .bool true)]) (out := [.bool false, .bool false, .bool false, .bool false, .bool true, .bool true, .bool true, .bool false, .bool false, .bool false, .bool false, .bool false]) pl56 ti56 rfl rfl) rfl ?_; refine wl_exs (x_storeW [] hS2 ti56 rfl rfl (by first | (simp [*]; done) | (simp [*] <;> omega) | omega) (by first | (simp [*]; done) | (simp [*] <;> omega) | omega) (by repeat' first | exact one_nil | exact one_b8 _ | exact one_v32 _ | exact one_all rfl | refine one_cons rfl ?_ | refine one_app ?_ ?_)) rfl ?_; intro w13 hS14; simp only [List.cons_append, List.nil_append] at hS14; refine wl_nil ?_; refine c_then ?_; refine wp_ret ?_; refine c_inR ?_; refine c_thenR ?_; refine retc Try.results24 ⟨_, rfl, run_loadVar_blk ti56 ag56 (hS14.heap (.head _)) rfl⟩ ?_
    obtain rfl : a = 6 := by omega
    exact ⟨rfl, hS14.fin⟩
  refine wl_val (r_assign (v := .bool _) rfl) rfl ?_; refine wl_nil ?_; refine c_then ?_; refine c_false rfl ?_; refine c_seq ?_; refine c_region ?_
  refine wl_dec (r_eql rfl rfl) rfl (fun h14_0 => ?_) (fun h14_0 => ?_)
  · refine wl_val (r_assign (v := .bool _) rfl) rfl ?_
    refine wl_nil ?_; refine c_then ?_; refine c_true rfl ?_; refine c_seq ?_; refine c_region ?_; refine wl_val (r_buildP (ps := [(7, .bool true)]) (out := [.bool false, .bool false, .bool false, .bool false, .bool false, .bool false, .bool false, .bool true, .bool false, .bool false, .bool false, .bool false]) pl56 ti56 rfl rfl) rfl ?_; refine wl_exs (x_storeW [] hS2 ti56 rfl rfl (by first | (simp [*]; done) | (simp [*] <;> omega) | omega) (by first | (simp [*]; done) | (simp [*] <;> omega) | omega) (by repeat' first | exact one_nil | exact one_b8 _ | exact one_v32 _ | exact one_all rfl | refine one_cons rfl ?_ | refine one_app ?_ ?_)) rfl ?_; intro w15 hS16; simp only [List.cons_append, List.nil_append] at hS16; refine wl_nil ?_; refine c_then ?_; refine wp_ret ?_; refine c_inR ?_; refine c_thenR ?_; refine retc Try.results24 ⟨_, rfl, run_loadVar_blk ti56 ag56 (hS16.heap (.head _)) rfl⟩ ?_
    obtain rfl : a = 7 := by omega
    exact ⟨rfl, hS16.fin⟩
  refine wl_val (r_assign (v := .bool _) rfl) rfl ?_; refine wl_nil ?_; refine c_then ?_; refine c_false rfl ?_; refine c_seq ?_; refine c_region ?_
  refine wl_dec (r_eql rfl rfl) rfl (fun h16_0 => ?_) (fun h16_0 => ?_)
  · refine wl_val (r_assign (v := .bool _) rfl) rfl ?_
    refine wl_nil ?_; refine c_then ?_; refine c_true rfl ?_; refine c_seq ?_; refine c_region ?_; refine wl_val (r_buildP (ps := [(4, .bool true)]) (out := [.bool false, .bool false, .bool false, .bool false, .bool true, .bool false, .bool false, .bool false, .bool false, .bool false, .bool false, .bool false]) pl56 ti56 rfl rfl) rfl ?_; refine wl_exs (x_storeW [] hS2 ti56 rfl rfl (by first | (simp [*]; done) | (simp [*] <;> omega) | omega) (by first | (simp [*]; done) | (simp [*] <;> omega) | omega) (by repeat' first | exact one_nil | exact one_b8 _ | exact one_v32 _ | exact one_all rfl | refine one_cons rfl ?_ | refine one_app ?_ ?_)) rfl ?_; intro w17 hS18; simp only [List.cons_append, List.nil_append] at hS18; refine wl_nil ?_; refine c_then ?_; refine wp_ret ?_; refine c_inR ?_; refine c_thenR ?_; refine retc Try.results24 ⟨_, rfl, run_loadVar_blk ti56 ag56 (hS18.heap (.head _)) rfl⟩ ?_
    obtain rfl : a = 8 := by omega
    exact ⟨rfl, hS18.fin⟩
  refine wl_val (r_assign (v := .bool _) rfl) rfl ?_; refine wl_nil ?_; refine c_then ?_; refine c_false rfl ?_; refine c_seq ?_; refine c_region ?_
  refine wl_dec (r_eql rfl rfl) rfl (fun h18_0 => ?_) (fun h18_0 => ?_)
  · refine wl_val (r_assign (v := .bool _) rfl) rfl ?_
    refine wl_nil ?_; refine c_then ?_; refine c_true rfl ?_; refine c_seq ?_; refine c_region ?_; refine wl_val (r_buildP (ps := [(8, .bool true), (9, .bool true), (5, .bool true), (4, .bool true)]) (out := [.bool false, .bool false, .bool false, .bool false, .bool true, .bool true, .bool false, .bool false, .bool true, .bool true, .bool false, .bool false]) pl56 ti56 rfl rfl) rfl ?_; refine wl_exs (x_storeW [] hS2 ti56 rfl rfl (by first | (simp [*]; done) | (simp [*] <;> omega) | omega) (by first | (simp [*]; done) | (simp [*] <;> omega) | omega) (by repeat' first | exact one_nil | exact one_b8 _ | exact one_v32 _ | exact one_all rfl | refine one_cons rfl ?_ | refine one_app ?_ ?_)) rfl ?_; intro w19 hS20; simp only [List.cons_append, List.nil_append] at hS20; refine wl_nil ?_; refine c_then ?_; refine wp_ret ?_; refine c_inR ?_; refine c_thenR ?_; refine retc Try.results24 ⟨_, rfl, run_loadVar_blk ti56 ag56 (hS20.heap (.head _)) rfl⟩ ?_
    obtain rfl : a = 9 := by omega
    exact ⟨rfl, hS20.fin⟩
  refine wl_val (r_assign (v := .bool _) rfl) rfl ?_; refine wl_nil ?_; refine c_then ?_; refine c_false rfl ?_; refine c_seq ?_; refine c_region ?_
  refine wl_dec (r_eql rfl rfl) rfl (fun h20_0 => ?_) (fun h20_0 => ?_)
  · refine wl_val (r_assign (v := .bool _) rfl) rfl ?_
    refine wl_nil ?_; refine c_then ?_; refine c_true rfl ?_; refine c_seq ?_; refine c_region ?_; refine wl_val (r_buildP (ps := [(9, .bool true), (5, .bool true), (4, .bool true)]) (out := [.bool false, .bool false, .bool false, .bool false, .bool true, .bool true, .bool false, .bool false, .bool false, .bool true, .bool false, .bool false]) pl56 ti56 rfl rfl) rfl ?_; refine wl_exs (x_storeW [] hS2 ti56 rfl rfl (by first | (simp [*]; done) | (simp [*] <;> omega) | omega) (by first | (simp [*]; done) | (simp [*] <;> omega) | omega) (by repeat' first | exact one_nil | exact one_b8 _ | exact one_v32 _ | exact one_all rfl | refine one_cons rfl ?_ | refine one_app ?_ ?_)) rfl ?_; intro w21 hS22; simp only [List.cons_append, List.nil_append] at hS22; refine wl_nil ?_; refine c_then ?_; refine wp_ret ?_; refine c_inR ?_; refine c_thenR ?_; refine retc Try.results24 ⟨_, rfl, run_loadVar_blk ti56 ag56 (hS22.heap (.head _)) rfl⟩ ?_
    obtain rfl : a = 10 := by omega
    exact ⟨rfl, hS22.fin⟩
  refine wl_val (r_assign (v := .bool _) rfl) rfl ?_; refine wl_nil ?_; refine c_then ?_; refine c_false rfl ?_; refine c_seq ?_; refine c_region ?_
  refine wl_dec (r_eql rfl rfl) rfl (fun h22_0 => ?_) (fun h22_0 => ?_)
  · refine wl_val (r_assign (v := .bool _) rfl) rfl ?_
    refine wl_nil ?_; refine c_then ?_; refine c_true rfl ?_; refine c_seq ?_; refine c_region ?_; refine wl_val (r_buildP (ps := [(10, .bool true), (4, .bool true)]) (out := [.bool false, .bool false, .bool false, .bool false, .bool true, .bool false, .bool false, .bool false, .bool false, .bool false, .bool true, .bool false]) pl56 ti56 rfl rfl) rfl ?_; refine wl_exs (x_storeW [] hS2 ti56 rfl rfl (by first | (simp [*]; done) | (simp [*] <;> omega) | omega) (by first | (simp [*]; done) | (simp [*] <;> omega) | omega) (by repeat' first | exact one_nil | exact one_b8 _ | exact one_v32 _ | exact one_all rfl | refine one_cons rfl ?_ | refine one_app ?_ ?_)) rfl ?_; intro w23 hS24; simp only [List.cons_append, List.nil_append] at hS24; refine wl_nil ?_; refine c_then ?_; refine wp_ret ?_; refine c_inR ?_; refine c_thenR ?_; refine retc Try.results24 ⟨_, rfl, run_loadVar_blk ti56 ag56 (hS24.heap (.head _)) rfl⟩ ?_
    obtain rfl : a = 11 := by omega
    exact ⟨rfl, hS24.fin⟩
  refine wl_val (r_assign (v := .bool _) rfl) rfl ?_; refine wl_nil ?_; refine c_then ?_; refine c_false rfl ?_; refine wp_skip ?_; refine c_inN ?_; refine c_then ?_; refine c_seq ?_; refine c_region ?_; refine wl_val (r_buildP (ps := [(10, .bool true), (11, .bool true), (4, .bool true)]) (out := [.bool false, .bool false, .bool false, .bool false, .bool true, .bool false, .bool false, .bool false, .bool false, .bool false, .bool true, .bool true]) pl56 ti56 rfl rfl) rfl ?_; refine wl_exs (x_storeW [] hS2 ti56 rfl rfl (by first | (simp [*]; done) | (simp [*] <;> omega) | omega) (by first | (simp [*]; done) | (simp [*] <;> omega) | omega) (by repeat' first | exact one_nil | exact one_b8 _ | exact one_v32 _ | exact one_all rfl | refine one_cons rfl ?_ | refine one_app ?_ ?_)) rfl ?_; intro w25 hS26; simp only [List.cons_append, List.nil_append] at hS26; refine wl_nil ?_; refine c_then ?_; refine wp_ret ?_; refine retc Try.results24 ⟨_, rfl, run_loadVar_blk ti56 ag56 (hS26.heap (.head _)) rfl⟩ ?_
  obtain rfl : a = 12 := by omega
  exact ⟨rfl, hS26.fin⟩

theorem compareIDs_ok (a b : List UInt8) (w : World) (ha : a.length = 16) (hb : b.length = 16) :
    Ret Try.prog 57 [.agg (a.map b8).toArray, .agg (b.map b8).toArray] w (fun v w' => v = .int .i64 (Go.Lib.compareBytes a b) ∧ St w [] w' []) := by
  refine enter Try.func57 rfl Try.ntmps57 rfl ?_
  have hS := St.refl w []
  refine c_seq ?_; refine c_region ?_; refine wl_exv (x_box hS (v := .agg _) rfl rfl) rfl ?_; rintro _ w1 ⟨b2, rfl, hS2⟩; refine wl_exv (x_box hS2 (v := .agg _) rfl rfl) rfl ?_; rintro _ w3 ⟨b3, rfl, hS4⟩; refine wl_val (r_assign (v := .int .i64 0) rfl) rfl ?_; refine wl_nil ?_; refine c_then ?_; refine c_seq ?_; refine c_drawS 2 hMixed hS4 ?_; intro w5 hS6; refine g_take 0 rfl (by decide +kernel) rfl (fun _ _ _ h => h) hS6 (fun wF hF => r_sa1_0 ti23.und ti5 rfl ) ?_; refine g_take 1 rfl (by decide +kernel) rfl (fun _ _ _ h => h) hS6 (fun wF hF => r_sa1_0 ti23.und ti5 rfl ) ?_; refine g_tail (by decide +kernel) rfl (by decide +kernel) ?_; refine wl_call (r_call fn77 rfl rfl) rfl (bcmp_ok a b _ _ _ _ _ _ _ (Row.of_at (at_all (hS6.heap (.tail _ (.head _))))) (Row.of_at (at_all (hS6.heap (.head _)))) ha hb (by decide) (by decide)) ?_; rintro _ w7 ⟨rfl, hx8⟩
  have hS9 := hS6.ext hx8
  refine wl_val (r_assign (v := .int .i64 _) rfl) rfl ?_; refine wl_nil ?_; refine c_then ?_; refine wp_ret ?_; refine ret1 Try.results57 ?_
  exact ⟨rfl, hS9.fin⟩

theorem idOrder_ok (a b : List UInt8) (w : World) (ha : a.length = 16) (hb : b.length = 16) :
    Ret Try.prog 65 [.agg (a.map b8).toArray, .agg (b.map b8).toArray] w (fun v w' => v = .int .i64 (Go.Lib.compareBytes a b) ∧ St w [] w' []) := by
  refine enter Try.func65 rfl Try.ntmps65 rfl ?_
  have hS := St.refl w []
  refine c_seq ?_; refine c_region ?_; refine wl_exv (x_box hS (v := .agg _) rfl rfl) rfl ?_; rintro _ w1 ⟨b2, rfl, hS2⟩; refine wl_exv (x_box hS2 (v := .agg _) rfl rfl) rfl ?_; rintro _ w3 ⟨b3, rfl, hS4⟩; refine wl_val (r_assign (v := .int .i64 0) rfl) rfl ?_; refine wl_nil ?_; refine c_then ?_; refine c_seq ?_; refine c_drawS 2 hMixed hS4 ?_; intro w5 hS6; refine g_take 0 rfl (by decide +kernel) rfl (fun _ _ _ h => h) hS6 (fun wF hF => r_sa1_0 ti23.und ti5 rfl ) ?_; refine g_take 1 rfl (by decide +kernel) rfl (fun _ _ _ h => h) hS6 (fun wF hF => r_sa1_0 ti23.und ti5 rfl ) ?_; refine g_tail (by decide +kernel) rfl (by decide +kernel) ?_; refine wl_call (r_call fn77 rfl rfl) rfl (bcmp_ok a b _ _ _ _ _ _ _ (Row.of_at (at_all (hS6.heap (.tail _ (.head _))))) (Row.of_at (at_all (hS6.heap (.head _)))) ha hb (by decide) (by decide)) ?_; rintro _ w7 ⟨rfl, hx8⟩
  have hS9 := hS6.ext hx8
  refine wl_val (r_assign (v := .int .i64 _) rfl) rfl ?_; refine wl_nil ?_; refine c_then ?_; refine wp_ret ?_; refine ret1 Try.results65 ?_
  exact ⟨rfl, hS9.fin⟩

theorem rolesFault_ok (l : List (List UInt8)) (a : Option Addr) (n c : Nat) (w : World) (hb : Row w a (l.map sv)) (hl : l.length = n) (hn : n ≤ 140737488351232) (hs : ∀ s ∈ l, s.length ≤ 9223372036854775807) :
    Ret Try.prog 54 [.slice a n c] w (fun v w' => v = .int .i64 (rolesE l) ∧ St w [] w' []) := by
  subst hl
  refine enter Try.func54 rfl Try.ntmps54 rfl ?_
  have hS := St.refl w []
  refine c_seq ?_; refine c_region ?_; refine wl_val (r_assign (v := .int .i64 0) rfl) rfl ?_; refine wl_nil ?_; refine c_then ?_; refine c_seq ?_; refine c_seq ?_; refine c_region ?_; refine wl_val (r_move (v := .slice _ _ _) rfl) rfl ?_; refine wl_val (r_len (T := 24) rfl ti24.und rfl _ rfl) rfl ?_; refine wl_val (r_move (v := .int .i64 0) rfl) rfl ?_; refine wl_nil ?_; refine c_then ?_; refine c_block ?_; refine c_loopE [0, 5, 6] (fun d e w' => ∃ (k : Nat), Kw.look e 7 = vi k ∧ d = l.length - k ∧ St w [] w' [] ∧ (k ≤ l.length) ∧ (∀ j, j < k → roleAt l j = 0)) (l.length - 0) ?_ ?_
  · exact ⟨0, rfl, rfl, hS, Nat.zero_le _, fun j h => by omega⟩
  · rintro d4 e1 w2 ⟨k, hc0_7, rfl, hS3, hk, hok⟩ -
    refine c_set (d := 7) hc0_7 ?_; refine c_seq ?_; refine c_region ?_
    refine wl_dec (r_lss rfl rfl) rfl (fun h2_0 => ?_) (fun h2_0 => ?_)
    · refine wl_nil ?_
      refine c_then ?_; refine c_seq ?_; refine c_true rfl ?_; refine wp_skip ?_; refine c_then ?_; refine c_seq ?_; refine c_block ?_; refine c_seq ?_; refine c_region ?_; refine wl_val (r_move (v := .int .i64 _) rfl) rfl ?_; refine wl_val (r_ixS ti24.und ti9 rfl rfl (hb.st hS3) (by first | omega | (simp [*]; done) | (simp [*] <;> omega)) (by first | (simp [*]; done) | (simp [*] <;> omega) | omega)) rfl ?_; refine wl_val (r_loadS1 ti9.und rfl rfl (hb.st hS3) (by rw [Nat.mul_one]; exact map_gt _ _ _ (by first | omega | (simp [*]; done) | (simp [*] <;> omega)))) rfl ?_; refine wl_val (r_assign (v := .int .i64 _) rfl) rfl ?_; refine wl_val (r_assign (v := .string _) rfl) rfl ?_; refine wl_nil ?_; refine c_then ?_; refine c_seq ?_; refine c_seq ?_
      have hsl := hs _ (gt_mem l k (by omega))
      refine c_region ?_; refine wl_val (r_move (v := .string _) rfl) rfl ?_; refine wl_call (r_call fn55 rfl rfl) rfl (isName_br _ _ hsl) ?_
      rintro _ w5 (⟨hnm, rfl, hx6⟩ | ⟨hnm, rfl, hx6⟩)
      · have hS7 := hS3.ext hx6
        refine wl_val (r_not rfl) rfl ?_; refine wl_nil ?_; refine c_then ?_; refine c_false rfl ?_; refine wp_skip ?_; refine c_then ?_; refine c_seq ?_; refine c_region ?_; refine wl_val (r_move (v := .int .i64 _) rfl) rfl ?_
        refine wl_dec (r_gtr rfl rfl) rfl (fun h6_1 => ?_) (fun h6_1 => ?_)
        · refine wl_val (r_move (v := .bool _) rfl) rfl ?_
          refine wl_val (r_move (v := .string _) rfl) rfl ?_; refine wl_val (r_move (v := .slice _ _ _) rfl) rfl ?_; refine wl_val (r_move (v := .int .i64 _) rfl) rfl ?_; refine wl_val (r_subn (b := 1) rfl rfl (by omega) (by omega)) rfl ?_; refine wl_val (r_ixS ti24.und ti9 rfl rfl (hb.st hS7) (by omega) (by rw [List.length_map]; omega)) rfl ?_; refine wl_val (r_loadS1 ti9.und rfl rfl (hb.st hS7) (by rw [Nat.mul_one]; exact map_gt _ _ _ (by first | omega | (simp [*]; done) | (simp [*] <;> omega)))) rfl ?_
          refine wl_dec (r_leqStrL rfl rfl) rfl (fun h6_9 => ?_) (fun h6_9 => ?_)
          · refine wl_val (r_pick_t rfl (v := .bool _) rfl) rfl ?_
            refine wl_nil ?_; refine c_then ?_; refine c_true rfl ?_; refine c_seq ?_; refine c_region ?_; refine wl_val (r_assign (v := .int .i64 9) rfl) rfl ?_; refine wl_nil ?_; refine c_then ?_; refine wp_ret ?_; refine c_inR ?_; refine c_thenR ?_; refine c_thenR ?_; refine c_inR ?_; refine c_thenR ?_; refine ret1 Try.results54 ?_
            first | exact ⟨congrArg (Value.int .i64) (show rolesE l = 6 from (firstI_at (k := k) _ _ (Nat.zero_le _) (by omega) (fun j _ hj => hok j hj) (by rw [roleAt, if_pos hnm]; decide)).trans (by rw [roleAt, if_pos hnm])).symm, hS7.fin⟩ | exact ⟨congrArg (Value.int .i64) (show rolesE l = 9 from (firstI_at (k := k) _ _ (Nat.zero_le _) (by omega) (fun j _ hj => hok j hj) (by rw [roleAt, if_neg (by rw [hnm]; decide), if_pos ⟨by omega, h6_9⟩]; decide)).trans (by rw [roleAt, if_neg (by rw [hnm]; decide), if_pos ⟨by omega, h6_9⟩])).symm, hS7.fin⟩ | exact ⟨congrArg (Value.int .i64) (show rolesE l = 0 from firstI_ok _ _ fun j _ hj => hok j (by omega)).symm, hS7.fin⟩
          refine wl_val (r_pick_t rfl (v := .bool _) rfl) rfl ?_; refine wl_nil ?_; refine c_then ?_; refine c_false rfl ?_; refine wp_skip ?_; refine c_inN ?_; refine c_then ?_; refine c_region ?_; refine wl_val (r_addn (b := 1) rfl rfl (by omega)) rfl ?_; refine wl_val (r_move (v := .int .i64 _) rfl) rfl ?_; refine wl_nil ?_; refine c_then ?_
          exact ⟨l.length - (k + 1), _, by omega, rfl, ⟨k + 1, rfl, rfl, hS7, by omega, fun j hj => by by_cases e : j = k; (subst e; rw [roleAt, if_neg (by rw [hnm]; decide), if_neg (fun h => h6_9 h.2)]); exact hok j (by omega)⟩, ⟨rfl, rfl, rfl, trivial⟩⟩
        refine wl_val (r_move (v := .bool _) rfl) rfl ?_; refine wl_not rfl ?_; refine wl_not rfl ?_; refine wl_not rfl ?_; refine wl_not rfl ?_; refine wl_not rfl ?_; refine wl_not rfl ?_; refine wl_not rfl ?_; refine wl_val (r_pick_f rfl (v := .bool false) rfl) rfl ?_; refine wl_nil ?_; refine c_then ?_; refine c_false rfl ?_; refine wp_skip ?_; refine c_inN ?_; refine c_then ?_; refine c_region ?_; refine wl_val (r_addn (b := 1) rfl rfl (by omega)) rfl ?_; refine wl_val (r_move (v := .int .i64 _) rfl) rfl ?_; refine wl_nil ?_; refine c_then ?_
        exact ⟨l.length - (k + 1), _, by omega, rfl, ⟨k + 1, rfl, rfl, hS7, by omega, fun j hj => by by_cases e : j = k; (subst e; rw [roleAt, if_neg (by rw [hnm]; decide), if_neg (fun h => by omega)]); exact hok j (by omega)⟩, ⟨rfl, rfl, rfl, trivial⟩⟩
      have hS7 := hS3.ext hx6
      refine wl_val (r_not rfl) rfl ?_; refine wl_nil ?_; refine c_then ?_; refine c_true rfl ?_; refine c_seq ?_; refine c_region ?_; refine wl_val (r_assign (v := .int .i64 6) rfl) rfl ?_; refine wl_nil ?_; refine c_then ?_; refine wp_ret ?_; refine c_thenR ?_; refine c_inR ?_; refine c_thenR ?_; refine c_thenR ?_; refine c_inR ?_; refine c_thenR ?_; refine ret1 Try.results54 ?_
      first | exact ⟨congrArg (Value.int .i64) (show rolesE l = 6 from (firstI_at (k := k) _ _ (Nat.zero_le _) (by omega) (fun j _ hj => hok j hj) (by rw [roleAt, if_pos hnm]; decide)).trans (by rw [roleAt, if_pos hnm])).symm, hS7.fin⟩ | exact ⟨congrArg (Value.int .i64) (show rolesE l = 9 from (firstI_at (k := k) _ _ (Nat.zero_le _) (by omega) (fun j _ hj => hok j hj) (by rw [roleAt, if_neg (by rw [hnm]; decide), if_pos ⟨by omega, h6_9⟩]; decide)).trans (by rw [roleAt, if_neg (by rw [hnm]; decide), if_pos ⟨by omega, h6_9⟩])).symm, hS7.fin⟩ | exact ⟨congrArg (Value.int .i64) (show rolesE l = 0 from firstI_ok _ _ fun j _ hj => hok j (by omega)).symm, hS7.fin⟩
    refine wl_nil ?_; refine c_then ?_; refine c_seq ?_; refine c_false rfl ?_; refine wp_exit ?_; refine c_thenE ?_; refine c_thenE ?_; refine c_inE ?_; refine c_then ?_; refine c_seq ?_; refine c_region ?_; refine wl_val (r_assign (v := .int .i64 0) rfl) rfl ?_; refine wl_nil ?_; refine c_then ?_; refine wp_ret ?_; refine ret1 Try.results54 ?_
    first | exact ⟨congrArg (Value.int .i64) (show rolesE l = 6 from (firstI_at (k := k) _ _ (Nat.zero_le _) (by omega) (fun j _ hj => hok j hj) (by rw [roleAt, if_pos hnm]; decide)).trans (by rw [roleAt, if_pos hnm])).symm, hS3.fin⟩ | exact ⟨congrArg (Value.int .i64) (show rolesE l = 9 from (firstI_at (k := k) _ _ (Nat.zero_le _) (by omega) (fun j _ hj => hok j hj) (by rw [roleAt, if_neg (by rw [hnm]; decide), if_pos ⟨by omega, h6_9⟩]; decide)).trans (by rw [roleAt, if_neg (by rw [hnm]; decide), if_pos ⟨by omega, h6_9⟩])).symm, hS3.fin⟩ | exact ⟨congrArg (Value.int .i64) (show rolesE l = 0 from firstI_ok _ _ fun j _ hj => hok j (by omega)).symm, hS3.fin⟩

theorem extra_ok (x : BodyD) (f : Nat → Bool) (w : World) (hx : BodyOk x) :
    Ret Try.prog 53 [.agg x.v.toArray, .agg (needV f).toArray] w (fun v w' => v = .bool (ex x f 12) ∧ St w [] w' []) := by
  have hmb := hx.mb
  have hcm := hx.cm
  have hxl := body_len hx
  refine enter Try.func53 rfl Try.ntmps53 rfl ?_
  have hS := St.refl w []
  refine c_seq ?_; refine c_region ?_; refine wl_exv (x_box hS (v := .agg _) rfl rfl) rfl ?_; rintro _ w1 ⟨b2, rfl, hS2⟩; refine wl_exv (x_box hS2 (v := .agg _) rfl rfl) rfl ?_; rintro _ w3 ⟨b3, rfl, hS4⟩; refine wl_val (r_assign (v := .bool false) rfl) rfl ?_; refine wl_nil ?_; refine c_then ?_; refine c_seq ?_; refine c_region ?_; refine wl_cutE 8 [2, 3] (fun e w' => ∃ (p : Bool), Kw.look e 12 = .bool p ∧ St w [] w' [.blk b3 (cl (needV f) 56), .blk b2 (cl x.v 29)] ∧ (ex x f 1 = p)) ?_ ?_
  · refine wl_val (r_field fa56_0 rfl) rfl ?_
    rcases bool_cases (f 0) with hN9 | hN9
    · refine wl_val (r_loadB1 (v := .bool true) ti4.und rfl rfl (hS4.heap (.head _)) (need_mem hN9 rfl)) rfl ?_
      refine wl_run 6 rfl ?_; refine wl_nil ?_; refine c_then ?_
      exact ⟨_, rfl, ⟨false, rfl, hS4, ex_n rfl hN9⟩, ⟨rfl, rfl, trivial⟩⟩
    · refine wl_val (r_loadB1 (v := .bool false) ti4.und rfl rfl (hS4.heap (.head _)) (need_mem hN9 rfl)) rfl ?_
      refine wl_run 2 rfl ?_; refine wl_val (r_field fa29_0 rfl) rfl ?_; refine wl_val (r_loadB1 ti9.und rfl rfl (hS4.heap (.tail _ (.head _))) body_tx) rfl ?_
      refine wl_dec (r_neqStrL rfl rfl) rfl (fun h1_6 => ?_) (fun h1_6 => ?_)
      · refine wl_val (r_pick_t rfl (v := .bool _) rfl) rfl ?_
        refine wl_nil ?_; refine c_then ?_
        exact ⟨_, rfl, ⟨true, rfl, hS4, ex_s rfl hN9 (decide_eq_true h1_6)⟩, ⟨rfl, rfl, trivial⟩⟩
      refine wl_val (r_pick_t rfl (v := .bool _) rfl) rfl ?_; refine wl_nil ?_; refine c_then ?_
      exact ⟨_, rfl, ⟨false, rfl, hS4, ex_s rfl hN9 (decide_eq_false h1_6)⟩, ⟨rfl, rfl, trivial⟩⟩
  · rintro e5 w6 ⟨p, hc8_12, hS7, hp⟩ -
    refine wl_set (d := 12) hc8_12 ?_; refine wl_cutE 11 [2, 3] (fun e w' => ∃ (p : Bool), Kw.look e 23 = .bool p ∧ St w [] w' [.blk b3 (cl (needV f) 56), .blk b2 (cl x.v 29)] ∧ (ex x f 2 = p)) ?_ ?_
    · rcases bool_cases p with rfl | rfl
      · refine wl_val (r_move (v := .bool true) rfl) rfl ?_
        refine wl_not rfl ?_; refine wl_not rfl ?_; refine wl_run 3 rfl ?_; refine wl_not rfl ?_; refine wl_run 4 rfl ?_; refine wl_nil ?_; refine c_then ?_
        exact ⟨_, rfl, ⟨true, rfl, hS7, ex_t hp⟩, ⟨rfl, rfl, trivial⟩⟩
      · refine wl_val (r_move (v := .bool false) rfl) rfl ?_
        refine wl_val (r_field fa56_1 rfl) rfl ?_
        rcases bool_cases (f 1) with hN14 | hN14
        · refine wl_val (r_loadB1 (v := .bool true) ti4.und rfl rfl (hS7.heap (.head _)) (need_mem hN14 rfl)) rfl ?_
          refine wl_run 3 rfl ?_; refine wl_not rfl ?_; refine wl_run 4 rfl ?_; refine wl_nil ?_; refine c_then ?_
          exact ⟨_, rfl, ⟨false, rfl, hS7, ex_n hp hN14⟩, ⟨rfl, rfl, trivial⟩⟩
        · refine wl_val (r_loadB1 (v := .bool false) ti4.und rfl rfl (hS7.heap (.head _)) (need_mem hN14 rfl)) rfl ?_
          refine wl_run 2 rfl ?_; refine wl_val (r_field fa29_1 rfl) rfl ?_; refine wl_val (r_loadA (cs := x.mb.map b8) (by rw [List.length_map, hmb]; exact ti23) rfl rfl (body_at1 (hS7.heap (.tail _ (.head _))) hx)) rfl ?_; refine wl_val (r_build0 (cs := ((List.replicate 16 (0 : UInt8)).map b8)) ti23.und ti23 ti5) rfl ?_
          refine wl_dec (r_neqA (u := undef) eg23 rfl rfl (eqIs_b8 ti23.und ti5 _ _ hmb (by simp))) rfl (fun h1_16 => ?_) (fun h1_16 => ?_)
          · refine wl_run 2 rfl ?_
            refine wl_nil ?_; refine c_then ?_
            exact ⟨_, rfl, ⟨true, rfl, hS7, ex_s hp hN14 (decide_eq_true h1_16)⟩, ⟨rfl, rfl, trivial⟩⟩
          refine wl_run 2 rfl ?_; refine wl_nil ?_; refine c_then ?_
          exact ⟨_, rfl, ⟨false, rfl, hS7, ex_s hp hN14 (decide_eq_false h1_16)⟩, ⟨rfl, rfl, trivial⟩⟩
    · rintro e10 w11 ⟨p, hc13_23, hS12, hp⟩ -
      refine wl_set (d := 23) hc13_23 ?_; refine wl_cutE 11 [2, 3] (fun e w' => ∃ (p : Bool), Kw.look e 34 = .bool p ∧ St w [] w' [.blk b3 (cl (needV f) 56), .blk b2 (cl x.v 29)] ∧ (ex x f 3 = p)) ?_ ?_
      · rcases bool_cases p with rfl | rfl
        · refine wl_val (r_move (v := .bool true) rfl) rfl ?_
          refine wl_not rfl ?_; refine wl_not rfl ?_; refine wl_run 8 rfl ?_; refine wl_nil ?_; refine c_then ?_
          exact ⟨_, rfl, ⟨true, rfl, hS12, ex_t hp⟩, ⟨rfl, rfl, trivial⟩⟩
        · refine wl_val (r_move (v := .bool false) rfl) rfl ?_
          refine wl_val (r_field fa56_2 rfl) rfl ?_
          rcases bool_cases (f 2) with hN19 | hN19
          · refine wl_val (r_loadB1 (v := .bool true) ti4.und rfl rfl (hS12.heap (.head _)) (need_mem hN19 rfl)) rfl ?_
            refine wl_run 8 rfl ?_; refine wl_nil ?_; refine c_then ?_
            exact ⟨_, rfl, ⟨false, rfl, hS12, ex_n hp hN19⟩, ⟨rfl, rfl, trivial⟩⟩
          · refine wl_val (r_loadB1 (v := .bool false) ti4.und rfl rfl (hS12.heap (.head _)) (need_mem hN19 rfl)) rfl ?_
            refine wl_run 2 rfl ?_; refine wl_val (r_field fa29_2 rfl) rfl ?_; refine wl_val (r_loadB1 ti24.und rfl rfl (hS12.heap (.tail _ (.head _))) (body_ro hx)) rfl ?_; refine wl_val (r_len (T := 24) rfl ti24.und rfl _ rfl) rfl ?_
            refine wl_dec (r_gtr rfl rfl) rfl (fun h1_27 => ?_) (fun h1_27 => ?_)
            · refine wl_run 2 rfl ?_
              refine wl_nil ?_; refine c_then ?_
              exact ⟨_, rfl, ⟨true, rfl, hS12, ex_s hp hN19 (decide_eq_true (by omega))⟩, ⟨rfl, rfl, trivial⟩⟩
            refine wl_run 2 rfl ?_; refine wl_nil ?_; refine c_then ?_
            exact ⟨_, rfl, ⟨false, rfl, hS12, ex_s hp hN19 (decide_eq_false (by omega))⟩, ⟨rfl, rfl, trivial⟩⟩
      · rintro e15 w16 ⟨p, hc18_34, hS17, hp⟩ -
        refine wl_set (d := 34) hc18_34 ?_; refine wl_cutE 10 [2, 3] (fun e w' => ∃ (p : Bool), Kw.look e 44 = .bool p ∧ St w [] w' [.blk b3 (cl (needV f) 56), .blk b2 (cl x.v 29)] ∧ (ex x f 4 = p)) ?_ ?_
        · rcases bool_cases p with rfl | rfl
          · refine wl_val (r_move (v := .bool true) rfl) rfl ?_
            refine wl_not rfl ?_; refine wl_not rfl ?_; refine wl_run 7 rfl ?_; refine wl_nil ?_; refine c_then ?_
            exact ⟨_, rfl, ⟨true, rfl, hS17, ex_t hp⟩, ⟨rfl, rfl, trivial⟩⟩
          · refine wl_val (r_move (v := .bool false) rfl) rfl ?_
            refine wl_val (r_field fa56_3 rfl) rfl ?_
            rcases bool_cases (f 3) with hN24 | hN24
            · refine wl_val (r_loadB1 (v := .bool true) ti4.und rfl rfl (hS17.heap (.head _)) (need_mem hN24 rfl)) rfl ?_
              refine wl_run 7 rfl ?_; refine wl_nil ?_; refine c_then ?_
              exact ⟨_, rfl, ⟨false, rfl, hS17, ex_n hp hN24⟩, ⟨rfl, rfl, trivial⟩⟩
            · refine wl_val (r_loadB1 (v := .bool false) ti4.und rfl rfl (hS17.heap (.head _)) (need_mem hN24 rfl)) rfl ?_
              refine wl_run 2 rfl ?_; refine wl_val (r_field fa29_3 rfl) rfl ?_; refine wl_val (r_loadB1 ti9.und rfl rfl (hS17.heap (.tail _ (.head _))) (body_lb hx)) rfl ?_
              refine wl_dec (r_neqStrL rfl rfl) rfl (fun h1_37 => ?_) (fun h1_37 => ?_)
              · refine wl_run 2 rfl ?_
                refine wl_nil ?_; refine c_then ?_
                exact ⟨_, rfl, ⟨true, rfl, hS17, ex_s hp hN24 (decide_eq_true h1_37)⟩, ⟨rfl, rfl, trivial⟩⟩
              refine wl_run 2 rfl ?_; refine wl_nil ?_; refine c_then ?_
              exact ⟨_, rfl, ⟨false, rfl, hS17, ex_s hp hN24 (decide_eq_false h1_37)⟩, ⟨rfl, rfl, trivial⟩⟩
        · rintro e20 w21 ⟨p, hc23_44, hS22, hp⟩ -
          refine wl_set (d := 44) hc23_44 ?_; refine wl_cutE 11 [2, 3] (fun e w' => ∃ (p : Bool), Kw.look e 55 = .bool p ∧ St w [] w' [.blk b3 (cl (needV f) 56), .blk b2 (cl x.v 29)] ∧ (ex x f 5 = p)) ?_ ?_
          · rcases bool_cases p with rfl | rfl
            · refine wl_val (r_move (v := .bool true) rfl) rfl ?_
              refine wl_not rfl ?_; refine wl_not rfl ?_; refine wl_run 3 rfl ?_; refine wl_not rfl ?_; refine wl_run 4 rfl ?_; refine wl_nil ?_; refine c_then ?_
              exact ⟨_, rfl, ⟨true, rfl, hS22, ex_t hp⟩, ⟨rfl, rfl, trivial⟩⟩
            · refine wl_val (r_move (v := .bool false) rfl) rfl ?_
              refine wl_val (r_field fa56_4 rfl) rfl ?_
              rcases bool_cases (f 4) with hN29 | hN29
              · refine wl_val (r_loadB1 (v := .bool true) ti4.und rfl rfl (hS22.heap (.head _)) (need_mem hN29 rfl)) rfl ?_
                refine wl_run 3 rfl ?_; refine wl_not rfl ?_; refine wl_run 4 rfl ?_; refine wl_nil ?_; refine c_then ?_
                exact ⟨_, rfl, ⟨false, rfl, hS22, ex_n hp hN29⟩, ⟨rfl, rfl, trivial⟩⟩
              · refine wl_val (r_loadB1 (v := .bool false) ti4.und rfl rfl (hS22.heap (.head _)) (need_mem hN29 rfl)) rfl ?_
                refine wl_run 2 rfl ?_; refine wl_val (r_field fa29_4 rfl) rfl ?_; refine wl_val (r_loadA (cs := x.cm.map b8) (by rw [List.length_map, hcm]; exact ti26) rfl rfl (body_at19 (hS22.heap (.tail _ (.head _))) hx)) rfl ?_; refine wl_val (r_build0 (cs := ((List.replicate 32 (0 : UInt8)).map b8)) ti26.und ti26 ti5) rfl ?_
                refine wl_dec (r_neqA (u := undef) eg26 rfl rfl (eqIs_b8 ti26.und ti5 _ _ hcm (by simp))) rfl (fun h1_48 => ?_) (fun h1_48 => ?_)
                · refine wl_run 2 rfl ?_
                  refine wl_nil ?_; refine c_then ?_
                  exact ⟨_, rfl, ⟨true, rfl, hS22, ex_s hp hN29 (decide_eq_true h1_48)⟩, ⟨rfl, rfl, trivial⟩⟩
                refine wl_run 2 rfl ?_; refine wl_nil ?_; refine c_then ?_
                exact ⟨_, rfl, ⟨false, rfl, hS22, ex_s hp hN29 (decide_eq_false h1_48)⟩, ⟨rfl, rfl, trivial⟩⟩
          · rintro e25 w26 ⟨p, hc28_55, hS27, hp⟩ -
            refine wl_set (d := 55) hc28_55 ?_; refine wl_cutE 10 [2, 3] (fun e w' => ∃ (p : Bool), Kw.look e 65 = .bool p ∧ St w [] w' [.blk b3 (cl (needV f) 56), .blk b2 (cl x.v 29)] ∧ (ex x f 6 = p)) ?_ ?_
            · rcases bool_cases p with rfl | rfl
              · refine wl_val (r_move (v := .bool true) rfl) rfl ?_
                refine wl_not rfl ?_; refine wl_not rfl ?_; refine wl_run 7 rfl ?_; refine wl_nil ?_; refine c_then ?_
                exact ⟨_, rfl, ⟨true, rfl, hS27, ex_t hp⟩, ⟨rfl, rfl, trivial⟩⟩
              · refine wl_val (r_move (v := .bool false) rfl) rfl ?_
                refine wl_val (r_field fa56_5 rfl) rfl ?_
                rcases bool_cases (f 5) with hN34 | hN34
                · refine wl_val (r_loadB1 (v := .bool true) ti4.und rfl rfl (hS27.heap (.head _)) (need_mem hN34 rfl)) rfl ?_
                  refine wl_run 7 rfl ?_; refine wl_nil ?_; refine c_then ?_
                  exact ⟨_, rfl, ⟨false, rfl, hS27, ex_n hp hN34⟩, ⟨rfl, rfl, trivial⟩⟩
                · refine wl_val (r_loadB1 (v := .bool false) ti4.und rfl rfl (hS27.heap (.head _)) (need_mem hN34 rfl)) rfl ?_
                  refine wl_run 2 rfl ?_; refine wl_val (r_field fa29_5 rfl) rfl ?_; refine wl_val (r_loadB1 ti3.und rfl rfl (hS27.heap (.tail _ (.head _))) (body_ep hx)) rfl ?_
                  refine wl_dec (r_neq rfl rfl) rfl (fun h1_58 => ?_) (fun h1_58 => ?_)
                  · refine wl_run 2 rfl ?_
                    refine wl_nil ?_; refine c_then ?_
                    exact ⟨_, rfl, ⟨true, rfl, hS27, ex_s hp hN34 (decide_eq_true h1_58)⟩, ⟨rfl, rfl, trivial⟩⟩
                  refine wl_run 2 rfl ?_; refine wl_nil ?_; refine c_then ?_
                  exact ⟨_, rfl, ⟨false, rfl, hS27, ex_s hp hN34 (decide_eq_false h1_58)⟩, ⟨rfl, rfl, trivial⟩⟩
            · rintro e30 w31 ⟨p, hc33_65, hS32, hp⟩ -
              refine wl_set (d := 65) hc33_65 ?_; refine wl_cutE 10 [2, 3] (fun e w' => ∃ (p : Bool), Kw.look e 75 = .bool p ∧ St w [] w' [.blk b3 (cl (needV f) 56), .blk b2 (cl x.v 29)] ∧ (ex x f 7 = p)) ?_ ?_
              · rcases bool_cases p with rfl | rfl
                · refine wl_val (r_move (v := .bool true) rfl) rfl ?_
                  refine wl_not rfl ?_; refine wl_not rfl ?_; refine wl_run 7 rfl ?_; refine wl_nil ?_; refine c_then ?_
                  exact ⟨_, rfl, ⟨true, rfl, hS32, ex_t hp⟩, ⟨rfl, rfl, trivial⟩⟩
                · refine wl_val (r_move (v := .bool false) rfl) rfl ?_
                  refine wl_val (r_field fa56_6 rfl) rfl ?_
                  rcases bool_cases (f 6) with hN39 | hN39
                  · refine wl_val (r_loadB1 (v := .bool true) ti4.und rfl rfl (hS32.heap (.head _)) (need_mem hN39 rfl)) rfl ?_
                    refine wl_run 7 rfl ?_; refine wl_nil ?_; refine c_then ?_
                    exact ⟨_, rfl, ⟨false, rfl, hS32, ex_n hp hN39⟩, ⟨rfl, rfl, trivial⟩⟩
                  · refine wl_val (r_loadB1 (v := .bool false) ti4.und rfl rfl (hS32.heap (.head _)) (need_mem hN39 rfl)) rfl ?_
                    refine wl_run 2 rfl ?_; refine wl_val (r_field fa29_6 rfl) rfl ?_; refine wl_val (r_loadB1 ti3.und rfl rfl (hS32.heap (.tail _ (.head _))) (body_pu hx)) rfl ?_
                    refine wl_dec (r_neq rfl rfl) rfl (fun h1_68 => ?_) (fun h1_68 => ?_)
                    · refine wl_run 2 rfl ?_
                      refine wl_nil ?_; refine c_then ?_
                      exact ⟨_, rfl, ⟨true, rfl, hS32, ex_s hp hN39 (decide_eq_true h1_68)⟩, ⟨rfl, rfl, trivial⟩⟩
                    refine wl_run 2 rfl ?_; refine wl_nil ?_; refine c_then ?_
                    exact ⟨_, rfl, ⟨false, rfl, hS32, ex_s hp hN39 (decide_eq_false h1_68)⟩, ⟨rfl, rfl, trivial⟩⟩
              · rintro e35 w36 ⟨p, hc38_75, hS37, hp⟩ -
                refine wl_set (d := 75) hc38_75 ?_; refine wl_cutE 10 [2, 3] (fun e w' => ∃ (p : Bool), Kw.look e 85 = .bool p ∧ St w [] w' [.blk b3 (cl (needV f) 56), .blk b2 (cl x.v 29)] ∧ (ex x f 8 = p)) ?_ ?_
                · rcases bool_cases p with rfl | rfl
                  · refine wl_val (r_move (v := .bool true) rfl) rfl ?_
                    refine wl_not rfl ?_; refine wl_not rfl ?_; refine wl_run 7 rfl ?_; refine wl_nil ?_; refine c_then ?_
                    exact ⟨_, rfl, ⟨true, rfl, hS37, ex_t hp⟩, ⟨rfl, rfl, trivial⟩⟩
                  · refine wl_val (r_move (v := .bool false) rfl) rfl ?_
                    refine wl_val (r_field fa56_7 rfl) rfl ?_
                    rcases bool_cases (f 7) with hN44 | hN44
                    · refine wl_val (r_loadB1 (v := .bool true) ti4.und rfl rfl (hS37.heap (.head _)) (need_mem hN44 rfl)) rfl ?_
                      refine wl_run 7 rfl ?_; refine wl_nil ?_; refine c_then ?_
                      exact ⟨_, rfl, ⟨false, rfl, hS37, ex_n hp hN44⟩, ⟨rfl, rfl, trivial⟩⟩
                    · refine wl_val (r_loadB1 (v := .bool false) ti4.und rfl rfl (hS37.heap (.head _)) (need_mem hN44 rfl)) rfl ?_
                      refine wl_run 2 rfl ?_; refine wl_val (r_field fa29_7 rfl) rfl ?_; refine wl_val (r_loadB1 ti3.und rfl rfl (hS37.heap (.tail _ (.head _))) (body_re hx)) rfl ?_
                      refine wl_dec (r_neq rfl rfl) rfl (fun h1_78 => ?_) (fun h1_78 => ?_)
                      · refine wl_run 2 rfl ?_
                        refine wl_nil ?_; refine c_then ?_
                        exact ⟨_, rfl, ⟨true, rfl, hS37, ex_s hp hN44 (decide_eq_true h1_78)⟩, ⟨rfl, rfl, trivial⟩⟩
                      refine wl_run 2 rfl ?_; refine wl_nil ?_; refine c_then ?_
                      exact ⟨_, rfl, ⟨false, rfl, hS37, ex_s hp hN44 (decide_eq_false h1_78)⟩, ⟨rfl, rfl, trivial⟩⟩
                · rintro e40 w41 ⟨p, hc43_85, hS42, hp⟩ -
                  refine wl_set (d := 85) hc43_85 ?_; refine wl_cutE 10 [2, 3] (fun e w' => ∃ (p : Bool), Kw.look e 95 = .bool p ∧ St w [] w' [.blk b3 (cl (needV f) 56), .blk b2 (cl x.v 29)] ∧ (ex x f 9 = p)) ?_ ?_
                  · rcases bool_cases p with rfl | rfl
                    · refine wl_val (r_move (v := .bool true) rfl) rfl ?_
                      refine wl_not rfl ?_; refine wl_not rfl ?_; refine wl_run 7 rfl ?_; refine wl_nil ?_; refine c_then ?_
                      exact ⟨_, rfl, ⟨true, rfl, hS42, ex_t hp⟩, ⟨rfl, rfl, trivial⟩⟩
                    · refine wl_val (r_move (v := .bool false) rfl) rfl ?_
                      refine wl_val (r_field fa56_8 rfl) rfl ?_
                      rcases bool_cases (f 8) with hN49 | hN49
                      · refine wl_val (r_loadB1 (v := .bool true) ti4.und rfl rfl (hS42.heap (.head _)) (need_mem hN49 rfl)) rfl ?_
                        refine wl_run 7 rfl ?_; refine wl_nil ?_; refine c_then ?_
                        exact ⟨_, rfl, ⟨false, rfl, hS42, ex_n hp hN49⟩, ⟨rfl, rfl, trivial⟩⟩
                      · refine wl_val (r_loadB1 (v := .bool false) ti4.und rfl rfl (hS42.heap (.head _)) (need_mem hN49 rfl)) rfl ?_
                        refine wl_run 2 rfl ?_; refine wl_val (r_field fa29_8 rfl) rfl ?_; refine wl_val (r_loadB1 ti3.und rfl rfl (hS42.heap (.tail _ (.head _))) (body_ne hx)) rfl ?_
                        refine wl_dec (r_neq rfl rfl) rfl (fun h1_88 => ?_) (fun h1_88 => ?_)
                        · refine wl_run 2 rfl ?_
                          refine wl_nil ?_; refine c_then ?_
                          exact ⟨_, rfl, ⟨true, rfl, hS42, ex_s hp hN49 (decide_eq_true h1_88)⟩, ⟨rfl, rfl, trivial⟩⟩
                        refine wl_run 2 rfl ?_; refine wl_nil ?_; refine c_then ?_
                        exact ⟨_, rfl, ⟨false, rfl, hS42, ex_s hp hN49 (decide_eq_false h1_88)⟩, ⟨rfl, rfl, trivial⟩⟩
                  · rintro e45 w46 ⟨p, hc48_95, hS47, hp⟩ -
                    refine wl_set (d := 95) hc48_95 ?_; refine wl_cutE 11 [2, 3] (fun e w' => ∃ (p : Bool), Kw.look e 106 = .bool p ∧ St w [] w' [.blk b3 (cl (needV f) 56), .blk b2 (cl x.v 29)] ∧ (ex x f 10 = p)) ?_ ?_
                    · rcases bool_cases p with rfl | rfl
                      · refine wl_val (r_move (v := .bool true) rfl) rfl ?_
                        refine wl_not rfl ?_; refine wl_not rfl ?_; refine wl_run 8 rfl ?_; refine wl_nil ?_; refine c_then ?_
                        exact ⟨_, rfl, ⟨true, rfl, hS47, ex_t hp⟩, ⟨rfl, rfl, trivial⟩⟩
                      · refine wl_val (r_move (v := .bool false) rfl) rfl ?_
                        refine wl_val (r_field fa56_9 rfl) rfl ?_
                        rcases bool_cases (f 9) with hN54 | hN54
                        · refine wl_val (r_loadB1 (v := .bool true) ti4.und rfl rfl (hS47.heap (.head _)) (need_mem hN54 rfl)) rfl ?_
                          refine wl_run 8 rfl ?_; refine wl_nil ?_; refine c_then ?_
                          exact ⟨_, rfl, ⟨false, rfl, hS47, ex_n hp hN54⟩, ⟨rfl, rfl, trivial⟩⟩
                        · refine wl_val (r_loadB1 (v := .bool false) ti4.und rfl rfl (hS47.heap (.head _)) (need_mem hN54 rfl)) rfl ?_
                          refine wl_run 2 rfl ?_; refine wl_val (r_field fa29_11 rfl) rfl ?_; refine wl_val (r_loadB1 ti27.und rfl rfl (hS47.heap (.tail _ (.head _))) (body_ho hx)) rfl ?_; refine wl_val (r_len (T := 27) rfl ti27.und rfl _ rfl) rfl ?_
                          refine wl_dec (r_gtr rfl rfl) rfl (fun h1_99 => ?_) (fun h1_99 => ?_)
                          · refine wl_run 2 rfl ?_
                            refine wl_nil ?_; refine c_then ?_
                            exact ⟨_, rfl, ⟨true, rfl, hS47, ex_s hp hN54 (decide_eq_true (by omega))⟩, ⟨rfl, rfl, trivial⟩⟩
                          refine wl_run 2 rfl ?_; refine wl_nil ?_; refine c_then ?_
                          exact ⟨_, rfl, ⟨false, rfl, hS47, ex_s hp hN54 (decide_eq_false (by omega))⟩, ⟨rfl, rfl, trivial⟩⟩
                    · rintro e50 w51 ⟨p, hc53_106, hS52, hp⟩ -
                      refine wl_set (d := 106) hc53_106 ?_; refine wl_cutE 10 [2, 3] (fun e w' => ∃ (p : Bool), Kw.look e 116 = .bool p ∧ St w [] w' [.blk b3 (cl (needV f) 56), .blk b2 (cl x.v 29)] ∧ (ex x f 11 = p)) ?_ ?_
                      · rcases bool_cases p with rfl | rfl
                        · refine wl_val (r_move (v := .bool true) rfl) rfl ?_
                          refine wl_not rfl ?_; refine wl_not rfl ?_; refine wl_run 7 rfl ?_; refine wl_nil ?_; refine c_then ?_
                          exact ⟨_, rfl, ⟨true, rfl, hS52, ex_t hp⟩, ⟨rfl, rfl, trivial⟩⟩
                        · refine wl_val (r_move (v := .bool false) rfl) rfl ?_
                          refine wl_val (r_field fa56_10 rfl) rfl ?_
                          rcases bool_cases (f 10) with hN59 | hN59
                          · refine wl_val (r_loadB1 (v := .bool true) ti4.und rfl rfl (hS52.heap (.head _)) (need_mem hN59 rfl)) rfl ?_
                            refine wl_run 7 rfl ?_; refine wl_nil ?_; refine c_then ?_
                            exact ⟨_, rfl, ⟨false, rfl, hS52, ex_n hp hN59⟩, ⟨rfl, rfl, trivial⟩⟩
                          · refine wl_val (r_loadB1 (v := .bool false) ti4.und rfl rfl (hS52.heap (.head _)) (need_mem hN59 rfl)) rfl ?_
                            refine wl_run 2 rfl ?_; refine wl_val (r_field fa29_9 rfl) rfl ?_; refine wl_val (r_loadB1 ti3.und rfl rfl (hS52.heap (.tail _ (.head _))) (body_ve hx)) rfl ?_
                            refine wl_dec (r_neq rfl rfl) rfl (fun h1_109 => ?_) (fun h1_109 => ?_)
                            · refine wl_run 2 rfl ?_
                              refine wl_nil ?_; refine c_then ?_
                              exact ⟨_, rfl, ⟨true, rfl, hS52, ex_s hp hN59 (decide_eq_true h1_109)⟩, ⟨rfl, rfl, trivial⟩⟩
                            refine wl_run 2 rfl ?_; refine wl_nil ?_; refine c_then ?_
                            exact ⟨_, rfl, ⟨false, rfl, hS52, ex_s hp hN59 (decide_eq_false h1_109)⟩, ⟨rfl, rfl, trivial⟩⟩
                      · rintro e55 w56 ⟨p, hc58_116, hS57, hp⟩ -
                        refine wl_set (d := 116) hc58_116 ?_
                        rcases bool_cases p with rfl | rfl
                        · refine wl_val (r_move (v := .bool true) rfl) rfl ?_
                          refine wl_not rfl ?_; refine wl_not rfl ?_; refine wl_run 8 rfl ?_; refine wl_nil ?_; refine c_then ?_; refine wp_ret ?_; refine ret1 Try.results53 ?_
                          exact ⟨congrArg Value.bool (ex_t hp).symm, hS57.fin⟩
                        · refine wl_val (r_move (v := .bool false) rfl) rfl ?_
                          refine wl_val (r_field fa56_11 rfl) rfl ?_
                          rcases bool_cases (f 11) with hN60 | hN60
                          · refine wl_val (r_loadB1 (v := .bool true) ti4.und rfl rfl (hS57.heap (.head _)) (need_mem hN60 rfl)) rfl ?_
                            refine wl_run 8 rfl ?_; refine wl_nil ?_; refine c_then ?_; refine wp_ret ?_; refine ret1 Try.results53 ?_
                            exact ⟨congrArg Value.bool (ex_n hp hN60).symm, hS57.fin⟩
                          · refine wl_val (r_loadB1 (v := .bool false) ti4.und rfl rfl (hS57.heap (.head _)) (need_mem hN60 rfl)) rfl ?_
                            refine wl_run 2 rfl ?_; refine wl_val (r_field fa29_10 rfl) rfl ?_; refine wl_val (r_loadB1 ti3.und rfl rfl (hS57.heap (.tail _ (.head _))) (body_ct hx)) rfl ?_
                            refine wl_dec (r_neq rfl rfl) rfl (fun h1_119 => ?_) (fun h1_119 => ?_)
                            · refine wl_run 3 rfl ?_
                              refine wl_nil ?_; refine c_then ?_; refine wp_ret ?_; refine ret1 Try.results53 ?_
                              exact ⟨congrArg Value.bool (ex_s hp hN60 (decide_eq_true h1_119)).symm, hS57.fin⟩
                            refine wl_run 3 rfl ?_; refine wl_nil ?_; refine c_then ?_; refine wp_ret ?_; refine ret1 Try.results53 ?_
                            exact ⟨congrArg Value.bool (ex_s hp hN60 (decide_eq_false h1_119)).symm, hS57.fin⟩

set_option maxHeartbeats 4000000 in
theorem bodyFault_ok (act : Int) (x : BodyD) (w : World) (hx : BodyOk x) (hro : Row w x.ra (x.ro.map sv)) (hho : Row w x.ha (x.ho.flatten.map b8)) :
    Ret Try.prog 23 [.int .i64 act, .agg x.v.toArray] w (fun v w' => v = .int .i64 (bodyE act x) ∧ St w [] w' []) := by
  have hmb := hx.mb
  have hcm := hx.cm
  have hxl := body_len hx
  refine enter Try.func23 rfl Try.ntmps23 rfl ?_
  have hS := St.refl w []
  refine c_seq ?_; refine c_region ?_; refine wl_exv (x_box hS (v := .agg _) rfl rfl) rfl ?_; rintro _ w1 ⟨b3, rfl, hS2⟩; refine wl_val (r_assign (v := .int .i64 0) rfl) rfl ?_; refine wl_nil ?_; refine c_then ?_; refine c_seq ?_; refine c_seq ?_; refine c_region ?_; refine wl_val (r_move (v := .int .i64 _) rfl) rfl ?_; refine wl_call (r_call fn34 rfl rfl) rfl (isAct_ok act _) ?_
  rintro _ w3 (⟨hact, rfl, hx4⟩ | ⟨hact, rfl, hx4⟩)
  · have hS5 := hS2.ext hx4
    refine wl_val (r_not rfl) rfl ?_; refine wl_nil ?_; refine c_then ?_; refine c_false rfl ?_; refine wp_skip ?_; refine c_then ?_; refine c_seq ?_
    obtain ⟨act', rfl⟩ : ∃ i : Nat, act = (i : Int) := ⟨act.toNat, (by omega)⟩
    refine c_region ?_; refine wl_val (r_move (v := .int .i64 _) rfl) rfl ?_; refine wl_call (r_call fn24 rfl rfl) rfl (needsOf_ok act' _ (by omega) (by omega)) ?_; rintro _ w6 ⟨rfl, hx7⟩
    have hS8 := hS5.ext hx7
    refine wl_exv (x_alloc (C := (List.replicate 12 (.bool false : Value))) hS8 ti56 rfl) rfl ?_; rintro _ w9 ⟨b5, rfl, hS10⟩; refine wl_exs (x_storeW [] hS10 ti56 rfl rfl rfl rfl (one_need _)) rfl ?_; intro w11 hS12; simp only [List.cons_append, List.nil_append] at hS12; refine wl_nil ?_; refine c_then ?_; refine c_seq ?_; refine c_seq ?_; refine c_region ?_; refine wl_val (r_loadB ti29 ag29 rfl (hS12.heap (.tail _ (.head _))) hxl) rfl ?_; refine wl_val (r_loadB ti56 ag56 rfl (hS12.heap (.head _)) rfl) rfl ?_; refine wl_call (r_call fn53 rfl rfl) rfl ((extra_ok x (needF act') _ hx).br) ?_
    rintro _ w13 (⟨hex, rfl, hx14⟩ | ⟨hex, rfl, hx14⟩)
    · have hS15 := hS12.ext hx14
      refine wl_nil ?_; refine c_then ?_; refine c_true rfl ?_; refine c_seq ?_; refine c_region ?_; refine wl_val (r_assign (v := .int .i64 2) rfl) rfl ?_; refine wl_nil ?_; refine c_then ?_; refine wp_ret ?_; refine c_thenR ?_; refine ret1 Try.results23 ?_
      exact ⟨congrArg (Value.int .i64) (bodyN_2 (by omega) hex).symm, hS15.fin⟩
    have hS15 := hS12.ext hx14
    refine wl_nil ?_; refine c_then ?_; refine c_false rfl ?_; refine wp_skip ?_; refine c_then ?_; refine c_seq ?_; refine c_seq ?_; refine c_region ?_; refine wl_val (r_field fa29_0 rfl) rfl ?_; refine wl_val (r_loadB1 ti9.und rfl rfl (hS15.heap (.tail _ (.head _))) body_tx) rfl ?_; refine wl_val (r_lenStrL (T := 9) rfl ti9.und rfl _ rfl) rfl ?_
    refine wl_dec (r_gtr rfl rfl) rfl (fun h6_3 => ?_) (fun h6_3 => ?_)
    · refine wl_run 12 rfl ?_
      refine wl_nil ?_; refine c_then ?_; refine c_true rfl ?_; refine c_seq ?_; refine c_region ?_; refine wl_val (r_assign (v := .int .i64 5) rfl) rfl ?_; refine wl_nil ?_; refine c_then ?_; refine wp_ret ?_; refine c_thenR ?_; refine ret1 Try.results23 ?_
      exact ⟨congrArg (Value.int .i64) (bodyN_3 (by omega) hex (by omega)).symm, hS15.fin⟩
    refine wl_val (r_move (v := .bool _) rfl) rfl ?_; refine wl_val (r_field fa29_2 rfl) rfl ?_; refine wl_val (r_loadB1 ti24.und rfl rfl (hS15.heap (.tail _ (.head _))) (body_ro hx)) rfl ?_; refine wl_val (r_len (T := 24) rfl ti24.und rfl _ rfl) rfl ?_
    refine wl_dec (r_gtr rfl rfl) rfl (fun h6_8 => ?_) (fun h6_8 => ?_)
    · refine wl_run 7 rfl ?_
      refine wl_nil ?_; refine c_then ?_; refine c_true rfl ?_; refine c_seq ?_; refine c_region ?_; refine wl_val (r_assign (v := .int .i64 5) rfl) rfl ?_; refine wl_nil ?_; refine c_then ?_; refine wp_ret ?_; refine c_thenR ?_; refine ret1 Try.results23 ?_
      exact ⟨congrArg (Value.int .i64) (bodyN_3 (by omega) hex (by omega)).symm, hS15.fin⟩
    refine wl_run 2 rfl ?_; refine wl_val (r_field fa29_11 rfl) rfl ?_; refine wl_val (r_loadB1 ti27.und rfl rfl (hS15.heap (.tail _ (.head _))) (body_ho hx)) rfl ?_; refine wl_val (r_len (T := 27) rfl ti27.und rfl _ rfl) rfl ?_
    refine wl_dec (r_gtr rfl rfl) rfl (fun h6_14 => ?_) (fun h6_14 => ?_)
    · refine wl_val (r_pick_f rfl (v := .bool _) rfl) rfl ?_
      refine wl_nil ?_; refine c_then ?_; refine c_true rfl ?_; refine c_seq ?_; refine c_region ?_; refine wl_val (r_assign (v := .int .i64 5) rfl) rfl ?_; refine wl_nil ?_; refine c_then ?_; refine wp_ret ?_; refine c_thenR ?_; refine ret1 Try.results23 ?_
      exact ⟨congrArg (Value.int .i64) (bodyN_3 (by omega) hex (by omega)).symm, hS15.fin⟩
    refine wl_val (r_pick_f rfl (v := .bool _) rfl) rfl ?_; refine wl_nil ?_; refine c_then ?_; refine c_false rfl ?_; refine wp_skip ?_; refine c_then ?_; refine c_seq ?_; refine c_seq ?_; refine c_region ?_; refine wl_val (r_field fa29_2 rfl) rfl ?_; refine wl_val (r_loadB1 ti24.und rfl rfl (hS15.heap (.tail _ (.head _))) (body_ro hx)) rfl ?_; refine wl_call (r_call fn54 rfl rfl) rfl (rolesFault_ok x.ro _ _ x.rc _ (hro.st hS15) rfl hx.rn hx.rl) ?_; rintro _ w16 ⟨rfl, hx17⟩
    have hS18 := hS15.ext hx17
    refine wl_val (r_assign (v := .int .i64 _) rfl) rfl ?_; refine wl_nil ?_; refine c_then ?_; refine c_seq ?_; refine c_region ?_; refine wl_val (r_move (v := .int .i64 _) rfl) rfl ?_
    refine wl_dec (r_neq rfl rfl) rfl (fun h9_1 => ?_) (fun h9_1 => ?_)
    · refine wl_nil ?_
      refine c_then ?_; refine c_true rfl ?_; refine c_seq ?_; refine c_region ?_; refine wl_val (r_move (v := .int .i64 _) rfl) rfl ?_; refine wl_val (r_assign (v := .int .i64 _) rfl) rfl ?_; refine wl_nil ?_; refine c_then ?_; refine wp_ret ?_; refine c_thenR ?_; refine ret1 Try.results23 ?_
      exact ⟨congrArg (Value.int .i64) (bodyN_4 (by omega) hex (by omega) h9_1).symm, hS18.fin⟩
    refine wl_nil ?_; refine c_then ?_; refine c_false rfl ?_; refine wp_skip ?_; refine c_then ?_; refine c_cutE [3, 5] (fun e w' => St w [] w' [.blk b5 (cl (needV (needF act')) 56), .blk b3 (cl x.v 29)] ∧ (¬ ((needF act') 3 = true ∧ nameE x.lb = false))) ?_ ?_
    · refine c_seq ?_
      refine c_region ?_; refine wl_val (r_field fa56_3 rfl) rfl ?_
      rcases bool_cases ((needF act') 3) with hN23 | hN23
      · refine wl_val (r_loadB1 (v := .bool true) ti4.und rfl rfl (hS18.heap (.head _)) (need_mem hN23 rfl)) rfl ?_
        refine wl_val (r_move (v := .bool _) rfl) rfl ?_; refine wl_val (r_field fa29_3 rfl) rfl ?_; refine wl_val (r_loadB1 ti9.und rfl rfl (hS18.heap (.tail _ (.head _))) (body_lb hx)) rfl ?_; refine wl_call (r_call fn55 rfl rfl) rfl (isName_br _ _ hx.ll) ?_
        rintro _ w24 (⟨hnm, rfl, hx25⟩ | ⟨hnm, rfl, hx25⟩)
        · have hS26 := hS18.ext hx25
          refine wl_run 2 rfl ?_; refine wl_nil ?_; refine c_then ?_; refine c_false rfl ?_; refine wp_skip ?_; refine c_then ?_
          exact ⟨_, rfl, ⟨hS26, (by rintro ⟨h, h'⟩; simp_all)⟩, ⟨rfl, rfl, trivial⟩⟩
        have hS26 := hS18.ext hx25
        refine wl_run 2 rfl ?_; refine wl_nil ?_; refine c_then ?_; refine c_true rfl ?_; refine c_seq ?_; refine c_region ?_; refine wl_val (r_assign (v := .int .i64 6) rfl) rfl ?_; refine wl_nil ?_; refine c_then ?_; refine wp_ret ?_; refine c_thenR ?_; refine ret1 Try.results23 ?_
        exact ⟨congrArg (Value.int .i64) (bodyN_5 (by omega) hex (by omega) (Decidable.of_not_not h9_1) (by assumption) hnm).symm, hS26.fin⟩
      · refine wl_val (r_loadB1 (v := .bool false) ti4.und rfl rfl (hS18.heap (.head _)) (need_mem hN23 rfl)) rfl ?_
        refine wl_run 6 rfl ?_; refine wl_nil ?_; refine c_then ?_; refine c_false rfl ?_; refine wp_skip ?_; refine c_then ?_
        exact ⟨_, rfl, ⟨hS18, (by rintro ⟨h, h'⟩; simp_all)⟩, ⟨rfl, rfl, trivial⟩⟩
    · rintro e19 w20 ⟨hS21, hn5⟩ -
      refine c_cutE [3] (fun e w' => St w [] w' [.blk b5 (cl (needV (needF act')) 56), .blk b3 (cl x.v 29)] ∧ (¬ rangeBad (needF act') x)) ?_ ?_
      · refine c_seq ?_
        refine c_region ?_; refine wl_val (r_field fa56_6 rfl) rfl ?_
        rcases bool_cases ((needF act') 6) with hN31 | hN31
        · refine wl_val (r_loadB1 (v := .bool true) ti4.und rfl rfl (hS21.heap (.head _)) (need_mem hN31 rfl)) rfl ?_
          refine wl_val (r_move (v := .bool _) rfl) rfl ?_; refine wl_val (r_field fa29_6 rfl) rfl ?_; refine wl_val (r_loadB1 ti3.und rfl rfl (hS21.heap (.tail _ (.head _))) (body_pu hx)) rfl ?_; refine wl_call (r_call fn56 rfl rfl) rfl (outside_ok x.pu 1 3 _) ?_
          rintro _ w32 (⟨ho1, rfl, hx33⟩ | ⟨ho1, rfl, hx33⟩)
          · have hS34 := hS21.ext hx33
            refine wl_run 13 rfl ?_; refine wl_not rfl ?_; refine wl_run 16 rfl ?_; refine wl_nil ?_; refine c_then ?_; refine c_true rfl ?_; refine c_seq ?_; refine c_region ?_; refine wl_val (r_assign (v := .int .i64 4) rfl) rfl ?_; refine wl_nil ?_; refine c_then ?_; refine wp_ret ?_; refine c_thenR ?_; refine ret1 Try.results23 ?_
            exact ⟨congrArg (Value.int .i64) (bodyN_6 (by omega) hex (by omega) (Decidable.of_not_not h9_1) hn5 (by first | exact .inl ⟨by assumption, by assumption⟩ | exact .inr (.inl (by assumption)) | exact .inr (.inr (.inl (by assumption))) | exact .inr (.inr (.inr (.inl ⟨by assumption, by assumption⟩))) | exact .inr (.inr (.inr (.inr (.inl (by assumption))))) | exact .inr (.inr (.inr (.inr (.inr (by assumption))))))).symm, hS34.fin⟩
          have hS34 := hS21.ext hx33
          refine wl_run 2 rfl ?_; refine wl_val (r_field fa29_7 rfl) rfl ?_; refine wl_val (r_loadB1 ti3.und rfl rfl (hS34.heap (.tail _ (.head _))) (body_re hx)) rfl ?_; refine wl_call (r_call fn56 rfl rfl) rfl (outside_ok x.re 0 255 _) ?_
          rintro _ w35 (⟨ho2, rfl, hx36⟩ | ⟨ho2, rfl, hx36⟩)
          · have hS37 := hS34.ext hx36
            refine wl_run 8 rfl ?_; refine wl_not rfl ?_; refine wl_run 16 rfl ?_; refine wl_nil ?_; refine c_then ?_; refine c_true rfl ?_; refine c_seq ?_; refine c_region ?_; refine wl_val (r_assign (v := .int .i64 4) rfl) rfl ?_; refine wl_nil ?_; refine c_then ?_; refine wp_ret ?_; refine c_thenR ?_; refine ret1 Try.results23 ?_
            exact ⟨congrArg (Value.int .i64) (bodyN_6 (by omega) hex (by omega) (Decidable.of_not_not h9_1) hn5 (by first | exact .inl ⟨by assumption, by assumption⟩ | exact .inr (.inl (by assumption)) | exact .inr (.inr (.inl (by assumption))) | exact .inr (.inr (.inr (.inl ⟨by assumption, by assumption⟩))) | exact .inr (.inr (.inr (.inr (.inl (by assumption))))) | exact .inr (.inr (.inr (.inr (.inr (by assumption))))))).symm, hS37.fin⟩
          have hS37 := hS34.ext hx36
          refine wl_run 2 rfl ?_; refine wl_val (r_field fa29_9 rfl) rfl ?_; refine wl_val (r_loadB1 ti3.und rfl rfl (hS37.heap (.tail _ (.head _))) (body_ve hx)) rfl ?_; refine wl_call (r_call fn56 rfl rfl) rfl (outside_ok x.ve 0 255 _) ?_
          rintro _ w38 (⟨ho3, rfl, hx39⟩ | ⟨ho3, rfl, hx39⟩)
          · have hS40 := hS37.ext hx39
            refine wl_run 3 rfl ?_; refine wl_not rfl ?_; refine wl_run 16 rfl ?_; refine wl_nil ?_; refine c_then ?_; refine c_true rfl ?_; refine c_seq ?_; refine c_region ?_; refine wl_val (r_assign (v := .int .i64 4) rfl) rfl ?_; refine wl_nil ?_; refine c_then ?_; refine wp_ret ?_; refine c_thenR ?_; refine ret1 Try.results23 ?_
            exact ⟨congrArg (Value.int .i64) (bodyN_6 (by omega) hex (by omega) (Decidable.of_not_not h9_1) hn5 (by first | exact .inl ⟨by assumption, by assumption⟩ | exact .inr (.inl (by assumption)) | exact .inr (.inr (.inl (by assumption))) | exact .inr (.inr (.inr (.inl ⟨by assumption, by assumption⟩))) | exact .inr (.inr (.inr (.inr (.inl (by assumption))))) | exact .inr (.inr (.inr (.inr (.inr (by assumption))))))).symm, hS40.fin⟩
          have hS40 := hS37.ext hx39
          refine wl_run 2 rfl ?_; refine wl_val (r_field fa56_8 rfl) rfl ?_
          rcases bool_cases ((needF act') 8) with hN41 | hN41
          · refine wl_val (r_loadB1 (v := .bool true) ti4.und rfl rfl (hS40.heap (.head _)) (need_mem hN41 rfl)) rfl ?_
            refine wl_val (r_move (v := .bool _) rfl) rfl ?_; refine wl_val (r_field fa29_8 rfl) rfl ?_; refine wl_val (r_loadB1 ti3.und rfl rfl (hS40.heap (.tail _ (.head _))) (body_ne hx)) rfl ?_; refine wl_call (r_call fn56 rfl rfl) rfl (outside_ok x.ne 1 32 _) ?_
            rintro _ w42 (⟨ho4, rfl, hx43⟩ | ⟨ho4, rfl, hx43⟩)
            · have hS44 := hS40.ext hx43
              refine wl_run 12 rfl ?_; refine wl_nil ?_; refine c_then ?_; refine c_true rfl ?_; refine c_seq ?_; refine c_region ?_; refine wl_val (r_assign (v := .int .i64 4) rfl) rfl ?_; refine wl_nil ?_; refine c_then ?_; refine wp_ret ?_; refine c_thenR ?_; refine ret1 Try.results23 ?_
              exact ⟨congrArg (Value.int .i64) (bodyN_6 (by omega) hex (by omega) (Decidable.of_not_not h9_1) hn5 (by first | exact .inl ⟨by assumption, by assumption⟩ | exact .inr (.inl (by assumption)) | exact .inr (.inr (.inl (by assumption))) | exact .inr (.inr (.inr (.inl ⟨by assumption, by assumption⟩))) | exact .inr (.inr (.inr (.inr (.inl (by assumption))))) | exact .inr (.inr (.inr (.inr (.inr (by assumption))))))).symm, hS44.fin⟩
            have hS44 := hS40.ext hx43
            refine wl_run 3 rfl ?_; refine wl_val (r_field fa29_5 rfl) rfl ?_; refine wl_val (r_loadB1 ti3.und rfl rfl (hS44.heap (.tail _ (.head _))) (body_ep hx)) rfl ?_; refine wl_call (r_call fn56 rfl rfl) rfl (outside_ok x.ep 0 4294967295 _) ?_
            rintro _ w45 (⟨ho5, rfl, hx46⟩ | ⟨ho5, rfl, hx46⟩)
            · have hS47 := hS44.ext hx46
              refine wl_run 6 rfl ?_; refine wl_nil ?_; refine c_then ?_; refine c_true rfl ?_; refine c_seq ?_; refine c_region ?_; refine wl_val (r_assign (v := .int .i64 4) rfl) rfl ?_; refine wl_nil ?_; refine c_then ?_; refine wp_ret ?_; refine c_thenR ?_; refine ret1 Try.results23 ?_
              exact ⟨congrArg (Value.int .i64) (bodyN_6 (by omega) hex (by omega) (Decidable.of_not_not h9_1) hn5 (by first | exact .inl ⟨by assumption, by assumption⟩ | exact .inr (.inl (by assumption)) | exact .inr (.inr (.inl (by assumption))) | exact .inr (.inr (.inr (.inl ⟨by assumption, by assumption⟩))) | exact .inr (.inr (.inr (.inr (.inl (by assumption))))) | exact .inr (.inr (.inr (.inr (.inr (by assumption))))))).symm, hS47.fin⟩
            have hS47 := hS44.ext hx46
            refine wl_run 2 rfl ?_; refine wl_val (r_field fa29_10 rfl) rfl ?_; refine wl_val (r_loadB1 ti3.und rfl rfl (hS47.heap (.tail _ (.head _))) (body_ct hx)) rfl ?_; refine wl_call (r_call fn56 rfl rfl) rfl (outside_ok x.ct 0 65536 _) ?_
            rintro _ w48 (⟨ho6, rfl, hx49⟩ | ⟨ho6, rfl, hx49⟩)
            · have hS50 := hS47.ext hx49
              refine wl_val (r_pick_f rfl (v := .bool _) rfl) rfl ?_; refine wl_nil ?_; refine c_then ?_; refine c_true rfl ?_; refine c_seq ?_; refine c_region ?_; refine wl_val (r_assign (v := .int .i64 4) rfl) rfl ?_; refine wl_nil ?_; refine c_then ?_; refine wp_ret ?_; refine c_thenR ?_; refine ret1 Try.results23 ?_
              exact ⟨congrArg (Value.int .i64) (bodyN_6 (by omega) hex (by omega) (Decidable.of_not_not h9_1) hn5 (by first | exact .inl ⟨by assumption, by assumption⟩ | exact .inr (.inl (by assumption)) | exact .inr (.inr (.inl (by assumption))) | exact .inr (.inr (.inr (.inl ⟨by assumption, by assumption⟩))) | exact .inr (.inr (.inr (.inr (.inl (by assumption))))) | exact .inr (.inr (.inr (.inr (.inr (by assumption))))))).symm, hS50.fin⟩
            have hS50 := hS47.ext hx49
            refine wl_val (r_pick_f rfl (v := .bool _) rfl) rfl ?_; refine wl_nil ?_; refine c_then ?_; refine c_false rfl ?_; refine wp_skip ?_; refine c_then ?_
            exact ⟨_, rfl, ⟨hS50, (fun h => by unfold rangeBad at h; rcases h with ⟨h, h'⟩ | h | h | ⟨h, h'⟩ | h | h <;> first | contradiction | (simp_all; done))⟩, ⟨rfl, trivial⟩⟩
          · refine wl_val (r_loadB1 (v := .bool false) ti4.und rfl rfl (hS40.heap (.head _)) (need_mem hN41 rfl)) rfl ?_
            refine wl_run 7 rfl ?_; refine wl_val (r_field fa29_5 rfl) rfl ?_; refine wl_val (r_loadB1 ti3.und rfl rfl (hS40.heap (.tail _ (.head _))) (body_ep hx)) rfl ?_; refine wl_call (r_call fn56 rfl rfl) rfl (outside_ok x.ep 0 4294967295 _) ?_
            rintro _ w51 (⟨ho5, rfl, hx52⟩ | ⟨ho5, rfl, hx52⟩)
            · have hS53 := hS40.ext hx52
              refine wl_run 6 rfl ?_; refine wl_nil ?_; refine c_then ?_; refine c_true rfl ?_; refine c_seq ?_; refine c_region ?_; refine wl_val (r_assign (v := .int .i64 4) rfl) rfl ?_; refine wl_nil ?_; refine c_then ?_; refine wp_ret ?_; refine c_thenR ?_; refine ret1 Try.results23 ?_
              exact ⟨congrArg (Value.int .i64) (bodyN_6 (by omega) hex (by omega) (Decidable.of_not_not h9_1) hn5 (by first | exact .inl ⟨by assumption, by assumption⟩ | exact .inr (.inl (by assumption)) | exact .inr (.inr (.inl (by assumption))) | exact .inr (.inr (.inr (.inl ⟨by assumption, by assumption⟩))) | exact .inr (.inr (.inr (.inr (.inl (by assumption))))) | exact .inr (.inr (.inr (.inr (.inr (by assumption))))))).symm, hS53.fin⟩
            have hS53 := hS40.ext hx52
            refine wl_run 2 rfl ?_; refine wl_val (r_field fa29_10 rfl) rfl ?_; refine wl_val (r_loadB1 ti3.und rfl rfl (hS53.heap (.tail _ (.head _))) (body_ct hx)) rfl ?_; refine wl_call (r_call fn56 rfl rfl) rfl (outside_ok x.ct 0 65536 _) ?_
            rintro _ w54 (⟨ho6, rfl, hx55⟩ | ⟨ho6, rfl, hx55⟩)
            · have hS56 := hS53.ext hx55
              refine wl_val (r_pick_f rfl (v := .bool _) rfl) rfl ?_; refine wl_nil ?_; refine c_then ?_; refine c_true rfl ?_; refine c_seq ?_; refine c_region ?_; refine wl_val (r_assign (v := .int .i64 4) rfl) rfl ?_; refine wl_nil ?_; refine c_then ?_; refine wp_ret ?_; refine c_thenR ?_; refine ret1 Try.results23 ?_
              exact ⟨congrArg (Value.int .i64) (bodyN_6 (by omega) hex (by omega) (Decidable.of_not_not h9_1) hn5 (by first | exact .inl ⟨by assumption, by assumption⟩ | exact .inr (.inl (by assumption)) | exact .inr (.inr (.inl (by assumption))) | exact .inr (.inr (.inr (.inl ⟨by assumption, by assumption⟩))) | exact .inr (.inr (.inr (.inr (.inl (by assumption))))) | exact .inr (.inr (.inr (.inr (.inr (by assumption))))))).symm, hS56.fin⟩
            have hS56 := hS53.ext hx55
            refine wl_val (r_pick_f rfl (v := .bool _) rfl) rfl ?_; refine wl_nil ?_; refine c_then ?_; refine c_false rfl ?_; refine wp_skip ?_; refine c_then ?_
            exact ⟨_, rfl, ⟨hS56, (fun h => by unfold rangeBad at h; rcases h with ⟨h, h'⟩ | h | h | ⟨h, h'⟩ | h | h <;> first | contradiction | (simp_all; done))⟩, ⟨rfl, trivial⟩⟩
        · refine wl_val (r_loadB1 (v := .bool false) ti4.und rfl rfl (hS21.heap (.head _)) (need_mem hN31 rfl)) rfl ?_
          refine wl_run 6 rfl ?_; refine wl_val (r_field fa29_7 rfl) rfl ?_; refine wl_val (r_loadB1 ti3.und rfl rfl (hS21.heap (.tail _ (.head _))) (body_re hx)) rfl ?_; refine wl_call (r_call fn56 rfl rfl) rfl (outside_ok x.re 0 255 _) ?_
          rintro _ w57 (⟨ho2, rfl, hx58⟩ | ⟨ho2, rfl, hx58⟩)
          · have hS59 := hS21.ext hx58
            refine wl_run 8 rfl ?_; refine wl_not rfl ?_; refine wl_run 16 rfl ?_; refine wl_nil ?_; refine c_then ?_; refine c_true rfl ?_; refine c_seq ?_; refine c_region ?_; refine wl_val (r_assign (v := .int .i64 4) rfl) rfl ?_; refine wl_nil ?_; refine c_then ?_; refine wp_ret ?_; refine c_thenR ?_; refine ret1 Try.results23 ?_
            exact ⟨congrArg (Value.int .i64) (bodyN_6 (by omega) hex (by omega) (Decidable.of_not_not h9_1) hn5 (by first | exact .inl ⟨by assumption, by assumption⟩ | exact .inr (.inl (by assumption)) | exact .inr (.inr (.inl (by assumption))) | exact .inr (.inr (.inr (.inl ⟨by assumption, by assumption⟩))) | exact .inr (.inr (.inr (.inr (.inl (by assumption))))) | exact .inr (.inr (.inr (.inr (.inr (by assumption))))))).symm, hS59.fin⟩
          have hS59 := hS21.ext hx58
          refine wl_run 2 rfl ?_; refine wl_val (r_field fa29_9 rfl) rfl ?_; refine wl_val (r_loadB1 ti3.und rfl rfl (hS59.heap (.tail _ (.head _))) (body_ve hx)) rfl ?_; refine wl_call (r_call fn56 rfl rfl) rfl (outside_ok x.ve 0 255 _) ?_
          rintro _ w60 (⟨ho3, rfl, hx61⟩ | ⟨ho3, rfl, hx61⟩)
          · have hS62 := hS59.ext hx61
            refine wl_run 3 rfl ?_; refine wl_not rfl ?_; refine wl_run 16 rfl ?_; refine wl_nil ?_; refine c_then ?_; refine c_true rfl ?_; refine c_seq ?_; refine c_region ?_; refine wl_val (r_assign (v := .int .i64 4) rfl) rfl ?_; refine wl_nil ?_; refine c_then ?_; refine wp_ret ?_; refine c_thenR ?_; refine ret1 Try.results23 ?_
            exact ⟨congrArg (Value.int .i64) (bodyN_6 (by omega) hex (by omega) (Decidable.of_not_not h9_1) hn5 (by first | exact .inl ⟨by assumption, by assumption⟩ | exact .inr (.inl (by assumption)) | exact .inr (.inr (.inl (by assumption))) | exact .inr (.inr (.inr (.inl ⟨by assumption, by assumption⟩))) | exact .inr (.inr (.inr (.inr (.inl (by assumption))))) | exact .inr (.inr (.inr (.inr (.inr (by assumption))))))).symm, hS62.fin⟩
          have hS62 := hS59.ext hx61
          refine wl_run 2 rfl ?_; refine wl_val (r_field fa56_8 rfl) rfl ?_
          rcases bool_cases ((needF act') 8) with hN63 | hN63
          · refine wl_val (r_loadB1 (v := .bool true) ti4.und rfl rfl (hS62.heap (.head _)) (need_mem hN63 rfl)) rfl ?_
            refine wl_val (r_move (v := .bool _) rfl) rfl ?_; refine wl_val (r_field fa29_8 rfl) rfl ?_; refine wl_val (r_loadB1 ti3.und rfl rfl (hS62.heap (.tail _ (.head _))) (body_ne hx)) rfl ?_; refine wl_call (r_call fn56 rfl rfl) rfl (outside_ok x.ne 1 32 _) ?_
            rintro _ w64 (⟨ho4, rfl, hx65⟩ | ⟨ho4, rfl, hx65⟩)
            · have hS66 := hS62.ext hx65
              refine wl_run 12 rfl ?_; refine wl_nil ?_; refine c_then ?_; refine c_true rfl ?_; refine c_seq ?_; refine c_region ?_; refine wl_val (r_assign (v := .int .i64 4) rfl) rfl ?_; refine wl_nil ?_; refine c_then ?_; refine wp_ret ?_; refine c_thenR ?_; refine ret1 Try.results23 ?_
              exact ⟨congrArg (Value.int .i64) (bodyN_6 (by omega) hex (by omega) (Decidable.of_not_not h9_1) hn5 (by first | exact .inl ⟨by assumption, by assumption⟩ | exact .inr (.inl (by assumption)) | exact .inr (.inr (.inl (by assumption))) | exact .inr (.inr (.inr (.inl ⟨by assumption, by assumption⟩))) | exact .inr (.inr (.inr (.inr (.inl (by assumption))))) | exact .inr (.inr (.inr (.inr (.inr (by assumption))))))).symm, hS66.fin⟩
            have hS66 := hS62.ext hx65
            refine wl_run 3 rfl ?_; refine wl_val (r_field fa29_5 rfl) rfl ?_; refine wl_val (r_loadB1 ti3.und rfl rfl (hS66.heap (.tail _ (.head _))) (body_ep hx)) rfl ?_; refine wl_call (r_call fn56 rfl rfl) rfl (outside_ok x.ep 0 4294967295 _) ?_
            rintro _ w67 (⟨ho5, rfl, hx68⟩ | ⟨ho5, rfl, hx68⟩)
            · have hS69 := hS66.ext hx68
              refine wl_run 6 rfl ?_; refine wl_nil ?_; refine c_then ?_; refine c_true rfl ?_; refine c_seq ?_; refine c_region ?_; refine wl_val (r_assign (v := .int .i64 4) rfl) rfl ?_; refine wl_nil ?_; refine c_then ?_; refine wp_ret ?_; refine c_thenR ?_; refine ret1 Try.results23 ?_
              exact ⟨congrArg (Value.int .i64) (bodyN_6 (by omega) hex (by omega) (Decidable.of_not_not h9_1) hn5 (by first | exact .inl ⟨by assumption, by assumption⟩ | exact .inr (.inl (by assumption)) | exact .inr (.inr (.inl (by assumption))) | exact .inr (.inr (.inr (.inl ⟨by assumption, by assumption⟩))) | exact .inr (.inr (.inr (.inr (.inl (by assumption))))) | exact .inr (.inr (.inr (.inr (.inr (by assumption))))))).symm, hS69.fin⟩
            have hS69 := hS66.ext hx68
            refine wl_run 2 rfl ?_; refine wl_val (r_field fa29_10 rfl) rfl ?_; refine wl_val (r_loadB1 ti3.und rfl rfl (hS69.heap (.tail _ (.head _))) (body_ct hx)) rfl ?_; refine wl_call (r_call fn56 rfl rfl) rfl (outside_ok x.ct 0 65536 _) ?_
            rintro _ w70 (⟨ho6, rfl, hx71⟩ | ⟨ho6, rfl, hx71⟩)
            · have hS72 := hS69.ext hx71
              refine wl_val (r_pick_f rfl (v := .bool _) rfl) rfl ?_; refine wl_nil ?_; refine c_then ?_; refine c_true rfl ?_; refine c_seq ?_; refine c_region ?_; refine wl_val (r_assign (v := .int .i64 4) rfl) rfl ?_; refine wl_nil ?_; refine c_then ?_; refine wp_ret ?_; refine c_thenR ?_; refine ret1 Try.results23 ?_
              exact ⟨congrArg (Value.int .i64) (bodyN_6 (by omega) hex (by omega) (Decidable.of_not_not h9_1) hn5 (by first | exact .inl ⟨by assumption, by assumption⟩ | exact .inr (.inl (by assumption)) | exact .inr (.inr (.inl (by assumption))) | exact .inr (.inr (.inr (.inl ⟨by assumption, by assumption⟩))) | exact .inr (.inr (.inr (.inr (.inl (by assumption))))) | exact .inr (.inr (.inr (.inr (.inr (by assumption))))))).symm, hS72.fin⟩
            have hS72 := hS69.ext hx71
            refine wl_val (r_pick_f rfl (v := .bool _) rfl) rfl ?_; refine wl_nil ?_; refine c_then ?_; refine c_false rfl ?_; refine wp_skip ?_; refine c_then ?_
            exact ⟨_, rfl, ⟨hS72, (fun h => by unfold rangeBad at h; rcases h with ⟨h, h'⟩ | h | h | ⟨h, h'⟩ | h | h <;> first | contradiction | (simp_all; done))⟩, ⟨rfl, trivial⟩⟩
          · refine wl_val (r_loadB1 (v := .bool false) ti4.und rfl rfl (hS62.heap (.head _)) (need_mem hN63 rfl)) rfl ?_
            refine wl_run 7 rfl ?_; refine wl_val (r_field fa29_5 rfl) rfl ?_; refine wl_val (r_loadB1 ti3.und rfl rfl (hS62.heap (.tail _ (.head _))) (body_ep hx)) rfl ?_; refine wl_call (r_call fn56 rfl rfl) rfl (outside_ok x.ep 0 4294967295 _) ?_
            rintro _ w73 (⟨ho5, rfl, hx74⟩ | ⟨ho5, rfl, hx74⟩)
            · have hS75 := hS62.ext hx74
              refine wl_run 6 rfl ?_; refine wl_nil ?_; refine c_then ?_; refine c_true rfl ?_; refine c_seq ?_; refine c_region ?_; refine wl_val (r_assign (v := .int .i64 4) rfl) rfl ?_; refine wl_nil ?_; refine c_then ?_; refine wp_ret ?_; refine c_thenR ?_; refine ret1 Try.results23 ?_
              exact ⟨congrArg (Value.int .i64) (bodyN_6 (by omega) hex (by omega) (Decidable.of_not_not h9_1) hn5 (by first | exact .inl ⟨by assumption, by assumption⟩ | exact .inr (.inl (by assumption)) | exact .inr (.inr (.inl (by assumption))) | exact .inr (.inr (.inr (.inl ⟨by assumption, by assumption⟩))) | exact .inr (.inr (.inr (.inr (.inl (by assumption))))) | exact .inr (.inr (.inr (.inr (.inr (by assumption))))))).symm, hS75.fin⟩
            have hS75 := hS62.ext hx74
            refine wl_run 2 rfl ?_; refine wl_val (r_field fa29_10 rfl) rfl ?_; refine wl_val (r_loadB1 ti3.und rfl rfl (hS75.heap (.tail _ (.head _))) (body_ct hx)) rfl ?_; refine wl_call (r_call fn56 rfl rfl) rfl (outside_ok x.ct 0 65536 _) ?_
            rintro _ w76 (⟨ho6, rfl, hx77⟩ | ⟨ho6, rfl, hx77⟩)
            · have hS78 := hS75.ext hx77
              refine wl_val (r_pick_f rfl (v := .bool _) rfl) rfl ?_; refine wl_nil ?_; refine c_then ?_; refine c_true rfl ?_; refine c_seq ?_; refine c_region ?_; refine wl_val (r_assign (v := .int .i64 4) rfl) rfl ?_; refine wl_nil ?_; refine c_then ?_; refine wp_ret ?_; refine c_thenR ?_; refine ret1 Try.results23 ?_
              exact ⟨congrArg (Value.int .i64) (bodyN_6 (by omega) hex (by omega) (Decidable.of_not_not h9_1) hn5 (by first | exact .inl ⟨by assumption, by assumption⟩ | exact .inr (.inl (by assumption)) | exact .inr (.inr (.inl (by assumption))) | exact .inr (.inr (.inr (.inl ⟨by assumption, by assumption⟩))) | exact .inr (.inr (.inr (.inr (.inl (by assumption))))) | exact .inr (.inr (.inr (.inr (.inr (by assumption))))))).symm, hS78.fin⟩
            have hS78 := hS75.ext hx77
            refine wl_val (r_pick_f rfl (v := .bool _) rfl) rfl ?_; refine wl_nil ?_; refine c_then ?_; refine c_false rfl ?_; refine wp_skip ?_; refine c_then ?_
            exact ⟨_, rfl, ⟨hS78, (fun h => by unfold rangeBad at h; rcases h with ⟨h, h'⟩ | h | h | ⟨h, h'⟩ | h | h <;> first | contradiction | (simp_all; done))⟩, ⟨rfl, trivial⟩⟩
      · rintro e27 w28 ⟨hS29, hrg⟩ -
        refine c_seq ?_; refine c_seq ?_; refine c_region ?_; refine wl_val (r_assign (v := .int .i64 1) rfl) rfl ?_; refine wl_nil ?_; refine c_then ?_; refine c_block ?_; refine c_loopE [3] (fun d e w' => ∃ (k : Nat), Kw.look e 7 = vi k ∧ d = x.ho.length + 1 - k ∧ St w [] w' [.blk b5 (cl (needV (needF act')) 56), .blk b3 (cl x.v 29)] ∧ (1 ≤ k) ∧ (k ≤ x.ho.length + 1) ∧ (∀ j, j < k → holdAt x.ho j = 0)) (x.ho.length + 1 - 1) ?_ ?_
        · exact ⟨1, rfl, rfl, hS29, Nat.le_refl _, by omega, fun j hj => by obtain rfl : j = 0 := (by omega); rw [holdAt, if_neg (fun h => by omega)]⟩
        · rintro d82 e79 w80 ⟨k, hc0_7, rfl, hS81, hk1, hk, hok⟩ -
          refine c_set (d := 7) hc0_7 ?_; refine c_seq ?_; refine c_seq ?_; refine c_region ?_; refine wl_val (r_move (v := .int .i64 _) rfl) rfl ?_; refine wl_val (r_field fa29_11 rfl) rfl ?_; refine wl_val (r_loadB1 ti27.und rfl rfl (hS81.heap (.tail _ (.head _))) (body_ho hx)) rfl ?_; refine wl_val (r_len (T := 27) rfl ti27.und rfl _ rfl) rfl ?_
          refine wl_dec (r_lss rfl rfl) rfl (fun h16_4 => ?_) (fun h16_4 => ?_)
          · refine wl_nil ?_
            refine c_then ?_; refine c_true rfl ?_; refine wp_skip ?_; refine c_then ?_; refine c_seq ?_; refine c_block ?_; refine c_seq ?_; refine c_drawS 11 hMixed hS81 ?_; intro w83 hS84; refine g_take 0 rfl (by decide +kernel) rfl (fun _ _ _ h => h) hS84 (fun wF hF => r_field fa29_11 rfl) ?_; refine g_take 1 rfl (by decide +kernel) rfl (fun _ _ _ h => h) hS84 (fun wF hF => r_loadB1 ti27.und rfl rfl (hF.heap (.tail _ (.head _))) (body_ho hx)) ?_; refine g_take 2 rfl (by decide +kernel) rfl (fun _ _ _ h => h) hS84 (fun wF hF => r_move (v := .int .i64 _) rfl) ?_; refine g_take 3 rfl (by decide +kernel) rfl (fun _ _ _ h => h) hS84 (fun wF hF => r_ixN ti27.und ti23 rfl rfl (hho.st hF) (hx.h16) rfl (by omega) (by decide)) ?_; refine g_take 4 rfl (by decide +kernel) rfl (fun _ _ _ h => h) hS84 (fun wF hF => r_loadN ti23 rfl rfl (hho.st hF) (hx.h16) (by omega) (by decide)) ?_; refine g_take 5 rfl (by decide +kernel) rfl (fun _ _ _ h => h) hS84 (fun wF hF => r_field fa29_11 rfl) ?_; refine g_take 6 rfl (by decide +kernel) rfl (fun _ _ _ h => h) hS84 (fun wF hF => r_loadB1 ti27.und rfl rfl (hF.heap (.tail _ (.head _))) (body_ho hx)) ?_; refine g_take 7 rfl (by decide +kernel) rfl (fun _ _ _ h => h) hS84 (fun wF hF => r_move (v := .int .i64 _) rfl) ?_; refine g_take 8 rfl (by decide +kernel) rfl (fun _ _ _ h => h) hS84 (fun wF hF => r_subn (b := 1) rfl rfl (by omega) (by omega)) ?_; refine g_take 9 rfl (by decide +kernel) rfl (fun _ _ _ h => h) hS84 (fun wF hF => r_ixN ti27.und ti23 rfl rfl (hho.st hF) (hx.h16) rfl (by omega) (by decide)) ?_
            refine g_take 10 rfl (by decide +kernel) rfl (fun _ _ _ h => h) hS84 (fun wF hF => r_loadN ti23 rfl rfl (hho.st hF) (hx.h16) (by omega) (by decide)) ?_; refine g_tail (by decide +kernel) rfl (by decide +kernel) ?_; refine wl_call (r_call fn57 rfl rfl) rfl (compareIDs_ok _ _ _ (hx.h16.gt (by omega)) (hx.h16.gt (by omega))) ?_; rintro _ w85 ⟨rfl, hx86⟩
            have hS87 := hS84.ext hx86
            refine wl_dec (r_leq rfl rfl) rfl (fun h18_12 => ?_) (fun h18_12 => ?_)
            · refine wl_nil ?_
              refine c_then ?_; refine c_true rfl ?_; refine c_seq ?_; refine c_region ?_; refine wl_val (r_assign (v := .int .i64 9) rfl) rfl ?_; refine wl_nil ?_; refine c_then ?_; refine wp_ret ?_; refine c_inR ?_; refine c_thenR ?_; refine c_thenR ?_; refine c_inR ?_; refine c_thenR ?_; refine ret1 Try.results23 ?_
              have e9 : holdAt x.ho k = 9 := by rw [holdAt, if_pos ⟨by omega, by have := cmp_swap (gt x.ho (k - 1)) (gt x.ho k); omega⟩]
              exact ⟨congrArg (Value.int .i64) ((bodyN_7 (by omega) hex (by omega) (Decidable.of_not_not h9_1) hn5 hrg).trans ((firstI_at (k := k) _ _ (Nat.zero_le _) (by omega) (fun j _ hj => hok j hj) (by rw [e9]; decide)).trans e9)).symm, hS87.fin⟩
            refine wl_nil ?_; refine c_then ?_; refine c_false rfl ?_; refine wp_skip ?_; refine c_inN ?_; refine c_then ?_; refine c_region ?_; refine wl_val (r_move (v := .int .i64 _) rfl) rfl ?_; refine wl_val (r_addn (b := 1) rfl rfl (by omega)) rfl ?_; refine wl_val (r_assign (v := .int .i64 _) rfl) rfl ?_; refine wl_nil ?_; refine c_then ?_
            exact ⟨x.ho.length + 1 - (k + 1), _, by omega, rfl, ⟨k + 1, rfl, rfl, hS87, by omega, by omega, fun j hj => by by_cases e : j = k; (subst e; rw [holdAt, if_neg (fun h => by have := cmp_swap (gt x.ho (j - 1)) (gt x.ho j); omega)]); exact hok j (by omega)⟩, ⟨rfl, trivial⟩⟩
          refine wl_nil ?_; refine c_then ?_; refine c_false rfl ?_; refine wp_exit ?_; refine c_thenE ?_; refine c_thenE ?_; refine c_inE ?_; refine c_then ?_; refine c_seq ?_; refine c_region ?_; refine wl_val (r_assign (v := .int .i64 0) rfl) rfl ?_; refine wl_nil ?_; refine c_then ?_; refine wp_ret ?_; refine ret1 Try.results23 ?_
          exact ⟨congrArg (Value.int .i64) ((bodyN_7 (by omega) hex (by omega) (Decidable.of_not_not h9_1) hn5 hrg).trans (firstI_ok _ _ fun j _ hj => hok j (by omega))).symm, hS81.fin⟩
  have hS5 := hS2.ext hx4
  refine wl_val (r_not rfl) rfl ?_; refine wl_nil ?_; refine c_then ?_; refine c_true rfl ?_; refine c_seq ?_; refine c_region ?_; refine wl_val (r_assign (v := .int .i64 3) rfl) rfl ?_; refine wl_nil ?_; refine c_then ?_; refine wp_ret ?_; refine c_thenR ?_; refine ret1 Try.results23 ?_
  exact ⟨congrArg (Value.int .i64) (bodyE_1 (by omega)).symm, hS5.fin⟩

end Go.Proofs.Ytbanoknkplcedaa
