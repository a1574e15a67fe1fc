/- What the law's proof leans on. No condition. -/
import Derived.Test.YtbanoknkplcedaaPEMAH
import Derived.Test.YtbanoknkplcedaaPEMBQ
import Derived.Test.YtbanoknkplcedaaPEMBK
import Derived.Test.YtbanoknkplcedaaPEMBA
namespace Go.Proofs.Ytbanoknkplcedaa
open Go.Kw
set_option linter.unusedVariables false
set_option linter.unusedSimpArgs false
set_option maxRecDepth 100000
theorem tie : TI Try.prog 41 sd41 68 112 (.agg (EntD.v ⟨EV.zero, none, 0⟩).toArray) := ti41

theorem putNumber_n (l : List UInt8) (a : Option Addr) (n c : Nat) (x : UInt32) (w : World) (xs : List Value) (hb : Row w a xs) (hx : xs = l.map b8) (hl : l.length = n) (hn : n ≤ 140737488351232) :
    Ret Try.prog 26 [.slice a n c, v32 x] w (fun v w' => ∃ a' c', v = .slice a' (n + 4) c' ∧ n + 4 ≤ c' ∧ St w [] w' [.row (.slice a' (n + 4) c') 5 1 (n + 4) ((l ++ octs x).map b8)]) := by
  subst hx hl
  have h := putNumber_ok l a c x w hb hn
  rw [show (l ++ octs x).length = l.length + 4 by simp] at h
  exact h

theorem putN_n {x : Int} (h0 : 0 ≤ x) (h1 : x ≤ 1099511627776) : putN x = x.toNat := by
  have := putN_in (n := x) (by omega) (by omega)
  omega

set_option maxHeartbeats 4000000 in
theorem entryFault_ok (x : EntD) (w : World) (hx : EntOk x) (hbo : Row w x.ba (x.e.bo.map b8)) :
    Ret Try.prog 48 [.agg x.v.toArray] w (fun v w' => v = .int .i64 x.e.F ∧ St w [] w' []) := by
  have hxl := ent_len hx
  have hac := hx.e.ac
  have hky := hx.e.ky
  have hpv := hx.e.pv
  refine enter Try.func48 rfl Try.ntmps48 rfl ?_
  have hS := St.refl w []
  refine c_seq ?_; refine c_region ?_; refine wl_exv (x_box hS (v := .agg _) rfl rfl) rfl ?_; rintro _ w1 ⟨b1, rfl, hS2⟩; refine wl_val (r_assign (v := .int .i64 0) rfl) rfl ?_; refine wl_nil ?_; refine c_then ?_; refine c_seq ?_; refine c_seq ?_; refine c_region ?_; refine wl_val (r_field fa41_0 rfl) rfl ?_; refine wl_val (r_loadB1 ti3.und rfl rfl (hS2.heap (.head _)) ent_nr) rfl ?_; refine wl_call (r_call fn56 rfl rfl) rfl (outside_ok x.e.nr 0 65535 _) ?_
  rintro _ w3 (⟨ho1, rfl, hx4⟩ | ⟨ho1, rfl, hx4⟩)
  · have hS5 := hS2.ext hx4
    refine wl_val (r_move (v := .bool _) rfl) rfl ?_; refine wl_not rfl ?_; refine wl_not rfl ?_; refine wl_not rfl ?_; refine wl_val (r_pick_t rfl (v := .bool true) rfl) rfl ?_; refine wl_nil ?_; refine c_then ?_; refine c_true rfl ?_; refine c_seq ?_; refine c_region ?_; refine wl_val (r_assign (v := .int .i64 4) rfl) rfl ?_; refine wl_nil ?_; refine c_then ?_; refine wp_ret ?_; refine c_thenR ?_; refine ret1 Try.results48 ?_
    exact ⟨congrArg (Value.int .i64) (EV.F_4 (by simp only [outI] at *; omega)).symm, hS5.fin⟩
  have hS5 := hS2.ext hx4
  refine wl_val (r_move (v := .bool _) rfl) rfl ?_; refine wl_val (r_field fa41_1 rfl) rfl ?_; refine wl_val (r_loadB1 ti3.und rfl rfl (hS5.heap (.head _)) ent_tm) rfl ?_; refine wl_call (r_call fn56 rfl rfl) rfl (outside_ok x.e.tm 0 1099511627776 _) ?_
  rintro _ w6 (⟨ho2, rfl, hx7⟩ | ⟨ho2, rfl, hx7⟩)
  · have hS8 := hS5.ext hx7
    refine wl_val (r_pick_f rfl (v := .bool _) rfl) rfl ?_; refine wl_nil ?_; refine c_then ?_; refine c_true rfl ?_; refine c_seq ?_; refine c_region ?_; refine wl_val (r_assign (v := .int .i64 4) rfl) rfl ?_; refine wl_nil ?_; refine c_then ?_; refine wp_ret ?_; refine c_thenR ?_; refine ret1 Try.results48 ?_
    exact ⟨congrArg (Value.int .i64) (EV.F_4 (by simp only [outI] at *; omega)).symm, hS8.fin⟩
  have hS8 := hS5.ext hx7
  refine wl_val (r_pick_f rfl (v := .bool _) rfl) rfl ?_; refine wl_nil ?_; refine c_then ?_; refine c_false rfl ?_; refine wp_skip ?_; refine c_then ?_; refine c_seq ?_; refine c_region ?_; refine wl_val (r_field fa41_2 rfl) rfl ?_; refine wl_val (r_loadB1 ti3.und rfl rfl (hS8.heap (.head _)) ent_act) rfl ?_; refine wl_val (r_field fa41_6 rfl) rfl ?_; refine wl_val (r_loadB1 ti30.und rfl rfl (hS8.heap (.head _)) (ent_bo hx)) rfl ?_; refine wl_call (r_call fn10 rfl rfl) rfl (parseBody_ok x.e.act x.e.bo _ _ _ _ (hbo.st hS8) rfl hx.bc hx.e.bn) ?_; rintro _ w9 ⟨y18, rfl, hv18, ho18, hx10⟩
  have hS11 := hS8.call hx10
  simp only [List.cons_append, List.nil_append] at hS11
  have hl18 := body_len ho18
  refine wl_val (r_move (v := .tuple _) rfl) rfl ?_; refine wl_val (r_extract (v := .agg _) rfl rfl) rfl ?_; refine wl_val (r_extract (v := .int .i64 _) rfl rfl) rfl ?_; refine wl_exv (x_alloc (C := [.string ⟨#[]⟩, .int .u8 0, .int .u8 0, .int .u8 0, .int .u8 0, .int .u8 0, .int .u8 0, .int .u8 0, .int .u8 0, .int .u8 0, .int .u8 0, .int .u8 0, .int .u8 0, .int .u8 0, .int .u8 0, .int .u8 0, .int .u8 0, .slice none 0 0, .string ⟨#[]⟩, .int .u8 0, .int .u8 0, .int .u8 0, .int .u8 0, .int .u8 0, .int .u8 0, .int .u8 0, .int .u8 0, .int .u8 0, .int .u8 0, .int .u8 0, .int .u8 0, .int .u8 0, .int .u8 0, .int .u8 0, .int .u8 0, .int .u8 0, .int .u8 0, .int .u8 0, .int .u8 0, .int .u8 0, .int .u8 0, .int .u8 0, .int .u8 0, .int .u8 0, .int .u8 0, .int .u8 0, .int .u8 0, .int .u8 0, .int .u8 0, .int .u8 0, .int .u8 0, .int .i64 0, .int .i64 0, .int .i64 0, .int .i64 0, .int .i64 0, .int .i64 0, .slice none 0 0]) hS11 ti29 rfl) rfl ?_; rintro _ w12 ⟨b3, rfl, hS13⟩; refine wl_exs (x_storeW [] hS13 ti29 rfl rfl (by first | (simp [*]; done) | (simp [*] <;> omega) | omega) (by first | (simp [*]; done) | (simp [*] <;> omega) | omega) (by repeat' first | exact one_nil | exact one_b8 _ | exact one_v32 _ | exact one_all rfl | refine one_cons rfl ?_ | refine one_app ?_ ?_)) rfl ?_; intro w14 hS15; simp only [List.cons_append, List.nil_append] at hS15; refine wl_val (r_assign (v := .int .i64 _) rfl) rfl ?_; refine wl_nil ?_; refine c_then ?_; refine c_seq ?_; refine c_region ?_; refine wl_val (r_move (v := .int .i64 _) rfl) rfl ?_
  refine wl_val (r_assign (v := .int .i64 _) rfl) rfl ?_; refine wl_nil ?_; refine c_then ?_; refine wp_ret ?_; refine ret1 Try.results48 ?_
  exact ⟨congrArg (Value.int .i64) (EV.F_p (by simp only [outI] at *; omega)).symm, hS15.fin⟩

set_option maxHeartbeats 4000000 in
theorem rentryError_ok (x : EntD) (w : World) (hx : EntOk x) (hbo : Row w x.ba (x.e.bo.map b8)) :
    Ret Try.prog 41 [.agg x.v.toArray] w (fun v w' => v = .int .i64 x.e.F ∧ St w [] w' []) := by
  have hxl := ent_len hx
  have hac := hx.e.ac
  have hky := hx.e.ky
  have hpv := hx.e.pv
  refine enter Try.func41 rfl Try.ntmps41 rfl ?_
  have hS := St.refl w []
  refine c_seq ?_; refine c_region ?_; refine wl_exv (x_box hS (v := .agg _) rfl rfl) rfl ?_; rintro _ w1 ⟨b1, rfl, hS2⟩; refine wl_val (r_assign (v := .int .i64 0) rfl) rfl ?_; refine wl_nil ?_; refine c_then ?_; refine c_seq ?_; refine c_seq ?_; refine c_region ?_; refine wl_val (r_field fa41_0 rfl) rfl ?_; refine wl_val (r_loadB1 ti3.und rfl rfl (hS2.heap (.head _)) ent_nr) rfl ?_
  refine wl_dec (r_lss rfl rfl) rfl (fun h1_2 => ?_) (fun h1_2 => ?_)
  · refine wl_val (r_move (v := .bool _) rfl) rfl ?_
    refine wl_not rfl ?_; refine wl_not rfl ?_; refine wl_not rfl ?_; refine wl_val (r_pick_t rfl (v := .bool true) rfl) rfl ?_; refine wl_val (r_move (v := .bool _) rfl) rfl ?_; refine wl_not rfl ?_; refine wl_not rfl ?_; refine wl_not rfl ?_; refine wl_val (r_pick_t rfl (v := .bool true) rfl) rfl ?_; refine wl_val (r_move (v := .bool _) rfl) rfl ?_; refine wl_not rfl ?_; refine wl_not rfl ?_; refine wl_not rfl ?_; refine wl_val (r_pick_t rfl (v := .bool true) rfl) rfl ?_; refine wl_nil ?_; refine c_then ?_; refine c_true rfl ?_; refine c_seq ?_; refine c_region ?_; refine wl_val (r_assign (v := .int .i64 4) rfl) rfl ?_; refine wl_nil ?_; refine c_then ?_; refine wp_ret ?_; refine c_thenR ?_; refine ret1 Try.results41 ?_
    exact ⟨congrArg (Value.int .i64) (EV.F_4 (by omega)).symm, hS2.fin⟩
  refine wl_val (r_move (v := .bool _) rfl) rfl ?_; refine wl_val (r_field fa41_0 rfl) rfl ?_; refine wl_val (r_loadB1 ti3.und rfl rfl (hS2.heap (.head _)) ent_nr) rfl ?_
  refine wl_dec (r_geq rfl rfl) rfl (fun h1_6 => ?_) (fun h1_6 => ?_)
  · refine wl_val (r_pick_f rfl (v := .bool _) rfl) rfl ?_
    refine wl_val (r_move (v := .bool _) rfl) rfl ?_; refine wl_not rfl ?_; refine wl_not rfl ?_; refine wl_not rfl ?_; refine wl_val (r_pick_t rfl (v := .bool true) rfl) rfl ?_; refine wl_val (r_move (v := .bool _) rfl) rfl ?_; refine wl_not rfl ?_; refine wl_not rfl ?_; refine wl_not rfl ?_; refine wl_val (r_pick_t rfl (v := .bool true) rfl) rfl ?_; refine wl_nil ?_; refine c_then ?_; refine c_true rfl ?_; refine c_seq ?_; refine c_region ?_; refine wl_val (r_assign (v := .int .i64 4) rfl) rfl ?_; refine wl_nil ?_; refine c_then ?_; refine wp_ret ?_; refine c_thenR ?_; refine ret1 Try.results41 ?_
    exact ⟨congrArg (Value.int .i64) (EV.F_4 (by omega)).symm, hS2.fin⟩
  refine wl_val (r_pick_f rfl (v := .bool _) rfl) rfl ?_; refine wl_val (r_move (v := .bool _) rfl) rfl ?_; refine wl_val (r_field fa41_1 rfl) rfl ?_; refine wl_val (r_loadB1 ti3.und rfl rfl (hS2.heap (.head _)) ent_tm) rfl ?_
  refine wl_dec (r_lss rfl rfl) rfl (fun h1_11 => ?_) (fun h1_11 => ?_)
  · refine wl_val (r_pick_f rfl (v := .bool _) rfl) rfl ?_
    refine wl_val (r_move (v := .bool _) rfl) rfl ?_; refine wl_not rfl ?_; refine wl_not rfl ?_; refine wl_not rfl ?_; refine wl_val (r_pick_t rfl (v := .bool true) rfl) rfl ?_; refine wl_nil ?_; refine c_then ?_; refine c_true rfl ?_; refine c_seq ?_; refine c_region ?_; refine wl_val (r_assign (v := .int .i64 4) rfl) rfl ?_; refine wl_nil ?_; refine c_then ?_; refine wp_ret ?_; refine c_thenR ?_; refine ret1 Try.results41 ?_
    exact ⟨congrArg (Value.int .i64) (EV.F_4 (by omega)).symm, hS2.fin⟩
  refine wl_val (r_pick_f rfl (v := .bool _) rfl) rfl ?_; refine wl_val (r_move (v := .bool _) rfl) rfl ?_; refine wl_val (r_field fa41_1 rfl) rfl ?_; refine wl_val (r_loadB1 ti3.und rfl rfl (hS2.heap (.head _)) ent_tm) rfl ?_
  refine wl_dec (r_gtr rfl rfl) rfl (fun h1_16 => ?_) (fun h1_16 => ?_)
  · refine wl_val (r_pick_f rfl (v := .bool _) rfl) rfl ?_
    refine wl_nil ?_; refine c_then ?_; refine c_true rfl ?_; refine c_seq ?_; refine c_region ?_; refine wl_val (r_assign (v := .int .i64 4) rfl) rfl ?_; refine wl_nil ?_; refine c_then ?_; refine wp_ret ?_; refine c_thenR ?_; refine ret1 Try.results41 ?_
    exact ⟨congrArg (Value.int .i64) (EV.F_4 (by omega)).symm, hS2.fin⟩
  refine wl_val (r_pick_f rfl (v := .bool _) rfl) rfl ?_; refine wl_nil ?_; refine c_then ?_; refine c_false rfl ?_; refine wp_skip ?_; refine c_then ?_; refine c_seq ?_; refine c_region ?_; refine wl_val (r_field fa41_2 rfl) rfl ?_; refine wl_val (r_loadB1 ti3.und rfl rfl (hS2.heap (.head _)) ent_act) rfl ?_; refine wl_val (r_field fa41_6 rfl) rfl ?_; refine wl_val (r_loadB1 ti30.und rfl rfl (hS2.heap (.head _)) (ent_bo hx)) rfl ?_; refine wl_call (r_call fn12 rfl rfl) rfl (rparseSame_ok x.e.act x.e.bo _ _ _ _ (hbo.st hS2) rfl hx.bc hx.e.bn) ?_; rintro _ w3 ⟨y28, rfl, hv28, ho28, hx4⟩
  have hS5 := hS2.call hx4
  simp only [List.cons_append, List.nil_append] at hS5
  have hl28 := body_len ho28
  refine wl_val (r_move (v := .tuple _) rfl) rfl ?_; refine wl_val (r_extract (v := .agg _) rfl rfl) rfl ?_; refine wl_val (r_extract (v := .int .i64 _) rfl rfl) rfl ?_; refine wl_exv (x_alloc (C := [.string ⟨#[]⟩, .int .u8 0, .int .u8 0, .int .u8 0, .int .u8 0, .int .u8 0, .int .u8 0, .int .u8 0, .int .u8 0, .int .u8 0, .int .u8 0, .int .u8 0, .int .u8 0, .int .u8 0, .int .u8 0, .int .u8 0, .int .u8 0, .slice none 0 0, .string ⟨#[]⟩, .int .u8 0, .int .u8 0, .int .u8 0, .int .u8 0, .int .u8 0, .int .u8 0, .int .u8 0, .int .u8 0, .int .u8 0, .int .u8 0, .int .u8 0, .int .u8 0, .int .u8 0, .int .u8 0, .int .u8 0, .int .u8 0, .int .u8 0, .int .u8 0, .int .u8 0, .int .u8 0, .int .u8 0, .int .u8 0, .int .u8 0, .int .u8 0, .int .u8 0, .int .u8 0, .int .u8 0, .int .u8 0, .int .u8 0, .int .u8 0, .int .u8 0, .int .u8 0, .int .i64 0, .int .i64 0, .int .i64 0, .int .i64 0, .int .i64 0, .int .i64 0, .slice none 0 0]) hS5 ti29 rfl) rfl ?_; rintro _ w6 ⟨b3, rfl, hS7⟩; refine wl_exs (x_storeW [] hS7 ti29 rfl rfl (by first | (simp [*]; done) | (simp [*] <;> omega) | omega) (by first | (simp [*]; done) | (simp [*] <;> omega) | omega) (by repeat' first | exact one_nil | exact one_b8 _ | exact one_v32 _ | exact one_all rfl | refine one_cons rfl ?_ | refine one_app ?_ ?_)) rfl ?_; intro w8 hS9; simp only [List.cons_append, List.nil_append] at hS9; refine wl_val (r_assign (v := .int .i64 _) rfl) rfl ?_; refine wl_nil ?_; refine c_then ?_; refine c_seq ?_; refine c_region ?_; refine wl_val (r_move (v := .int .i64 _) rfl) rfl ?_
  refine wl_val (r_assign (v := .int .i64 _) rfl) rfl ?_; refine wl_nil ?_; refine c_then ?_; refine wp_ret ?_; refine ret1 Try.results41 ?_
  exact ⟨congrArg (Value.int .i64) (EV.F_p (by omega)).symm, hS9.fin⟩

set_option maxHeartbeats 4000000 in
theorem ahead_ok (x : EntD) (w : World) (hx : EntOk x) (hbo : Row w x.ba (x.e.bo.map b8)) (hg : EGood x.e) :
    Ret Try.prog 51 [.agg x.v.toArray] w (fun v w' => ∃ a' c', v = .slice a' x.e.L.length c' ∧ x.e.L.length ≤ c' ∧ St w [] w' [.row (.slice a' x.e.L.length c') 5 1 x.e.L.length (x.e.L.map b8)]) := by
  have hxl := ent_len hx
  have hac := hx.e.ac
  have hky := hx.e.ky
  have hpv := hx.e.pv
  have g1 := hg.n0
  have g2 := hg.n1
  have g3 := hg.t0
  have g4 := hg.t1
  have g5 := hg.a0
  have g6 := hg.a1
  have g7 := hg.bl
  refine enter Try.func51 rfl Try.ntmps51 rfl ?_
  have hS := St.refl w []
  refine c_seq ?_; refine c_region ?_; refine wl_exv (x_box hS (v := .agg _) rfl rfl) rfl ?_; rintro _ w1 ⟨b1, rfl, hS2⟩; refine wl_val (r_assign (v := .slice none 0 0) rfl) rfl ?_; refine wl_nil ?_; refine c_then ?_; refine c_seq ?_; refine c_drawS 7 hMixed hS2 ?_; intro w3 hS4; refine g_take 2 rfl (by decide +kernel) rfl (fun _ _ _ h => h) hS4 (fun wF hF => r_field fa41_0 rfl) ?_; refine g_take 3 rfl (by decide +kernel) rfl (fun _ _ _ h => h) hS4 (fun wF hF => r_loadB1 ti3.und rfl rfl (hF.heap (.head _)) ent_nr) ?_; refine g_take 5 rfl (by decide +kernel) rfl (fun _ _ _ h => h) hS4 (fun wF hF => r_field fa41_1 rfl) ?_; refine g_take 6 rfl (by decide +kernel) rfl (fun _ _ _ h => h) hS4 (fun wF hF => r_loadB1 ti3.und rfl rfl (hF.heap (.head _)) ent_tm) ?_; refine g_one 0 (by decide +kernel) (by decide +kernel) ?_; refine o_exv rfl (x_lit (vs := (([75, 87, 69, 49] : List UInt8).map b8)) hS4 ti30.und ti5 rfl rfl rfl (by repeat' first | exact one_nil | exact one_b8 _ | exact one_v32 _ | exact one_all rfl | refine one_cons rfl ?_ | refine one_app ?_ ?_) (by decide)) rfl ?_; rintro _ w5 ⟨b4, rfl, hS6⟩
  refine ⟨hS6.drop1, ?_⟩
  refine g_one 1 (by decide +kernel) (by decide +kernel) ?_; refine o_exv rfl (x_mark [] hS6 ti30.und ti5.und rfl) rfl ?_; rintro _ w7 ⟨rfl, hS8⟩; simp only [List.cons_append, List.nil_append] at hS8
  refine ⟨hS8.drop1, ?_⟩
  refine g_one 4 (by decide +kernel) (by decide +kernel) ?_; refine o_call rfl (r_call fn27 rfl rfl) rfl (putLong_ok [75, 87, 69, 49] _ _ x.e.nr _ (Row.of_at (at_all (hS8.heap (.head _)))) (by decide)) ?_; rintro _ w9 ⟨a8, c8, rfl, hc8, hx10⟩
  have hS11 := hS8.call hx10
  simp only [List.cons_append, List.nil_append] at hS11
  refine ⟨hS11.drop1.drop1, ?_⟩
  refine g_tail (by decide +kernel) rfl (by decide +kernel) ?_; refine wl_call (r_call fn27 rfl rfl) rfl (putLong_ok ([75, 87, 69, 49] ++ octs8 (UInt64.ofNat (putN x.e.nr))) _ _ x.e.tm _ (St.rowAt hS11 (.head _)) (by simp)) ?_; rintro _ w12 ⟨a11, c11, rfl, hc11, hx13⟩
  have hS14 := hS11.call hx13
  simp only [List.cons_append, List.nil_append] at hS14; refine wl_val (r_assign (v := .slice _ _ _) rfl) rfl ?_; refine wl_nil ?_; refine c_then ?_; refine c_seq ?_; refine c_drawSF 11 hMixed hS14 hS14.drop1 ?_; intro w15 hS16; refine g_take 0 rfl (by decide +kernel) rfl (fun _ _ _ h => h) hS16.drop1 (fun wF hF => r_move (v := .slice _ _ _) rfl) ?_; refine g_take 1 rfl (by decide +kernel) rfl (fun _ _ _ h => h) hS16.drop1 (fun wF hF => r_field fa41_2 rfl) ?_; refine g_take 2 rfl (by decide +kernel) rfl (fun _ _ _ h => h) hS16.drop1 (fun wF hF => r_loadB1 ti3.und rfl rfl (hF.heap (.tail _ (.tail _ (.head _)))) ent_act) ?_; refine g_take 3 rfl (by decide +kernel) rfl (fun _ _ _ h => h) hS16.drop1 (fun wF hF => c_z_u8 ti5.und ⟨_, ti3.und⟩ rfl (by omega)) ?_; refine g_take 6 rfl (by decide +kernel) rfl (fun _ _ _ h => h) hS16.drop1 (fun wF hF => r_field fa41_3 rfl) ?_; refine g_take 7 rfl (by decide +kernel) rfl (fun _ _ _ h => h) hS16.drop1 (fun wF hF => r_sa1_0 ti23.und ti5 rfl ) ?_; refine g_take 9 rfl (by decide +kernel) rfl (fun _ _ _ h => h) hS16.drop1 (fun wF hF => r_field fa41_4 rfl) ?_; refine g_take 10 rfl (by decide +kernel) rfl (fun _ _ _ h => h) hS16.drop1 (fun wF hF => r_sa1_0 ti23.und ti5 rfl ) ?_; refine g_one 4 (by decide +kernel) (by decide +kernel) ?_; refine o_exv rfl (x_lit (vs := (([UInt8.ofNat x.e.act.toNat] : List UInt8).map b8)) hS16 ti30.und ti5 rfl rfl rfl (by repeat' first | exact one_nil | exact one_b8 _ | exact one_v32 _ | exact one_all rfl | refine one_cons rfl ?_ | refine one_app ?_ ?_) (by decide)) rfl ?_
  rintro _ w17 ⟨b16, rfl, hS18⟩
  refine ⟨hS18.drop1.drop1, ?_⟩
  refine g_one 5 (by decide +kernel) (by decide +kernel) ?_; refine o_exv rfl (x_append [_] hS18 ti30.und ti5 rfl (by decide) rfl rfl (Row.of_at (at_all (hS18.heap (.head _)))) (by first | (simp [*]; done) | (simp [*] <;> omega) | omega) (by first | exact one_b8 _ | exact one_v32 _ | (intro c hc; simp only [List.mem_cons, List.not_mem_nil, or_false] at hc; (first | subst hc | rcases hc with rfl | rfl) <;> rfl)) (by first | omega | (simp [*]; done) | (simp [*] <;> omega)) (by first | omega | (simp [*]; done) | (simp [*] <;> omega)) _ rfl) rfl ?_; rintro _ w19 ⟨aq21, cq21, rfl, hcq21, hS20⟩; simp only [List.cons_append, List.nil_append] at hS20
  refine ⟨hS20.drop1.drop1, ?_⟩
  refine g_one 8 (by decide +kernel) (by decide +kernel) ?_; refine o_exv rfl (x_append [_] hS20 ti30.und ti5 rfl (by decide) rfl rfl (Row.of_at (ent_at3 (hS20.heap (.tail _ (.tail _ (.tail _ (.tail _ (.head _)))))) hx)) (by rw [List.length_map, hac]) (by first | exact one_b8 _ | exact one_v32 _ | (intro c hc; simp only [List.mem_cons, List.not_mem_nil, or_false] at hc; (first | subst hc | rcases hc with rfl | rfl) <;> rfl)) (by first | omega | (simp [*]; done) | (simp [*] <;> omega)) (by first | omega | (simp [*]; done) | (simp [*] <;> omega)) _ rfl) rfl ?_; rintro _ w22 ⟨aq24, cq24, rfl, hcq24, hS23⟩; simp only [List.cons_append, List.nil_append] at hS23
  refine ⟨hS23.drop1.drop1, ?_⟩
  refine g_tail (by decide +kernel) rfl (by decide +kernel) ?_; refine wl_exv (x_append [_] hS23 ti30.und ti5 rfl (by decide) rfl rfl (Row.of_at (ent_at19 (hS23.heap (.tail _ (.tail _ (.tail _ (.tail _ (.head _)))))) hx)) (by rw [List.length_map, hky]) (by first | exact one_b8 _ | exact one_v32 _ | (intro c hc; simp only [List.mem_cons, List.not_mem_nil, or_false] at hc; (first | subst hc | rcases hc with rfl | rfl) <;> rfl)) (by first | omega | (simp [*]; done) | (simp [*] <;> omega)) (by first | omega | (simp [*]; done) | (simp [*] <;> omega)) _ rfl) rfl ?_; rintro _ w25 ⟨aq27, cq27, rfl, hcq27, hS26⟩; simp only [List.cons_append, List.nil_append] at hS26; refine wl_val (r_assign (v := .slice _ _ _) rfl) rfl ?_; refine wl_nil ?_; refine c_then ?_; refine c_seq ?_; refine c_drawSF 8 hMixed hS26 (hS26.perm ((List.Perm.cons _ (List.Perm.refl _)).trans (List.perm_middle (l₁ := [_])).symm)).drop1 ?_; intro w28 hS29; refine g_take 0 rfl (by decide +kernel) rfl (fun _ _ _ h => h) (hS29.perm ((List.Perm.cons _ (List.Perm.refl _)).trans (List.perm_middle (l₁ := [_])).symm)).drop1 (fun wF hF => r_move (v := .slice _ _ _) rfl) ?_; refine g_take 1 rfl (by decide +kernel) rfl (fun _ _ _ h => h) (hS29.perm ((List.Perm.cons _ (List.Perm.refl _)).trans (List.perm_middle (l₁ := [_])).symm)).drop1 (fun wF hF => r_field fa41_5 rfl) ?_; refine g_take 2 rfl (by decide +kernel) rfl (fun _ _ _ h => h) (hS29.perm ((List.Perm.cons _ (List.Perm.refl _)).trans (List.perm_middle (l₁ := [_])).symm)).drop1 (fun wF hF => r_sa1_0 ti26.und ti5 rfl ) ?_
  refine g_take 4 rfl (by decide +kernel) rfl (fun _ _ _ h => h) (hS29.perm ((List.Perm.cons _ (List.Perm.refl _)).trans (List.perm_middle (l₁ := [_])).symm)).drop1 (fun wF hF => r_field fa41_6 rfl) ?_; refine g_take 5 rfl (by decide +kernel) rfl (fun _ _ _ h => h) (hS29.perm ((List.Perm.cons _ (List.Perm.refl _)).trans (List.perm_middle (l₁ := [_])).symm)).drop1 (fun wF hF => r_loadB1 ti30.und rfl rfl (hF.heap (.tail _ (.tail _ (.tail _ (.head _))))) (ent_bo hx)) ?_; refine g_take 6 rfl (by decide +kernel) rfl (fun _ _ _ h => h) (hS29.perm ((List.Perm.cons _ (List.Perm.refl _)).trans (List.perm_middle (l₁ := [_])).symm)).drop1 (fun wF hF => r_len (T := 30) rfl ti30.und rfl _ rfl) ?_; refine g_take 7 rfl (by decide +kernel) rfl (fun _ _ _ h => h) (hS29.perm ((List.Perm.cons _ (List.Perm.refl _)).trans (List.perm_middle (l₁ := [_])).symm)).drop1 (fun wF hF => c_z_u32 ti62.und ⟨_, ti3.und⟩ rfl (by omega) (by omega)) ?_; refine g_one 3 (by decide +kernel) (by decide +kernel) ?_; refine o_exv rfl (x_append [_] hS29 ti30.und ti5 rfl (by decide) rfl rfl (Row.of_at (ent_at35 (hS29.heap (.tail _ (.tail _ (.tail _ (.tail _ (.head _)))))) hx)) (by rw [List.length_map, hpv]) (by first | exact one_b8 _ | exact one_v32 _ | (intro c hc; simp only [List.mem_cons, List.not_mem_nil, or_false] at hc; (first | subst hc | rcases hc with rfl | rfl) <;> rfl)) (by first | omega | (simp [*]; done) | (simp [*] <;> omega)) (by first | omega | (simp [*]; done) | (simp [*] <;> omega)) _ rfl) rfl ?_; rintro _ w30 ⟨aq32, cq32, rfl, hcq32, hS31⟩
  simp only [List.cons_append, List.nil_append] at hS31
  refine ⟨(hS31.perm ((List.Perm.cons _ (List.Perm.refl _)).trans (List.perm_middle (l₁ := [_])).symm)).drop1, ?_⟩
  refine g_tail (by decide +kernel) rfl (by decide +kernel) ?_; refine wl_call (r_call fn26 rfl rfl) rfl (putNumber_n ([75, 87, 69, 49] ++ octs8 (UInt64.ofNat (putN x.e.nr)) ++ octs8 (UInt64.ofNat (putN x.e.tm)) ++ [UInt8.ofNat x.e.act.toNat] ++ x.e.ac ++ x.e.ky ++ x.e.pv) _ _ _ (UInt32.ofNat x.e.bo.length) _ _ (St.rowAt hS31 (.tail _ (.head _))) (by simp) (by simp [hac, hky, hpv]) (by simp)) ?_; rintro _ w33 ⟨a32, c32, rfl, hc32, hx34⟩
  have hS35 := hS31.call hx34
  simp only [List.cons_append, List.nil_append] at hS35; refine wl_val (r_assign (v := .slice _ _ _) rfl) rfl ?_; refine wl_nil ?_; refine c_then ?_; refine c_seq ?_; refine c_region ?_; refine wl_val (r_move (v := .slice _ _ _) rfl) rfl ?_; refine wl_val (r_field fa41_6 rfl) rfl ?_; refine wl_val (r_loadB1 ti30.und rfl rfl (hS35.heap (.tail _ (.tail _ (.tail _ (.tail _ (.tail _ (.head _))))))) (ent_bo hx)) rfl ?_; refine wl_exv (x_append [] hS35 ti30.und ti5 rfl (by decide) rfl rfl (hbo.st hS35) (by first | (simp [*]; done) | (simp [*] <;> omega) | omega) (by first | exact one_b8 _ | exact one_v32 _ | (intro c hc; simp only [List.mem_cons, List.not_mem_nil, or_false] at hc; (first | subst hc | rcases hc with rfl | rfl) <;> rfl)) (by first | omega | (simp [*]; done) | (simp [*] <;> omega)) (by first | omega | (simp [*]; done) | (simp [*] <;> omega)) _ rfl) rfl ?_; rintro _ w36 ⟨aq38, cq38, rfl, hcq38, hS37⟩; simp only [List.cons_append, List.nil_append] at hS37; refine wl_val (r_assign (v := .slice _ _ _) rfl) rfl ?_; refine wl_nil ?_; refine c_then ?_; refine wp_ret ?_; refine ret1 Try.results51 ?_
  have eL : ([75, 87, 69, 49] ++ octs8 (UInt64.ofNat (putN x.e.nr)) ++ octs8 (UInt64.ofNat (putN x.e.tm)) ++ [UInt8.ofNat x.e.act.toNat] ++ x.e.ac ++ x.e.ky ++ x.e.pv) ++ octs (UInt32.ofNat x.e.bo.length) ++ x.e.bo = x.e.L := by rw [putN_n (by omega) (by omega), putN_n (by omega) (by omega)]; simp only [EV.L, EV.M, EV.H]
  have eN := EV.L_len hx.e
  exact ⟨_, _, congrArg (fun n => Value.slice _ n _) (by rw [eN]; simp; try omega), by rw [eN]; refine Nat.le_trans (Nat.le_of_eq ?_) hcq38; simp; try omega, St.rowTo (hS37.perm ((List.Perm.cons _ ((List.Perm.cons _ ((List.Perm.cons _ ((List.Perm.cons _ ((List.Perm.cons _ (List.Perm.refl _)).trans (List.perm_middle (l₁ := [_])).symm)).trans (List.perm_middle (l₁ := [_])).symm)).trans (List.perm_middle (l₁ := [_])).symm)).trans (List.perm_middle (l₁ := [_])).symm)).trans (List.perm_middle (l₁ := [_])).symm)).drop1.drop1.drop1.drop1.drop1 (by rw [eN]; simp; try omega) (by rw [← eL]; simp)⟩

end Go.Proofs.Ytbanoknkplcedaa
