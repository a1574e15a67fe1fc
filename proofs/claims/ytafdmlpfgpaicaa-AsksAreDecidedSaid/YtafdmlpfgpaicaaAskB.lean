/- Sums of asks. No condition. -/
import Derived.Test.YtafdmlpfgpaicaaFacts
import Derived.Test.YtafdmlpfgpaicaaAskA
namespace Go.Proofs.Ytafdmlpfgpaicaa
open Go.Kw
set_option linter.unusedVariables false
set_option linter.unusedSimpArgs false
set_option maxRecDepth 100000
theorem concat4_ok (x1 x2 x3 x4 : List UInt8) (n1 n2 n3 n4 : Nat) (a1 a2 a3 a4 a : Option Addr) (c1 c2 c3 c4 c : Nat) (w : World) (hb : Row w a [.slice a1 n1 c1, .slice a2 n2 c2, .slice a3 n3 c3, .slice a4 n4 c4]) (h1 : Row w a1 (x1.map b8)) (h2 : Row w a2 (x2.map b8)) (h3 : Row w a3 (x3.map b8)) (h4 : Row w a4 (x4.map b8))
    (l1 : x1.length = n1) (l2 : x2.length = n2) (l3 : x3.length = n3) (l4 : x4.length = n4) (hn : n1 + n2 + n3 + n4 ≤ 140737488355328) :
    Ret Try.prog 45 [.slice a 4 c] w (fun v w' => ∃ a' c', v = .slice a' (n1 + n2 + n3 + n4) c' ∧ n1 + n2 + n3 + n4 ≤ c' ∧ St w [] w' [.row (.slice a' (n1 + n2 + n3 + n4) c') 5 1 (n1 + n2 + n3 + n4) ((((x1 ++ x2) ++ x3) ++ x4).map b8)]) := by
  subst l1; subst l2; subst l3; subst l4
  have e : total [⟨a1, c1, x1⟩, ⟨a2, c2, x2⟩, ⟨a3, c3, x3⟩, ⟨a4, c4, x4⟩] = x1.length + x2.length + x3.length + x4.length := by simp [total]; omega
  have e2 : joined [⟨a1, c1, x1⟩, ⟨a2, c2, x2⟩, ⟨a3, c3, x3⟩, ⟨a4, c4, x4⟩] = ((x1 ++ x2) ++ x3) ++ x4 := by simp [joined]
  have h := concat_ok [⟨a1, c1, x1⟩, ⟨a2, c2, x2⟩, ⟨a3, c3, x3⟩, ⟨a4, c4, x4⟩] a c w hb (by
    intro q hq
    simp only [List.mem_cons, List.not_mem_nil, or_false] at hq
    rcases hq with rfl | rfl | rfl | rfl
    · exact h1
    · exact h2
    · exact h3
    · exact h4) (by simp) (by rw [e]; exact hn)
  refine h.mono ?_
  rw [e, e2]
  rintro v w' ⟨a', c', hv, hS⟩
  exact ⟨a', c', hv, (St.rowLen hS (.head _)).1, hS⟩

set_option maxHeartbeats 4000000 in
theorem askSum_ok (q : AskD) (w : World) (hq : AskOk q) (hr : Row w q.ra (q.ro.map sv)) :
    Ret Try.prog 13 [.agg q.v.toArray] w (fun v w' => (¬ askE q = 0 ∧ v = .tuple #[.agg ((List.replicate 32 (0 : UInt8)).map b8).toArray, .int .i64 (askE q)] ∧ St w [] w' []) ∨ (askE q = 0 ∧ v = .tuple #[.agg ((sumL 5 (askL q)).map b8).toArray, vi 0] ∧ St w [] w' [])) := by
  have hac := hq.ac
  have hkey := hq.key
  have hdet := hq.det
  refine enter Try.func13 rfl Try.ntmps13 rfl ?_
  have hS := St.refl w []
  refine c_seq ?_; refine c_region ?_; refine wl_exv (x_box hS (v := .agg _) rfl rfl) rfl ?_; rintro _ w1 ⟨b1, rfl, hS2⟩; refine wl_exv (x_alloc (C := ((List.replicate 32 (0 : UInt8)).map b8)) hS2 ti32 rfl) rfl ?_; rintro _ w3 ⟨b2, rfl, hS4⟩; refine wl_val (r_assign (v := .int .i64 0) rfl) rfl ?_; refine wl_nil ?_; refine c_then ?_; refine c_seq ?_; refine c_seq ?_; refine c_region ?_; refine wl_val (r_loadB ti34 ag34 rfl (hS4.heap (.tail _ (.head _))) (by first | (simp [*]; done) | (simp [*] <;> omega) | omega)) rfl ?_; refine wl_call (r_call fn14 rfl rfl) rfl (checkAsk_ok q _ hq (hr.st hS4)) ?_; rintro _ w5 ⟨rfl, hx6⟩
  have hS7 := hS4.ext hx6
  refine wl_val (r_assign (v := .int .i64 _) rfl) rfl ?_; refine wl_nil ?_; refine c_then ?_; refine c_seq ?_; refine c_region ?_; refine wl_val (r_move (v := .int .i64 _) rfl) rfl ?_
  refine wl_dec (r_neq rfl rfl) rfl (fun h2_1 => ?_) (fun h2_1 => ?_)
  · refine wl_nil ?_
    refine c_then ?_; refine c_true rfl ?_; refine c_seq ?_; refine c_region ?_; refine wl_val (r_build0 (cs := ((List.replicate 32 (0 : UInt8)).map b8)) ti32.und ti32 ti5) rfl ?_; refine wl_val (r_move (v := .int .i64 _) rfl) rfl ?_; refine wl_exs (x_storeW [] hS7 ti32 rfl rfl (by first | (simp [*]; done) | (simp [*] <;> omega) | omega) (by first | (simp [*]; done) | (simp [*] <;> omega) | omega) (by repeat' first | exact one_nil | exact one_b8 _ | exact one_v32 _ | exact one_all rfl | refine one_cons rfl ?_ | refine one_app ?_ ?_)) rfl ?_; intro w8 hS9; simp only [List.cons_append, List.nil_append] at hS9; refine wl_val (r_assign (v := .int .i64 _) rfl) rfl ?_; refine wl_nil ?_; refine c_then ?_; refine wp_ret ?_; refine c_thenR ?_; refine ret2 Try.results13 ⟨_, rfl, run_loadVar_blk ti32 rfl (hS9.heap (.head _)) (by first | (simp [*]; done) | (simp [*] <;> omega) | omega)⟩ rfl ?_
    first | exact .inl ⟨h2_1, rfl, hS9.fin⟩ | exact .inr ⟨Decidable.of_not_not h2_1, rfl, hS9.fin⟩
  refine wl_nil ?_; refine c_then ?_; refine c_false rfl ?_; refine wp_skip ?_; refine c_then ?_; refine c_seq ?_
  have hae := askE_ok (Decidable.of_not_not h2_1)
  refine c_region ?_; refine wl_exv (x_lit (vs := []) hS7 ti65.und ti5 rfl rfl rfl one_nil (by decide)) rfl ?_; rintro _ w10 ⟨b12, rfl, hS11⟩
  have hS12 := St.toRow (l1 := []) (sz := 1) (n := 0) (cap := 0) hS11 (Nat.le_refl _) (by decide) rfl
  simp only [List.nil_append, Nat.zero_mul, List.take_zero] at hS12
  refine wl_val (r_field fa34_0 rfl) rfl ?_; refine wl_val (r_sa1_0 ti29.und ti5 rfl ) rfl ?_; refine wl_exv (x_append [] hS12 ti65.und ti5 rfl (by decide) rfl rfl (Row.of_at (ask_at0 (hS12.heap (.tail _ (.tail _ (.head _)))) hac)) (by rw [List.length_map, hac]) (by first | exact one_b8 _ | exact one_v32 _ | (intro c hc; simp only [List.mem_cons, List.not_mem_nil, or_false] at hc; (first | subst hc | rcases hc with rfl | rfl) <;> rfl)) (by decide) (by decide) _ rfl) rfl ?_; rintro _ w13 ⟨aq15, cq15, rfl, hcq15, hS14⟩; simp only [List.cons_append, List.nil_append] at hS14; refine wl_val (r_assign (v := .slice _ _ _) rfl) rfl ?_; refine wl_nil ?_; refine c_then ?_; refine c_seq ?_; refine c_drawSF 8 hMixed hS14 hS14.drop1 ?_; intro w16 hS17; refine g_take 0 rfl (by decide +kernel) rfl (fun _ _ _ h => h) hS17.drop1 (fun wF hF => r_move (v := .slice _ _ _) rfl) ?_; refine g_take 1 rfl (by decide +kernel) rfl (fun _ _ _ h => h) hS17.drop1 (fun wF hF => r_field fa34_2 rfl) ?_; refine g_take 2 rfl (by decide +kernel) rfl (fun _ _ _ h => h) hS17.drop1 (fun wF hF => r_loadB1 ti3.und rfl rfl (hF.heap (.tail _ (.head _))) (ask_actN hac (by omega))) ?_; refine g_take 3 rfl (by decide +kernel) rfl (fun _ _ _ h => h) hS17.drop1 (fun wF hF => c_i64_u8 ti5.und ⟨_, ti3.und⟩ rfl) ?_; refine g_take 6 rfl (by decide +kernel) rfl (fun _ _ _ h => h) hS17.drop1 (fun wF hF => r_field fa34_4 rfl) ?_; refine g_take 7 rfl (by decide +kernel) rfl (fun _ _ _ h => h) hS17.drop1 (fun wF hF => r_sa1_0 ti29.und ti5 rfl ) ?_
  refine g_one 4 (by decide +kernel) (by decide +kernel) ?_; refine o_exv rfl (x_lit (vs := ([UInt8.ofNat q.act.toNat].map b8)) hS17 ti65.und ti5 rfl rfl rfl (by repeat' first | exact one_nil | exact one_b8 _ | exact one_v32 _ | exact one_all rfl | refine one_cons rfl ?_ | refine one_app ?_ ?_) (by decide)) rfl ?_; rintro _ w18 ⟨b20, rfl, hS19⟩
  refine ⟨hS19.drop1.drop1, ?_⟩
  refine g_one 5 (by decide +kernel) (by decide +kernel) ?_; refine o_exv rfl (x_append [_] hS19 ti65.und ti5 rfl (by decide) rfl rfl (Row.of_at (at_all (hS19.heap (.head _)))) (by first | (simp [*]; done) | (simp [*] <;> omega) | omega) (by first | exact one_b8 _ | exact one_v32 _ | (intro c hc; simp only [List.mem_cons, List.not_mem_nil, or_false] at hc; (first | subst hc | rcases hc with rfl | rfl) <;> rfl)) (by decide) (by decide) _ rfl) rfl ?_; rintro _ w20 ⟨aq22, cq22, rfl, hcq22, hS21⟩; simp only [List.cons_append, List.nil_append] at hS21
  refine ⟨hS21.drop1.drop1, ?_⟩
  refine g_tail (by decide +kernel) rfl (by decide +kernel) ?_; refine wl_exv (x_append [_] hS21 ti65.und ti5 rfl (by decide) rfl rfl (Row.of_at (ask_at19 (hS21.heap (.tail _ (.tail _ (.tail _ (.head _))))) hac hkey)) (by rw [List.length_map, hkey]) (by first | exact one_b8 _ | exact one_v32 _ | (intro c hc; simp only [List.mem_cons, List.not_mem_nil, or_false] at hc; (first | subst hc | rcases hc with rfl | rfl) <;> rfl)) (by decide) (by decide) _ rfl) rfl ?_; rintro _ w23 ⟨aq25, cq25, rfl, hcq25, hS24⟩; simp only [List.cons_append, List.nil_append] at hS24; refine wl_val (r_assign (v := .slice _ _ _) rfl) rfl ?_; refine wl_nil ?_; refine c_then ?_; refine c_seq ?_; refine c_region ?_; refine wl_val (r_move (v := .slice _ _ _) rfl) rfl ?_; refine wl_val (r_field fa34_6 rfl) rfl ?_; refine wl_val (r_sa1_0 ti32.und ti5 rfl ) rfl ?_; refine wl_exv (x_append [_] hS24 ti65.und ti5 rfl (by decide) rfl rfl (Row.of_at (ask_at36 (hS24.heap (.tail _ (.tail _ (.tail _ (.head _))))) hac hkey hdet)) (by rw [List.length_map, hdet]) (by first | exact one_b8 _ | exact one_v32 _ | (intro c hc; simp only [List.mem_cons, List.not_mem_nil, or_false] at hc; (first | subst hc | rcases hc with rfl | rfl) <;> rfl)) (by decide) (by decide) _ rfl) rfl ?_; rintro _ w26 ⟨aq28, cq28, rfl, hcq28, hS27⟩; simp only [List.cons_append, List.nil_append] at hS27; refine wl_call (r_call fn40 rfl rfl) rfl (sumOf_in 5 (askL q) _ _ _ _ (by decide) (by simpa only [askL, List.map_append, List.nil_append] using (St.rowAt hS27 (.tail _ (.head _)))) (askL_len hac hkey hdet) hcq28 (by decide)) ?_
  rintro _ w29 ⟨rfl, hx30⟩
  have hS31 := hS27.ext hx30
  refine wl_val (r_extract (v := .agg _) rfl rfl) rfl ?_; refine wl_val (r_extract (v := .int .i64 _) rfl rfl) rfl ?_; refine wl_exs (x_storeW [_, _] hS31 ti32 rfl rfl (by first | (simp [*]; done) | (simp [*] <;> omega) | omega) (by first | (simp [*]; done) | (simp [*] <;> omega) | omega) (by repeat' first | exact one_nil | exact one_b8 _ | exact one_v32 _ | exact one_all rfl | refine one_cons rfl ?_ | refine one_app ?_ ?_)) rfl ?_; intro w32 hS33; simp only [List.cons_append, List.nil_append] at hS33; refine wl_val (r_assign (v := .int .i64 _) rfl) rfl ?_; refine wl_nil ?_; refine c_then ?_; refine wp_ret ?_; refine ret2 Try.results13 ⟨_, rfl, run_loadVar_blk ti32 rfl (hS33.heap (.tail _ (.tail _ (.head _)))) (by first | (simp [*]; done) | (simp [*] <;> omega) | omega)⟩ rfl ?_
  first | exact .inl ⟨h2_1, rfl, hS33.fin⟩ | exact .inr ⟨Decidable.of_not_not h2_1, rfl, hS33.fin⟩

set_option maxHeartbeats 4000000 in
theorem raskSum_ok (q : AskD) (w : World) (hq : AskOk q) (hr : Row w q.ra (q.ro.map sv)) (he : askE q = 0) :
    Ret Try.prog 15 [.agg q.v.toArray] w (fun v w' => v = .agg ((sumL 5 (askL q)).map b8).toArray ∧ St w [] w' []) := by
  have hac := hq.ac
  have hkey := hq.key
  have hdet := hq.det
  have hae := askE_ok he
  refine enter Try.func15 rfl Try.ntmps15 rfl ?_
  have hS := St.refl w []
  refine c_seq ?_; refine c_region ?_; refine wl_exv (x_box hS (v := .agg _) rfl rfl) rfl ?_; rintro _ w1 ⟨b1, rfl, hS2⟩; refine wl_exv (x_alloc (C := ((List.replicate 32 (0 : UInt8)).map b8)) hS2 ti32 rfl) rfl ?_; rintro _ w3 ⟨b2, rfl, hS4⟩; refine wl_nil ?_; refine c_then ?_; refine c_seq ?_; refine c_drawS 10 hMixed hS4 ?_; intro w5 hS6; refine g_take 0 rfl (by decide +kernel) rfl (fun _ _ _ h => h) hS6 (fun wF hF => r_field fa34_0 rfl) ?_; refine g_take 1 rfl (by decide +kernel) rfl (fun _ _ _ h => h) hS6 (fun wF hF => r_sa1_0 ti29.und ti5 rfl ) ?_; refine g_take 2 rfl (by decide +kernel) rfl (fun _ _ _ h => h) hS6 (fun wF hF => r_field fa34_2 rfl) ?_; refine g_take 3 rfl (by decide +kernel) rfl (fun _ _ _ h => h) hS6 (fun wF hF => r_loadB1 ti3.und rfl rfl (hF.heap (.tail _ (.head _))) (ask_actN hac (by omega))) ?_; refine g_take 4 rfl (by decide +kernel) rfl (fun _ _ _ h => h) hS6 (fun wF hF => c_i64_u8 ti5.und ⟨_, ti3.und⟩ rfl) ?_; refine g_take 6 rfl (by decide +kernel) rfl (fun _ _ _ h => h) hS6 (fun wF hF => r_field fa34_4 rfl) ?_; refine g_take 7 rfl (by decide +kernel) rfl (fun _ _ _ h => h) hS6 (fun wF hF => r_sa1_0 ti29.und ti5 rfl ) ?_; refine g_take 8 rfl (by decide +kernel) rfl (fun _ _ _ h => h) hS6 (fun wF hF => r_field fa34_6 rfl) ?_; refine g_take 9 rfl (by decide +kernel) rfl (fun _ _ _ h => h) hS6 (fun wF hF => r_sa1_0 ti32.und ti5 rfl ) ?_; refine g_one 5 (by decide +kernel) (by decide +kernel) ?_; refine o_exv rfl (x_lit (vs := ([UInt8.ofNat q.act.toNat].map b8)) hS6 ti65.und ti5 rfl rfl rfl (by repeat' first | exact one_nil | exact one_b8 _ | exact one_v32 _ | exact one_all rfl | refine one_cons rfl ?_ | refine one_app ?_ ?_) (by decide)) rfl ?_
  rintro _ w7 ⟨bb8, rfl, hS8⟩
  refine ⟨hS8.drop1, ?_⟩
  refine g_tail (by decide +kernel) rfl (by decide +kernel) ?_; refine wl_exv (x_lit (vs := [.slice _ _ _, .slice _ _ _, .slice _ _ _, .slice _ _ _]) hS8 ti100.und ti65 rfl rfl rfl (by intro c hc; simp only [List.mem_cons, List.not_mem_nil, or_false] at hc; rcases hc with rfl | rfl | rfl | rfl <;> rfl) (by decide)) rfl ?_; rintro _ w9 ⟨b13, rfl, hS10⟩; refine wl_call (r_call fn45 rfl rfl) rfl (concat4_ok q.ac [UInt8.ofNat q.act.toNat] q.key q.det 16 1 16 32 _ _ _ _ _ _ _ _ _ _ _ (Row.of_at (at_all (hS10.heap (.head _)))) (Row.of_at (ask_at0 (hS10.heap (.tail _ (.tail _ (.tail _ (.head _))))) hac)) (Row.of_at (at_all (hS10.heap (.tail _ (.head _))))) (Row.of_at (ask_at19 (hS10.heap (.tail _ (.tail _ (.tail _ (.head _))))) hac hkey)) (Row.of_at (ask_at36 (hS10.heap (.tail _ (.tail _ (.tail _ (.head _))))) hac hkey hdet)) hac rfl hkey hdet (by decide)) ?_; rintro _ w11 ⟨a14, c14, rfl, hc14, hx12⟩
  have hS13 := hS10.call hx12
  simp only [List.cons_append, List.nil_append] at hS13; refine wl_call (r_call fn44 rfl rfl) rfl (rsum_ok 5 (askL q) _ _ _ _ (St.rowAt hS13 (.head _)) (askL_len hac hkey hdet) (by decide)) ?_; rintro _ w14 ⟨rfl, hx15⟩
  have hS16 := hS13.ext hx15
  refine wl_exs (x_storeW [_, _, _] hS16 ti32 rfl rfl (by first | (simp [*]; done) | (simp [*] <;> omega) | omega) (by first | (simp [*]; done) | (simp [*] <;> omega) | omega) (by repeat' first | exact one_nil | exact one_b8 _ | exact one_v32 _ | exact one_all rfl | refine one_cons rfl ?_ | refine one_app ?_ ?_)) rfl ?_; intro w17 hS18; simp only [List.cons_append, List.nil_append] at hS18; refine wl_nil ?_; refine c_then ?_; refine wp_ret ?_; refine retc Try.results15 ⟨_, rfl, run_loadVar_blk ti32 rfl (hS18.heap (.tail _ (.tail _ (.tail _ (.head _))))) (by first | (simp [*]; done) | (simp [*] <;> omega) | omega)⟩ ?_
  exact ⟨rfl, hS18.fin⟩

end Go.Proofs.Ytafdmlpfgpaicaa
