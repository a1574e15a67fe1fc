/- Heads, printed. No condition. -/
import Derived.Test.YtfohfnpehfcaaaaFacts
import Derived.Test.YtfohfnpehfcaaaaPrintB
import Derived.Test.YtfohfnpehfcaaaaHead
namespace Go.Proofs.Ytfohfnpehfcaaaa
open Go.Kw
set_option linter.unusedVariables false
set_option linter.unusedSimpArgs false
set_option maxRecDepth 100000
theorem tih : TI Try.prog 83 sd83 66 80 (.agg (headV 0 0 (List.replicate 32 0) (List.replicate 32 0)).toArray) := ti83
theorem putN_n {x : Int} (h0 : 0 ≤ x) (h1 : x ≤ 1099511627776) : putN x = x.toNat := by
  have := putN_in (n := x) (by omega) (by omega)
  omega

theorem bytesEq_ok (x y : List UInt8) (a1 a2 : Option Addr) (n1 n2 c1 c2 : Nat) (w : World) (h1 : Row w a1 (x.map b8)) (h2 : Row w a2 (y.map b8)) (l1 : x.length = n1) (l2 : y.length = n2) :
    Ret Try.prog 26 [.slice a1 n1 c1, .slice a2 n2 c2] w (fun v w' => v = .bool (decide (x = y)) ∧ St w [] w' []) := by
  refine enter Try.func26 rfl Try.ntmps26 rfl ?_
  have hS := St.refl w []
  refine c_seq ?_; refine c_region ?_; refine wl_val (r_assign (v := .bool false) rfl) rfl ?_; refine wl_nil ?_; refine c_then ?_; refine c_seq ?_; refine c_region ?_; refine wl_val (r_move (v := .slice _ _ _) rfl) rfl ?_; refine wl_val (r_bytesToStr ti9.und ti22.und ti5.und rfl (h1.st hS) l1) rfl ?_; refine wl_val (r_move (v := .slice _ _ _) rfl) rfl ?_; refine wl_val (r_bytesToStr ti9.und ti22.und ti5.und rfl (h2.st hS) l2) rfl ?_; refine wl_val (r_eqlStrL rfl rfl) rfl ?_; refine wl_val (r_assign (v := .bool _) rfl) rfl ?_; refine wl_nil ?_; refine c_then ?_; refine wp_ret ?_; refine ret1 Try.results26 ?_
  exact ⟨rfl, hS.fin⟩

theorem outside_ok (n lo hi : Int) (w : World) :
    Ret Try.prog 131 [.int .i64 n, .int .i64 lo, .int .i64 hi] w (fun v w' => ((n < lo ∨ hi < n) ∧ v = .bool true ∧ St w [] w' []) ∨ ((lo ≤ n ∧ n ≤ hi) ∧ v = .bool false ∧ St w [] w' [])) := by
  refine enter Try.func131 rfl Try.ntmps131 rfl ?_
  have hS := St.refl w []
  refine c_seq ?_; refine c_region ?_; refine wl_val (r_assign (v := .bool false) rfl) rfl ?_; refine wl_nil ?_; refine c_then ?_; refine c_seq ?_; refine c_region ?_; refine wl_val (r_move (v := .int .i64 _) rfl) rfl ?_; refine wl_val (r_move (v := .int .i64 _) rfl) rfl ?_
  refine wl_dec (r_lss rfl rfl) rfl (fun h1_2 => ?_) (fun h1_2 => ?_)
  · refine wl_val (r_move (v := .bool _) rfl) rfl ?_
    refine wl_not rfl ?_; refine wl_not rfl ?_; refine wl_not rfl ?_; refine wl_val (r_pick_t rfl (v := .bool true) rfl) rfl ?_; refine wl_val (r_assign (v := .bool _) rfl) rfl ?_; refine wl_nil ?_; refine c_then ?_; refine wp_ret ?_; refine ret1 Try.results131 ?_
    exact .inl ⟨by omega, rfl, hS.fin⟩
  refine wl_val (r_move (v := .bool _) rfl) rfl ?_; refine wl_val (r_move (v := .int .i64 _) rfl) rfl ?_; refine wl_val (r_move (v := .int .i64 _) rfl) rfl ?_; refine wl_val (r_gtr rfl rfl) rfl ?_; refine wl_val (r_pick_f rfl (v := .bool _) rfl) rfl ?_; refine wl_val (r_assign (v := .bool _) rfl) rfl ?_; refine wl_nil ?_; refine c_then ?_; refine wp_ret ?_; refine ret1 Try.results131 ?_
  by_cases hh : n > hi
  · exact .inl ⟨.inr hh, congrArg Value.bool (decide_eq_true hh), hS.fin⟩
  · exact .inr ⟨by omega, congrArg Value.bool (decide_eq_false hh), hS.fin⟩

set_option maxHeartbeats 4000000 in
theorem printHead_ok (ct tm : Int) (la ro : List UInt8) (w : World) (hla : la.length = 32) (hro : ro.length = 32) :
    Ret Try.prog 54 [.agg (headV ct tm la ro).toArray] w (fun v w' => ((ct < 0 ∨ 65536 < ct ∨ tm < 0 ∨ 1099511627776 < tm) ∧ v = .tuple #[.slice none 0 0, vi 4] ∧ St w [] w' []) ∨ ((0 ≤ ct ∧ ct ≤ 65536 ∧ 0 ≤ tm ∧ tm ≤ 1099511627776) ∧ ∃ a' c', v = .tuple #[.slice a' 84 c', vi 0] ∧ 84 ≤ c' ∧ St w [] w' [.row (.slice a' 84 c') 5 1 84 ((headL ct tm la ro).map b8)])) := by
  refine enter Try.func54 rfl Try.ntmps54 rfl ?_
  have hS := St.refl w []
  refine c_seq ?_; refine c_region ?_; refine wl_exv (x_box hS (v := .agg _) rfl rfl) rfl ?_; rintro _ w1 ⟨b1, rfl, hS2⟩; refine wl_val (r_assign (v := .slice none 0 0) rfl) rfl ?_; refine wl_val (r_assign (v := .int .i64 0) rfl) rfl ?_; refine wl_nil ?_; refine c_then ?_; refine c_seq ?_; refine c_seq ?_; refine c_region ?_; refine wl_val (r_field fa83_0 rfl) rfl ?_; refine wl_val (r_loadB1 ti3.und rfl rfl (hS2.heap (.head _)) rfl) rfl ?_; refine wl_call (r_call fn131 rfl rfl) rfl (outside_ok ct 0 65536 _) ?_
  rintro _ w3 (⟨hf1, rfl, hx4⟩ | ⟨hf1, rfl, hx4⟩)
  · have hS5 := hS2.ext hx4
    refine wl_val (r_move (v := .bool _) rfl) rfl ?_; refine wl_not rfl ?_; refine wl_not rfl ?_; refine wl_not rfl ?_; refine wl_val (r_pick_t rfl (v := .bool true) rfl) rfl ?_; refine wl_nil ?_; refine c_then ?_; refine c_true rfl ?_; refine c_seq ?_; refine c_region ?_; refine wl_val (r_assign (v := .slice none 0 0) rfl) rfl ?_; refine wl_val (r_assign (v := .int .i64 4) rfl) rfl ?_; refine wl_nil ?_; refine c_then ?_; refine wp_ret ?_; refine c_thenR ?_; refine ret2 Try.results54 rfl rfl ?_
    exact .inl ⟨by omega, rfl, hS5.fin⟩
  have hS5 := hS2.ext hx4
  refine wl_val (r_move (v := .bool _) rfl) rfl ?_; refine wl_val (r_field fa83_1 rfl) rfl ?_; refine wl_val (r_loadB1 ti3.und rfl rfl (hS5.heap (.head _)) rfl) rfl ?_; refine wl_call (r_call fn131 rfl rfl) rfl (outside_ok tm 0 1099511627776 _) ?_
  rintro _ w6 (⟨hf2, rfl, hx7⟩ | ⟨hf2, rfl, hx7⟩)
  · have hS8 := hS5.ext hx7
    refine wl_val (r_pick_f rfl (v := .bool _) rfl) rfl ?_; refine wl_nil ?_; refine c_then ?_; refine c_true rfl ?_; refine c_seq ?_; refine c_region ?_; refine wl_val (r_assign (v := .slice none 0 0) rfl) rfl ?_; refine wl_val (r_assign (v := .int .i64 4) rfl) rfl ?_; refine wl_nil ?_; refine c_then ?_; refine wp_ret ?_; refine c_thenR ?_; refine ret2 Try.results54 rfl rfl ?_
    exact .inl ⟨by omega, rfl, hS8.fin⟩
  have hS8 := hS5.ext hx7
  refine wl_val (r_pick_f rfl (v := .bool _) rfl) rfl ?_; refine wl_nil ?_; refine c_then ?_; refine c_false rfl ?_; refine wp_skip ?_; refine c_then ?_; refine c_seq ?_; refine c_drawS 7 hMixed hS8 ?_; intro w9 hS10; refine g_take 2 rfl (by decide +kernel) rfl (fun _ _ _ h => h) hS10 (fun wF hF => r_field fa83_0 rfl) ?_; refine g_take 3 rfl (by decide +kernel) rfl (fun _ _ _ h => h) hS10 (fun wF hF => r_loadB1 ti3.und rfl rfl (hF.heap (.head _)) rfl) ?_; refine g_take 5 rfl (by decide +kernel) rfl (fun _ _ _ h => h) hS10 (fun wF hF => r_field fa83_1 rfl) ?_; refine g_take 6 rfl (by decide +kernel) rfl (fun _ _ _ h => h) hS10 (fun wF hF => r_loadB1 ti3.und rfl rfl (hF.heap (.head _)) rfl) ?_; refine g_one 0 (by decide +kernel) (by decide +kernel) ?_; refine o_exv rfl (x_lit (vs := (([75, 87, 72, 49] : List UInt8).map b8)) hS10 ti22.und ti5 rfl rfl rfl (by repeat' first | exact one_nil | exact one_b8 _ | exact one_v32 _ | exact one_all rfl | refine one_cons rfl ?_ | refine one_app ?_ ?_) (by decide)) rfl ?_; rintro _ w11 ⟨b13, rfl, hS12⟩
  refine ⟨hS12.drop1, ?_⟩
  refine g_one 1 (by decide +kernel) (by decide +kernel) ?_; refine o_exv rfl (x_mark [] hS12 ti22.und ti5.und rfl) rfl ?_; rintro _ w13 ⟨rfl, hS14⟩; simp only [List.cons_append, List.nil_append] at hS14
  refine ⟨hS14.drop1, ?_⟩
  refine g_one 4 (by decide +kernel) (by decide +kernel) ?_; refine o_call rfl (r_call fn115 rfl rfl) rfl (putLong_ok [75, 87, 72, 49] _ _ ct _ (Row.of_at (at_all (hS14.heap (.head _)))) (by decide)) ?_; rintro _ w15 ⟨a17, c17, rfl, hc17, hx16⟩
  have hS17 := hS14.call hx16
  simp only [List.cons_append, List.nil_append] at hS17
  refine ⟨hS17.drop1.drop1, ?_⟩
  refine g_tail (by decide +kernel) rfl (by decide +kernel) ?_; refine wl_call (r_call fn115 rfl rfl) rfl (putLong_ok ([75, 87, 72, 49] ++ octs8 (UInt64.ofNat (putN ct))) _ _ tm _ (St.rowAt hS17 (.head _)) (by simp)) ?_; rintro _ w18 ⟨a20, c20, rfl, hc20, hx19⟩
  have hS20 := hS17.call hx19
  simp only [List.cons_append, List.nil_append] at hS20; refine wl_val (r_assign (v := .slice _ _ _) rfl) rfl ?_; refine wl_nil ?_; refine c_then ?_; refine c_seq ?_; refine c_drawSF 6 hMixed hS20 hS20.drop1 ?_; intro w21 hS22; refine g_take 0 rfl (by decide +kernel) rfl (fun _ _ _ h => h) hS22.drop1 (fun wF hF => r_move (v := .slice _ _ _) rfl) ?_; refine g_take 1 rfl (by decide +kernel) rfl (fun _ _ _ h => h) hS22.drop1 (fun wF hF => r_field fa83_2 rfl) ?_; refine g_take 2 rfl (by decide +kernel) rfl (fun _ _ _ h => h) hS22.drop1 (fun wF hF => r_sa1_0 ti49.und ti5 rfl ) ?_; refine g_take 4 rfl (by decide +kernel) rfl (fun _ _ _ h => h) hS22.drop1 (fun wF hF => r_field fa83_3 rfl) ?_; refine g_take 5 rfl (by decide +kernel) rfl (fun _ _ _ h => h) hS22.drop1 (fun wF hF => r_sa1_0 ti49.und ti5 rfl ) ?_; refine g_one 3 (by decide +kernel) (by decide +kernel) ?_; refine o_exv rfl (x_append [] hS22 ti22.und ti5 rfl (by decide) rfl rfl (Row.of_at (head_at2 (hS22.heap (.tail _ (.tail _ (.tail _ (.head _))))) hla)) (by rw [List.length_map, hla]) (by first | exact one_b8 _ | exact one_v32 _ | (intro c hc; simp only [List.mem_cons, List.not_mem_nil, or_false] at hc; (first | subst hc | rcases hc with rfl | rfl) <;> rfl)) (by simp) (by simp) _ rfl) rfl ?_; rintro _ w23 ⟨aq25, cq25, rfl, hcq25, hS24⟩; simp only [List.cons_append, List.nil_append] at hS24
  refine ⟨hS24.drop1, ?_⟩
  refine g_tail (by decide +kernel) rfl (by decide +kernel) ?_; refine wl_exv (x_append [] hS24 ti22.und ti5 rfl (by decide) rfl rfl (Row.of_at (head_at34 (hS24.heap (.tail _ (.tail _ (.tail _ (.head _))))) hla hro)) (by rw [List.length_map, hro]) (by first | exact one_b8 _ | exact one_v32 _ | (intro c hc; simp only [List.mem_cons, List.not_mem_nil, or_false] at hc; (first | subst hc | rcases hc with rfl | rfl) <;> rfl)) (by simp) (by simp) _ rfl) rfl ?_; rintro _ w26 ⟨aq28, cq28, rfl, hcq28, hS27⟩; simp only [List.cons_append, List.nil_append] at hS27; refine wl_val (r_assign (v := .slice _ _ _) rfl) rfl ?_; refine wl_val (r_assign (v := .int .i64 0) rfl) rfl ?_; refine wl_nil ?_; refine c_then ?_; refine wp_ret ?_; refine ret2 Try.results54 rfl rfl ?_
  exact .inr ⟨by omega, _, _, fin_row (by simp), Nat.le_trans (Nat.le_of_eq (by simp)) hcq28, St.rowTo (hS27.perm ((List.Perm.cons _ ((List.Perm.cons _ ((List.Perm.cons _ (List.Perm.refl _)).trans (List.perm_middle (l₁ := [_])).symm)).trans (List.perm_middle (l₁ := [_])).symm)).trans (List.perm_middle (l₁ := [_])).symm)).drop1.drop1.drop1 (by simp) (by rw [putN_n (by omega) (by omega), putN_n (by omega) (by omega)]; simp [headL])⟩

theorem concatH_ok (k x1 x2 la ro : List UInt8) (a1 a2 a3 a4 a5 a : Option Addr) (c1 c2 c3 c4 c5 c : Nat) (w : World) (hb : Row w a [.slice a1 4 c1, .slice a2 8 c2, .slice a3 8 c3, .slice a4 32 c4, .slice a5 32 c5]) (h1 : Row w a1 (k.map b8)) (h2 : Row w a2 (x1.map b8)) (h3 : Row w a3 (x2.map b8)) (h4 : Row w a4 (la.map b8)) (h5 : Row w a5 (ro.map b8))
    (l1 : k.length = 4) (l2 : x1.length = 8) (l3 : x2.length = 8) (l4 : la.length = 32) (l5 : ro.length = 32) :
    Ret Try.prog 130 [.slice a 5 c] w (fun v w' => ∃ a' c', v = .slice a' 84 c' ∧ 84 ≤ c' ∧ St w [] w' [.row (.slice a' 84 c') 5 1 84 ((k ++ x1 ++ x2 ++ la ++ ro).map b8)]) := by
  have e : total [⟨a1, c1, k⟩, ⟨a2, c2, x1⟩, ⟨a3, c3, x2⟩, ⟨a4, c4, la⟩, ⟨a5, c5, ro⟩] = 84 := by simp [total, l1, l2, l3, l4, l5]
  have e2 : joined [⟨a1, c1, k⟩, ⟨a2, c2, x1⟩, ⟨a3, c3, x2⟩, ⟨a4, c4, la⟩, ⟨a5, c5, ro⟩] = k ++ x1 ++ x2 ++ la ++ ro := by simp [joined]
  have h := concat_ok [⟨a1, c1, k⟩, ⟨a2, c2, x1⟩, ⟨a3, c3, x2⟩, ⟨a4, c4, la⟩, ⟨a5, c5, ro⟩] a c w (by simpa [Sl.v, l1, l2, l3, l4, l5] using hb) (by
    intro q hq
    simp only [List.mem_cons, List.not_mem_nil, or_false] at hq
    rcases hq with rfl | rfl | rfl | rfl | rfl
    · exact h1
    · exact h2
    · exact h3
    · exact h4
    · exact h5) (by simp) (by rw [e]; decide)
  refine h.mono ?_
  rw [e, e2]
  rintro v w' ⟨a', c', hv, hS⟩
  exact ⟨a', c', hv, (St.rowLen hS (.head _)).1, hS⟩
theorem sealOf_n (k t : List UInt8) (a : Option Addr) (n c : Nat) (w : World) (hk : k.length = 32) (hb : Row w a (t.map b8)) (hl : t.length = n) (hc : n ≤ c) (hn : n ≤ 1048544) :
    Ret Try.prog 41 [.agg (k.map b8).toArray, .slice a n c] w (fun v w' => v = .tuple #[.agg ((sealL k t).map b8).toArray, vi 0] ∧ St w [] w' []) := by
  subst hl
  refine (sealOf_ok k t a c w hk hb hc (by omega)).mono fun v w' h => ?_
  rcases h with ⟨h, _⟩ | ⟨_, h⟩
  · omega
  · exact h
theorem rseal_n (k t : List UInt8) (a : Option Addr) (n c : Nat) (w : World) (hk : k.length = 32) (hb : Row w a (t.map b8)) (hl : t.length = n) (hn : n ≤ 1048544) :
    Ret Try.prog 43 [.agg (k.map b8).toArray, .slice a n c] w (fun v w' => v = .agg ((sealL k t).map b8).toArray ∧ St w [] w' []) := by
  subst hl
  exact rseal_ok k t a c w hk hb hn
theorem bytesEq_t (x y : List UInt8) (a1 a2 : Option Addr) (n1 n2 c1 c2 : Nat) (w : World) (h1 : Row w a1 (x.map b8)) (h2 : Row w a2 (y.map b8)) (l1 : x.length = n1) (l2 : y.length = n2) (he : x = y) :
    Ret Try.prog 26 [.slice a1 n1 c1, .slice a2 n2 c2] w (fun v w' => v = .bool true ∧ St w [] w' []) :=
  (bytesEq_ok x y a1 a2 n1 n2 c1 c2 w h1 h2 l1 l2).mono fun v w' h => by rwa [decide_eq_true he] at h
theorem eqHead {ct tm ct2 tm2 : Int} {la ro la2 ro2 : List UInt8} (h1 : la.length = 32) (h2 : ro.length = 32) (h3 : la2.length = 32) (h4 : ro2.length = 32) :
    EqIs Try.prog 83 (.agg (headV ct tm la ro).toArray) (.agg (headV ct2 tm2 la2 ro2).toArray) (ct = ct2 ∧ tm = tm2 ∧ la = la2 ∧ ro = ro2) := by
  have ht := Try.underlying83
  have hq : ∀ {p q r s : Prop}, (p ∧ q ∧ r ∧ s ∧ True) ↔ (p ∧ q ∧ r ∧ s) := by intros; simp
  have p2 : ∀ w, (part 49 (headV ct tm la ro).toArray 2).run Try.prog w = .ok (.agg (la.map b8).toArray) w := fun w => by rw [← headV_drop2 (ct := ct) (tm := tm) (ro := ro) h1]; exact run_partA ti49 rfl
  have p2' : ∀ w, (part 49 (headV ct2 tm2 la2 ro2).toArray 2).run Try.prog w = .ok (.agg (la2.map b8).toArray) w := fun w => by rw [← headV_drop2 (ct := ct2) (tm := tm2) (ro := ro2) h3]; exact run_partA ti49 rfl
  have p3 : ∀ w, (part 49 (headV ct tm la ro).toArray 34).run Try.prog w = .ok (.agg (ro.map b8).toArray) w := fun w => by rw [← headV_drop34 (ct := ct) (tm := tm) (la := la) h1 h2]; exact run_partA ti49 rfl
  have p3' : ∀ w, (part 49 (headV ct2 tm2 la2 ro2).toArray 34).run Try.prog w = .ok (.agg (ro2.map b8).toArray) w := fun w => by rw [← headV_drop34 (ct := ct2) (tm := tm2) (la := la2) h3 h4]; exact run_partA ti49 rfl
  have h : EqIs Try.prog 83 (.agg (headV ct tm la ro).toArray) (.agg (headV ct2 tm2 la2 ro2).toArray) (ct = ct2 ∧ tm = tm2 ∧ la = la2 ∧ ro = ro2 ∧ True) :=
    eqAt_struct ht (by kernel_rfl)
      (eqFs_cons _ _ (by decide) (fun w => run_part1 ti3.und rfl rfl) (fun w => run_part1 ti3.und rfl rfl) (eqAt_int ti3.und)
      (eqFs_cons _ _ (by decide) (fun w => run_part1 ti3.und rfl rfl) (fun w => run_part1 ti3.und rfl rfl) (eqAt_int ti3.und)
      (eqFs_cons _ _ (by decide) p2 p2' (eqAt_b8 ti49.und ti5 _ _ h1 h3)
      (eqFs_cons _ _ (by decide) p3 p3' (eqAt_b8 ti49.und ti5 _ _ h2 h4) eqFs_nil))))
  intro d w
  rw [h d w]
  congr 1
  exact decide_eq_decide.2 hq
theorem headL_parse {l : List UInt8} (hl : l.length = 84) (hk : l.take 4 = [75, 87, 72, 49]) : headL (natN ((l.drop 4).take 8) : Int) (natN ((l.drop 12).take 8) : Int) ((l.drop 20).take 32) ((l.drop 52).take 32) = l := by
  have hx : ∀ p, p + 8 ≤ 84 → octs8 (UInt64.ofNat ((natN ((l.drop p).take 8) : Int)).toNat) = (l.drop p).take 8 := fun p hp => by
    have h8 : ((l.drop p).take 8).length = 8 := by rw [List.length_take, List.length_drop]; omega
    rw [Int.toNat_natCast, natN_8 h8, UInt64.ofNat_toNat, octs_long _ h8]
  rw [headL, hx 4 (by decide), hx 12 (by decide), ← hk]
  have e1 : (l.drop 52).take 32 = l.drop 52 := List.take_of_length_le (by rw [List.length_drop]; omega)
  have st : ∀ p q, l.take p ++ (l.drop p).take q = l.take (p + q) := fun p q => (List.take_add ..).symm
  rw [st, st, st, e1, List.take_append_drop]

set_option maxHeartbeats 4000000 in
theorem rprintHead_ok (ct tm : Int) (la ro : List UInt8) (w : World) (hla : la.length = 32) (hro : ro.length = 32) :
    Ret Try.prog 55 [.agg (headV ct tm la ro).toArray] w (fun v w' => ((ct < 0 ∨ 65536 < ct ∨ tm < 0 ∨ 1099511627776 < tm) ∧ v = .tuple #[.slice none 0 0, vi 4] ∧ St w [] w' []) ∨ ((0 ≤ ct ∧ ct ≤ 65536 ∧ 0 ≤ tm ∧ tm ≤ 1099511627776) ∧ ∃ a' c', v = .tuple #[.slice a' 84 c', vi 0] ∧ 84 ≤ c' ∧ St w [] w' [.row (.slice a' 84 c') 5 1 84 ((headL ct tm la ro).map b8)])) := by
  refine enter Try.func55 rfl Try.ntmps55 rfl ?_
  have hS := St.refl w []
  refine c_seq ?_; refine c_region ?_; refine wl_exv (x_box hS (v := .agg _) rfl rfl) rfl ?_; rintro _ w1 ⟨b1, rfl, hS2⟩; refine wl_val (r_assign (v := .slice none 0 0) rfl) rfl ?_; refine wl_val (r_assign (v := .int .i64 0) rfl) rfl ?_; refine wl_nil ?_; refine c_then ?_; refine c_seq ?_; refine c_seq ?_; refine c_region ?_; refine wl_val (r_field fa83_0 rfl) rfl ?_; refine wl_val (r_loadB1 ti3.und rfl rfl (hS2.heap (.head _)) rfl) rfl ?_
  refine wl_dec (r_lss rfl rfl) rfl (fun h1_2 => ?_) (fun h1_2 => ?_)
  · refine wl_val (r_move (v := .bool _) rfl) rfl ?_
    refine wl_not rfl ?_; refine wl_not rfl ?_; refine wl_not rfl ?_; refine wl_val (r_pick_t rfl (v := .bool true) rfl) rfl ?_; refine wl_val (r_move (v := .bool _) rfl) rfl ?_; refine wl_not rfl ?_; refine wl_not rfl ?_; refine wl_not rfl ?_; refine wl_val (r_pick_t rfl (v := .bool true) rfl) rfl ?_; refine wl_val (r_move (v := .bool _) rfl) rfl ?_; refine wl_not rfl ?_; refine wl_not rfl ?_; refine wl_not rfl ?_; refine wl_val (r_pick_t rfl (v := .bool true) rfl) rfl ?_; refine wl_nil ?_; refine c_then ?_; refine c_true rfl ?_; refine c_seq ?_; refine c_region ?_; refine wl_val (r_assign (v := .slice none 0 0) rfl) rfl ?_; refine wl_val (r_assign (v := .int .i64 4) rfl) rfl ?_; refine wl_nil ?_; refine c_then ?_; refine wp_ret ?_; refine c_thenR ?_; refine ret2 Try.results55 rfl rfl ?_
    first | exact .inl ⟨by omega, rfl, hS2.fin⟩ | skip
  refine wl_val (r_move (v := .bool _) rfl) rfl ?_; refine wl_val (r_field fa83_0 rfl) rfl ?_; refine wl_val (r_loadB1 ti3.und rfl rfl (hS2.heap (.head _)) rfl) rfl ?_
  refine wl_dec (r_gtr rfl rfl) rfl (fun h1_6 => ?_) (fun h1_6 => ?_)
  · refine wl_val (r_pick_f rfl (v := .bool _) rfl) rfl ?_
    refine wl_val (r_move (v := .bool _) rfl) rfl ?_; refine wl_not rfl ?_; refine wl_not rfl ?_; refine wl_not rfl ?_; refine wl_val (r_pick_t rfl (v := .bool true) rfl) rfl ?_; refine wl_val (r_move (v := .bool _) rfl) rfl ?_; refine wl_not rfl ?_; refine wl_not rfl ?_; refine wl_not rfl ?_; refine wl_val (r_pick_t rfl (v := .bool true) rfl) rfl ?_; refine wl_nil ?_; refine c_then ?_; refine c_true rfl ?_; refine c_seq ?_; refine c_region ?_; refine wl_val (r_assign (v := .slice none 0 0) rfl) rfl ?_; refine wl_val (r_assign (v := .int .i64 4) rfl) rfl ?_; refine wl_nil ?_; refine c_then ?_; refine wp_ret ?_; refine c_thenR ?_; refine ret2 Try.results55 rfl rfl ?_
    first | exact .inl ⟨by omega, rfl, hS2.fin⟩ | skip
  refine wl_val (r_pick_f rfl (v := .bool _) rfl) rfl ?_; refine wl_val (r_move (v := .bool _) rfl) rfl ?_; refine wl_val (r_field fa83_1 rfl) rfl ?_; refine wl_val (r_loadB1 ti3.und rfl rfl (hS2.heap (.head _)) rfl) rfl ?_
  refine wl_dec (r_lss rfl rfl) rfl (fun h1_11 => ?_) (fun h1_11 => ?_)
  · refine wl_val (r_pick_f rfl (v := .bool _) rfl) rfl ?_
    refine wl_val (r_move (v := .bool _) rfl) rfl ?_; refine wl_not rfl ?_; refine wl_not rfl ?_; refine wl_not rfl ?_; refine wl_val (r_pick_t rfl (v := .bool true) rfl) rfl ?_; refine wl_nil ?_; refine c_then ?_; refine c_true rfl ?_; refine c_seq ?_; refine c_region ?_; refine wl_val (r_assign (v := .slice none 0 0) rfl) rfl ?_; refine wl_val (r_assign (v := .int .i64 4) rfl) rfl ?_; refine wl_nil ?_; refine c_then ?_; refine wp_ret ?_; refine c_thenR ?_; refine ret2 Try.results55 rfl rfl ?_
    first | exact .inl ⟨by omega, rfl, hS2.fin⟩ | skip
  refine wl_val (r_pick_f rfl (v := .bool _) rfl) rfl ?_; refine wl_val (r_move (v := .bool _) rfl) rfl ?_; refine wl_val (r_field fa83_1 rfl) rfl ?_; refine wl_val (r_loadB1 ti3.und rfl rfl (hS2.heap (.head _)) rfl) rfl ?_
  refine wl_dec (r_gtr rfl rfl) rfl (fun h1_16 => ?_) (fun h1_16 => ?_)
  · refine wl_val (r_pick_f rfl (v := .bool _) rfl) rfl ?_
    refine wl_nil ?_; refine c_then ?_; refine c_true rfl ?_; refine c_seq ?_; refine c_region ?_; refine wl_val (r_assign (v := .slice none 0 0) rfl) rfl ?_; refine wl_val (r_assign (v := .int .i64 4) rfl) rfl ?_; refine wl_nil ?_; refine c_then ?_; refine wp_ret ?_; refine c_thenR ?_; refine ret2 Try.results55 rfl rfl ?_
    first | exact .inl ⟨by omega, rfl, hS2.fin⟩ | skip
  refine wl_val (r_pick_f rfl (v := .bool _) rfl) rfl ?_; refine wl_nil ?_; refine c_then ?_; refine c_false rfl ?_; refine wp_skip ?_; refine c_then ?_; refine c_seq ?_
  obtain ⟨ct', rfl⟩ : ∃ i : Nat, ct = (i : Int) := ⟨ct.toNat, (by omega)⟩
  obtain ⟨tm', rfl⟩ : ∃ i : Nat, tm = (i : Int) := ⟨tm.toNat, (by omega)⟩
  refine c_drawS 12 hMixed hS2 ?_; intro w3 hS4; refine g_take 2 rfl (by decide +kernel) rfl (fun _ _ _ h => h) hS4 (fun wF hF => r_field fa83_0 rfl) ?_; refine g_take 3 rfl (by decide +kernel) rfl (fun _ _ _ h => h) hS4 (fun wF hF => r_loadB1 ti3.und rfl rfl (hF.heap (.head _)) rfl) ?_; refine g_take 5 rfl (by decide +kernel) rfl (fun _ _ _ h => h) hS4 (fun wF hF => r_field fa83_1 rfl) ?_; refine g_take 6 rfl (by decide +kernel) rfl (fun _ _ _ h => h) hS4 (fun wF hF => r_loadB1 ti3.und rfl rfl (hF.heap (.head _)) rfl) ?_; refine g_take 8 rfl (by decide +kernel) rfl (fun _ _ _ h => h) hS4 (fun wF hF => r_field fa83_2 rfl) ?_; refine g_take 9 rfl (by decide +kernel) rfl (fun _ _ _ h => h) hS4 (fun wF hF => r_sa1_0 ti49.und ti5 rfl ) ?_; refine g_take 10 rfl (by decide +kernel) rfl (fun _ _ _ h => h) hS4 (fun wF hF => r_field fa83_3 rfl) ?_; refine g_take 11 rfl (by decide +kernel) rfl (fun _ _ _ h => h) hS4 (fun wF hF => r_sa1_0 ti49.und ti5 rfl ) ?_; refine g_all (rs := [0, 4]) (by decide +kernel) (by decide +kernel) rfl ?_
  simp only [List.forall_mem_cons, List.not_mem_nil, false_imp_iff, implies_true, and_true]
  refine ⟨?_, ?_⟩
  · refine o_exv rfl (x_lit (vs := (([75, 87, 72, 49] : List UInt8).map b8)) hS4 ti22.und ti5 rfl rfl rfl (by repeat' first | exact one_nil | exact one_b8 _ | exact one_v32 _ | exact one_all rfl | refine one_cons rfl ?_ | refine one_app ?_ ?_) (by decide)) rfl ?_
    rintro _ w5 ⟨b22, rfl, hS6⟩
    refine ⟨hS6.drop1, ?_⟩
    refine g_all (rs := [1, 4]) (by decide +kernel) (by decide +kernel) rfl ?_
    simp only [List.forall_mem_cons, List.not_mem_nil, false_imp_iff, implies_true, and_true]
    refine ⟨?_, ?_⟩
    · refine o_exv rfl (x_mark [] hS6 ti22.und ti5.und rfl) rfl ?_
      rintro _ w7 ⟨rfl, hS8⟩; simp only [List.cons_append, List.nil_append] at hS8
      refine ⟨hS8.drop1, ?_⟩
      refine g_one 4 (by decide +kernel) (by decide +kernel) ?_; refine o_call rfl (r_call fn117 rfl rfl) rfl (rlong_ok ct' _ (by omega)) ?_; rintro _ w9 ⟨b26, rfl, hx10⟩
      have hS11 := hS8.call hx10
      simp only [List.cons_append, List.nil_append] at hS11
      refine ⟨hS11.drop1.drop1, ?_⟩
      refine g_one 7 (by decide +kernel) (by decide +kernel) ?_; refine o_call rfl (r_call fn117 rfl rfl) rfl (rlong_ok tm' _ (by omega)) ?_; rintro _ w12 ⟨b29, rfl, hx13⟩
      have hS14 := hS11.call hx13
      simp only [List.cons_append, List.nil_append] at hS14
      refine ⟨hS14.drop1.drop1.drop1, ?_⟩
      refine g_tail (by decide +kernel) rfl (by decide +kernel) ?_; refine wl_exv (x_lit (vs := [.slice _ _ _, .slice _ _ _, .slice _ _ _, .slice _ _ _, .slice _ _ _]) hS14 ti43.und ti22 rfl rfl rfl (by intro c hc; simp only [List.mem_cons, List.not_mem_nil, or_false] at hc; rcases hc with rfl | rfl | rfl | rfl | rfl <;> rfl) (by decide)) rfl ?_; rintro _ w15 ⟨b34, rfl, hS16⟩; refine wl_call (r_call fn130 rfl rfl) rfl (concatH_ok [75, 87, 72, 49] (octs8 (UInt64.ofNat ct')) (octs8 (UInt64.ofNat tm')) la ro _ _ _ _ _ _ _ _ _ _ _ _ _ (Row.of_at (at_all (hS16.heap (.head _)))) (Row.of_at (at_all (hS16.heap (.tail _ (.tail _ (.tail _ (.head _))))))) (Row.of_at (at_all (hS16.heap (.tail _ (.tail _ (.head _)))))) (Row.of_at (at_all (hS16.heap (.tail _ (.head _))))) (Row.of_at (head_at2 (hS16.heap (.tail _ (.tail _ (.tail _ (.tail _ (.head _)))))) hla)) (Row.of_at (head_at34 (hS16.heap (.tail _ (.tail _ (.tail _ (.tail _ (.head _)))))) hla hro)) rfl (by simp) (by simp) hla hro) ?_; rintro _ w17 ⟨a35, c35, rfl, hc35, hx18⟩
      have hS19 := hS16.call hx18
      simp only [List.cons_append, List.nil_append] at hS19; refine wl_val (r_assign (v := .slice _ _ _) rfl) rfl ?_; refine wl_val (r_assign (v := .int .i64 0) rfl) rfl ?_; refine wl_nil ?_; refine c_then ?_; refine wp_ret ?_; refine ret2 Try.results55 rfl rfl ?_
      exact .inr ⟨by omega, _, _, rfl, hc35, (hS19.perm ((List.Perm.cons _ ((List.Perm.cons _ ((List.Perm.cons _ ((List.Perm.cons _ ((List.Perm.cons _ (List.Perm.refl _)).trans (List.perm_middle (l₁ := [_])).symm)).trans (List.perm_middle (l₁ := [_])).symm)).trans (List.perm_middle (l₁ := [_])).symm)).trans (List.perm_middle (l₁ := [_])).symm)).trans (List.perm_middle (l₁ := [_])).symm)).drop1.drop1.drop1.drop1.drop1⟩
    · refine o_call rfl (r_call fn117 rfl rfl) rfl (rlong_ok ct' _ (by omega)) ?_
      rintro _ w20 ⟨b26, rfl, hx21⟩
      have hS22 := hS6.call hx21
      simp only [List.cons_append, List.nil_append] at hS22
      refine ⟨hS22.drop1.drop1, ?_⟩
      refine g_all (rs := [1, 7]) (by decide +kernel) (by decide +kernel) rfl ?_
      simp only [List.forall_mem_cons, List.not_mem_nil, false_imp_iff, implies_true, and_true]
      refine ⟨?_, ?_⟩
      · refine o_exv rfl (x_mark [_] hS22 ti22.und ti5.und rfl) rfl ?_
        rintro _ w23 ⟨rfl, hS24⟩; simp only [List.cons_append, List.nil_append] at hS24
        refine ⟨hS24.drop1.drop1, ?_⟩
        refine g_one 7 (by decide +kernel) (by decide +kernel) ?_; refine o_call rfl (r_call fn117 rfl rfl) rfl (rlong_ok tm' _ (by omega)) ?_; rintro _ w25 ⟨b29, rfl, hx26⟩
        have hS27 := hS24.call hx26
        simp only [List.cons_append, List.nil_append] at hS27
        refine ⟨hS27.drop1.drop1.drop1, ?_⟩
        refine g_tail (by decide +kernel) rfl (by decide +kernel) ?_; refine wl_exv (x_lit (vs := [.slice _ _ _, .slice _ _ _, .slice _ _ _, .slice _ _ _, .slice _ _ _]) hS27 ti43.und ti22 rfl rfl rfl (by intro c hc; simp only [List.mem_cons, List.not_mem_nil, or_false] at hc; rcases hc with rfl | rfl | rfl | rfl | rfl <;> rfl) (by decide)) rfl ?_; rintro _ w28 ⟨b34, rfl, hS29⟩; refine wl_call (r_call fn130 rfl rfl) rfl (concatH_ok [75, 87, 72, 49] (octs8 (UInt64.ofNat ct')) (octs8 (UInt64.ofNat tm')) la ro _ _ _ _ _ _ _ _ _ _ _ _ _ (Row.of_at (at_all (hS29.heap (.head _)))) (Row.of_at (at_all (hS29.heap (.tail _ (.tail _ (.tail _ (.head _))))))) (Row.of_at (at_all (hS29.heap (.tail _ (.tail _ (.head _)))))) (Row.of_at (at_all (hS29.heap (.tail _ (.head _))))) (Row.of_at (head_at2 (hS29.heap (.tail _ (.tail _ (.tail _ (.tail _ (.head _)))))) hla)) (Row.of_at (head_at34 (hS29.heap (.tail _ (.tail _ (.tail _ (.tail _ (.head _)))))) hla hro)) rfl (by simp) (by simp) hla hro) ?_; rintro _ w30 ⟨a35, c35, rfl, hc35, hx31⟩
        have hS32 := hS29.call hx31
        simp only [List.cons_append, List.nil_append] at hS32; refine wl_val (r_assign (v := .slice _ _ _) rfl) rfl ?_; refine wl_val (r_assign (v := .int .i64 0) rfl) rfl ?_; refine wl_nil ?_; refine c_then ?_; refine wp_ret ?_; refine ret2 Try.results55 rfl rfl ?_
        exact .inr ⟨by omega, _, _, rfl, hc35, (hS32.perm ((List.Perm.cons _ ((List.Perm.cons _ ((List.Perm.cons _ ((List.Perm.cons _ ((List.Perm.cons _ (List.Perm.refl _)).trans (List.perm_middle (l₁ := [_])).symm)).trans (List.perm_middle (l₁ := [_])).symm)).trans (List.perm_middle (l₁ := [_])).symm)).trans (List.perm_middle (l₁ := [_])).symm)).trans (List.perm_middle (l₁ := [_])).symm)).drop1.drop1.drop1.drop1.drop1⟩
      · refine o_call rfl (r_call fn117 rfl rfl) rfl (rlong_ok tm' _ (by omega)) ?_
        rintro _ w33 ⟨b29, rfl, hx34⟩
        have hS35 := hS22.call hx34
        simp only [List.cons_append, List.nil_append] at hS35
        refine ⟨hS35.drop1.drop1.drop1, ?_⟩
        refine g_one 1 (by decide +kernel) (by decide +kernel) ?_; refine o_exv rfl (x_mark [_, _] hS35 ti22.und ti5.und rfl) rfl ?_; rintro _ w36 ⟨rfl, hS37⟩; simp only [List.cons_append, List.nil_append] at hS37
        refine ⟨hS37.drop1.drop1.drop1, ?_⟩
        refine g_tail (by decide +kernel) rfl (by decide +kernel) ?_; refine wl_exv (x_lit (vs := [.slice _ _ _, .slice _ _ _, .slice _ _ _, .slice _ _ _, .slice _ _ _]) hS37 ti43.und ti22 rfl rfl rfl (by intro c hc; simp only [List.mem_cons, List.not_mem_nil, or_false] at hc; rcases hc with rfl | rfl | rfl | rfl | rfl <;> rfl) (by decide)) rfl ?_; rintro _ w38 ⟨b34, rfl, hS39⟩; refine wl_call (r_call fn130 rfl rfl) rfl (concatH_ok [75, 87, 72, 49] (octs8 (UInt64.ofNat ct')) (octs8 (UInt64.ofNat tm')) la ro _ _ _ _ _ _ _ _ _ _ _ _ _ (Row.of_at (at_all (hS39.heap (.head _)))) (Row.of_at (at_all (hS39.heap (.tail _ (.tail _ (.tail _ (.head _))))))) (Row.of_at (at_all (hS39.heap (.tail _ (.tail _ (.head _)))))) (Row.of_at (at_all (hS39.heap (.tail _ (.head _))))) (Row.of_at (head_at2 (hS39.heap (.tail _ (.tail _ (.tail _ (.tail _ (.head _)))))) hla)) (Row.of_at (head_at34 (hS39.heap (.tail _ (.tail _ (.tail _ (.tail _ (.head _)))))) hla hro)) rfl (by simp) (by simp) hla hro) ?_; rintro _ w40 ⟨a35, c35, rfl, hc35, hx41⟩
        have hS42 := hS39.call hx41
        simp only [List.cons_append, List.nil_append] at hS42; refine wl_val (r_assign (v := .slice _ _ _) rfl) rfl ?_; refine wl_val (r_assign (v := .int .i64 0) rfl) rfl ?_; refine wl_nil ?_; refine c_then ?_; refine wp_ret ?_; refine ret2 Try.results55 rfl rfl ?_
        exact .inr ⟨by omega, _, _, rfl, hc35, (hS42.perm ((List.Perm.cons _ ((List.Perm.cons _ ((List.Perm.cons _ ((List.Perm.cons _ ((List.Perm.cons _ (List.Perm.refl _)).trans (List.perm_middle (l₁ := [_])).symm)).trans (List.perm_middle (l₁ := [_])).symm)).trans (List.perm_middle (l₁ := [_])).symm)).trans (List.perm_middle (l₁ := [_])).symm)).trans (List.perm_middle (l₁ := [_])).symm)).drop1.drop1.drop1.drop1.drop1⟩
  · refine o_call rfl (r_call fn117 rfl rfl) rfl (rlong_ok ct' _ (by omega)) ?_
    rintro _ w43 ⟨b26, rfl, hx44⟩
    have hS45 := hS4.call hx44
    simp only [List.cons_append, List.nil_append] at hS45
    refine ⟨hS45.drop1, ?_⟩
    refine g_all (rs := [0, 7]) (by decide +kernel) (by decide +kernel) rfl ?_
    simp only [List.forall_mem_cons, List.not_mem_nil, false_imp_iff, implies_true, and_true]
    refine ⟨?_, ?_⟩
    · refine o_exv rfl (x_lit (vs := (([75, 87, 72, 49] : List UInt8).map b8)) hS45 ti22.und ti5 rfl rfl rfl (by repeat' first | exact one_nil | exact one_b8 _ | exact one_v32 _ | exact one_all rfl | refine one_cons rfl ?_ | refine one_app ?_ ?_) (by decide)) rfl ?_
      rintro _ w46 ⟨b22, rfl, hS47⟩
      refine ⟨hS47.drop1.drop1, ?_⟩
      refine g_all (rs := [1, 7]) (by decide +kernel) (by decide +kernel) rfl ?_
      simp only [List.forall_mem_cons, List.not_mem_nil, false_imp_iff, implies_true, and_true]
      refine ⟨?_, ?_⟩
      · refine o_exv rfl (x_mark [] hS47 ti22.und ti5.und rfl) rfl ?_
        rintro _ w48 ⟨rfl, hS49⟩; simp only [List.cons_append, List.nil_append] at hS49
        refine ⟨hS49.drop1.drop1, ?_⟩
        refine g_one 7 (by decide +kernel) (by decide +kernel) ?_; refine o_call rfl (r_call fn117 rfl rfl) rfl (rlong_ok tm' _ (by omega)) ?_; rintro _ w50 ⟨b29, rfl, hx51⟩
        have hS52 := hS49.call hx51
        simp only [List.cons_append, List.nil_append] at hS52
        refine ⟨hS52.drop1.drop1.drop1, ?_⟩
        refine g_tail (by decide +kernel) rfl (by decide +kernel) ?_; refine wl_exv (x_lit (vs := [.slice _ _ _, .slice _ _ _, .slice _ _ _, .slice _ _ _, .slice _ _ _]) hS52 ti43.und ti22 rfl rfl rfl (by intro c hc; simp only [List.mem_cons, List.not_mem_nil, or_false] at hc; rcases hc with rfl | rfl | rfl | rfl | rfl <;> rfl) (by decide)) rfl ?_; rintro _ w53 ⟨b34, rfl, hS54⟩; refine wl_call (r_call fn130 rfl rfl) rfl (concatH_ok [75, 87, 72, 49] (octs8 (UInt64.ofNat ct')) (octs8 (UInt64.ofNat tm')) la ro _ _ _ _ _ _ _ _ _ _ _ _ _ (Row.of_at (at_all (hS54.heap (.head _)))) (Row.of_at (at_all (hS54.heap (.tail _ (.tail _ (.head _)))))) (Row.of_at (at_all (hS54.heap (.tail _ (.tail _ (.tail _ (.head _))))))) (Row.of_at (at_all (hS54.heap (.tail _ (.head _))))) (Row.of_at (head_at2 (hS54.heap (.tail _ (.tail _ (.tail _ (.tail _ (.head _)))))) hla)) (Row.of_at (head_at34 (hS54.heap (.tail _ (.tail _ (.tail _ (.tail _ (.head _)))))) hla hro)) rfl (by simp) (by simp) hla hro) ?_; rintro _ w55 ⟨a35, c35, rfl, hc35, hx56⟩
        have hS57 := hS54.call hx56
        simp only [List.cons_append, List.nil_append] at hS57; refine wl_val (r_assign (v := .slice _ _ _) rfl) rfl ?_; refine wl_val (r_assign (v := .int .i64 0) rfl) rfl ?_; refine wl_nil ?_; refine c_then ?_; refine wp_ret ?_; refine ret2 Try.results55 rfl rfl ?_
        exact .inr ⟨by omega, _, _, rfl, hc35, (hS57.perm ((List.Perm.cons _ ((List.Perm.cons _ ((List.Perm.cons _ ((List.Perm.cons _ ((List.Perm.cons _ (List.Perm.refl _)).trans (List.perm_middle (l₁ := [_])).symm)).trans (List.perm_middle (l₁ := [_])).symm)).trans (List.perm_middle (l₁ := [_])).symm)).trans (List.perm_middle (l₁ := [_])).symm)).trans (List.perm_middle (l₁ := [_])).symm)).drop1.drop1.drop1.drop1.drop1⟩
      · refine o_call rfl (r_call fn117 rfl rfl) rfl (rlong_ok tm' _ (by omega)) ?_
        rintro _ w58 ⟨b29, rfl, hx59⟩
        have hS60 := hS47.call hx59
        simp only [List.cons_append, List.nil_append] at hS60
        refine ⟨hS60.drop1.drop1.drop1, ?_⟩
        refine g_one 1 (by decide +kernel) (by decide +kernel) ?_; refine o_exv rfl (x_mark [_] hS60 ti22.und ti5.und rfl) rfl ?_; rintro _ w61 ⟨rfl, hS62⟩; simp only [List.cons_append, List.nil_append] at hS62
        refine ⟨hS62.drop1.drop1.drop1, ?_⟩
        refine g_tail (by decide +kernel) rfl (by decide +kernel) ?_; refine wl_exv (x_lit (vs := [.slice _ _ _, .slice _ _ _, .slice _ _ _, .slice _ _ _, .slice _ _ _]) hS62 ti43.und ti22 rfl rfl rfl (by intro c hc; simp only [List.mem_cons, List.not_mem_nil, or_false] at hc; rcases hc with rfl | rfl | rfl | rfl | rfl <;> rfl) (by decide)) rfl ?_; rintro _ w63 ⟨b34, rfl, hS64⟩; refine wl_call (r_call fn130 rfl rfl) rfl (concatH_ok [75, 87, 72, 49] (octs8 (UInt64.ofNat ct')) (octs8 (UInt64.ofNat tm')) la ro _ _ _ _ _ _ _ _ _ _ _ _ _ (Row.of_at (at_all (hS64.heap (.head _)))) (Row.of_at (at_all (hS64.heap (.tail _ (.tail _ (.head _)))))) (Row.of_at (at_all (hS64.heap (.tail _ (.tail _ (.tail _ (.head _))))))) (Row.of_at (at_all (hS64.heap (.tail _ (.head _))))) (Row.of_at (head_at2 (hS64.heap (.tail _ (.tail _ (.tail _ (.tail _ (.head _)))))) hla)) (Row.of_at (head_at34 (hS64.heap (.tail _ (.tail _ (.tail _ (.tail _ (.head _)))))) hla hro)) rfl (by simp) (by simp) hla hro) ?_; rintro _ w65 ⟨a35, c35, rfl, hc35, hx66⟩
        have hS67 := hS64.call hx66
        simp only [List.cons_append, List.nil_append] at hS67; refine wl_val (r_assign (v := .slice _ _ _) rfl) rfl ?_; refine wl_val (r_assign (v := .int .i64 0) rfl) rfl ?_; refine wl_nil ?_; refine c_then ?_; refine wp_ret ?_; refine ret2 Try.results55 rfl rfl ?_
        exact .inr ⟨by omega, _, _, rfl, hc35, (hS67.perm ((List.Perm.cons _ ((List.Perm.cons _ ((List.Perm.cons _ ((List.Perm.cons _ ((List.Perm.cons _ (List.Perm.refl _)).trans (List.perm_middle (l₁ := [_])).symm)).trans (List.perm_middle (l₁ := [_])).symm)).trans (List.perm_middle (l₁ := [_])).symm)).trans (List.perm_middle (l₁ := [_])).symm)).trans (List.perm_middle (l₁ := [_])).symm)).drop1.drop1.drop1.drop1.drop1⟩
    · refine o_call rfl (r_call fn117 rfl rfl) rfl (rlong_ok tm' _ (by omega)) ?_
      rintro _ w68 ⟨b29, rfl, hx69⟩
      have hS70 := hS45.call hx69
      simp only [List.cons_append, List.nil_append] at hS70
      refine ⟨hS70.drop1.drop1, ?_⟩
      refine g_one 0 (by decide +kernel) (by decide +kernel) ?_; refine o_exv rfl (x_lit (vs := (([75, 87, 72, 49] : List UInt8).map b8)) hS70 ti22.und ti5 rfl rfl rfl (by repeat' first | exact one_nil | exact one_b8 _ | exact one_v32 _ | exact one_all rfl | refine one_cons rfl ?_ | refine one_app ?_ ?_) (by decide)) rfl ?_; rintro _ w71 ⟨b22, rfl, hS72⟩
      refine ⟨hS72.drop1.drop1.drop1, ?_⟩
      refine g_one 1 (by decide +kernel) (by decide +kernel) ?_; refine o_exv rfl (x_mark [] hS72 ti22.und ti5.und rfl) rfl ?_; rintro _ w73 ⟨rfl, hS74⟩; simp only [List.cons_append, List.nil_append] at hS74
      refine ⟨hS74.drop1.drop1.drop1, ?_⟩
      refine g_tail (by decide +kernel) rfl (by decide +kernel) ?_; refine wl_exv (x_lit (vs := [.slice _ _ _, .slice _ _ _, .slice _ _ _, .slice _ _ _, .slice _ _ _]) hS74 ti43.und ti22 rfl rfl rfl (by intro c hc; simp only [List.mem_cons, List.not_mem_nil, or_false] at hc; rcases hc with rfl | rfl | rfl | rfl | rfl <;> rfl) (by decide)) rfl ?_; rintro _ w75 ⟨b34, rfl, hS76⟩; refine wl_call (r_call fn130 rfl rfl) rfl (concatH_ok [75, 87, 72, 49] (octs8 (UInt64.ofNat ct')) (octs8 (UInt64.ofNat tm')) la ro _ _ _ _ _ _ _ _ _ _ _ _ _ (Row.of_at (at_all (hS76.heap (.head _)))) (Row.of_at (at_all (hS76.heap (.tail _ (.head _))))) (Row.of_at (at_all (hS76.heap (.tail _ (.tail _ (.tail _ (.head _))))))) (Row.of_at (at_all (hS76.heap (.tail _ (.tail _ (.head _)))))) (Row.of_at (head_at2 (hS76.heap (.tail _ (.tail _ (.tail _ (.tail _ (.head _)))))) hla)) (Row.of_at (head_at34 (hS76.heap (.tail _ (.tail _ (.tail _ (.tail _ (.head _)))))) hla hro)) rfl (by simp) (by simp) hla hro) ?_; rintro _ w77 ⟨a35, c35, rfl, hc35, hx78⟩
      have hS79 := hS76.call hx78
      simp only [List.cons_append, List.nil_append] at hS79; refine wl_val (r_assign (v := .slice _ _ _) rfl) rfl ?_; refine wl_val (r_assign (v := .int .i64 0) rfl) rfl ?_; refine wl_nil ?_; refine c_then ?_; refine wp_ret ?_; refine ret2 Try.results55 rfl rfl ?_
      exact .inr ⟨by omega, _, _, rfl, hc35, (hS79.perm ((List.Perm.cons _ ((List.Perm.cons _ ((List.Perm.cons _ ((List.Perm.cons _ ((List.Perm.cons _ (List.Perm.refl _)).trans (List.perm_middle (l₁ := [_])).symm)).trans (List.perm_middle (l₁ := [_])).symm)).trans (List.perm_middle (l₁ := [_])).symm)).trans (List.perm_middle (l₁ := [_])).symm)).trans (List.perm_middle (l₁ := [_])).symm)).drop1.drop1.drop1.drop1.drop1⟩

set_option maxHeartbeats 4000000 in
theorem sealHead_ok (ct tm : Int) (la ro : List UInt8) (k : List UInt8) (w : World) (hla : la.length = 32) (hro : ro.length = 32) (hk : k.length = 32) :
    Ret Try.prog 56 [.agg (k.map b8).toArray, .agg (headV ct tm la ro).toArray] w (fun v w' => ((ct < 0 ∨ 65536 < ct ∨ tm < 0 ∨ 1099511627776 < tm) ∧ v = .tuple #[.agg ((List.replicate 64 (0 : UInt8)).map b8).toArray, vi 4] ∧ St w [] w' []) ∨ ((0 ≤ ct ∧ ct ≤ 65536 ∧ 0 ≤ tm ∧ tm ≤ 1099511627776) ∧ v = .tuple #[.agg ((sealL k (sumL 6 (headL ct tm la ro))).map b8).toArray, vi 0] ∧ St w [] w' [])) := by
  refine enter Try.func56 rfl Try.ntmps56 rfl ?_
  have hS := St.refl w []
  refine c_seq ?_; refine c_region ?_; refine wl_exv (x_box hS (v := .agg _) rfl rfl) rfl ?_; rintro _ w1 ⟨b2, rfl, hS2⟩; refine wl_exv (x_box hS2 (v := .agg _) rfl rfl) rfl ?_; rintro _ w3 ⟨b3, rfl, hS4⟩; refine wl_exv (x_alloc (C := ((List.replicate 64 (0 : UInt8)).map b8)) hS4 ti65 rfl) rfl ?_; rintro _ w5 ⟨b4, rfl, hS6⟩; refine wl_val (r_assign (v := .int .i64 0) rfl) rfl ?_; refine wl_nil ?_; refine c_then ?_; refine c_seq ?_; refine c_region ?_; refine wl_val (r_loadB tih ag83 rfl (hS6.heap (.tail _ (.head _))) (by first | (simp [*]; done) | (simp [*] <;> omega) | omega)) rfl ?_; refine wl_call (r_call fn54 rfl rfl) rfl (printHead_ok ct tm la ro _ hla hro) ?_
  rintro _ w7 (⟨hg, rfl, hx8⟩ | ⟨hg, ahg, chg, rfl, hchg, hx8⟩)
  · have hS9 := hS6.ext hx8
    refine wl_val (r_move (v := .tuple _) rfl) rfl ?_; refine wl_val (r_extract (v := .slice _ _ _) rfl rfl) rfl ?_; refine wl_val (r_extract (v := .int .i64 _) rfl rfl) rfl ?_; refine wl_val (r_assign (v := .slice _ _ _) rfl) rfl ?_; refine wl_val (r_assign (v := .int .i64 _) rfl) rfl ?_; refine wl_nil ?_; refine c_then ?_; refine c_seq ?_; refine c_seq ?_; refine c_region ?_; refine wl_val (r_move (v := .int .i64 _) rfl) rfl ?_; refine wl_dec_t (r_neq rfl rfl) rfl (by decide) ?_; refine wl_nil ?_; refine c_then ?_; refine c_true rfl ?_; refine c_seq ?_; refine c_region ?_; refine wl_val (r_build0 (cs := ((List.replicate 64 (0 : UInt8)).map b8)) ti65.und ti65 ti5) rfl ?_; refine wl_val (r_move (v := .int .i64 _) rfl) rfl ?_; refine wl_exs (x_storeW [] hS9 ti65 rfl rfl (by first | (simp [*]; done) | (simp [*] <;> omega) | omega) (by first | (simp [*]; done) | (simp [*] <;> omega) | omega) (by repeat' first | exact one_nil | exact one_b8 _ | exact one_v32 _ | exact one_all rfl | refine one_cons rfl ?_ | refine one_app ?_ ?_)) rfl ?_; intro w10 hS11; simp only [List.cons_append, List.nil_append] at hS11; refine wl_val (r_assign (v := .int .i64 _) rfl) rfl ?_; refine wl_nil ?_; refine c_then ?_; refine wp_ret ?_; refine c_thenR ?_; refine ret2 Try.results56 ⟨_, rfl, run_loadVar_blk ti65 rfl (hS11.heap (.head _)) (by first | (simp [*]; done) | (simp [*] <;> omega) | omega)⟩ rfl ?_
    first | exact .inl ⟨hg, rfl, hS11.fin⟩ | exact .inr ⟨hg, rfl, hS11.fin⟩
  have hS9 := hS6.call hx8
  simp only [List.cons_append, List.nil_append] at hS9; refine wl_val (r_move (v := .tuple _) rfl) rfl ?_; refine wl_val (r_extract (v := .slice _ _ _) rfl rfl) rfl ?_; refine wl_val (r_extract (v := .int .i64 _) rfl rfl) rfl ?_; refine wl_val (r_assign (v := .slice _ _ _) rfl) rfl ?_; refine wl_val (r_assign (v := .int .i64 _) rfl) rfl ?_; refine wl_nil ?_; refine c_then ?_; refine c_seq ?_; refine c_seq ?_; refine c_region ?_; refine wl_val (r_move (v := .int .i64 _) rfl) rfl ?_; refine wl_dec_f (r_neq rfl rfl) rfl (by decide) ?_; refine wl_nil ?_; refine c_then ?_; refine c_false rfl ?_; refine wp_skip ?_; refine c_then ?_; refine c_seq ?_; refine c_region ?_; refine wl_val (r_move (v := .slice _ _ _) rfl) rfl ?_; refine wl_call (r_call fn44 rfl rfl) rfl (sumOf_in 6 (headL ct tm la ro) _ 84 _ _ (by decide) (St.rowAt hS9 (.head _)) (headL_len hla hro) hchg (by decide)) ?_; rintro _ w12 ⟨rfl, hx13⟩
  have hS14 := hS9.ext hx13
  refine wl_val (r_move (v := .tuple _) rfl) rfl ?_; refine wl_val (r_extract (v := .agg _) rfl rfl) rfl ?_; refine wl_val (r_extract (v := .int .i64 _) rfl rfl) rfl ?_; refine wl_exv (x_alloc (C := ((List.replicate 32 (0 : UInt8)).map b8)) hS14 ti49 rfl) rfl ?_; rintro _ w15 ⟨bb8, rfl, hS16⟩; refine wl_exs (x_storeW [] hS16 ti49 rfl rfl (by first | (simp [*]; done) | (simp [*] <;> omega) | omega) (by first | (simp [*]; done) | (simp [*] <;> omega) | omega) (by repeat' first | exact one_nil | exact one_b8 _ | exact one_v32 _ | exact one_all rfl | refine one_cons rfl ?_ | refine one_app ?_ ?_)) rfl ?_; intro w17 hS18; simp only [List.cons_append, List.nil_append] at hS18; refine wl_val (r_assign (v := .int .i64 _) rfl) rfl ?_; refine wl_nil ?_; refine c_then ?_; refine c_seq ?_; refine c_seq ?_; refine c_region ?_; refine wl_val (r_move (v := .int .i64 _) rfl) rfl ?_; refine wl_dec_f (r_neq rfl rfl) rfl (by decide) ?_; refine wl_nil ?_; refine c_then ?_; refine c_false rfl ?_; refine wp_skip ?_; refine c_then ?_; refine c_seq ?_; refine c_drawS 5 hMixed hS18 ?_; intro w19 hS20; refine g_take 0 rfl (by decide +kernel) rfl (fun _ _ _ h => h) hS20 (fun wF hF => r_loadB ti61 rfl rfl (hF.heap (.tail _ (.tail _ (.tail _ (.tail _ (.head _)))))) (by first | (simp [*]; done) | (simp [*] <;> omega) | omega)) ?_; refine g_take 1 rfl (by decide +kernel) rfl (fun _ _ _ h => h) hS20 (fun wF hF => r_sa1_0 ti49.und ti5 rfl ) ?_; refine g_one 2 (by decide +kernel) (by decide +kernel) ?_; refine o_call rfl (r_call fn41 rfl rfl) rfl (sealOf_n k (sumL 6 (headL ct tm la ro)) _ 32 _ _ hk (Row.of_at (at_all (hS20.heap (.head _)))) (by simp) (by decide) (by decide)) ?_
  rintro _ w21 ⟨rfl, hx22⟩
  have hS23 := hS20.ext hx22
  refine ⟨hS23, ?_⟩
  refine g_take 3 rfl (by decide +kernel) rfl (fun _ _ _ h => h) hS23 (fun wF hF => r_extract (v := .agg _) rfl rfl) ?_; refine g_take 4 rfl (by decide +kernel) rfl (fun _ _ _ h => h) hS23 (fun wF hF => r_extract (v := .int .i64 _) rfl rfl) ?_; refine g_tail (by decide +kernel) rfl (by decide +kernel) ?_; refine wl_exs (x_storeW [_, _] hS23 ti65 rfl rfl (by first | (simp [*]; done) | (simp [*] <;> omega) | omega) (by first | (simp [*]; done) | (simp [*] <;> omega) | omega) (by repeat' first | exact one_nil | exact one_b8 _ | exact one_v32 _ | exact one_all rfl | refine one_cons rfl ?_ | refine one_app ?_ ?_)) rfl ?_; intro w24 hS25; simp only [List.cons_append, List.nil_append] at hS25; refine wl_val (r_assign (v := .int .i64 _) rfl) rfl ?_; refine wl_nil ?_; refine c_then ?_; refine wp_ret ?_; refine ret2 Try.results56 ⟨_, rfl, run_loadVar_blk ti65 rfl (hS25.heap (.tail _ (.tail _ (.head _)))) (by first | (simp [*]; done) | (simp [*] <;> omega) | omega)⟩ rfl ?_
  first | exact .inl ⟨hg, rfl, hS25.fin⟩ | exact .inr ⟨hg, rfl, hS25.fin⟩

set_option maxHeartbeats 4000000 in
theorem checkHead_ok (ct tm : Int) (la ro : List UInt8) (k : List UInt8) (sg : List UInt8) (w : World) (hla : la.length = 32) (hro : ro.length = 32) (hk : k.length = 32) (hsg : sg.length = 64) :
    Ret Try.prog 57 [.agg (k.map b8).toArray, .agg (headV ct tm la ro).toArray, .agg (sg.map b8).toArray] w (fun v w' => ((ct < 0 ∨ 65536 < ct ∨ tm < 0 ∨ 1099511627776 < tm) ∧ v = vi 4 ∧ St w [] w' []) ∨ ((0 ≤ ct ∧ ct ≤ 65536 ∧ 0 ≤ tm ∧ tm ≤ 1099511627776) ∧ sealL k (sumL 6 (headL ct tm la ro)) = sg ∧ v = vi 0 ∧ St w [] w' []) ∨ ((0 ≤ ct ∧ ct ≤ 65536 ∧ 0 ≤ tm ∧ tm ≤ 1099511627776) ∧ ¬ sealL k (sumL 6 (headL ct tm la ro)) = sg ∧ v = vi 13 ∧ St w [] w' [])) := by
  refine enter Try.func57 rfl Try.ntmps57 rfl ?_
  have hS := St.refl w []
  refine c_seq ?_; refine c_region ?_; refine wl_exv (x_box hS (v := .agg _) rfl rfl) rfl ?_; rintro _ w1 ⟨b3, rfl, hS2⟩; refine wl_exv (x_box hS2 (v := .agg _) rfl rfl) rfl ?_; rintro _ w3 ⟨b4, rfl, hS4⟩; refine wl_exv (x_box hS4 (v := .agg _) rfl rfl) rfl ?_; rintro _ w5 ⟨b5, rfl, hS6⟩; refine wl_val (r_assign (v := .int .i64 0) rfl) rfl ?_; refine wl_nil ?_; refine c_then ?_; refine c_seq ?_; refine c_region ?_; refine wl_val (r_loadB ti61 rfl rfl (hS6.heap (.tail _ (.tail _ (.head _)))) (by first | (simp [*]; done) | (simp [*] <;> omega) | omega)) rfl ?_; refine wl_val (r_loadB tih ag83 rfl (hS6.heap (.tail _ (.head _))) (by first | (simp [*]; done) | (simp [*] <;> omega) | omega)) rfl ?_; refine wl_call (r_call fn56 rfl rfl) rfl (sealHead_ok ct tm la ro k _ hla hro hk) ?_
  rintro _ w7 (⟨hg, rfl, hx8⟩ | ⟨hg, rfl, hx8⟩)
  · have hS9 := hS6.ext hx8
    refine wl_val (r_move (v := .tuple _) rfl) rfl ?_; refine wl_val (r_extract (v := .agg _) rfl rfl) rfl ?_; refine wl_val (r_extract (v := .int .i64 _) rfl rfl) rfl ?_; refine wl_exv (x_alloc (C := ((List.replicate 64 (0 : UInt8)).map b8)) hS9 ti65 rfl) rfl ?_; rintro _ w10 ⟨b7, rfl, hS11⟩; refine wl_exs (x_storeW [] hS11 ti65 rfl rfl (by first | (simp [*]; done) | (simp [*] <;> omega) | omega) (by first | (simp [*]; done) | (simp [*] <;> omega) | omega) (by repeat' first | exact one_nil | exact one_b8 _ | exact one_v32 _ | exact one_all rfl | refine one_cons rfl ?_ | refine one_app ?_ ?_)) rfl ?_; intro w12 hS13; simp only [List.cons_append, List.nil_append] at hS13; refine wl_val (r_assign (v := .int .i64 _) rfl) rfl ?_; refine wl_nil ?_; refine c_then ?_; refine c_seq ?_; refine c_seq ?_; refine c_region ?_; refine wl_val (r_move (v := .int .i64 _) rfl) rfl ?_; refine wl_dec_f (r_eql rfl rfl) rfl (by decide) ?_; refine wl_val (r_move (v := .bool _) rfl) rfl ?_; refine wl_not rfl ?_; refine wl_not rfl ?_; refine wl_not rfl ?_; refine wl_val (r_pick_f rfl (v := .bool false) rfl) rfl ?_; refine wl_nil ?_; refine c_then ?_; refine c_false rfl ?_; refine wp_skip ?_; refine c_then ?_; refine c_seq ?_; refine c_region ?_; refine wl_val (r_move (v := .int .i64 _) rfl) rfl ?_; refine wl_val (r_assign (v := .int .i64 _) rfl) rfl ?_; refine wl_nil ?_; refine c_then ?_; refine wp_ret ?_; refine ret1 Try.results57 ?_
    first | exact .inl ⟨hg, rfl, hS13.fin⟩ | exact .inr (.inr ⟨hg, h2_5, rfl, hS13.fin⟩) | exact .inr (.inl ⟨hg, Decidable.of_not_not h2_5, rfl, hS13.fin⟩)
  have hS9 := hS6.ext hx8
  refine wl_val (r_move (v := .tuple _) rfl) rfl ?_; refine wl_val (r_extract (v := .agg _) rfl rfl) rfl ?_; refine wl_val (r_extract (v := .int .i64 _) rfl rfl) rfl ?_; refine wl_exv (x_alloc (C := ((List.replicate 64 (0 : UInt8)).map b8)) hS9 ti65 rfl) rfl ?_; rintro _ w14 ⟨b7, rfl, hS15⟩; refine wl_exs (x_storeW [] hS15 ti65 rfl rfl (by first | (simp [*]; done) | (simp [*] <;> omega) | omega) (by first | (simp [*]; done) | (simp [*] <;> omega) | omega) (by repeat' first | exact one_nil | exact one_b8 _ | exact one_v32 _ | exact one_all rfl | refine one_cons rfl ?_ | refine one_app ?_ ?_)) rfl ?_; intro w16 hS17; simp only [List.cons_append, List.nil_append] at hS17; refine wl_val (r_assign (v := .int .i64 _) rfl) rfl ?_; refine wl_nil ?_; refine c_then ?_; refine c_seq ?_; refine c_seq ?_; refine c_region ?_; refine wl_val (r_move (v := .int .i64 _) rfl) rfl ?_; refine wl_dec_t (r_eql rfl rfl) rfl (by decide) ?_; refine wl_val (r_move (v := .bool _) rfl) rfl ?_; refine wl_val (r_loadB ti65 rfl rfl (hS17.heap (.head _)) (by first | (simp [*]; done) | (simp [*] <;> omega) | omega)) rfl ?_; refine wl_val (r_loadB ti65 rfl rfl (hS17.heap (.tail _ (.head _))) (by first | (simp [*]; done) | (simp [*] <;> omega) | omega)) rfl ?_
  refine wl_dec (r_neqA (u := undef) eg65 rfl rfl (eqIs_b8 ti65.und ti5 _ _ (by first | (simp [*]; done) | (simp [*] <;> omega) | omega) (by first | (simp [*]; done) | (simp [*] <;> omega) | omega))) rfl (fun h2_5 => ?_) (fun h2_5 => ?_)
  · refine wl_val (r_pick_t rfl (v := .bool _) rfl) rfl ?_
    refine wl_nil ?_; refine c_then ?_; refine c_true rfl ?_; refine c_seq ?_; refine c_region ?_; refine wl_val (r_assign (v := .int .i64 13) rfl) rfl ?_; refine wl_nil ?_; refine c_then ?_; refine wp_ret ?_; refine c_thenR ?_; refine ret1 Try.results57 ?_
    first | exact .inl ⟨hg, rfl, hS17.fin⟩ | exact .inr (.inr ⟨hg, h2_5, rfl, hS17.fin⟩) | exact .inr (.inl ⟨hg, Decidable.of_not_not h2_5, rfl, hS17.fin⟩)
  refine wl_val (r_pick_t rfl (v := .bool _) rfl) rfl ?_; refine wl_nil ?_; refine c_then ?_; refine c_false rfl ?_; refine wp_skip ?_; refine c_then ?_; refine c_seq ?_; refine c_region ?_; refine wl_val (r_move (v := .int .i64 _) rfl) rfl ?_; refine wl_val (r_assign (v := .int .i64 _) rfl) rfl ?_; refine wl_nil ?_; refine c_then ?_; refine wp_ret ?_; refine ret1 Try.results57 ?_
  first | exact .inl ⟨hg, rfl, hS17.fin⟩ | exact .inr (.inr ⟨hg, h2_5, rfl, hS17.fin⟩) | exact .inr (.inl ⟨hg, Decidable.of_not_not h2_5, rfl, hS17.fin⟩)

set_option maxHeartbeats 4000000 in
theorem rsealHead_ok (ct tm : Int) (la ro : List UInt8) (k : List UInt8) (w : World) (hla : la.length = 32) (hro : ro.length = 32) (hk : k.length = 32) (hg : (0 ≤ ct ∧ ct ≤ 65536 ∧ 0 ≤ tm ∧ tm ≤ 1099511627776)) :
    Ret Try.prog 58 [.agg (k.map b8).toArray, .agg (headV ct tm la ro).toArray] w (fun v w' => v = .agg ((sealL k (sumL 6 (headL ct tm la ro))).map b8).toArray ∧ St w [] w' []) := by
  refine enter Try.func58 rfl Try.ntmps58 rfl ?_
  have hS := St.refl w []
  refine c_seq ?_; refine c_region ?_; refine wl_exv (x_box hS (v := .agg _) rfl rfl) rfl ?_; rintro _ w1 ⟨b2, rfl, hS2⟩; refine wl_exv (x_box hS2 (v := .agg _) rfl rfl) rfl ?_; rintro _ w3 ⟨b3, rfl, hS4⟩; refine wl_exv (x_alloc (C := ((List.replicate 64 (0 : UInt8)).map b8)) hS4 ti65 rfl) rfl ?_; rintro _ w5 ⟨b4, rfl, hS6⟩; refine wl_nil ?_; refine c_then ?_; refine c_seq ?_; refine c_region ?_; refine wl_val (r_loadB tih ag83 rfl (hS6.heap (.tail _ (.head _))) (by first | (simp [*]; done) | (simp [*] <;> omega) | omega)) rfl ?_; refine wl_call (r_call fn55 rfl rfl) rfl (rprintHead_ok ct tm la ro _ hla hro) ?_
  rintro _ w7 (⟨hg2, rfl, hx8⟩ | ⟨hg2, ahg2, chg2, rfl, hchg2, hx8⟩)
  · exfalso; omega
  have hS9 := hS6.call hx8
  simp only [List.cons_append, List.nil_append] at hS9; refine wl_val (r_move (v := .tuple _) rfl) rfl ?_; refine wl_val (r_extract (v := .slice _ _ _) rfl rfl) rfl ?_; refine wl_val (r_extract (v := .int .i64 _) rfl rfl) rfl ?_; refine wl_val (r_assign (v := .slice _ _ _) rfl) rfl ?_; refine wl_val (r_assign (v := .int .i64 _) rfl) rfl ?_; refine wl_nil ?_; refine c_then ?_; refine c_seq ?_; refine c_region ?_; refine wl_val (r_move (v := .slice _ _ _) rfl) rfl ?_; refine wl_call (r_call fn33 rfl rfl) rfl (rsum_ok 6 (headL ct tm la ro) _ 84 _ _ (St.rowAt hS9 (.head _)) (headL_len hla hro) (by decide)) ?_; rintro _ w10 ⟨rfl, hx11⟩
  have hS12 := hS9.ext hx11
  refine wl_exv (x_alloc (C := ((List.replicate 32 (0 : UInt8)).map b8)) hS12 ti49 rfl) rfl ?_; rintro _ w13 ⟨b7, rfl, hS14⟩; refine wl_exs (x_storeW [] hS14 ti49 rfl rfl (by first | (simp [*]; done) | (simp [*] <;> omega) | omega) (by first | (simp [*]; done) | (simp [*] <;> omega) | omega) (by repeat' first | exact one_nil | exact one_b8 _ | exact one_v32 _ | exact one_all rfl | refine one_cons rfl ?_ | refine one_app ?_ ?_)) rfl ?_; intro w15 hS16; simp only [List.cons_append, List.nil_append] at hS16; refine wl_nil ?_; refine c_then ?_; refine c_seq ?_; refine c_drawS 2 hMixed hS16 ?_; intro w17 hS18; refine g_take 0 rfl (by decide +kernel) rfl (fun _ _ _ h => h) hS18 (fun wF hF => r_loadB ti61 rfl rfl (hF.heap (.tail _ (.tail _ (.tail _ (.tail _ (.head _)))))) (by first | (simp [*]; done) | (simp [*] <;> omega) | omega)) ?_; refine g_take 1 rfl (by decide +kernel) rfl (fun _ _ _ h => h) hS18 (fun wF hF => r_sa1_0 ti49.und ti5 rfl ) ?_; refine g_tail (by decide +kernel) rfl (by decide +kernel) ?_; refine wl_call (r_call fn43 rfl rfl) rfl (rseal_n k (sumL 6 (headL ct tm la ro)) _ 32 _ _ hk (Row.of_at (at_all (hS18.heap (.head _)))) (by simp) (by decide)) ?_; rintro _ w19 ⟨rfl, hx20⟩
  have hS21 := hS18.ext hx20
  refine wl_exs (x_storeW [_, _] hS21 ti65 rfl rfl (by first | (simp [*]; done) | (simp [*] <;> omega) | omega) (by first | (simp [*]; done) | (simp [*] <;> omega) | omega) (by repeat' first | exact one_nil | exact one_b8 _ | exact one_v32 _ | exact one_all rfl | refine one_cons rfl ?_ | refine one_app ?_ ?_)) rfl ?_; intro w22 hS23; simp only [List.cons_append, List.nil_append] at hS23; refine wl_nil ?_; refine c_then ?_; refine wp_ret ?_; refine retc Try.results58 ⟨_, rfl, run_loadVar_blk ti65 rfl (hS23.heap (.tail _ (.tail _ (.head _)))) (by first | (simp [*]; done) | (simp [*] <;> omega) | omega)⟩ ?_
  exact ⟨rfl, hS23.fin⟩

end Go.Proofs.Ytfohfnpehfcaaaa
