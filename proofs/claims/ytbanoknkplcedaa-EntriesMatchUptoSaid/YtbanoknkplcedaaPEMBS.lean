/- What the law's proof leans on. No condition. -/
import Derived.Test.YtbanoknkplcedaaPEMAH
import Derived.Test.YtbanoknkplcedaaPEMBR
namespace Go.Proofs.Ytbanoknkplcedaa
open Go.Kw
set_option linter.unusedVariables false
set_option linter.unusedSimpArgs false
set_option maxRecDepth 100000
theorem concatE_ok (l1 l2 l3 l4 l5 l6 l7 l8 l9 : List UInt8) (a1 a2 a3 a4 a5 a6 a7 a8 a9 a : Option Addr) (c1 c2 c3 c4 c5 c6 c7 c8 c9 c m : Nat) (w : World) (hb : Row w a [.slice a1 4 c1, .slice a2 8 c2, .slice a3 8 c3, .slice a4 1 c4, .slice a5 16 c5, .slice a6 16 c6, .slice a7 32 c7, .slice a8 4 c8, .slice a9 m c9]) (h1 : Row w a1 (l1.map b8)) (h2 : Row w a2 (l2.map b8)) (h3 : Row w a3 (l3.map b8)) (h4 : Row w a4 (l4.map b8)) (h5 : Row w a5 (l5.map b8)) (h6 : Row w a6 (l6.map b8)) (h7 : Row w a7 (l7.map b8)) (h8 : Row w a8 (l8.map b8)) (h9 : Row w a9 (l9.map b8)) (e1 : l1.length = 4) (e2 : l2.length = 8) (e3 : l3.length = 8) (e4 : l4.length = 1) (e5 : l5.length = 16) (e6 : l6.length = 16) (e7 : l7.length = 32) (e8 : l8.length = 4) (e9 : l9.length = m) (hm : m ≤ 140737488351232) :
    Ret Try.prog 21 [.slice a 9 c] w (fun v w' => ∃ a' c', v = .slice a' (89 + m) c' ∧ 89 + m ≤ c' ∧ St w [] w' [.row (.slice a' (89 + m) c') 5 1 (89 + m) ((l1 ++ l2 ++ l3 ++ l4 ++ l5 ++ l6 ++ l7 ++ l8 ++ l9).map b8)]) := by
  have et : total [⟨a1, c1, l1⟩, ⟨a2, c2, l2⟩, ⟨a3, c3, l3⟩, ⟨a4, c4, l4⟩, ⟨a5, c5, l5⟩, ⟨a6, c6, l6⟩, ⟨a7, c7, l7⟩, ⟨a8, c8, l8⟩, ⟨a9, c9, l9⟩] = 89 + m := by simp [total, e1, e2, e3, e4, e5, e6, e7, e8, e9]; omega
  have ej : joined [⟨a1, c1, l1⟩, ⟨a2, c2, l2⟩, ⟨a3, c3, l3⟩, ⟨a4, c4, l4⟩, ⟨a5, c5, l5⟩, ⟨a6, c6, l6⟩, ⟨a7, c7, l7⟩, ⟨a8, c8, l8⟩, ⟨a9, c9, l9⟩] = l1 ++ l2 ++ l3 ++ l4 ++ l5 ++ l6 ++ l7 ++ l8 ++ l9 := by simp [joined]
  have h := concat_ok [⟨a1, c1, l1⟩, ⟨a2, c2, l2⟩, ⟨a3, c3, l3⟩, ⟨a4, c4, l4⟩, ⟨a5, c5, l5⟩, ⟨a6, c6, l6⟩, ⟨a7, c7, l7⟩, ⟨a8, c8, l8⟩, ⟨a9, c9, l9⟩] a c w (by simpa [Sl.v, e1, e2, e3, e4, e5, e6, e7, e8, e9] using hb) (by
    intro q hq
    simp only [List.mem_cons, List.not_mem_nil, or_false] at hq
    rcases hq with rfl | rfl | rfl | rfl | rfl | rfl | rfl | rfl | rfl
    · exact h1
    · exact h2
    · exact h3
    · exact h4
    · exact h5
    · exact h6
    · exact h7
    · exact h8
    · exact h9) (by simp) (by rw [et]; omega)
  refine h.mono ?_
  rw [et, ej]
  rintro v w' ⟨a', c', hv, hS⟩
  exact ⟨a', c', hv, (St.rowLen hS (.head _)).1, hS⟩

set_option maxHeartbeats 4000000 in
theorem plain_ok (x : EntD) (w : World) (hx : EntOk x) (hbo : Row w x.ba (x.e.bo.map b8)) (hg : EGood x.e) :
    Ret Try.prog 42 [.agg x.v.toArray] w (fun v w' => ∃ a' c', v = .slice a' x.e.L.length c' ∧ x.e.L.length ≤ c' ∧ St w [] w' [.row (.slice a' x.e.L.length c') 5 1 x.e.L.length (x.e.L.map b8)]) := by
  have hxl := ent_len hx
  have hac := hx.e.ac
  have hky := hx.e.ky
  have hpv := hx.e.pv
  have g1 := hg.n0
  have g2 := hg.n1
  have g3 := hg.t0
  have g4 := hg.t1
  have g5 := hg.a0
  have g6 := hg.a1
  have g7 := hg.bl
  refine enter Try.func42 rfl Try.ntmps42 rfl ?_
  have hS := St.refl w []
  refine c_seq ?_; refine c_region ?_; refine wl_exv (x_box hS (v := .agg _) rfl rfl) rfl ?_; rintro _ w1 ⟨b1, rfl, hS2⟩; refine wl_val (r_assign (v := .slice none 0 0) rfl) rfl ?_; refine wl_nil ?_; refine c_then ?_; refine c_seq ?_; refine c_drawS 24 hMixed hS2 ?_; intro w3 hS4; refine g_take 2 rfl (by decide +kernel) rfl (fun _ _ _ h => h) hS4 (fun wF hF => r_field fa41_0 rfl) ?_; refine g_take 3 rfl (by decide +kernel) rfl (fun _ _ _ h => h) hS4 (fun wF hF => r_loadB1 ti3.und rfl rfl (hF.heap (.head _)) ent_nr) ?_; refine g_take 5 rfl (by decide +kernel) rfl (fun _ _ _ h => h) hS4 (fun wF hF => r_field fa41_1 rfl) ?_; refine g_take 6 rfl (by decide +kernel) rfl (fun _ _ _ h => h) hS4 (fun wF hF => r_loadB1 ti3.und rfl rfl (hF.heap (.head _)) ent_tm) ?_; refine g_take 8 rfl (by decide +kernel) rfl (fun _ _ _ h => h) hS4 (fun wF hF => r_field fa41_2 rfl) ?_; refine g_take 9 rfl (by decide +kernel) rfl (fun _ _ _ h => h) hS4 (fun wF hF => r_loadB1 ti3.und rfl rfl (hF.heap (.head _)) ent_act) ?_; refine g_take 10 rfl (by decide +kernel) rfl (fun _ _ _ h => h) hS4 (fun wF hF => c_z_u8 ti5.und ⟨_, ti3.und⟩ rfl (by omega)) ?_; refine g_take 12 rfl (by decide +kernel) rfl (fun _ _ _ h => h) hS4 (fun wF hF => r_field fa41_3 rfl) ?_; refine g_take 13 rfl (by decide +kernel) rfl (fun _ _ _ h => h) hS4 (fun wF hF => r_sa1_0 ti23.und ti5 rfl ) ?_; refine g_take 14 rfl (by decide +kernel) rfl (fun _ _ _ h => h) hS4 (fun wF hF => r_field fa41_4 rfl) ?_; refine g_take 15 rfl (by decide +kernel) rfl (fun _ _ _ h => h) hS4 (fun wF hF => r_sa1_0 ti23.und ti5 rfl ) ?_
  refine g_take 16 rfl (by decide +kernel) rfl (fun _ _ _ h => h) hS4 (fun wF hF => r_field fa41_5 rfl) ?_; refine g_take 17 rfl (by decide +kernel) rfl (fun _ _ _ h => h) hS4 (fun wF hF => r_sa1_0 ti26.und ti5 rfl ) ?_; refine g_take 18 rfl (by decide +kernel) rfl (fun _ _ _ h => h) hS4 (fun wF hF => r_field fa41_6 rfl) ?_; refine g_take 19 rfl (by decide +kernel) rfl (fun _ _ _ h => h) hS4 (fun wF hF => r_loadB1 ti30.und rfl rfl (hF.heap (.head _)) (ent_bo hx)) ?_; refine g_take 20 rfl (by decide +kernel) rfl (fun _ _ _ h => h) hS4 (fun wF hF => r_len (T := 30) rfl ti30.und rfl _ rfl) ?_; refine g_take 22 rfl (by decide +kernel) rfl (fun _ _ _ h => h) hS4 (fun wF hF => r_field fa41_6 rfl) ?_; refine g_take 23 rfl (by decide +kernel) rfl (fun _ _ _ h => h) hS4 (fun wF hF => r_loadB1 ti30.und rfl rfl (hF.heap (.head _)) (ent_bo hx)) ?_; refine g_all (rs := [0, 4, 11]) (by decide +kernel) (by decide +kernel) rfl ?_
  simp only [List.forall_mem_cons, List.not_mem_nil, false_imp_iff, implies_true, and_true]
  refine ⟨?_, ?_, ?_⟩
  · refine o_exv rfl (x_lit (vs := (([75, 87, 69, 49] : List UInt8).map b8)) hS4 ti30.und ti5 rfl rfl rfl (by repeat' first | exact one_nil | exact one_b8 _ | exact one_v32 _ | exact one_all rfl | refine one_cons rfl ?_ | refine one_app ?_ ?_) (by decide)) rfl ?_
    rintro _ w5 ⟨b3, rfl, hS6⟩
    refine ⟨hS6.drop1, ?_⟩
    refine g_all (rs := [1, 4, 11]) (by decide +kernel) (by decide +kernel) rfl ?_
    simp only [List.forall_mem_cons, List.not_mem_nil, false_imp_iff, implies_true, and_true]
    refine ⟨?_, ?_, ?_⟩
    · refine o_exv rfl (x_mark [] hS6 ti30.und ti5.und rfl) rfl ?_
      rintro _ w7 ⟨rfl, hS8⟩; simp only [List.cons_append, List.nil_append] at hS8
      refine ⟨hS8.drop1, ?_⟩
      refine g_all (rs := [4, 11]) (by decide +kernel) (by decide +kernel) rfl ?_
      simp only [List.forall_mem_cons, List.not_mem_nil, false_imp_iff, implies_true, and_true]
      refine ⟨?_, ?_⟩
      · refine o_call rfl (r_call fn33 rfl rfl) rfl (rlong_z x.e.nr _ (by omega) (by omega)) ?_
        rintro _ w9 ⟨b7, rfl, hx10⟩
        have hS11 := hS8.call hx10
        simp only [List.cons_append, List.nil_append] at hS11
        refine ⟨hS11.drop1.drop1, ?_⟩
        refine g_all (rs := [7, 11]) (by decide +kernel) (by decide +kernel) rfl ?_
        simp only [List.forall_mem_cons, List.not_mem_nil, false_imp_iff, implies_true, and_true]
        refine ⟨?_, ?_⟩
        · refine o_call rfl (r_call fn33 rfl rfl) rfl (rlong_z x.e.tm _ (by omega) (by omega)) ?_
          rintro _ w12 ⟨b10, rfl, hx13⟩
          have hS14 := hS11.call hx13
          simp only [List.cons_append, List.nil_append] at hS14
          refine ⟨hS14.drop1.drop1.drop1, ?_⟩
          refine g_all (rs := [11, 21]) (by decide +kernel) (by decide +kernel) rfl ?_
          simp only [List.forall_mem_cons, List.not_mem_nil, false_imp_iff, implies_true, and_true]
          refine ⟨?_, ?_⟩
          · refine o_exv rfl (x_lit (vs := (([UInt8.ofNat x.e.act.toNat] : List UInt8).map b8)) hS14 ti30.und ti5 rfl rfl rfl (by repeat' first | exact one_nil | exact one_b8 _ | exact one_v32 _ | exact one_all rfl | refine one_cons rfl ?_ | refine one_app ?_ ?_) (by decide)) rfl ?_
            rintro _ w15 ⟨b14, rfl, hS16⟩
            refine ⟨hS16.drop1.drop1.drop1.drop1, ?_⟩
            refine g_one 21 (by decide +kernel) (by decide +kernel) ?_; refine o_call rfl (r_call fn31 rfl rfl) rfl (rshort_ok x.e.bo.length _ (by omega)) ?_; rintro _ w17 ⟨b24, rfl, hx18⟩
            have hS19 := hS16.call hx18
            simp only [List.cons_append, List.nil_append] at hS19
            refine ⟨hS19.drop1.drop1.drop1.drop1.drop1, ?_⟩
            refine g_tail (by decide +kernel) rfl (by decide +kernel) ?_; refine wl_exv (x_lit (vs := [.slice _ _ _, .slice _ _ _, .slice _ _ _, .slice _ _ _, .slice _ _ _, .slice _ _ _, .slice _ _ _, .slice _ _ _, .slice _ _ _]) hS19 ti90.und ti30 rfl rfl rfl (by intro c hc; simp only [List.mem_cons, List.not_mem_nil, or_false] at hc; rcases hc with rfl | rfl | rfl | rfl | rfl | rfl | rfl | rfl | rfl <;> rfl) (by decide)) rfl ?_; rintro _ w20 ⟨b27, rfl, hS21⟩; refine wl_call (r_call fn21 rfl rfl) rfl (concatE_ok [75, 87, 69, 49] (octs8 (UInt64.ofNat x.e.nr.toNat)) (octs8 (UInt64.ofNat x.e.tm.toNat)) [UInt8.ofNat x.e.act.toNat] x.e.ac x.e.ky x.e.pv (octs (UInt32.ofNat x.e.bo.length)) x.e.bo _ _ _ _ _ _ _ _ _ _ _ _ _ _ _ _ _ _ _ _ _ _ (Row.of_at (at_all (hS21.heap (.head _)))) (Row.of_at (at_all (hS21.heap (.tail _ (.tail _ (.tail _ (.tail _ (.tail _ (.head _))))))))) (Row.of_at (at_all (hS21.heap (.tail _ (.tail _ (.tail _ (.tail _ (.head _)))))))) (Row.of_at (at_all (hS21.heap (.tail _ (.tail _ (.tail _ (.head _))))))) (Row.of_at (at_all (hS21.heap (.tail _ (.tail _ (.head _)))))) (Row.of_at (ent_at3 (hS21.heap (.tail _ (.tail _ (.tail _ (.tail _ (.tail _ (.tail _ (.head _)))))))) hx)) (Row.of_at (ent_at19 (hS21.heap (.tail _ (.tail _ (.tail _ (.tail _ (.tail _ (.tail _ (.head _)))))))) hx)) (Row.of_at (ent_at35 (hS21.heap (.tail _ (.tail _ (.tail _ (.tail _ (.tail _ (.tail _ (.head _)))))))) hx)) (Row.of_at (short_at4 (hS21.heap (.tail _ (.head _))))) (hbo.st hS21) rfl (by simp) (by simp) rfl hac hky hpv (by simp) rfl hx.e.bn) ?_
            rintro _ w22 ⟨a28, c28, rfl, hc28, hx23⟩
            have hS24 := hS21.call hx23
            simp only [List.cons_append, List.nil_append] at hS24; refine wl_val (r_assign (v := .slice _ _ _) rfl) rfl ?_; refine wl_nil ?_; refine c_then ?_; refine wp_ret ?_; refine ret1 Try.results42 ?_
            have eN := EV.L_len hx.e
            have eL : [75, 87, 69, 49] ++ octs8 (UInt64.ofNat x.e.nr.toNat) ++ octs8 (UInt64.ofNat x.e.tm.toNat) ++ [UInt8.ofNat x.e.act.toNat] ++ x.e.ac ++ x.e.ky ++ x.e.pv ++ octs (UInt32.ofNat x.e.bo.length) ++ x.e.bo = x.e.L := by simp only [EV.L, EV.M, EV.H]
            exact ⟨_, _, congrArg (fun n => Value.slice _ n _) eN.symm, by rw [eN]; exact hc28, St.rowTo (hS24.perm ((List.Perm.cons _ ((List.Perm.cons _ ((List.Perm.cons _ ((List.Perm.cons _ ((List.Perm.cons _ ((List.Perm.cons _ ((List.Perm.cons _ (List.Perm.refl _)).trans (List.perm_middle (l₁ := [_])).symm)).trans (List.perm_middle (l₁ := [_])).symm)).trans (List.perm_middle (l₁ := [_])).symm)).trans (List.perm_middle (l₁ := [_])).symm)).trans (List.perm_middle (l₁ := [_])).symm)).trans (List.perm_middle (l₁ := [_])).symm)).trans (List.perm_middle (l₁ := [_])).symm)).drop1.drop1.drop1.drop1.drop1.drop1.drop1 eN.symm (by rw [← eL]; simp)⟩
          · refine o_call rfl (r_call fn31 rfl rfl) rfl (rshort_ok x.e.bo.length _ (by omega)) ?_
            rintro _ w25 ⟨b24, rfl, hx26⟩
            have hS27 := hS14.call hx26
            simp only [List.cons_append, List.nil_append] at hS27
            refine ⟨hS27.drop1.drop1.drop1.drop1, ?_⟩
            refine g_one 11 (by decide +kernel) (by decide +kernel) ?_; refine o_exv rfl (x_lit (vs := (([UInt8.ofNat x.e.act.toNat] : List UInt8).map b8)) hS27 ti30.und ti5 rfl rfl rfl (by repeat' first | exact one_nil | exact one_b8 _ | exact one_v32 _ | exact one_all rfl | refine one_cons rfl ?_ | refine one_app ?_ ?_) (by decide)) rfl ?_; rintro _ w28 ⟨b14, rfl, hS29⟩
            refine ⟨hS29.drop1.drop1.drop1.drop1.drop1, ?_⟩
            refine g_tail (by decide +kernel) rfl (by decide +kernel) ?_; refine wl_exv (x_lit (vs := [.slice _ _ _, .slice _ _ _, .slice _ _ _, .slice _ _ _, .slice _ _ _, .slice _ _ _, .slice _ _ _, .slice _ _ _, .slice _ _ _]) hS29 ti90.und ti30 rfl rfl rfl (by intro c hc; simp only [List.mem_cons, List.not_mem_nil, or_false] at hc; rcases hc with rfl | rfl | rfl | rfl | rfl | rfl | rfl | rfl | rfl <;> rfl) (by decide)) rfl ?_; rintro _ w30 ⟨b27, rfl, hS31⟩; refine wl_call (r_call fn21 rfl rfl) rfl (concatE_ok [75, 87, 69, 49] (octs8 (UInt64.ofNat x.e.nr.toNat)) (octs8 (UInt64.ofNat x.e.tm.toNat)) [UInt8.ofNat x.e.act.toNat] x.e.ac x.e.ky x.e.pv (octs (UInt32.ofNat x.e.bo.length)) x.e.bo _ _ _ _ _ _ _ _ _ _ _ _ _ _ _ _ _ _ _ _ _ _ (Row.of_at (at_all (hS31.heap (.head _)))) (Row.of_at (at_all (hS31.heap (.tail _ (.tail _ (.tail _ (.tail _ (.tail _ (.head _))))))))) (Row.of_at (at_all (hS31.heap (.tail _ (.tail _ (.tail _ (.tail _ (.head _)))))))) (Row.of_at (at_all (hS31.heap (.tail _ (.tail _ (.tail _ (.head _))))))) (Row.of_at (at_all (hS31.heap (.tail _ (.head _))))) (Row.of_at (ent_at3 (hS31.heap (.tail _ (.tail _ (.tail _ (.tail _ (.tail _ (.tail _ (.head _)))))))) hx)) (Row.of_at (ent_at19 (hS31.heap (.tail _ (.tail _ (.tail _ (.tail _ (.tail _ (.tail _ (.head _)))))))) hx)) (Row.of_at (ent_at35 (hS31.heap (.tail _ (.tail _ (.tail _ (.tail _ (.tail _ (.tail _ (.head _)))))))) hx)) (Row.of_at (short_at4 (hS31.heap (.tail _ (.tail _ (.head _)))))) (hbo.st hS31) rfl (by simp) (by simp) rfl hac hky hpv (by simp) rfl hx.e.bn) ?_
            rintro _ w32 ⟨a28, c28, rfl, hc28, hx33⟩
            have hS34 := hS31.call hx33
            simp only [List.cons_append, List.nil_append] at hS34; refine wl_val (r_assign (v := .slice _ _ _) rfl) rfl ?_; refine wl_nil ?_; refine c_then ?_; refine wp_ret ?_; refine ret1 Try.results42 ?_
            have eN := EV.L_len hx.e
            have eL : [75, 87, 69, 49] ++ octs8 (UInt64.ofNat x.e.nr.toNat) ++ octs8 (UInt64.ofNat x.e.tm.toNat) ++ [UInt8.ofNat x.e.act.toNat] ++ x.e.ac ++ x.e.ky ++ x.e.pv ++ octs (UInt32.ofNat x.e.bo.length) ++ x.e.bo = x.e.L := by simp only [EV.L, EV.M, EV.H]
            exact ⟨_, _, congrArg (fun n => Value.slice _ n _) eN.symm, by rw [eN]; exact hc28, St.rowTo (hS34.perm ((List.Perm.cons _ ((List.Perm.cons _ ((List.Perm.cons _ ((List.Perm.cons _ ((List.Perm.cons _ ((List.Perm.cons _ ((List.Perm.cons _ (List.Perm.refl _)).trans (List.perm_middle (l₁ := [_])).symm)).trans (List.perm_middle (l₁ := [_])).symm)).trans (List.perm_middle (l₁ := [_])).symm)).trans (List.perm_middle (l₁ := [_])).symm)).trans (List.perm_middle (l₁ := [_])).symm)).trans (List.perm_middle (l₁ := [_])).symm)).trans (List.perm_middle (l₁ := [_])).symm)).drop1.drop1.drop1.drop1.drop1.drop1.drop1 eN.symm (by rw [← eL]; simp)⟩
        · refine o_exv rfl (x_lit (vs := (([UInt8.ofNat x.e.act.toNat] : List UInt8).map b8)) hS11 ti30.und ti5 rfl rfl rfl (by repeat' first | exact one_nil | exact one_b8 _ | exact one_v32 _ | exact one_all rfl | refine one_cons rfl ?_ | refine one_app ?_ ?_) (by decide)) rfl ?_
          rintro _ w35 ⟨b14, rfl, hS36⟩
          refine ⟨hS36.drop1.drop1.drop1, ?_⟩
          refine g_one 7 (by decide +kernel) (by decide +kernel) ?_; refine o_call rfl (r_call fn33 rfl rfl) rfl (rlong_z x.e.tm _ (by omega) (by omega)) ?_; rintro _ w37 ⟨b10, rfl, hx38⟩
          have hS39 := hS36.call hx38
          simp only [List.cons_append, List.nil_append] at hS39
          refine ⟨hS39.drop1.drop1.drop1.drop1, ?_⟩
          refine g_one 21 (by decide +kernel) (by decide +kernel) ?_; refine o_call rfl (r_call fn31 rfl rfl) rfl (rshort_ok x.e.bo.length _ (by omega)) ?_; rintro _ w40 ⟨b24, rfl, hx41⟩
          have hS42 := hS39.call hx41
          simp only [List.cons_append, List.nil_append] at hS42
          refine ⟨hS42.drop1.drop1.drop1.drop1.drop1, ?_⟩
          refine g_tail (by decide +kernel) rfl (by decide +kernel) ?_; refine wl_exv (x_lit (vs := [.slice _ _ _, .slice _ _ _, .slice _ _ _, .slice _ _ _, .slice _ _ _, .slice _ _ _, .slice _ _ _, .slice _ _ _, .slice _ _ _]) hS42 ti90.und ti30 rfl rfl rfl (by intro c hc; simp only [List.mem_cons, List.not_mem_nil, or_false] at hc; rcases hc with rfl | rfl | rfl | rfl | rfl | rfl | rfl | rfl | rfl <;> rfl) (by decide)) rfl ?_; rintro _ w43 ⟨b27, rfl, hS44⟩; refine wl_call (r_call fn21 rfl rfl) rfl (concatE_ok [75, 87, 69, 49] (octs8 (UInt64.ofNat x.e.nr.toNat)) (octs8 (UInt64.ofNat x.e.tm.toNat)) [UInt8.ofNat x.e.act.toNat] x.e.ac x.e.ky x.e.pv (octs (UInt32.ofNat x.e.bo.length)) x.e.bo _ _ _ _ _ _ _ _ _ _ _ _ _ _ _ _ _ _ _ _ _ _ (Row.of_at (at_all (hS44.heap (.head _)))) (Row.of_at (at_all (hS44.heap (.tail _ (.tail _ (.tail _ (.tail _ (.tail _ (.head _))))))))) (Row.of_at (at_all (hS44.heap (.tail _ (.tail _ (.tail _ (.tail _ (.head _)))))))) (Row.of_at (at_all (hS44.heap (.tail _ (.tail _ (.head _)))))) (Row.of_at (at_all (hS44.heap (.tail _ (.tail _ (.tail _ (.head _))))))) (Row.of_at (ent_at3 (hS44.heap (.tail _ (.tail _ (.tail _ (.tail _ (.tail _ (.tail _ (.head _)))))))) hx)) (Row.of_at (ent_at19 (hS44.heap (.tail _ (.tail _ (.tail _ (.tail _ (.tail _ (.tail _ (.head _)))))))) hx)) (Row.of_at (ent_at35 (hS44.heap (.tail _ (.tail _ (.tail _ (.tail _ (.tail _ (.tail _ (.head _)))))))) hx)) (Row.of_at (short_at4 (hS44.heap (.tail _ (.head _))))) (hbo.st hS44) rfl (by simp) (by simp) rfl hac hky hpv (by simp) rfl hx.e.bn) ?_
          rintro _ w45 ⟨a28, c28, rfl, hc28, hx46⟩
          have hS47 := hS44.call hx46
          simp only [List.cons_append, List.nil_append] at hS47; refine wl_val (r_assign (v := .slice _ _ _) rfl) rfl ?_; refine wl_nil ?_; refine c_then ?_; refine wp_ret ?_; refine ret1 Try.results42 ?_
          have eN := EV.L_len hx.e
          have eL : [75, 87, 69, 49] ++ octs8 (UInt64.ofNat x.e.nr.toNat) ++ octs8 (UInt64.ofNat x.e.tm.toNat) ++ [UInt8.ofNat x.e.act.toNat] ++ x.e.ac ++ x.e.ky ++ x.e.pv ++ octs (UInt32.ofNat x.e.bo.length) ++ x.e.bo = x.e.L := by simp only [EV.L, EV.M, EV.H]
          exact ⟨_, _, congrArg (fun n => Value.slice _ n _) eN.symm, by rw [eN]; exact hc28, St.rowTo (hS47.perm ((List.Perm.cons _ ((List.Perm.cons _ ((List.Perm.cons _ ((List.Perm.cons _ ((List.Perm.cons _ ((List.Perm.cons _ ((List.Perm.cons _ (List.Perm.refl _)).trans (List.perm_middle (l₁ := [_])).symm)).trans (List.perm_middle (l₁ := [_])).symm)).trans (List.perm_middle (l₁ := [_])).symm)).trans (List.perm_middle (l₁ := [_])).symm)).trans (List.perm_middle (l₁ := [_])).symm)).trans (List.perm_middle (l₁ := [_])).symm)).trans (List.perm_middle (l₁ := [_])).symm)).drop1.drop1.drop1.drop1.drop1.drop1.drop1 eN.symm (by rw [← eL]; simp)⟩
      · refine o_exv rfl (x_lit (vs := (([UInt8.ofNat x.e.act.toNat] : List UInt8).map b8)) hS8 ti30.und ti5 rfl rfl rfl (by repeat' first | exact one_nil | exact one_b8 _ | exact one_v32 _ | exact one_all rfl | refine one_cons rfl ?_ | refine one_app ?_ ?_) (by decide)) rfl ?_
        rintro _ w48 ⟨b14, rfl, hS49⟩
        refine ⟨hS49.drop1.drop1, ?_⟩
        refine g_one 4 (by decide +kernel) (by decide +kernel) ?_; refine o_call rfl (r_call fn33 rfl rfl) rfl (rlong_z x.e.nr _ (by omega) (by omega)) ?_; rintro _ w50 ⟨b7, rfl, hx51⟩
        have hS52 := hS49.call hx51
        simp only [List.cons_append, List.nil_append] at hS52
        refine ⟨hS52.drop1.drop1.drop1, ?_⟩
        refine g_one 7 (by decide +kernel) (by decide +kernel) ?_; refine o_call rfl (r_call fn33 rfl rfl) rfl (rlong_z x.e.tm _ (by omega) (by omega)) ?_; rintro _ w53 ⟨b10, rfl, hx54⟩
        have hS55 := hS52.call hx54
        simp only [List.cons_append, List.nil_append] at hS55
        refine ⟨hS55.drop1.drop1.drop1.drop1, ?_⟩
        refine g_one 21 (by decide +kernel) (by decide +kernel) ?_; refine o_call rfl (r_call fn31 rfl rfl) rfl (rshort_ok x.e.bo.length _ (by omega)) ?_; rintro _ w56 ⟨b24, rfl, hx57⟩
        have hS58 := hS55.call hx57
        simp only [List.cons_append, List.nil_append] at hS58
        refine ⟨hS58.drop1.drop1.drop1.drop1.drop1, ?_⟩
        refine g_tail (by decide +kernel) rfl (by decide +kernel) ?_; refine wl_exv (x_lit (vs := [.slice _ _ _, .slice _ _ _, .slice _ _ _, .slice _ _ _, .slice _ _ _, .slice _ _ _, .slice _ _ _, .slice _ _ _, .slice _ _ _]) hS58 ti90.und ti30 rfl rfl rfl (by intro c hc; simp only [List.mem_cons, List.not_mem_nil, or_false] at hc; rcases hc with rfl | rfl | rfl | rfl | rfl | rfl | rfl | rfl | rfl <;> rfl) (by decide)) rfl ?_; rintro _ w59 ⟨b27, rfl, hS60⟩; refine wl_call (r_call fn21 rfl rfl) rfl (concatE_ok [75, 87, 69, 49] (octs8 (UInt64.ofNat x.e.nr.toNat)) (octs8 (UInt64.ofNat x.e.tm.toNat)) [UInt8.ofNat x.e.act.toNat] x.e.ac x.e.ky x.e.pv (octs (UInt32.ofNat x.e.bo.length)) x.e.bo _ _ _ _ _ _ _ _ _ _ _ _ _ _ _ _ _ _ _ _ _ _ (Row.of_at (at_all (hS60.heap (.head _)))) (Row.of_at (at_all (hS60.heap (.tail _ (.tail _ (.tail _ (.tail _ (.tail _ (.head _))))))))) (Row.of_at (at_all (hS60.heap (.tail _ (.tail _ (.tail _ (.head _))))))) (Row.of_at (at_all (hS60.heap (.tail _ (.tail _ (.head _)))))) (Row.of_at (at_all (hS60.heap (.tail _ (.tail _ (.tail _ (.tail _ (.head _)))))))) (Row.of_at (ent_at3 (hS60.heap (.tail _ (.tail _ (.tail _ (.tail _ (.tail _ (.tail _ (.head _)))))))) hx)) (Row.of_at (ent_at19 (hS60.heap (.tail _ (.tail _ (.tail _ (.tail _ (.tail _ (.tail _ (.head _)))))))) hx)) (Row.of_at (ent_at35 (hS60.heap (.tail _ (.tail _ (.tail _ (.tail _ (.tail _ (.tail _ (.head _)))))))) hx)) (Row.of_at (short_at4 (hS60.heap (.tail _ (.head _))))) (hbo.st hS60) rfl (by simp) (by simp) rfl hac hky hpv (by simp) rfl hx.e.bn) ?_
        rintro _ w61 ⟨a28, c28, rfl, hc28, hx62⟩
        have hS63 := hS60.call hx62
        simp only [List.cons_append, List.nil_append] at hS63; refine wl_val (r_assign (v := .slice _ _ _) rfl) rfl ?_; refine wl_nil ?_; refine c_then ?_; refine wp_ret ?_; refine ret1 Try.results42 ?_
        have eN := EV.L_len hx.e
        have eL : [75, 87, 69, 49] ++ octs8 (UInt64.ofNat x.e.nr.toNat) ++ octs8 (UInt64.ofNat x.e.tm.toNat) ++ [UInt8.ofNat x.e.act.toNat] ++ x.e.ac ++ x.e.ky ++ x.e.pv ++ octs (UInt32.ofNat x.e.bo.length) ++ x.e.bo = x.e.L := by simp only [EV.L, EV.M, EV.H]
        exact ⟨_, _, congrArg (fun n => Value.slice _ n _) eN.symm, by rw [eN]; exact hc28, St.rowTo (hS63.perm ((List.Perm.cons _ ((List.Perm.cons _ ((List.Perm.cons _ ((List.Perm.cons _ ((List.Perm.cons _ ((List.Perm.cons _ ((List.Perm.cons _ (List.Perm.refl _)).trans (List.perm_middle (l₁ := [_])).symm)).trans (List.perm_middle (l₁ := [_])).symm)).trans (List.perm_middle (l₁ := [_])).symm)).trans (List.perm_middle (l₁ := [_])).symm)).trans (List.perm_middle (l₁ := [_])).symm)).trans (List.perm_middle (l₁ := [_])).symm)).trans (List.perm_middle (l₁ := [_])).symm)).drop1.drop1.drop1.drop1.drop1.drop1.drop1 eN.symm (by rw [← eL]; simp)⟩
    · refine o_call rfl (r_call fn33 rfl rfl) rfl (rlong_z x.e.nr _ (by omega) (by omega)) ?_
      rintro _ w64 ⟨b7, rfl, hx65⟩
      have hS66 := hS6.call hx65
      simp only [List.cons_append, List.nil_append] at hS66
      refine ⟨hS66.drop1.drop1, ?_⟩
      refine g_all (rs := [1, 7, 11]) (by decide +kernel) (by decide +kernel) rfl ?_
      simp only [List.forall_mem_cons, List.not_mem_nil, false_imp_iff, implies_true, and_true]
      refine ⟨?_, ?_, ?_⟩
      · refine o_exv rfl (x_mark [_] hS66 ti30.und ti5.und rfl) rfl ?_
        rintro _ w67 ⟨rfl, hS68⟩; simp only [List.cons_append, List.nil_append] at hS68
        refine ⟨hS68.drop1.drop1, ?_⟩
        refine g_all (rs := [7, 11]) (by decide +kernel) (by decide +kernel) rfl ?_
        simp only [List.forall_mem_cons, List.not_mem_nil, false_imp_iff, implies_true, and_true]
        refine ⟨?_, ?_⟩
        · refine o_call rfl (r_call fn33 rfl rfl) rfl (rlong_z x.e.tm _ (by omega) (by omega)) ?_
          rintro _ w69 ⟨b10, rfl, hx70⟩
          have hS71 := hS68.call hx70
          simp only [List.cons_append, List.nil_append] at hS71
          refine ⟨hS71.drop1.drop1.drop1, ?_⟩
          refine g_all (rs := [11, 21]) (by decide +kernel) (by decide +kernel) rfl ?_
          simp only [List.forall_mem_cons, List.not_mem_nil, false_imp_iff, implies_true, and_true]
          refine ⟨?_, ?_⟩
          · refine o_exv rfl (x_lit (vs := (([UInt8.ofNat x.e.act.toNat] : List UInt8).map b8)) hS71 ti30.und ti5 rfl rfl rfl (by repeat' first | exact one_nil | exact one_b8 _ | exact one_v32 _ | exact one_all rfl | refine one_cons rfl ?_ | refine one_app ?_ ?_) (by decide)) rfl ?_
            rintro _ w72 ⟨b14, rfl, hS73⟩
            refine ⟨hS73.drop1.drop1.drop1.drop1, ?_⟩
            refine g_one 21 (by decide +kernel) (by decide +kernel) ?_; refine o_call rfl (r_call fn31 rfl rfl) rfl (rshort_ok x.e.bo.length _ (by omega)) ?_; rintro _ w74 ⟨b24, rfl, hx75⟩
            have hS76 := hS73.call hx75
            simp only [List.cons_append, List.nil_append] at hS76
            refine ⟨hS76.drop1.drop1.drop1.drop1.drop1, ?_⟩
            refine g_tail (by decide +kernel) rfl (by decide +kernel) ?_; refine wl_exv (x_lit (vs := [.slice _ _ _, .slice _ _ _, .slice _ _ _, .slice _ _ _, .slice _ _ _, .slice _ _ _, .slice _ _ _, .slice _ _ _, .slice _ _ _]) hS76 ti90.und ti30 rfl rfl rfl (by intro c hc; simp only [List.mem_cons, List.not_mem_nil, or_false] at hc; rcases hc with rfl | rfl | rfl | rfl | rfl | rfl | rfl | rfl | rfl <;> rfl) (by decide)) rfl ?_; rintro _ w77 ⟨b27, rfl, hS78⟩; refine wl_call (r_call fn21 rfl rfl) rfl (concatE_ok [75, 87, 69, 49] (octs8 (UInt64.ofNat x.e.nr.toNat)) (octs8 (UInt64.ofNat x.e.tm.toNat)) [UInt8.ofNat x.e.act.toNat] x.e.ac x.e.ky x.e.pv (octs (UInt32.ofNat x.e.bo.length)) x.e.bo _ _ _ _ _ _ _ _ _ _ _ _ _ _ _ _ _ _ _ _ _ _ (Row.of_at (at_all (hS78.heap (.head _)))) (Row.of_at (at_all (hS78.heap (.tail _ (.tail _ (.tail _ (.tail _ (.tail _ (.head _))))))))) (Row.of_at (at_all (hS78.heap (.tail _ (.tail _ (.tail _ (.tail _ (.head _)))))))) (Row.of_at (at_all (hS78.heap (.tail _ (.tail _ (.tail _ (.head _))))))) (Row.of_at (at_all (hS78.heap (.tail _ (.tail _ (.head _)))))) (Row.of_at (ent_at3 (hS78.heap (.tail _ (.tail _ (.tail _ (.tail _ (.tail _ (.tail _ (.head _)))))))) hx)) (Row.of_at (ent_at19 (hS78.heap (.tail _ (.tail _ (.tail _ (.tail _ (.tail _ (.tail _ (.head _)))))))) hx)) (Row.of_at (ent_at35 (hS78.heap (.tail _ (.tail _ (.tail _ (.tail _ (.tail _ (.tail _ (.head _)))))))) hx)) (Row.of_at (short_at4 (hS78.heap (.tail _ (.head _))))) (hbo.st hS78) rfl (by simp) (by simp) rfl hac hky hpv (by simp) rfl hx.e.bn) ?_
            rintro _ w79 ⟨a28, c28, rfl, hc28, hx80⟩
            have hS81 := hS78.call hx80
            simp only [List.cons_append, List.nil_append] at hS81; refine wl_val (r_assign (v := .slice _ _ _) rfl) rfl ?_; refine wl_nil ?_; refine c_then ?_; refine wp_ret ?_; refine ret1 Try.results42 ?_
            have eN := EV.L_len hx.e
            have eL : [75, 87, 69, 49] ++ octs8 (UInt64.ofNat x.e.nr.toNat) ++ octs8 (UInt64.ofNat x.e.tm.toNat) ++ [UInt8.ofNat x.e.act.toNat] ++ x.e.ac ++ x.e.ky ++ x.e.pv ++ octs (UInt32.ofNat x.e.bo.length) ++ x.e.bo = x.e.L := by simp only [EV.L, EV.M, EV.H]
            exact ⟨_, _, congrArg (fun n => Value.slice _ n _) eN.symm, by rw [eN]; exact hc28, St.rowTo (hS81.perm ((List.Perm.cons _ ((List.Perm.cons _ ((List.Perm.cons _ ((List.Perm.cons _ ((List.Perm.cons _ ((List.Perm.cons _ ((List.Perm.cons _ (List.Perm.refl _)).trans (List.perm_middle (l₁ := [_])).symm)).trans (List.perm_middle (l₁ := [_])).symm)).trans (List.perm_middle (l₁ := [_])).symm)).trans (List.perm_middle (l₁ := [_])).symm)).trans (List.perm_middle (l₁ := [_])).symm)).trans (List.perm_middle (l₁ := [_])).symm)).trans (List.perm_middle (l₁ := [_])).symm)).drop1.drop1.drop1.drop1.drop1.drop1.drop1 eN.symm (by rw [← eL]; simp)⟩
          · refine o_call rfl (r_call fn31 rfl rfl) rfl (rshort_ok x.e.bo.length _ (by omega)) ?_
            rintro _ w82 ⟨b24, rfl, hx83⟩
            have hS84 := hS71.call hx83
            simp only [List.cons_append, List.nil_append] at hS84
            refine ⟨hS84.drop1.drop1.drop1.drop1, ?_⟩
            refine g_one 11 (by decide +kernel) (by decide +kernel) ?_; refine o_exv rfl (x_lit (vs := (([UInt8.ofNat x.e.act.toNat] : List UInt8).map b8)) hS84 ti30.und ti5 rfl rfl rfl (by repeat' first | exact one_nil | exact one_b8 _ | exact one_v32 _ | exact one_all rfl | refine one_cons rfl ?_ | refine one_app ?_ ?_) (by decide)) rfl ?_; rintro _ w85 ⟨b14, rfl, hS86⟩
            refine ⟨hS86.drop1.drop1.drop1.drop1.drop1, ?_⟩
            refine g_tail (by decide +kernel) rfl (by decide +kernel) ?_; refine wl_exv (x_lit (vs := [.slice _ _ _, .slice _ _ _, .slice _ _ _, .slice _ _ _, .slice _ _ _, .slice _ _ _, .slice _ _ _, .slice _ _ _, .slice _ _ _]) hS86 ti90.und ti30 rfl rfl rfl (by intro c hc; simp only [List.mem_cons, List.not_mem_nil, or_false] at hc; rcases hc with rfl | rfl | rfl | rfl | rfl | rfl | rfl | rfl | rfl <;> rfl) (by decide)) rfl ?_; rintro _ w87 ⟨b27, rfl, hS88⟩; refine wl_call (r_call fn21 rfl rfl) rfl (concatE_ok [75, 87, 69, 49] (octs8 (UInt64.ofNat x.e.nr.toNat)) (octs8 (UInt64.ofNat x.e.tm.toNat)) [UInt8.ofNat x.e.act.toNat] x.e.ac x.e.ky x.e.pv (octs (UInt32.ofNat x.e.bo.length)) x.e.bo _ _ _ _ _ _ _ _ _ _ _ _ _ _ _ _ _ _ _ _ _ _ (Row.of_at (at_all (hS88.heap (.head _)))) (Row.of_at (at_all (hS88.heap (.tail _ (.tail _ (.tail _ (.tail _ (.tail _ (.head _))))))))) (Row.of_at (at_all (hS88.heap (.tail _ (.tail _ (.tail _ (.tail _ (.head _)))))))) (Row.of_at (at_all (hS88.heap (.tail _ (.tail _ (.tail _ (.head _))))))) (Row.of_at (at_all (hS88.heap (.tail _ (.head _))))) (Row.of_at (ent_at3 (hS88.heap (.tail _ (.tail _ (.tail _ (.tail _ (.tail _ (.tail _ (.head _)))))))) hx)) (Row.of_at (ent_at19 (hS88.heap (.tail _ (.tail _ (.tail _ (.tail _ (.tail _ (.tail _ (.head _)))))))) hx)) (Row.of_at (ent_at35 (hS88.heap (.tail _ (.tail _ (.tail _ (.tail _ (.tail _ (.tail _ (.head _)))))))) hx)) (Row.of_at (short_at4 (hS88.heap (.tail _ (.tail _ (.head _)))))) (hbo.st hS88) rfl (by simp) (by simp) rfl hac hky hpv (by simp) rfl hx.e.bn) ?_
            rintro _ w89 ⟨a28, c28, rfl, hc28, hx90⟩
            have hS91 := hS88.call hx90
            simp only [List.cons_append, List.nil_append] at hS91; refine wl_val (r_assign (v := .slice _ _ _) rfl) rfl ?_; refine wl_nil ?_; refine c_then ?_; refine wp_ret ?_; refine ret1 Try.results42 ?_
            have eN := EV.L_len hx.e
            have eL : [75, 87, 69, 49] ++ octs8 (UInt64.ofNat x.e.nr.toNat) ++ octs8 (UInt64.ofNat x.e.tm.toNat) ++ [UInt8.ofNat x.e.act.toNat] ++ x.e.ac ++ x.e.ky ++ x.e.pv ++ octs (UInt32.ofNat x.e.bo.length) ++ x.e.bo = x.e.L := by simp only [EV.L, EV.M, EV.H]
            exact ⟨_, _, congrArg (fun n => Value.slice _ n _) eN.symm, by rw [eN]; exact hc28, St.rowTo (hS91.perm ((List.Perm.cons _ ((List.Perm.cons _ ((List.Perm.cons _ ((List.Perm.cons _ ((List.Perm.cons _ ((List.Perm.cons _ ((List.Perm.cons _ (List.Perm.refl _)).trans (List.perm_middle (l₁ := [_])).symm)).trans (List.perm_middle (l₁ := [_])).symm)).trans (List.perm_middle (l₁ := [_])).symm)).trans (List.perm_middle (l₁ := [_])).symm)).trans (List.perm_middle (l₁ := [_])).symm)).trans (List.perm_middle (l₁ := [_])).symm)).trans (List.perm_middle (l₁ := [_])).symm)).drop1.drop1.drop1.drop1.drop1.drop1.drop1 eN.symm (by rw [← eL]; simp)⟩
        · refine o_exv rfl (x_lit (vs := (([UInt8.ofNat x.e.act.toNat] : List UInt8).map b8)) hS68 ti30.und ti5 rfl rfl rfl (by repeat' first | exact one_nil | exact one_b8 _ | exact one_v32 _ | exact one_all rfl | refine one_cons rfl ?_ | refine one_app ?_ ?_) (by decide)) rfl ?_
          rintro _ w92 ⟨b14, rfl, hS93⟩
          refine ⟨hS93.drop1.drop1.drop1, ?_⟩
          refine g_one 7 (by decide +kernel) (by decide +kernel) ?_; refine o_call rfl (r_call fn33 rfl rfl) rfl (rlong_z x.e.tm _ (by omega) (by omega)) ?_; rintro _ w94 ⟨b10, rfl, hx95⟩
          have hS96 := hS93.call hx95
          simp only [List.cons_append, List.nil_append] at hS96
          refine ⟨hS96.drop1.drop1.drop1.drop1, ?_⟩
          refine g_one 21 (by decide +kernel) (by decide +kernel) ?_; refine o_call rfl (r_call fn31 rfl rfl) rfl (rshort_ok x.e.bo.length _ (by omega)) ?_; rintro _ w97 ⟨b24, rfl, hx98⟩
          have hS99 := hS96.call hx98
          simp only [List.cons_append, List.nil_append] at hS99
          refine ⟨hS99.drop1.drop1.drop1.drop1.drop1, ?_⟩
          refine g_tail (by decide +kernel) rfl (by decide +kernel) ?_; refine wl_exv (x_lit (vs := [.slice _ _ _, .slice _ _ _, .slice _ _ _, .slice _ _ _, .slice _ _ _, .slice _ _ _, .slice _ _ _, .slice _ _ _, .slice _ _ _]) hS99 ti90.und ti30 rfl rfl rfl (by intro c hc; simp only [List.mem_cons, List.not_mem_nil, or_false] at hc; rcases hc with rfl | rfl | rfl | rfl | rfl | rfl | rfl | rfl | rfl <;> rfl) (by decide)) rfl ?_; rintro _ w100 ⟨b27, rfl, hS101⟩; refine wl_call (r_call fn21 rfl rfl) rfl (concatE_ok [75, 87, 69, 49] (octs8 (UInt64.ofNat x.e.nr.toNat)) (octs8 (UInt64.ofNat x.e.tm.toNat)) [UInt8.ofNat x.e.act.toNat] x.e.ac x.e.ky x.e.pv (octs (UInt32.ofNat x.e.bo.length)) x.e.bo _ _ _ _ _ _ _ _ _ _ _ _ _ _ _ _ _ _ _ _ _ _ (Row.of_at (at_all (hS101.heap (.head _)))) (Row.of_at (at_all (hS101.heap (.tail _ (.tail _ (.tail _ (.tail _ (.tail _ (.head _))))))))) (Row.of_at (at_all (hS101.heap (.tail _ (.tail _ (.tail _ (.tail _ (.head _)))))))) (Row.of_at (at_all (hS101.heap (.tail _ (.tail _ (.head _)))))) (Row.of_at (at_all (hS101.heap (.tail _ (.tail _ (.tail _ (.head _))))))) (Row.of_at (ent_at3 (hS101.heap (.tail _ (.tail _ (.tail _ (.tail _ (.tail _ (.tail _ (.head _)))))))) hx)) (Row.of_at (ent_at19 (hS101.heap (.tail _ (.tail _ (.tail _ (.tail _ (.tail _ (.tail _ (.head _)))))))) hx)) (Row.of_at (ent_at35 (hS101.heap (.tail _ (.tail _ (.tail _ (.tail _ (.tail _ (.tail _ (.head _)))))))) hx)) (Row.of_at (short_at4 (hS101.heap (.tail _ (.head _))))) (hbo.st hS101) rfl (by simp) (by simp) rfl hac hky hpv (by simp) rfl hx.e.bn) ?_
          rintro _ w102 ⟨a28, c28, rfl, hc28, hx103⟩
          have hS104 := hS101.call hx103
          simp only [List.cons_append, List.nil_append] at hS104; refine wl_val (r_assign (v := .slice _ _ _) rfl) rfl ?_; refine wl_nil ?_; refine c_then ?_; refine wp_ret ?_; refine ret1 Try.results42 ?_
          have eN := EV.L_len hx.e
          have eL : [75, 87, 69, 49] ++ octs8 (UInt64.ofNat x.e.nr.toNat) ++ octs8 (UInt64.ofNat x.e.tm.toNat) ++ [UInt8.ofNat x.e.act.toNat] ++ x.e.ac ++ x.e.ky ++ x.e.pv ++ octs (UInt32.ofNat x.e.bo.length) ++ x.e.bo = x.e.L := by simp only [EV.L, EV.M, EV.H]
          exact ⟨_, _, congrArg (fun n => Value.slice _ n _) eN.symm, by rw [eN]; exact hc28, St.rowTo (hS104.perm ((List.Perm.cons _ ((List.Perm.cons _ ((List.Perm.cons _ ((List.Perm.cons _ ((List.Perm.cons _ ((List.Perm.cons _ ((List.Perm.cons _ (List.Perm.refl _)).trans (List.perm_middle (l₁ := [_])).symm)).trans (List.perm_middle (l₁ := [_])).symm)).trans (List.perm_middle (l₁ := [_])).symm)).trans (List.perm_middle (l₁ := [_])).symm)).trans (List.perm_middle (l₁ := [_])).symm)).trans (List.perm_middle (l₁ := [_])).symm)).trans (List.perm_middle (l₁ := [_])).symm)).drop1.drop1.drop1.drop1.drop1.drop1.drop1 eN.symm (by rw [← eL]; simp)⟩
      · refine o_call rfl (r_call fn33 rfl rfl) rfl (rlong_z x.e.tm _ (by omega) (by omega)) ?_
        rintro _ w105 ⟨b10, rfl, hx106⟩
        have hS107 := hS66.call hx106
        simp only [List.cons_append, List.nil_append] at hS107
        refine ⟨hS107.drop1.drop1.drop1, ?_⟩
        refine g_all (rs := [1, 11, 21]) (by decide +kernel) (by decide +kernel) rfl ?_
        simp only [List.forall_mem_cons, List.not_mem_nil, false_imp_iff, implies_true, and_true]
        refine ⟨?_, ?_, ?_⟩
        · refine o_exv rfl (x_mark [_, _] hS107 ti30.und ti5.und rfl) rfl ?_
          rintro _ w108 ⟨rfl, hS109⟩; simp only [List.cons_append, List.nil_append] at hS109
          refine ⟨hS109.drop1.drop1.drop1, ?_⟩
          refine g_all (rs := [11, 21]) (by decide +kernel) (by decide +kernel) rfl ?_
          simp only [List.forall_mem_cons, List.not_mem_nil, false_imp_iff, implies_true, and_true]
          refine ⟨?_, ?_⟩
          · refine o_exv rfl (x_lit (vs := (([UInt8.ofNat x.e.act.toNat] : List UInt8).map b8)) hS109 ti30.und ti5 rfl rfl rfl (by repeat' first | exact one_nil | exact one_b8 _ | exact one_v32 _ | exact one_all rfl | refine one_cons rfl ?_ | refine one_app ?_ ?_) (by decide)) rfl ?_
            rintro _ w110 ⟨b14, rfl, hS111⟩
            refine ⟨hS111.drop1.drop1.drop1.drop1, ?_⟩
            refine g_one 21 (by decide +kernel) (by decide +kernel) ?_; refine o_call rfl (r_call fn31 rfl rfl) rfl (rshort_ok x.e.bo.length _ (by omega)) ?_; rintro _ w112 ⟨b24, rfl, hx113⟩
            have hS114 := hS111.call hx113
            simp only [List.cons_append, List.nil_append] at hS114
            refine ⟨hS114.drop1.drop1.drop1.drop1.drop1, ?_⟩
            refine g_tail (by decide +kernel) rfl (by decide +kernel) ?_; refine wl_exv (x_lit (vs := [.slice _ _ _, .slice _ _ _, .slice _ _ _, .slice _ _ _, .slice _ _ _, .slice _ _ _, .slice _ _ _, .slice _ _ _, .slice _ _ _]) hS114 ti90.und ti30 rfl rfl rfl (by intro c hc; simp only [List.mem_cons, List.not_mem_nil, or_false] at hc; rcases hc with rfl | rfl | rfl | rfl | rfl | rfl | rfl | rfl | rfl <;> rfl) (by decide)) rfl ?_; rintro _ w115 ⟨b27, rfl, hS116⟩; refine wl_call (r_call fn21 rfl rfl) rfl (concatE_ok [75, 87, 69, 49] (octs8 (UInt64.ofNat x.e.nr.toNat)) (octs8 (UInt64.ofNat x.e.tm.toNat)) [UInt8.ofNat x.e.act.toNat] x.e.ac x.e.ky x.e.pv (octs (UInt32.ofNat x.e.bo.length)) x.e.bo _ _ _ _ _ _ _ _ _ _ _ _ _ _ _ _ _ _ _ _ _ _ (Row.of_at (at_all (hS116.heap (.head _)))) (Row.of_at (at_all (hS116.heap (.tail _ (.tail _ (.tail _ (.tail _ (.tail _ (.head _))))))))) (Row.of_at (at_all (hS116.heap (.tail _ (.tail _ (.tail _ (.tail _ (.head _)))))))) (Row.of_at (at_all (hS116.heap (.tail _ (.tail _ (.tail _ (.head _))))))) (Row.of_at (at_all (hS116.heap (.tail _ (.tail _ (.head _)))))) (Row.of_at (ent_at3 (hS116.heap (.tail _ (.tail _ (.tail _ (.tail _ (.tail _ (.tail _ (.head _)))))))) hx)) (Row.of_at (ent_at19 (hS116.heap (.tail _ (.tail _ (.tail _ (.tail _ (.tail _ (.tail _ (.head _)))))))) hx)) (Row.of_at (ent_at35 (hS116.heap (.tail _ (.tail _ (.tail _ (.tail _ (.tail _ (.tail _ (.head _)))))))) hx)) (Row.of_at (short_at4 (hS116.heap (.tail _ (.head _))))) (hbo.st hS116) rfl (by simp) (by simp) rfl hac hky hpv (by simp) rfl hx.e.bn) ?_
            rintro _ w117 ⟨a28, c28, rfl, hc28, hx118⟩
            have hS119 := hS116.call hx118
            simp only [List.cons_append, List.nil_append] at hS119; refine wl_val (r_assign (v := .slice _ _ _) rfl) rfl ?_; refine wl_nil ?_; refine c_then ?_; refine wp_ret ?_; refine ret1 Try.results42 ?_
            have eN := EV.L_len hx.e
            have eL : [75, 87, 69, 49] ++ octs8 (UInt64.ofNat x.e.nr.toNat) ++ octs8 (UInt64.ofNat x.e.tm.toNat) ++ [UInt8.ofNat x.e.act.toNat] ++ x.e.ac ++ x.e.ky ++ x.e.pv ++ octs (UInt32.ofNat x.e.bo.length) ++ x.e.bo = x.e.L := by simp only [EV.L, EV.M, EV.H]
            exact ⟨_, _, congrArg (fun n => Value.slice _ n _) eN.symm, by rw [eN]; exact hc28, St.rowTo (hS119.perm ((List.Perm.cons _ ((List.Perm.cons _ ((List.Perm.cons _ ((List.Perm.cons _ ((List.Perm.cons _ ((List.Perm.cons _ ((List.Perm.cons _ (List.Perm.refl _)).trans (List.perm_middle (l₁ := [_])).symm)).trans (List.perm_middle (l₁ := [_])).symm)).trans (List.perm_middle (l₁ := [_])).symm)).trans (List.perm_middle (l₁ := [_])).symm)).trans (List.perm_middle (l₁ := [_])).symm)).trans (List.perm_middle (l₁ := [_])).symm)).trans (List.perm_middle (l₁ := [_])).symm)).drop1.drop1.drop1.drop1.drop1.drop1.drop1 eN.symm (by rw [← eL]; simp)⟩
          · refine o_call rfl (r_call fn31 rfl rfl) rfl (rshort_ok x.e.bo.length _ (by omega)) ?_
            rintro _ w120 ⟨b24, rfl, hx121⟩
            have hS122 := hS109.call hx121
            simp only [List.cons_append, List.nil_append] at hS122
            refine ⟨hS122.drop1.drop1.drop1.drop1, ?_⟩
            refine g_one 11 (by decide +kernel) (by decide +kernel) ?_; refine o_exv rfl (x_lit (vs := (([UInt8.ofNat x.e.act.toNat] : List UInt8).map b8)) hS122 ti30.und ti5 rfl rfl rfl (by repeat' first | exact one_nil | exact one_b8 _ | exact one_v32 _ | exact one_all rfl | refine one_cons rfl ?_ | refine one_app ?_ ?_) (by decide)) rfl ?_; rintro _ w123 ⟨b14, rfl, hS124⟩
            refine ⟨hS124.drop1.drop1.drop1.drop1.drop1, ?_⟩
            refine g_tail (by decide +kernel) rfl (by decide +kernel) ?_; refine wl_exv (x_lit (vs := [.slice _ _ _, .slice _ _ _, .slice _ _ _, .slice _ _ _, .slice _ _ _, .slice _ _ _, .slice _ _ _, .slice _ _ _, .slice _ _ _]) hS124 ti90.und ti30 rfl rfl rfl (by intro c hc; simp only [List.mem_cons, List.not_mem_nil, or_false] at hc; rcases hc with rfl | rfl | rfl | rfl | rfl | rfl | rfl | rfl | rfl <;> rfl) (by decide)) rfl ?_; rintro _ w125 ⟨b27, rfl, hS126⟩; refine wl_call (r_call fn21 rfl rfl) rfl (concatE_ok [75, 87, 69, 49] (octs8 (UInt64.ofNat x.e.nr.toNat)) (octs8 (UInt64.ofNat x.e.tm.toNat)) [UInt8.ofNat x.e.act.toNat] x.e.ac x.e.ky x.e.pv (octs (UInt32.ofNat x.e.bo.length)) x.e.bo _ _ _ _ _ _ _ _ _ _ _ _ _ _ _ _ _ _ _ _ _ _ (Row.of_at (at_all (hS126.heap (.head _)))) (Row.of_at (at_all (hS126.heap (.tail _ (.tail _ (.tail _ (.tail _ (.tail _ (.head _))))))))) (Row.of_at (at_all (hS126.heap (.tail _ (.tail _ (.tail _ (.tail _ (.head _)))))))) (Row.of_at (at_all (hS126.heap (.tail _ (.tail _ (.tail _ (.head _))))))) (Row.of_at (at_all (hS126.heap (.tail _ (.head _))))) (Row.of_at (ent_at3 (hS126.heap (.tail _ (.tail _ (.tail _ (.tail _ (.tail _ (.tail _ (.head _)))))))) hx)) (Row.of_at (ent_at19 (hS126.heap (.tail _ (.tail _ (.tail _ (.tail _ (.tail _ (.tail _ (.head _)))))))) hx)) (Row.of_at (ent_at35 (hS126.heap (.tail _ (.tail _ (.tail _ (.tail _ (.tail _ (.tail _ (.head _)))))))) hx)) (Row.of_at (short_at4 (hS126.heap (.tail _ (.tail _ (.head _)))))) (hbo.st hS126) rfl (by simp) (by simp) rfl hac hky hpv (by simp) rfl hx.e.bn) ?_
            rintro _ w127 ⟨a28, c28, rfl, hc28, hx128⟩
            have hS129 := hS126.call hx128
            simp only [List.cons_append, List.nil_append] at hS129; refine wl_val (r_assign (v := .slice _ _ _) rfl) rfl ?_; refine wl_nil ?_; refine c_then ?_; refine wp_ret ?_; refine ret1 Try.results42 ?_
            have eN := EV.L_len hx.e
            have eL : [75, 87, 69, 49] ++ octs8 (UInt64.ofNat x.e.nr.toNat) ++ octs8 (UInt64.ofNat x.e.tm.toNat) ++ [UInt8.ofNat x.e.act.toNat] ++ x.e.ac ++ x.e.ky ++ x.e.pv ++ octs (UInt32.ofNat x.e.bo.length) ++ x.e.bo = x.e.L := by simp only [EV.L, EV.M, EV.H]
            exact ⟨_, _, congrArg (fun n => Value.slice _ n _) eN.symm, by rw [eN]; exact hc28, St.rowTo (hS129.perm ((List.Perm.cons _ ((List.Perm.cons _ ((List.Perm.cons _ ((List.Perm.cons _ ((List.Perm.cons _ ((List.Perm.cons _ ((List.Perm.cons _ (List.Perm.refl _)).trans (List.perm_middle (l₁ := [_])).symm)).trans (List.perm_middle (l₁ := [_])).symm)).trans (List.perm_middle (l₁ := [_])).symm)).trans (List.perm_middle (l₁ := [_])).symm)).trans (List.perm_middle (l₁ := [_])).symm)).trans (List.perm_middle (l₁ := [_])).symm)).trans (List.perm_middle (l₁ := [_])).symm)).drop1.drop1.drop1.drop1.drop1.drop1.drop1 eN.symm (by rw [← eL]; simp)⟩
        · refine o_exv rfl (x_lit (vs := (([UInt8.ofNat x.e.act.toNat] : List UInt8).map b8)) hS107 ti30.und ti5 rfl rfl rfl (by repeat' first | exact one_nil | exact one_b8 _ | exact one_v32 _ | exact one_all rfl | refine one_cons rfl ?_ | refine one_app ?_ ?_) (by decide)) rfl ?_
          rintro _ w130 ⟨b14, rfl, hS131⟩
          refine ⟨hS131.drop1.drop1.drop1.drop1, ?_⟩
          refine g_all (rs := [1, 21]) (by decide +kernel) (by decide +kernel) rfl ?_
          simp only [List.forall_mem_cons, List.not_mem_nil, false_imp_iff, implies_true, and_true]
          refine ⟨?_, ?_⟩
          · refine o_exv rfl (x_mark [_, _, _] hS131 ti30.und ti5.und rfl) rfl ?_
            rintro _ w132 ⟨rfl, hS133⟩; simp only [List.cons_append, List.nil_append] at hS133
            refine ⟨hS133.drop1.drop1.drop1.drop1, ?_⟩
            refine g_one 21 (by decide +kernel) (by decide +kernel) ?_; refine o_call rfl (r_call fn31 rfl rfl) rfl (rshort_ok x.e.bo.length _ (by omega)) ?_; rintro _ w134 ⟨b24, rfl, hx135⟩
            have hS136 := hS133.call hx135
            simp only [List.cons_append, List.nil_append] at hS136
            refine ⟨hS136.drop1.drop1.drop1.drop1.drop1, ?_⟩
            refine g_tail (by decide +kernel) rfl (by decide +kernel) ?_; refine wl_exv (x_lit (vs := [.slice _ _ _, .slice _ _ _, .slice _ _ _, .slice _ _ _, .slice _ _ _, .slice _ _ _, .slice _ _ _, .slice _ _ _, .slice _ _ _]) hS136 ti90.und ti30 rfl rfl rfl (by intro c hc; simp only [List.mem_cons, List.not_mem_nil, or_false] at hc; rcases hc with rfl | rfl | rfl | rfl | rfl | rfl | rfl | rfl | rfl <;> rfl) (by decide)) rfl ?_; rintro _ w137 ⟨b27, rfl, hS138⟩; refine wl_call (r_call fn21 rfl rfl) rfl (concatE_ok [75, 87, 69, 49] (octs8 (UInt64.ofNat x.e.nr.toNat)) (octs8 (UInt64.ofNat x.e.tm.toNat)) [UInt8.ofNat x.e.act.toNat] x.e.ac x.e.ky x.e.pv (octs (UInt32.ofNat x.e.bo.length)) x.e.bo _ _ _ _ _ _ _ _ _ _ _ _ _ _ _ _ _ _ _ _ _ _ (Row.of_at (at_all (hS138.heap (.head _)))) (Row.of_at (at_all (hS138.heap (.tail _ (.tail _ (.tail _ (.tail _ (.tail _ (.head _))))))))) (Row.of_at (at_all (hS138.heap (.tail _ (.tail _ (.tail _ (.tail _ (.head _)))))))) (Row.of_at (at_all (hS138.heap (.tail _ (.tail _ (.tail _ (.head _))))))) (Row.of_at (at_all (hS138.heap (.tail _ (.tail _ (.head _)))))) (Row.of_at (ent_at3 (hS138.heap (.tail _ (.tail _ (.tail _ (.tail _ (.tail _ (.tail _ (.head _)))))))) hx)) (Row.of_at (ent_at19 (hS138.heap (.tail _ (.tail _ (.tail _ (.tail _ (.tail _ (.tail _ (.head _)))))))) hx)) (Row.of_at (ent_at35 (hS138.heap (.tail _ (.tail _ (.tail _ (.tail _ (.tail _ (.tail _ (.head _)))))))) hx)) (Row.of_at (short_at4 (hS138.heap (.tail _ (.head _))))) (hbo.st hS138) rfl (by simp) (by simp) rfl hac hky hpv (by simp) rfl hx.e.bn) ?_
            rintro _ w139 ⟨a28, c28, rfl, hc28, hx140⟩
            have hS141 := hS138.call hx140
            simp only [List.cons_append, List.nil_append] at hS141; refine wl_val (r_assign (v := .slice _ _ _) rfl) rfl ?_; refine wl_nil ?_; refine c_then ?_; refine wp_ret ?_; refine ret1 Try.results42 ?_
            have eN := EV.L_len hx.e
            have eL : [75, 87, 69, 49] ++ octs8 (UInt64.ofNat x.e.nr.toNat) ++ octs8 (UInt64.ofNat x.e.tm.toNat) ++ [UInt8.ofNat x.e.act.toNat] ++ x.e.ac ++ x.e.ky ++ x.e.pv ++ octs (UInt32.ofNat x.e.bo.length) ++ x.e.bo = x.e.L := by simp only [EV.L, EV.M, EV.H]
            exact ⟨_, _, congrArg (fun n => Value.slice _ n _) eN.symm, by rw [eN]; exact hc28, St.rowTo (hS141.perm ((List.Perm.cons _ ((List.Perm.cons _ ((List.Perm.cons _ ((List.Perm.cons _ ((List.Perm.cons _ ((List.Perm.cons _ ((List.Perm.cons _ (List.Perm.refl _)).trans (List.perm_middle (l₁ := [_])).symm)).trans (List.perm_middle (l₁ := [_])).symm)).trans (List.perm_middle (l₁ := [_])).symm)).trans (List.perm_middle (l₁ := [_])).symm)).trans (List.perm_middle (l₁ := [_])).symm)).trans (List.perm_middle (l₁ := [_])).symm)).trans (List.perm_middle (l₁ := [_])).symm)).drop1.drop1.drop1.drop1.drop1.drop1.drop1 eN.symm (by rw [← eL]; simp)⟩
          · refine o_call rfl (r_call fn31 rfl rfl) rfl (rshort_ok x.e.bo.length _ (by omega)) ?_
            rintro _ w142 ⟨b24, rfl, hx143⟩
            have hS144 := hS131.call hx143
            simp only [List.cons_append, List.nil_append] at hS144
            refine ⟨hS144.drop1.drop1.drop1.drop1.drop1, ?_⟩
            refine g_one 1 (by decide +kernel) (by decide +kernel) ?_; refine o_exv rfl (x_mark [_, _, _, _] hS144 ti30.und ti5.und rfl) rfl ?_; rintro _ w145 ⟨rfl, hS146⟩; simp only [List.cons_append, List.nil_append] at hS146
            refine ⟨hS146.drop1.drop1.drop1.drop1.drop1, ?_⟩
            refine g_tail (by decide +kernel) rfl (by decide +kernel) ?_; refine wl_exv (x_lit (vs := [.slice _ _ _, .slice _ _ _, .slice _ _ _, .slice _ _ _, .slice _ _ _, .slice _ _ _, .slice _ _ _, .slice _ _ _, .slice _ _ _]) hS146 ti90.und ti30 rfl rfl rfl (by intro c hc; simp only [List.mem_cons, List.not_mem_nil, or_false] at hc; rcases hc with rfl | rfl | rfl | rfl | rfl | rfl | rfl | rfl | rfl <;> rfl) (by decide)) rfl ?_; rintro _ w147 ⟨b27, rfl, hS148⟩; refine wl_call (r_call fn21 rfl rfl) rfl (concatE_ok [75, 87, 69, 49] (octs8 (UInt64.ofNat x.e.nr.toNat)) (octs8 (UInt64.ofNat x.e.tm.toNat)) [UInt8.ofNat x.e.act.toNat] x.e.ac x.e.ky x.e.pv (octs (UInt32.ofNat x.e.bo.length)) x.e.bo _ _ _ _ _ _ _ _ _ _ _ _ _ _ _ _ _ _ _ _ _ _ (Row.of_at (at_all (hS148.heap (.head _)))) (Row.of_at (at_all (hS148.heap (.tail _ (.tail _ (.tail _ (.tail _ (.tail _ (.head _))))))))) (Row.of_at (at_all (hS148.heap (.tail _ (.tail _ (.tail _ (.tail _ (.head _)))))))) (Row.of_at (at_all (hS148.heap (.tail _ (.tail _ (.tail _ (.head _))))))) (Row.of_at (at_all (hS148.heap (.tail _ (.tail _ (.head _)))))) (Row.of_at (ent_at3 (hS148.heap (.tail _ (.tail _ (.tail _ (.tail _ (.tail _ (.tail _ (.head _)))))))) hx)) (Row.of_at (ent_at19 (hS148.heap (.tail _ (.tail _ (.tail _ (.tail _ (.tail _ (.tail _ (.head _)))))))) hx)) (Row.of_at (ent_at35 (hS148.heap (.tail _ (.tail _ (.tail _ (.tail _ (.tail _ (.tail _ (.head _)))))))) hx)) (Row.of_at (short_at4 (hS148.heap (.tail _ (.head _))))) (hbo.st hS148) rfl (by simp) (by simp) rfl hac hky hpv (by simp) rfl hx.e.bn) ?_
            rintro _ w149 ⟨a28, c28, rfl, hc28, hx150⟩
            have hS151 := hS148.call hx150
            simp only [List.cons_append, List.nil_append] at hS151; refine wl_val (r_assign (v := .slice _ _ _) rfl) rfl ?_; refine wl_nil ?_; refine c_then ?_; refine wp_ret ?_; refine ret1 Try.results42 ?_
            have eN := EV.L_len hx.e
            have eL : [75, 87, 69, 49] ++ octs8 (UInt64.ofNat x.e.nr.toNat) ++ octs8 (UInt64.ofNat x.e.tm.toNat) ++ [UInt8.ofNat x.e.act.toNat] ++ x.e.ac ++ x.e.ky ++ x.e.pv ++ octs (UInt32.ofNat x.e.bo.length) ++ x.e.bo = x.e.L := by simp only [EV.L, EV.M, EV.H]
            exact ⟨_, _, congrArg (fun n => Value.slice _ n _) eN.symm, by rw [eN]; exact hc28, St.rowTo (hS151.perm ((List.Perm.cons _ ((List.Perm.cons _ ((List.Perm.cons _ ((List.Perm.cons _ ((List.Perm.cons _ ((List.Perm.cons _ ((List.Perm.cons _ (List.Perm.refl _)).trans (List.perm_middle (l₁ := [_])).symm)).trans (List.perm_middle (l₁ := [_])).symm)).trans (List.perm_middle (l₁ := [_])).symm)).trans (List.perm_middle (l₁ := [_])).symm)).trans (List.perm_middle (l₁ := [_])).symm)).trans (List.perm_middle (l₁ := [_])).symm)).trans (List.perm_middle (l₁ := [_])).symm)).drop1.drop1.drop1.drop1.drop1.drop1.drop1 eN.symm (by rw [← eL]; simp)⟩
        · refine o_call rfl (r_call fn31 rfl rfl) rfl (rshort_ok x.e.bo.length _ (by omega)) ?_
          rintro _ w152 ⟨b24, rfl, hx153⟩
          have hS154 := hS107.call hx153
          simp only [List.cons_append, List.nil_append] at hS154
          refine ⟨hS154.drop1.drop1.drop1.drop1, ?_⟩
          refine g_all (rs := [1, 11]) (by decide +kernel) (by decide +kernel) rfl ?_
          simp only [List.forall_mem_cons, List.not_mem_nil, false_imp_iff, implies_true, and_true]
          refine ⟨?_, ?_⟩
          · refine o_exv rfl (x_mark [_, _, _] hS154 ti30.und ti5.und rfl) rfl ?_
            rintro _ w155 ⟨rfl, hS156⟩; simp only [List.cons_append, List.nil_append] at hS156
            refine ⟨hS156.drop1.drop1.drop1.drop1, ?_⟩
            refine g_one 11 (by decide +kernel) (by decide +kernel) ?_; refine o_exv rfl (x_lit (vs := (([UInt8.ofNat x.e.act.toNat] : List UInt8).map b8)) hS156 ti30.und ti5 rfl rfl rfl (by repeat' first | exact one_nil | exact one_b8 _ | exact one_v32 _ | exact one_all rfl | refine one_cons rfl ?_ | refine one_app ?_ ?_) (by decide)) rfl ?_; rintro _ w157 ⟨b14, rfl, hS158⟩
            refine ⟨hS158.drop1.drop1.drop1.drop1.drop1, ?_⟩
            refine g_tail (by decide +kernel) rfl (by decide +kernel) ?_; refine wl_exv (x_lit (vs := [.slice _ _ _, .slice _ _ _, .slice _ _ _, .slice _ _ _, .slice _ _ _, .slice _ _ _, .slice _ _ _, .slice _ _ _, .slice _ _ _]) hS158 ti90.und ti30 rfl rfl rfl (by intro c hc; simp only [List.mem_cons, List.not_mem_nil, or_false] at hc; rcases hc with rfl | rfl | rfl | rfl | rfl | rfl | rfl | rfl | rfl <;> rfl) (by decide)) rfl ?_; rintro _ w159 ⟨b27, rfl, hS160⟩; refine wl_call (r_call fn21 rfl rfl) rfl (concatE_ok [75, 87, 69, 49] (octs8 (UInt64.ofNat x.e.nr.toNat)) (octs8 (UInt64.ofNat x.e.tm.toNat)) [UInt8.ofNat x.e.act.toNat] x.e.ac x.e.ky x.e.pv (octs (UInt32.ofNat x.e.bo.length)) x.e.bo _ _ _ _ _ _ _ _ _ _ _ _ _ _ _ _ _ _ _ _ _ _ (Row.of_at (at_all (hS160.heap (.head _)))) (Row.of_at (at_all (hS160.heap (.tail _ (.tail _ (.tail _ (.tail _ (.tail _ (.head _))))))))) (Row.of_at (at_all (hS160.heap (.tail _ (.tail _ (.tail _ (.tail _ (.head _)))))))) (Row.of_at (at_all (hS160.heap (.tail _ (.tail _ (.tail _ (.head _))))))) (Row.of_at (at_all (hS160.heap (.tail _ (.head _))))) (Row.of_at (ent_at3 (hS160.heap (.tail _ (.tail _ (.tail _ (.tail _ (.tail _ (.tail _ (.head _)))))))) hx)) (Row.of_at (ent_at19 (hS160.heap (.tail _ (.tail _ (.tail _ (.tail _ (.tail _ (.tail _ (.head _)))))))) hx)) (Row.of_at (ent_at35 (hS160.heap (.tail _ (.tail _ (.tail _ (.tail _ (.tail _ (.tail _ (.head _)))))))) hx)) (Row.of_at (short_at4 (hS160.heap (.tail _ (.tail _ (.head _)))))) (hbo.st hS160) rfl (by simp) (by simp) rfl hac hky hpv (by simp) rfl hx.e.bn) ?_
            rintro _ w161 ⟨a28, c28, rfl, hc28, hx162⟩
            have hS163 := hS160.call hx162
            simp only [List.cons_append, List.nil_append] at hS163; refine wl_val (r_assign (v := .slice _ _ _) rfl) rfl ?_; refine wl_nil ?_; refine c_then ?_; refine wp_ret ?_; refine ret1 Try.results42 ?_
            have eN := EV.L_len hx.e
            have eL : [75, 87, 69, 49] ++ octs8 (UInt64.ofNat x.e.nr.toNat) ++ octs8 (UInt64.ofNat x.e.tm.toNat) ++ [UInt8.ofNat x.e.act.toNat] ++ x.e.ac ++ x.e.ky ++ x.e.pv ++ octs (UInt32.ofNat x.e.bo.length) ++ x.e.bo = x.e.L := by simp only [EV.L, EV.M, EV.H]
            exact ⟨_, _, congrArg (fun n => Value.slice _ n _) eN.symm, by rw [eN]; exact hc28, St.rowTo (hS163.perm ((List.Perm.cons _ ((List.Perm.cons _ ((List.Perm.cons _ ((List.Perm.cons _ ((List.Perm.cons _ ((List.Perm.cons _ ((List.Perm.cons _ (List.Perm.refl _)).trans (List.perm_middle (l₁ := [_])).symm)).trans (List.perm_middle (l₁ := [_])).symm)).trans (List.perm_middle (l₁ := [_])).symm)).trans (List.perm_middle (l₁ := [_])).symm)).trans (List.perm_middle (l₁ := [_])).symm)).trans (List.perm_middle (l₁ := [_])).symm)).trans (List.perm_middle (l₁ := [_])).symm)).drop1.drop1.drop1.drop1.drop1.drop1.drop1 eN.symm (by rw [← eL]; simp)⟩
          · refine o_exv rfl (x_lit (vs := (([UInt8.ofNat x.e.act.toNat] : List UInt8).map b8)) hS154 ti30.und ti5 rfl rfl rfl (by repeat' first | exact one_nil | exact one_b8 _ | exact one_v32 _ | exact one_all rfl | refine one_cons rfl ?_ | refine one_app ?_ ?_) (by decide)) rfl ?_
            rintro _ w164 ⟨b14, rfl, hS165⟩
            refine ⟨hS165.drop1.drop1.drop1.drop1.drop1, ?_⟩
            refine g_one 1 (by decide +kernel) (by decide +kernel) ?_; refine o_exv rfl (x_mark [_, _, _, _] hS165 ti30.und ti5.und rfl) rfl ?_; rintro _ w166 ⟨rfl, hS167⟩; simp only [List.cons_append, List.nil_append] at hS167
            refine ⟨hS167.drop1.drop1.drop1.drop1.drop1, ?_⟩
            refine g_tail (by decide +kernel) rfl (by decide +kernel) ?_; refine wl_exv (x_lit (vs := [.slice _ _ _, .slice _ _ _, .slice _ _ _, .slice _ _ _, .slice _ _ _, .slice _ _ _, .slice _ _ _, .slice _ _ _, .slice _ _ _]) hS167 ti90.und ti30 rfl rfl rfl (by intro c hc; simp only [List.mem_cons, List.not_mem_nil, or_false] at hc; rcases hc with rfl | rfl | rfl | rfl | rfl | rfl | rfl | rfl | rfl <;> rfl) (by decide)) rfl ?_; rintro _ w168 ⟨b27, rfl, hS169⟩; refine wl_call (r_call fn21 rfl rfl) rfl (concatE_ok [75, 87, 69, 49] (octs8 (UInt64.ofNat x.e.nr.toNat)) (octs8 (UInt64.ofNat x.e.tm.toNat)) [UInt8.ofNat x.e.act.toNat] x.e.ac x.e.ky x.e.pv (octs (UInt32.ofNat x.e.bo.length)) x.e.bo _ _ _ _ _ _ _ _ _ _ _ _ _ _ _ _ _ _ _ _ _ _ (Row.of_at (at_all (hS169.heap (.head _)))) (Row.of_at (at_all (hS169.heap (.tail _ (.tail _ (.tail _ (.tail _ (.tail _ (.head _))))))))) (Row.of_at (at_all (hS169.heap (.tail _ (.tail _ (.tail _ (.tail _ (.head _)))))))) (Row.of_at (at_all (hS169.heap (.tail _ (.tail _ (.tail _ (.head _))))))) (Row.of_at (at_all (hS169.heap (.tail _ (.head _))))) (Row.of_at (ent_at3 (hS169.heap (.tail _ (.tail _ (.tail _ (.tail _ (.tail _ (.tail _ (.head _)))))))) hx)) (Row.of_at (ent_at19 (hS169.heap (.tail _ (.tail _ (.tail _ (.tail _ (.tail _ (.tail _ (.head _)))))))) hx)) (Row.of_at (ent_at35 (hS169.heap (.tail _ (.tail _ (.tail _ (.tail _ (.tail _ (.tail _ (.head _)))))))) hx)) (Row.of_at (short_at4 (hS169.heap (.tail _ (.tail _ (.head _)))))) (hbo.st hS169) rfl (by simp) (by simp) rfl hac hky hpv (by simp) rfl hx.e.bn) ?_
            rintro _ w170 ⟨a28, c28, rfl, hc28, hx171⟩
            have hS172 := hS169.call hx171
            simp only [List.cons_append, List.nil_append] at hS172; refine wl_val (r_assign (v := .slice _ _ _) rfl) rfl ?_; refine wl_nil ?_; refine c_then ?_; refine wp_ret ?_; refine ret1 Try.results42 ?_
            have eN := EV.L_len hx.e
            have eL : [75, 87, 69, 49] ++ octs8 (UInt64.ofNat x.e.nr.toNat) ++ octs8 (UInt64.ofNat x.e.tm.toNat) ++ [UInt8.ofNat x.e.act.toNat] ++ x.e.ac ++ x.e.ky ++ x.e.pv ++ octs (UInt32.ofNat x.e.bo.length) ++ x.e.bo = x.e.L := by simp only [EV.L, EV.M, EV.H]
            exact ⟨_, _, congrArg (fun n => Value.slice _ n _) eN.symm, by rw [eN]; exact hc28, St.rowTo (hS172.perm ((List.Perm.cons _ ((List.Perm.cons _ ((List.Perm.cons _ ((List.Perm.cons _ ((List.Perm.cons _ ((List.Perm.cons _ ((List.Perm.cons _ (List.Perm.refl _)).trans (List.perm_middle (l₁ := [_])).symm)).trans (List.perm_middle (l₁ := [_])).symm)).trans (List.perm_middle (l₁ := [_])).symm)).trans (List.perm_middle (l₁ := [_])).symm)).trans (List.perm_middle (l₁ := [_])).symm)).trans (List.perm_middle (l₁ := [_])).symm)).trans (List.perm_middle (l₁ := [_])).symm)).drop1.drop1.drop1.drop1.drop1.drop1.drop1 eN.symm (by rw [← eL]; simp)⟩
      · refine o_exv rfl (x_lit (vs := (([UInt8.ofNat x.e.act.toNat] : List UInt8).map b8)) hS66 ti30.und ti5 rfl rfl rfl (by repeat' first | exact one_nil | exact one_b8 _ | exact one_v32 _ | exact one_all rfl | refine one_cons rfl ?_ | refine one_app ?_ ?_) (by decide)) rfl ?_
        rintro _ w173 ⟨b14, rfl, hS174⟩
        refine ⟨hS174.drop1.drop1.drop1, ?_⟩
        refine g_all (rs := [1, 7]) (by decide +kernel) (by decide +kernel) rfl ?_
        simp only [List.forall_mem_cons, List.not_mem_nil, false_imp_iff, implies_true, and_true]
        refine ⟨?_, ?_⟩
        · refine o_exv rfl (x_mark [_, _] hS174 ti30.und ti5.und rfl) rfl ?_
          rintro _ w175 ⟨rfl, hS176⟩; simp only [List.cons_append, List.nil_append] at hS176
          refine ⟨hS176.drop1.drop1.drop1, ?_⟩
          refine g_one 7 (by decide +kernel) (by decide +kernel) ?_; refine o_call rfl (r_call fn33 rfl rfl) rfl (rlong_z x.e.tm _ (by omega) (by omega)) ?_; rintro _ w177 ⟨b10, rfl, hx178⟩
          have hS179 := hS176.call hx178
          simp only [List.cons_append, List.nil_append] at hS179
          refine ⟨hS179.drop1.drop1.drop1.drop1, ?_⟩
          refine g_one 21 (by decide +kernel) (by decide +kernel) ?_; refine o_call rfl (r_call fn31 rfl rfl) rfl (rshort_ok x.e.bo.length _ (by omega)) ?_; rintro _ w180 ⟨b24, rfl, hx181⟩
          have hS182 := hS179.call hx181
          simp only [List.cons_append, List.nil_append] at hS182
          refine ⟨hS182.drop1.drop1.drop1.drop1.drop1, ?_⟩
          refine g_tail (by decide +kernel) rfl (by decide +kernel) ?_; refine wl_exv (x_lit (vs := [.slice _ _ _, .slice _ _ _, .slice _ _ _, .slice _ _ _, .slice _ _ _, .slice _ _ _, .slice _ _ _, .slice _ _ _, .slice _ _ _]) hS182 ti90.und ti30 rfl rfl rfl (by intro c hc; simp only [List.mem_cons, List.not_mem_nil, or_false] at hc; rcases hc with rfl | rfl | rfl | rfl | rfl | rfl | rfl | rfl | rfl <;> rfl) (by decide)) rfl ?_; rintro _ w183 ⟨b27, rfl, hS184⟩; refine wl_call (r_call fn21 rfl rfl) rfl (concatE_ok [75, 87, 69, 49] (octs8 (UInt64.ofNat x.e.nr.toNat)) (octs8 (UInt64.ofNat x.e.tm.toNat)) [UInt8.ofNat x.e.act.toNat] x.e.ac x.e.ky x.e.pv (octs (UInt32.ofNat x.e.bo.length)) x.e.bo _ _ _ _ _ _ _ _ _ _ _ _ _ _ _ _ _ _ _ _ _ _ (Row.of_at (at_all (hS184.heap (.head _)))) (Row.of_at (at_all (hS184.heap (.tail _ (.tail _ (.tail _ (.tail _ (.tail _ (.head _))))))))) (Row.of_at (at_all (hS184.heap (.tail _ (.tail _ (.tail _ (.tail _ (.head _)))))))) (Row.of_at (at_all (hS184.heap (.tail _ (.tail _ (.head _)))))) (Row.of_at (at_all (hS184.heap (.tail _ (.tail _ (.tail _ (.head _))))))) (Row.of_at (ent_at3 (hS184.heap (.tail _ (.tail _ (.tail _ (.tail _ (.tail _ (.tail _ (.head _)))))))) hx)) (Row.of_at (ent_at19 (hS184.heap (.tail _ (.tail _ (.tail _ (.tail _ (.tail _ (.tail _ (.head _)))))))) hx)) (Row.of_at (ent_at35 (hS184.heap (.tail _ (.tail _ (.tail _ (.tail _ (.tail _ (.tail _ (.head _)))))))) hx)) (Row.of_at (short_at4 (hS184.heap (.tail _ (.head _))))) (hbo.st hS184) rfl (by simp) (by simp) rfl hac hky hpv (by simp) rfl hx.e.bn) ?_
          rintro _ w185 ⟨a28, c28, rfl, hc28, hx186⟩
          have hS187 := hS184.call hx186
          simp only [List.cons_append, List.nil_append] at hS187; refine wl_val (r_assign (v := .slice _ _ _) rfl) rfl ?_; refine wl_nil ?_; refine c_then ?_; refine wp_ret ?_; refine ret1 Try.results42 ?_
          have eN := EV.L_len hx.e
          have eL : [75, 87, 69, 49] ++ octs8 (UInt64.ofNat x.e.nr.toNat) ++ octs8 (UInt64.ofNat x.e.tm.toNat) ++ [UInt8.ofNat x.e.act.toNat] ++ x.e.ac ++ x.e.ky ++ x.e.pv ++ octs (UInt32.ofNat x.e.bo.length) ++ x.e.bo = x.e.L := by simp only [EV.L, EV.M, EV.H]
          exact ⟨_, _, congrArg (fun n => Value.slice _ n _) eN.symm, by rw [eN]; exact hc28, St.rowTo (hS187.perm ((List.Perm.cons _ ((List.Perm.cons _ ((List.Perm.cons _ ((List.Perm.cons _ ((List.Perm.cons _ ((List.Perm.cons _ ((List.Perm.cons _ (List.Perm.refl _)).trans (List.perm_middle (l₁ := [_])).symm)).trans (List.perm_middle (l₁ := [_])).symm)).trans (List.perm_middle (l₁ := [_])).symm)).trans (List.perm_middle (l₁ := [_])).symm)).trans (List.perm_middle (l₁ := [_])).symm)).trans (List.perm_middle (l₁ := [_])).symm)).trans (List.perm_middle (l₁ := [_])).symm)).drop1.drop1.drop1.drop1.drop1.drop1.drop1 eN.symm (by rw [← eL]; simp)⟩
        · refine o_call rfl (r_call fn33 rfl rfl) rfl (rlong_z x.e.tm _ (by omega) (by omega)) ?_
          rintro _ w188 ⟨b10, rfl, hx189⟩
          have hS190 := hS174.call hx189
          simp only [List.cons_append, List.nil_append] at hS190
          refine ⟨hS190.drop1.drop1.drop1.drop1, ?_⟩
          refine g_all (rs := [1, 21]) (by decide +kernel) (by decide +kernel) rfl ?_
          simp only [List.forall_mem_cons, List.not_mem_nil, false_imp_iff, implies_true, and_true]
          refine ⟨?_, ?_⟩
          · refine o_exv rfl (x_mark [_, _, _] hS190 ti30.und ti5.und rfl) rfl ?_
            rintro _ w191 ⟨rfl, hS192⟩; simp only [List.cons_append, List.nil_append] at hS192
            refine ⟨hS192.drop1.drop1.drop1.drop1, ?_⟩
            refine g_one 21 (by decide +kernel) (by decide +kernel) ?_; refine o_call rfl (r_call fn31 rfl rfl) rfl (rshort_ok x.e.bo.length _ (by omega)) ?_; rintro _ w193 ⟨b24, rfl, hx194⟩
            have hS195 := hS192.call hx194
            simp only [List.cons_append, List.nil_append] at hS195
            refine ⟨hS195.drop1.drop1.drop1.drop1.drop1, ?_⟩
            refine g_tail (by decide +kernel) rfl (by decide +kernel) ?_; refine wl_exv (x_lit (vs := [.slice _ _ _, .slice _ _ _, .slice _ _ _, .slice _ _ _, .slice _ _ _, .slice _ _ _, .slice _ _ _, .slice _ _ _, .slice _ _ _]) hS195 ti90.und ti30 rfl rfl rfl (by intro c hc; simp only [List.mem_cons, List.not_mem_nil, or_false] at hc; rcases hc with rfl | rfl | rfl | rfl | rfl | rfl | rfl | rfl | rfl <;> rfl) (by decide)) rfl ?_; rintro _ w196 ⟨b27, rfl, hS197⟩; refine wl_call (r_call fn21 rfl rfl) rfl (concatE_ok [75, 87, 69, 49] (octs8 (UInt64.ofNat x.e.nr.toNat)) (octs8 (UInt64.ofNat x.e.tm.toNat)) [UInt8.ofNat x.e.act.toNat] x.e.ac x.e.ky x.e.pv (octs (UInt32.ofNat x.e.bo.length)) x.e.bo _ _ _ _ _ _ _ _ _ _ _ _ _ _ _ _ _ _ _ _ _ _ (Row.of_at (at_all (hS197.heap (.head _)))) (Row.of_at (at_all (hS197.heap (.tail _ (.tail _ (.tail _ (.tail _ (.tail _ (.head _))))))))) (Row.of_at (at_all (hS197.heap (.tail _ (.tail _ (.tail _ (.tail _ (.head _)))))))) (Row.of_at (at_all (hS197.heap (.tail _ (.tail _ (.head _)))))) (Row.of_at (at_all (hS197.heap (.tail _ (.tail _ (.tail _ (.head _))))))) (Row.of_at (ent_at3 (hS197.heap (.tail _ (.tail _ (.tail _ (.tail _ (.tail _ (.tail _ (.head _)))))))) hx)) (Row.of_at (ent_at19 (hS197.heap (.tail _ (.tail _ (.tail _ (.tail _ (.tail _ (.tail _ (.head _)))))))) hx)) (Row.of_at (ent_at35 (hS197.heap (.tail _ (.tail _ (.tail _ (.tail _ (.tail _ (.tail _ (.head _)))))))) hx)) (Row.of_at (short_at4 (hS197.heap (.tail _ (.head _))))) (hbo.st hS197) rfl (by simp) (by simp) rfl hac hky hpv (by simp) rfl hx.e.bn) ?_
            rintro _ w198 ⟨a28, c28, rfl, hc28, hx199⟩
            have hS200 := hS197.call hx199
            simp only [List.cons_append, List.nil_append] at hS200; refine wl_val (r_assign (v := .slice _ _ _) rfl) rfl ?_; refine wl_nil ?_; refine c_then ?_; refine wp_ret ?_; refine ret1 Try.results42 ?_
            have eN := EV.L_len hx.e
            have eL : [75, 87, 69, 49] ++ octs8 (UInt64.ofNat x.e.nr.toNat) ++ octs8 (UInt64.ofNat x.e.tm.toNat) ++ [UInt8.ofNat x.e.act.toNat] ++ x.e.ac ++ x.e.ky ++ x.e.pv ++ octs (UInt32.ofNat x.e.bo.length) ++ x.e.bo = x.e.L := by simp only [EV.L, EV.M, EV.H]
            exact ⟨_, _, congrArg (fun n => Value.slice _ n _) eN.symm, by rw [eN]; exact hc28, St.rowTo (hS200.perm ((List.Perm.cons _ ((List.Perm.cons _ ((List.Perm.cons _ ((List.Perm.cons _ ((List.Perm.cons _ ((List.Perm.cons _ ((List.Perm.cons _ (List.Perm.refl _)).trans (List.perm_middle (l₁ := [_])).symm)).trans (List.perm_middle (l₁ := [_])).symm)).trans (List.perm_middle (l₁ := [_])).symm)).trans (List.perm_middle (l₁ := [_])).symm)).trans (List.perm_middle (l₁ := [_])).symm)).trans (List.perm_middle (l₁ := [_])).symm)).trans (List.perm_middle (l₁ := [_])).symm)).drop1.drop1.drop1.drop1.drop1.drop1.drop1 eN.symm (by rw [← eL]; simp)⟩
          · refine o_call rfl (r_call fn31 rfl rfl) rfl (rshort_ok x.e.bo.length _ (by omega)) ?_
            rintro _ w201 ⟨b24, rfl, hx202⟩
            have hS203 := hS190.call hx202
            simp only [List.cons_append, List.nil_append] at hS203
            refine ⟨hS203.drop1.drop1.drop1.drop1.drop1, ?_⟩
            refine g_one 1 (by decide +kernel) (by decide +kernel) ?_; refine o_exv rfl (x_mark [_, _, _, _] hS203 ti30.und ti5.und rfl) rfl ?_; rintro _ w204 ⟨rfl, hS205⟩; simp only [List.cons_append, List.nil_append] at hS205
            refine ⟨hS205.drop1.drop1.drop1.drop1.drop1, ?_⟩
            refine g_tail (by decide +kernel) rfl (by decide +kernel) ?_; refine wl_exv (x_lit (vs := [.slice _ _ _, .slice _ _ _, .slice _ _ _, .slice _ _ _, .slice _ _ _, .slice _ _ _, .slice _ _ _, .slice _ _ _, .slice _ _ _]) hS205 ti90.und ti30 rfl rfl rfl (by intro c hc; simp only [List.mem_cons, List.not_mem_nil, or_false] at hc; rcases hc with rfl | rfl | rfl | rfl | rfl | rfl | rfl | rfl | rfl <;> rfl) (by decide)) rfl ?_; rintro _ w206 ⟨b27, rfl, hS207⟩; refine wl_call (r_call fn21 rfl rfl) rfl (concatE_ok [75, 87, 69, 49] (octs8 (UInt64.ofNat x.e.nr.toNat)) (octs8 (UInt64.ofNat x.e.tm.toNat)) [UInt8.ofNat x.e.act.toNat] x.e.ac x.e.ky x.e.pv (octs (UInt32.ofNat x.e.bo.length)) x.e.bo _ _ _ _ _ _ _ _ _ _ _ _ _ _ _ _ _ _ _ _ _ _ (Row.of_at (at_all (hS207.heap (.head _)))) (Row.of_at (at_all (hS207.heap (.tail _ (.tail _ (.tail _ (.tail _ (.tail _ (.head _))))))))) (Row.of_at (at_all (hS207.heap (.tail _ (.tail _ (.tail _ (.tail _ (.head _)))))))) (Row.of_at (at_all (hS207.heap (.tail _ (.tail _ (.head _)))))) (Row.of_at (at_all (hS207.heap (.tail _ (.tail _ (.tail _ (.head _))))))) (Row.of_at (ent_at3 (hS207.heap (.tail _ (.tail _ (.tail _ (.tail _ (.tail _ (.tail _ (.head _)))))))) hx)) (Row.of_at (ent_at19 (hS207.heap (.tail _ (.tail _ (.tail _ (.tail _ (.tail _ (.tail _ (.head _)))))))) hx)) (Row.of_at (ent_at35 (hS207.heap (.tail _ (.tail _ (.tail _ (.tail _ (.tail _ (.tail _ (.head _)))))))) hx)) (Row.of_at (short_at4 (hS207.heap (.tail _ (.head _))))) (hbo.st hS207) rfl (by simp) (by simp) rfl hac hky hpv (by simp) rfl hx.e.bn) ?_
            rintro _ w208 ⟨a28, c28, rfl, hc28, hx209⟩
            have hS210 := hS207.call hx209
            simp only [List.cons_append, List.nil_append] at hS210; refine wl_val (r_assign (v := .slice _ _ _) rfl) rfl ?_; refine wl_nil ?_; refine c_then ?_; refine wp_ret ?_; refine ret1 Try.results42 ?_
            have eN := EV.L_len hx.e
            have eL : [75, 87, 69, 49] ++ octs8 (UInt64.ofNat x.e.nr.toNat) ++ octs8 (UInt64.ofNat x.e.tm.toNat) ++ [UInt8.ofNat x.e.act.toNat] ++ x.e.ac ++ x.e.ky ++ x.e.pv ++ octs (UInt32.ofNat x.e.bo.length) ++ x.e.bo = x.e.L := by simp only [EV.L, EV.M, EV.H]
            exact ⟨_, _, congrArg (fun n => Value.slice _ n _) eN.symm, by rw [eN]; exact hc28, St.rowTo (hS210.perm ((List.Perm.cons _ ((List.Perm.cons _ ((List.Perm.cons _ ((List.Perm.cons _ ((List.Perm.cons _ ((List.Perm.cons _ ((List.Perm.cons _ (List.Perm.refl _)).trans (List.perm_middle (l₁ := [_])).symm)).trans (List.perm_middle (l₁ := [_])).symm)).trans (List.perm_middle (l₁ := [_])).symm)).trans (List.perm_middle (l₁ := [_])).symm)).trans (List.perm_middle (l₁ := [_])).symm)).trans (List.perm_middle (l₁ := [_])).symm)).trans (List.perm_middle (l₁ := [_])).symm)).drop1.drop1.drop1.drop1.drop1.drop1.drop1 eN.symm (by rw [← eL]; simp)⟩
    · refine o_exv rfl (x_lit (vs := (([UInt8.ofNat x.e.act.toNat] : List UInt8).map b8)) hS6 ti30.und ti5 rfl rfl rfl (by repeat' first | exact one_nil | exact one_b8 _ | exact one_v32 _ | exact one_all rfl | refine one_cons rfl ?_ | refine one_app ?_ ?_) (by decide)) rfl ?_
      rintro _ w211 ⟨b14, rfl, hS212⟩
      refine ⟨hS212.drop1.drop1, ?_⟩
      refine g_all (rs := [1, 4]) (by decide +kernel) (by decide +kernel) rfl ?_
      simp only [List.forall_mem_cons, List.not_mem_nil, false_imp_iff, implies_true, and_true]
      refine ⟨?_, ?_⟩
      · refine o_exv rfl (x_mark [_] hS212 ti30.und ti5.und rfl) rfl ?_
        rintro _ w213 ⟨rfl, hS214⟩; simp only [List.cons_append, List.nil_append] at hS214
        refine ⟨hS214.drop1.drop1, ?_⟩
        refine g_one 4 (by decide +kernel) (by decide +kernel) ?_; refine o_call rfl (r_call fn33 rfl rfl) rfl (rlong_z x.e.nr _ (by omega) (by omega)) ?_; rintro _ w215 ⟨b7, rfl, hx216⟩
        have hS217 := hS214.call hx216
        simp only [List.cons_append, List.nil_append] at hS217
        refine ⟨hS217.drop1.drop1.drop1, ?_⟩
        refine g_one 7 (by decide +kernel) (by decide +kernel) ?_; refine o_call rfl (r_call fn33 rfl rfl) rfl (rlong_z x.e.tm _ (by omega) (by omega)) ?_; rintro _ w218 ⟨b10, rfl, hx219⟩
        have hS220 := hS217.call hx219
        simp only [List.cons_append, List.nil_append] at hS220
        refine ⟨hS220.drop1.drop1.drop1.drop1, ?_⟩
        refine g_one 21 (by decide +kernel) (by decide +kernel) ?_; refine o_call rfl (r_call fn31 rfl rfl) rfl (rshort_ok x.e.bo.length _ (by omega)) ?_; rintro _ w221 ⟨b24, rfl, hx222⟩
        have hS223 := hS220.call hx222
        simp only [List.cons_append, List.nil_append] at hS223
        refine ⟨hS223.drop1.drop1.drop1.drop1.drop1, ?_⟩
        refine g_tail (by decide +kernel) rfl (by decide +kernel) ?_; refine wl_exv (x_lit (vs := [.slice _ _ _, .slice _ _ _, .slice _ _ _, .slice _ _ _, .slice _ _ _, .slice _ _ _, .slice _ _ _, .slice _ _ _, .slice _ _ _]) hS223 ti90.und ti30 rfl rfl rfl (by intro c hc; simp only [List.mem_cons, List.not_mem_nil, or_false] at hc; rcases hc with rfl | rfl | rfl | rfl | rfl | rfl | rfl | rfl | rfl <;> rfl) (by decide)) rfl ?_; rintro _ w224 ⟨b27, rfl, hS225⟩; refine wl_call (r_call fn21 rfl rfl) rfl (concatE_ok [75, 87, 69, 49] (octs8 (UInt64.ofNat x.e.nr.toNat)) (octs8 (UInt64.ofNat x.e.tm.toNat)) [UInt8.ofNat x.e.act.toNat] x.e.ac x.e.ky x.e.pv (octs (UInt32.ofNat x.e.bo.length)) x.e.bo _ _ _ _ _ _ _ _ _ _ _ _ _ _ _ _ _ _ _ _ _ _ (Row.of_at (at_all (hS225.heap (.head _)))) (Row.of_at (at_all (hS225.heap (.tail _ (.tail _ (.tail _ (.tail _ (.tail _ (.head _))))))))) (Row.of_at (at_all (hS225.heap (.tail _ (.tail _ (.tail _ (.head _))))))) (Row.of_at (at_all (hS225.heap (.tail _ (.tail _ (.head _)))))) (Row.of_at (at_all (hS225.heap (.tail _ (.tail _ (.tail _ (.tail _ (.head _)))))))) (Row.of_at (ent_at3 (hS225.heap (.tail _ (.tail _ (.tail _ (.tail _ (.tail _ (.tail _ (.head _)))))))) hx)) (Row.of_at (ent_at19 (hS225.heap (.tail _ (.tail _ (.tail _ (.tail _ (.tail _ (.tail _ (.head _)))))))) hx)) (Row.of_at (ent_at35 (hS225.heap (.tail _ (.tail _ (.tail _ (.tail _ (.tail _ (.tail _ (.head _)))))))) hx)) (Row.of_at (short_at4 (hS225.heap (.tail _ (.head _))))) (hbo.st hS225) rfl (by simp) (by simp) rfl hac hky hpv (by simp) rfl hx.e.bn) ?_
        rintro _ w226 ⟨a28, c28, rfl, hc28, hx227⟩
        have hS228 := hS225.call hx227
        simp only [List.cons_append, List.nil_append] at hS228; refine wl_val (r_assign (v := .slice _ _ _) rfl) rfl ?_; refine wl_nil ?_; refine c_then ?_; refine wp_ret ?_; refine ret1 Try.results42 ?_
        have eN := EV.L_len hx.e
        have eL : [75, 87, 69, 49] ++ octs8 (UInt64.ofNat x.e.nr.toNat) ++ octs8 (UInt64.ofNat x.e.tm.toNat) ++ [UInt8.ofNat x.e.act.toNat] ++ x.e.ac ++ x.e.ky ++ x.e.pv ++ octs (UInt32.ofNat x.e.bo.length) ++ x.e.bo = x.e.L := by simp only [EV.L, EV.M, EV.H]
        exact ⟨_, _, congrArg (fun n => Value.slice _ n _) eN.symm, by rw [eN]; exact hc28, St.rowTo (hS228.perm ((List.Perm.cons _ ((List.Perm.cons _ ((List.Perm.cons _ ((List.Perm.cons _ ((List.Perm.cons _ ((List.Perm.cons _ ((List.Perm.cons _ (List.Perm.refl _)).trans (List.perm_middle (l₁ := [_])).symm)).trans (List.perm_middle (l₁ := [_])).symm)).trans (List.perm_middle (l₁ := [_])).symm)).trans (List.perm_middle (l₁ := [_])).symm)).trans (List.perm_middle (l₁ := [_])).symm)).trans (List.perm_middle (l₁ := [_])).symm)).trans (List.perm_middle (l₁ := [_])).symm)).drop1.drop1.drop1.drop1.drop1.drop1.drop1 eN.symm (by rw [← eL]; simp)⟩
      · refine o_call rfl (r_call fn33 rfl rfl) rfl (rlong_z x.e.nr _ (by omega) (by omega)) ?_
        rintro _ w229 ⟨b7, rfl, hx230⟩
        have hS231 := hS212.call hx230
        simp only [List.cons_append, List.nil_append] at hS231
        refine ⟨hS231.drop1.drop1.drop1, ?_⟩
        refine g_all (rs := [1, 7]) (by decide +kernel) (by decide +kernel) rfl ?_
        simp only [List.forall_mem_cons, List.not_mem_nil, false_imp_iff, implies_true, and_true]
        refine ⟨?_, ?_⟩
        · refine o_exv rfl (x_mark [_, _] hS231 ti30.und ti5.und rfl) rfl ?_
          rintro _ w232 ⟨rfl, hS233⟩; simp only [List.cons_append, List.nil_append] at hS233
          refine ⟨hS233.drop1.drop1.drop1, ?_⟩
          refine g_one 7 (by decide +kernel) (by decide +kernel) ?_; refine o_call rfl (r_call fn33 rfl rfl) rfl (rlong_z x.e.tm _ (by omega) (by omega)) ?_; rintro _ w234 ⟨b10, rfl, hx235⟩
          have hS236 := hS233.call hx235
          simp only [List.cons_append, List.nil_append] at hS236
          refine ⟨hS236.drop1.drop1.drop1.drop1, ?_⟩
          refine g_one 21 (by decide +kernel) (by decide +kernel) ?_; refine o_call rfl (r_call fn31 rfl rfl) rfl (rshort_ok x.e.bo.length _ (by omega)) ?_; rintro _ w237 ⟨b24, rfl, hx238⟩
          have hS239 := hS236.call hx238
          simp only [List.cons_append, List.nil_append] at hS239
          refine ⟨hS239.drop1.drop1.drop1.drop1.drop1, ?_⟩
          refine g_tail (by decide +kernel) rfl (by decide +kernel) ?_; refine wl_exv (x_lit (vs := [.slice _ _ _, .slice _ _ _, .slice _ _ _, .slice _ _ _, .slice _ _ _, .slice _ _ _, .slice _ _ _, .slice _ _ _, .slice _ _ _]) hS239 ti90.und ti30 rfl rfl rfl (by intro c hc; simp only [List.mem_cons, List.not_mem_nil, or_false] at hc; rcases hc with rfl | rfl | rfl | rfl | rfl | rfl | rfl | rfl | rfl <;> rfl) (by decide)) rfl ?_; rintro _ w240 ⟨b27, rfl, hS241⟩; refine wl_call (r_call fn21 rfl rfl) rfl (concatE_ok [75, 87, 69, 49] (octs8 (UInt64.ofNat x.e.nr.toNat)) (octs8 (UInt64.ofNat x.e.tm.toNat)) [UInt8.ofNat x.e.act.toNat] x.e.ac x.e.ky x.e.pv (octs (UInt32.ofNat x.e.bo.length)) x.e.bo _ _ _ _ _ _ _ _ _ _ _ _ _ _ _ _ _ _ _ _ _ _ (Row.of_at (at_all (hS241.heap (.head _)))) (Row.of_at (at_all (hS241.heap (.tail _ (.tail _ (.tail _ (.tail _ (.tail _ (.head _))))))))) (Row.of_at (at_all (hS241.heap (.tail _ (.tail _ (.tail _ (.head _))))))) (Row.of_at (at_all (hS241.heap (.tail _ (.tail _ (.head _)))))) (Row.of_at (at_all (hS241.heap (.tail _ (.tail _ (.tail _ (.tail _ (.head _)))))))) (Row.of_at (ent_at3 (hS241.heap (.tail _ (.tail _ (.tail _ (.tail _ (.tail _ (.tail _ (.head _)))))))) hx)) (Row.of_at (ent_at19 (hS241.heap (.tail _ (.tail _ (.tail _ (.tail _ (.tail _ (.tail _ (.head _)))))))) hx)) (Row.of_at (ent_at35 (hS241.heap (.tail _ (.tail _ (.tail _ (.tail _ (.tail _ (.tail _ (.head _)))))))) hx)) (Row.of_at (short_at4 (hS241.heap (.tail _ (.head _))))) (hbo.st hS241) rfl (by simp) (by simp) rfl hac hky hpv (by simp) rfl hx.e.bn) ?_
          rintro _ w242 ⟨a28, c28, rfl, hc28, hx243⟩
          have hS244 := hS241.call hx243
          simp only [List.cons_append, List.nil_append] at hS244; refine wl_val (r_assign (v := .slice _ _ _) rfl) rfl ?_; refine wl_nil ?_; refine c_then ?_; refine wp_ret ?_; refine ret1 Try.results42 ?_
          have eN := EV.L_len hx.e
          have eL : [75, 87, 69, 49] ++ octs8 (UInt64.ofNat x.e.nr.toNat) ++ octs8 (UInt64.ofNat x.e.tm.toNat) ++ [UInt8.ofNat x.e.act.toNat] ++ x.e.ac ++ x.e.ky ++ x.e.pv ++ octs (UInt32.ofNat x.e.bo.length) ++ x.e.bo = x.e.L := by simp only [EV.L, EV.M, EV.H]
          exact ⟨_, _, congrArg (fun n => Value.slice _ n _) eN.symm, by rw [eN]; exact hc28, St.rowTo (hS244.perm ((List.Perm.cons _ ((List.Perm.cons _ ((List.Perm.cons _ ((List.Perm.cons _ ((List.Perm.cons _ ((List.Perm.cons _ ((List.Perm.cons _ (List.Perm.refl _)).trans (List.perm_middle (l₁ := [_])).symm)).trans (List.perm_middle (l₁ := [_])).symm)).trans (List.perm_middle (l₁ := [_])).symm)).trans (List.perm_middle (l₁ := [_])).symm)).trans (List.perm_middle (l₁ := [_])).symm)).trans (List.perm_middle (l₁ := [_])).symm)).trans (List.perm_middle (l₁ := [_])).symm)).drop1.drop1.drop1.drop1.drop1.drop1.drop1 eN.symm (by rw [← eL]; simp)⟩
        · refine o_call rfl (r_call fn33 rfl rfl) rfl (rlong_z x.e.tm _ (by omega) (by omega)) ?_
          rintro _ w245 ⟨b10, rfl, hx246⟩
          have hS247 := hS231.call hx246
          simp only [List.cons_append, List.nil_append] at hS247
          refine ⟨hS247.drop1.drop1.drop1.drop1, ?_⟩
          refine g_all (rs := [1, 21]) (by decide +kernel) (by decide +kernel) rfl ?_
          simp only [List.forall_mem_cons, List.not_mem_nil, false_imp_iff, implies_true, and_true]
          refine ⟨?_, ?_⟩
          · refine o_exv rfl (x_mark [_, _, _] hS247 ti30.und ti5.und rfl) rfl ?_
            rintro _ w248 ⟨rfl, hS249⟩; simp only [List.cons_append, List.nil_append] at hS249
            refine ⟨hS249.drop1.drop1.drop1.drop1, ?_⟩
            refine g_one 21 (by decide +kernel) (by decide +kernel) ?_; refine o_call rfl (r_call fn31 rfl rfl) rfl (rshort_ok x.e.bo.length _ (by omega)) ?_; rintro _ w250 ⟨b24, rfl, hx251⟩
            have hS252 := hS249.call hx251
            simp only [List.cons_append, List.nil_append] at hS252
            refine ⟨hS252.drop1.drop1.drop1.drop1.drop1, ?_⟩
            refine g_tail (by decide +kernel) rfl (by decide +kernel) ?_; refine wl_exv (x_lit (vs := [.slice _ _ _, .slice _ _ _, .slice _ _ _, .slice _ _ _, .slice _ _ _, .slice _ _ _, .slice _ _ _, .slice _ _ _, .slice _ _ _]) hS252 ti90.und ti30 rfl rfl rfl (by intro c hc; simp only [List.mem_cons, List.not_mem_nil, or_false] at hc; rcases hc with rfl | rfl | rfl | rfl | rfl | rfl | rfl | rfl | rfl <;> rfl) (by decide)) rfl ?_; rintro _ w253 ⟨b27, rfl, hS254⟩; refine wl_call (r_call fn21 rfl rfl) rfl (concatE_ok [75, 87, 69, 49] (octs8 (UInt64.ofNat x.e.nr.toNat)) (octs8 (UInt64.ofNat x.e.tm.toNat)) [UInt8.ofNat x.e.act.toNat] x.e.ac x.e.ky x.e.pv (octs (UInt32.ofNat x.e.bo.length)) x.e.bo _ _ _ _ _ _ _ _ _ _ _ _ _ _ _ _ _ _ _ _ _ _ (Row.of_at (at_all (hS254.heap (.head _)))) (Row.of_at (at_all (hS254.heap (.tail _ (.tail _ (.tail _ (.tail _ (.tail _ (.head _))))))))) (Row.of_at (at_all (hS254.heap (.tail _ (.tail _ (.tail _ (.head _))))))) (Row.of_at (at_all (hS254.heap (.tail _ (.tail _ (.head _)))))) (Row.of_at (at_all (hS254.heap (.tail _ (.tail _ (.tail _ (.tail _ (.head _)))))))) (Row.of_at (ent_at3 (hS254.heap (.tail _ (.tail _ (.tail _ (.tail _ (.tail _ (.tail _ (.head _)))))))) hx)) (Row.of_at (ent_at19 (hS254.heap (.tail _ (.tail _ (.tail _ (.tail _ (.tail _ (.tail _ (.head _)))))))) hx)) (Row.of_at (ent_at35 (hS254.heap (.tail _ (.tail _ (.tail _ (.tail _ (.tail _ (.tail _ (.head _)))))))) hx)) (Row.of_at (short_at4 (hS254.heap (.tail _ (.head _))))) (hbo.st hS254) rfl (by simp) (by simp) rfl hac hky hpv (by simp) rfl hx.e.bn) ?_
            rintro _ w255 ⟨a28, c28, rfl, hc28, hx256⟩
            have hS257 := hS254.call hx256
            simp only [List.cons_append, List.nil_append] at hS257; refine wl_val (r_assign (v := .slice _ _ _) rfl) rfl ?_; refine wl_nil ?_; refine c_then ?_; refine wp_ret ?_; refine ret1 Try.results42 ?_
            have eN := EV.L_len hx.e
            have eL : [75, 87, 69, 49] ++ octs8 (UInt64.ofNat x.e.nr.toNat) ++ octs8 (UInt64.ofNat x.e.tm.toNat) ++ [UInt8.ofNat x.e.act.toNat] ++ x.e.ac ++ x.e.ky ++ x.e.pv ++ octs (UInt32.ofNat x.e.bo.length) ++ x.e.bo = x.e.L := by simp only [EV.L, EV.M, EV.H]
            exact ⟨_, _, congrArg (fun n => Value.slice _ n _) eN.symm, by rw [eN]; exact hc28, St.rowTo (hS257.perm ((List.Perm.cons _ ((List.Perm.cons _ ((List.Perm.cons _ ((List.Perm.cons _ ((List.Perm.cons _ ((List.Perm.cons _ ((List.Perm.cons _ (List.Perm.refl _)).trans (List.perm_middle (l₁ := [_])).symm)).trans (List.perm_middle (l₁ := [_])).symm)).trans (List.perm_middle (l₁ := [_])).symm)).trans (List.perm_middle (l₁ := [_])).symm)).trans (List.perm_middle (l₁ := [_])).symm)).trans (List.perm_middle (l₁ := [_])).symm)).trans (List.perm_middle (l₁ := [_])).symm)).drop1.drop1.drop1.drop1.drop1.drop1.drop1 eN.symm (by rw [← eL]; simp)⟩
          · refine o_call rfl (r_call fn31 rfl rfl) rfl (rshort_ok x.e.bo.length _ (by omega)) ?_
            rintro _ w258 ⟨b24, rfl, hx259⟩
            have hS260 := hS247.call hx259
            simp only [List.cons_append, List.nil_append] at hS260
            refine ⟨hS260.drop1.drop1.drop1.drop1.drop1, ?_⟩
            refine g_one 1 (by decide +kernel) (by decide +kernel) ?_; refine o_exv rfl (x_mark [_, _, _, _] hS260 ti30.und ti5.und rfl) rfl ?_; rintro _ w261 ⟨rfl, hS262⟩; simp only [List.cons_append, List.nil_append] at hS262
            refine ⟨hS262.drop1.drop1.drop1.drop1.drop1, ?_⟩
            refine g_tail (by decide +kernel) rfl (by decide +kernel) ?_; refine wl_exv (x_lit (vs := [.slice _ _ _, .slice _ _ _, .slice _ _ _, .slice _ _ _, .slice _ _ _, .slice _ _ _, .slice _ _ _, .slice _ _ _, .slice _ _ _]) hS262 ti90.und ti30 rfl rfl rfl (by intro c hc; simp only [List.mem_cons, List.not_mem_nil, or_false] at hc; rcases hc with rfl | rfl | rfl | rfl | rfl | rfl | rfl | rfl | rfl <;> rfl) (by decide)) rfl ?_; rintro _ w263 ⟨b27, rfl, hS264⟩; refine wl_call (r_call fn21 rfl rfl) rfl (concatE_ok [75, 87, 69, 49] (octs8 (UInt64.ofNat x.e.nr.toNat)) (octs8 (UInt64.ofNat x.e.tm.toNat)) [UInt8.ofNat x.e.act.toNat] x.e.ac x.e.ky x.e.pv (octs (UInt32.ofNat x.e.bo.length)) x.e.bo _ _ _ _ _ _ _ _ _ _ _ _ _ _ _ _ _ _ _ _ _ _ (Row.of_at (at_all (hS264.heap (.head _)))) (Row.of_at (at_all (hS264.heap (.tail _ (.tail _ (.tail _ (.tail _ (.tail _ (.head _))))))))) (Row.of_at (at_all (hS264.heap (.tail _ (.tail _ (.tail _ (.head _))))))) (Row.of_at (at_all (hS264.heap (.tail _ (.tail _ (.head _)))))) (Row.of_at (at_all (hS264.heap (.tail _ (.tail _ (.tail _ (.tail _ (.head _)))))))) (Row.of_at (ent_at3 (hS264.heap (.tail _ (.tail _ (.tail _ (.tail _ (.tail _ (.tail _ (.head _)))))))) hx)) (Row.of_at (ent_at19 (hS264.heap (.tail _ (.tail _ (.tail _ (.tail _ (.tail _ (.tail _ (.head _)))))))) hx)) (Row.of_at (ent_at35 (hS264.heap (.tail _ (.tail _ (.tail _ (.tail _ (.tail _ (.tail _ (.head _)))))))) hx)) (Row.of_at (short_at4 (hS264.heap (.tail _ (.head _))))) (hbo.st hS264) rfl (by simp) (by simp) rfl hac hky hpv (by simp) rfl hx.e.bn) ?_
            rintro _ w265 ⟨a28, c28, rfl, hc28, hx266⟩
            have hS267 := hS264.call hx266
            simp only [List.cons_append, List.nil_append] at hS267; refine wl_val (r_assign (v := .slice _ _ _) rfl) rfl ?_; refine wl_nil ?_; refine c_then ?_; refine wp_ret ?_; refine ret1 Try.results42 ?_
            have eN := EV.L_len hx.e
            have eL : [75, 87, 69, 49] ++ octs8 (UInt64.ofNat x.e.nr.toNat) ++ octs8 (UInt64.ofNat x.e.tm.toNat) ++ [UInt8.ofNat x.e.act.toNat] ++ x.e.ac ++ x.e.ky ++ x.e.pv ++ octs (UInt32.ofNat x.e.bo.length) ++ x.e.bo = x.e.L := by simp only [EV.L, EV.M, EV.H]
            exact ⟨_, _, congrArg (fun n => Value.slice _ n _) eN.symm, by rw [eN]; exact hc28, St.rowTo (hS267.perm ((List.Perm.cons _ ((List.Perm.cons _ ((List.Perm.cons _ ((List.Perm.cons _ ((List.Perm.cons _ ((List.Perm.cons _ ((List.Perm.cons _ (List.Perm.refl _)).trans (List.perm_middle (l₁ := [_])).symm)).trans (List.perm_middle (l₁ := [_])).symm)).trans (List.perm_middle (l₁ := [_])).symm)).trans (List.perm_middle (l₁ := [_])).symm)).trans (List.perm_middle (l₁ := [_])).symm)).trans (List.perm_middle (l₁ := [_])).symm)).trans (List.perm_middle (l₁ := [_])).symm)).drop1.drop1.drop1.drop1.drop1.drop1.drop1 eN.symm (by rw [← eL]; simp)⟩
  · refine o_call rfl (r_call fn33 rfl rfl) rfl (rlong_z x.e.nr _ (by omega) (by omega)) ?_
    rintro _ w268 ⟨b7, rfl, hx269⟩
    have hS270 := hS4.call hx269
    simp only [List.cons_append, List.nil_append] at hS270
    refine ⟨hS270.drop1, ?_⟩
    refine g_all (rs := [0, 7, 11]) (by decide +kernel) (by decide +kernel) rfl ?_
    simp only [List.forall_mem_cons, List.not_mem_nil, false_imp_iff, implies_true, and_true]
    refine ⟨?_, ?_, ?_⟩
    · refine o_exv rfl (x_lit (vs := (([75, 87, 69, 49] : List UInt8).map b8)) hS270 ti30.und ti5 rfl rfl rfl (by repeat' first | exact one_nil | exact one_b8 _ | exact one_v32 _ | exact one_all rfl | refine one_cons rfl ?_ | refine one_app ?_ ?_) (by decide)) rfl ?_
      rintro _ w271 ⟨b3, rfl, hS272⟩
      refine ⟨hS272.drop1.drop1, ?_⟩
      refine g_all (rs := [1, 7, 11]) (by decide +kernel) (by decide +kernel) rfl ?_
      simp only [List.forall_mem_cons, List.not_mem_nil, false_imp_iff, implies_true, and_true]
      refine ⟨?_, ?_, ?_⟩
      · refine o_exv rfl (x_mark [] hS272 ti30.und ti5.und rfl) rfl ?_
        rintro _ w273 ⟨rfl, hS274⟩; simp only [List.cons_append, List.nil_append] at hS274
        refine ⟨hS274.drop1.drop1, ?_⟩
        refine g_all (rs := [7, 11]) (by decide +kernel) (by decide +kernel) rfl ?_
        simp only [List.forall_mem_cons, List.not_mem_nil, false_imp_iff, implies_true, and_true]
        refine ⟨?_, ?_⟩
        · refine o_call rfl (r_call fn33 rfl rfl) rfl (rlong_z x.e.tm _ (by omega) (by omega)) ?_
          rintro _ w275 ⟨b10, rfl, hx276⟩
          have hS277 := hS274.call hx276
          simp only [List.cons_append, List.nil_append] at hS277
          refine ⟨hS277.drop1.drop1.drop1, ?_⟩
          refine g_all (rs := [11, 21]) (by decide +kernel) (by decide +kernel) rfl ?_
          simp only [List.forall_mem_cons, List.not_mem_nil, false_imp_iff, implies_true, and_true]
          refine ⟨?_, ?_⟩
          · refine o_exv rfl (x_lit (vs := (([UInt8.ofNat x.e.act.toNat] : List UInt8).map b8)) hS277 ti30.und ti5 rfl rfl rfl (by repeat' first | exact one_nil | exact one_b8 _ | exact one_v32 _ | exact one_all rfl | refine one_cons rfl ?_ | refine one_app ?_ ?_) (by decide)) rfl ?_
            rintro _ w278 ⟨b14, rfl, hS279⟩
            refine ⟨hS279.drop1.drop1.drop1.drop1, ?_⟩
            refine g_one 21 (by decide +kernel) (by decide +kernel) ?_; refine o_call rfl (r_call fn31 rfl rfl) rfl (rshort_ok x.e.bo.length _ (by omega)) ?_; rintro _ w280 ⟨b24, rfl, hx281⟩
            have hS282 := hS279.call hx281
            simp only [List.cons_append, List.nil_append] at hS282
            refine ⟨hS282.drop1.drop1.drop1.drop1.drop1, ?_⟩
            refine g_tail (by decide +kernel) rfl (by decide +kernel) ?_; refine wl_exv (x_lit (vs := [.slice _ _ _, .slice _ _ _, .slice _ _ _, .slice _ _ _, .slice _ _ _, .slice _ _ _, .slice _ _ _, .slice _ _ _, .slice _ _ _]) hS282 ti90.und ti30 rfl rfl rfl (by intro c hc; simp only [List.mem_cons, List.not_mem_nil, or_false] at hc; rcases hc with rfl | rfl | rfl | rfl | rfl | rfl | rfl | rfl | rfl <;> rfl) (by decide)) rfl ?_; rintro _ w283 ⟨b27, rfl, hS284⟩; refine wl_call (r_call fn21 rfl rfl) rfl (concatE_ok [75, 87, 69, 49] (octs8 (UInt64.ofNat x.e.nr.toNat)) (octs8 (UInt64.ofNat x.e.tm.toNat)) [UInt8.ofNat x.e.act.toNat] x.e.ac x.e.ky x.e.pv (octs (UInt32.ofNat x.e.bo.length)) x.e.bo _ _ _ _ _ _ _ _ _ _ _ _ _ _ _ _ _ _ _ _ _ _ (Row.of_at (at_all (hS284.heap (.head _)))) (Row.of_at (at_all (hS284.heap (.tail _ (.tail _ (.tail _ (.tail _ (.head _)))))))) (Row.of_at (at_all (hS284.heap (.tail _ (.tail _ (.tail _ (.tail _ (.tail _ (.head _))))))))) (Row.of_at (at_all (hS284.heap (.tail _ (.tail _ (.tail _ (.head _))))))) (Row.of_at (at_all (hS284.heap (.tail _ (.tail _ (.head _)))))) (Row.of_at (ent_at3 (hS284.heap (.tail _ (.tail _ (.tail _ (.tail _ (.tail _ (.tail _ (.head _)))))))) hx)) (Row.of_at (ent_at19 (hS284.heap (.tail _ (.tail _ (.tail _ (.tail _ (.tail _ (.tail _ (.head _)))))))) hx)) (Row.of_at (ent_at35 (hS284.heap (.tail _ (.tail _ (.tail _ (.tail _ (.tail _ (.tail _ (.head _)))))))) hx)) (Row.of_at (short_at4 (hS284.heap (.tail _ (.head _))))) (hbo.st hS284) rfl (by simp) (by simp) rfl hac hky hpv (by simp) rfl hx.e.bn) ?_
            rintro _ w285 ⟨a28, c28, rfl, hc28, hx286⟩
            have hS287 := hS284.call hx286
            simp only [List.cons_append, List.nil_append] at hS287; refine wl_val (r_assign (v := .slice _ _ _) rfl) rfl ?_; refine wl_nil ?_; refine c_then ?_; refine wp_ret ?_; refine ret1 Try.results42 ?_
            have eN := EV.L_len hx.e
            have eL : [75, 87, 69, 49] ++ octs8 (UInt64.ofNat x.e.nr.toNat) ++ octs8 (UInt64.ofNat x.e.tm.toNat) ++ [UInt8.ofNat x.e.act.toNat] ++ x.e.ac ++ x.e.ky ++ x.e.pv ++ octs (UInt32.ofNat x.e.bo.length) ++ x.e.bo = x.e.L := by simp only [EV.L, EV.M, EV.H]
            exact ⟨_, _, congrArg (fun n => Value.slice _ n _) eN.symm, by rw [eN]; exact hc28, St.rowTo (hS287.perm ((List.Perm.cons _ ((List.Perm.cons _ ((List.Perm.cons _ ((List.Perm.cons _ ((List.Perm.cons _ ((List.Perm.cons _ ((List.Perm.cons _ (List.Perm.refl _)).trans (List.perm_middle (l₁ := [_])).symm)).trans (List.perm_middle (l₁ := [_])).symm)).trans (List.perm_middle (l₁ := [_])).symm)).trans (List.perm_middle (l₁ := [_])).symm)).trans (List.perm_middle (l₁ := [_])).symm)).trans (List.perm_middle (l₁ := [_])).symm)).trans (List.perm_middle (l₁ := [_])).symm)).drop1.drop1.drop1.drop1.drop1.drop1.drop1 eN.symm (by rw [← eL]; simp)⟩
          · refine o_call rfl (r_call fn31 rfl rfl) rfl (rshort_ok x.e.bo.length _ (by omega)) ?_
            rintro _ w288 ⟨b24, rfl, hx289⟩
            have hS290 := hS277.call hx289
            simp only [List.cons_append, List.nil_append] at hS290
            refine ⟨hS290.drop1.drop1.drop1.drop1, ?_⟩
            refine g_one 11 (by decide +kernel) (by decide +kernel) ?_; refine o_exv rfl (x_lit (vs := (([UInt8.ofNat x.e.act.toNat] : List UInt8).map b8)) hS290 ti30.und ti5 rfl rfl rfl (by repeat' first | exact one_nil | exact one_b8 _ | exact one_v32 _ | exact one_all rfl | refine one_cons rfl ?_ | refine one_app ?_ ?_) (by decide)) rfl ?_; rintro _ w291 ⟨b14, rfl, hS292⟩
            refine ⟨hS292.drop1.drop1.drop1.drop1.drop1, ?_⟩
            refine g_tail (by decide +kernel) rfl (by decide +kernel) ?_; refine wl_exv (x_lit (vs := [.slice _ _ _, .slice _ _ _, .slice _ _ _, .slice _ _ _, .slice _ _ _, .slice _ _ _, .slice _ _ _, .slice _ _ _, .slice _ _ _]) hS292 ti90.und ti30 rfl rfl rfl (by intro c hc; simp only [List.mem_cons, List.not_mem_nil, or_false] at hc; rcases hc with rfl | rfl | rfl | rfl | rfl | rfl | rfl | rfl | rfl <;> rfl) (by decide)) rfl ?_; rintro _ w293 ⟨b27, rfl, hS294⟩; refine wl_call (r_call fn21 rfl rfl) rfl (concatE_ok [75, 87, 69, 49] (octs8 (UInt64.ofNat x.e.nr.toNat)) (octs8 (UInt64.ofNat x.e.tm.toNat)) [UInt8.ofNat x.e.act.toNat] x.e.ac x.e.ky x.e.pv (octs (UInt32.ofNat x.e.bo.length)) x.e.bo _ _ _ _ _ _ _ _ _ _ _ _ _ _ _ _ _ _ _ _ _ _ (Row.of_at (at_all (hS294.heap (.head _)))) (Row.of_at (at_all (hS294.heap (.tail _ (.tail _ (.tail _ (.tail _ (.head _)))))))) (Row.of_at (at_all (hS294.heap (.tail _ (.tail _ (.tail _ (.tail _ (.tail _ (.head _))))))))) (Row.of_at (at_all (hS294.heap (.tail _ (.tail _ (.tail _ (.head _))))))) (Row.of_at (at_all (hS294.heap (.tail _ (.head _))))) (Row.of_at (ent_at3 (hS294.heap (.tail _ (.tail _ (.tail _ (.tail _ (.tail _ (.tail _ (.head _)))))))) hx)) (Row.of_at (ent_at19 (hS294.heap (.tail _ (.tail _ (.tail _ (.tail _ (.tail _ (.tail _ (.head _)))))))) hx)) (Row.of_at (ent_at35 (hS294.heap (.tail _ (.tail _ (.tail _ (.tail _ (.tail _ (.tail _ (.head _)))))))) hx)) (Row.of_at (short_at4 (hS294.heap (.tail _ (.tail _ (.head _)))))) (hbo.st hS294) rfl (by simp) (by simp) rfl hac hky hpv (by simp) rfl hx.e.bn) ?_
            rintro _ w295 ⟨a28, c28, rfl, hc28, hx296⟩
            have hS297 := hS294.call hx296
            simp only [List.cons_append, List.nil_append] at hS297; refine wl_val (r_assign (v := .slice _ _ _) rfl) rfl ?_; refine wl_nil ?_; refine c_then ?_; refine wp_ret ?_; refine ret1 Try.results42 ?_
            have eN := EV.L_len hx.e
            have eL : [75, 87, 69, 49] ++ octs8 (UInt64.ofNat x.e.nr.toNat) ++ octs8 (UInt64.ofNat x.e.tm.toNat) ++ [UInt8.ofNat x.e.act.toNat] ++ x.e.ac ++ x.e.ky ++ x.e.pv ++ octs (UInt32.ofNat x.e.bo.length) ++ x.e.bo = x.e.L := by simp only [EV.L, EV.M, EV.H]
            exact ⟨_, _, congrArg (fun n => Value.slice _ n _) eN.symm, by rw [eN]; exact hc28, St.rowTo (hS297.perm ((List.Perm.cons _ ((List.Perm.cons _ ((List.Perm.cons _ ((List.Perm.cons _ ((List.Perm.cons _ ((List.Perm.cons _ ((List.Perm.cons _ (List.Perm.refl _)).trans (List.perm_middle (l₁ := [_])).symm)).trans (List.perm_middle (l₁ := [_])).symm)).trans (List.perm_middle (l₁ := [_])).symm)).trans (List.perm_middle (l₁ := [_])).symm)).trans (List.perm_middle (l₁ := [_])).symm)).trans (List.perm_middle (l₁ := [_])).symm)).trans (List.perm_middle (l₁ := [_])).symm)).drop1.drop1.drop1.drop1.drop1.drop1.drop1 eN.symm (by rw [← eL]; simp)⟩
        · refine o_exv rfl (x_lit (vs := (([UInt8.ofNat x.e.act.toNat] : List UInt8).map b8)) hS274 ti30.und ti5 rfl rfl rfl (by repeat' first | exact one_nil | exact one_b8 _ | exact one_v32 _ | exact one_all rfl | refine one_cons rfl ?_ | refine one_app ?_ ?_) (by decide)) rfl ?_
          rintro _ w298 ⟨b14, rfl, hS299⟩
          refine ⟨hS299.drop1.drop1.drop1, ?_⟩
          refine g_one 7 (by decide +kernel) (by decide +kernel) ?_; refine o_call rfl (r_call fn33 rfl rfl) rfl (rlong_z x.e.tm _ (by omega) (by omega)) ?_; rintro _ w300 ⟨b10, rfl, hx301⟩
          have hS302 := hS299.call hx301
          simp only [List.cons_append, List.nil_append] at hS302
          refine ⟨hS302.drop1.drop1.drop1.drop1, ?_⟩
          refine g_one 21 (by decide +kernel) (by decide +kernel) ?_; refine o_call rfl (r_call fn31 rfl rfl) rfl (rshort_ok x.e.bo.length _ (by omega)) ?_; rintro _ w303 ⟨b24, rfl, hx304⟩
          have hS305 := hS302.call hx304
          simp only [List.cons_append, List.nil_append] at hS305
          refine ⟨hS305.drop1.drop1.drop1.drop1.drop1, ?_⟩
          refine g_tail (by decide +kernel) rfl (by decide +kernel) ?_; refine wl_exv (x_lit (vs := [.slice _ _ _, .slice _ _ _, .slice _ _ _, .slice _ _ _, .slice _ _ _, .slice _ _ _, .slice _ _ _, .slice _ _ _, .slice _ _ _]) hS305 ti90.und ti30 rfl rfl rfl (by intro c hc; simp only [List.mem_cons, List.not_mem_nil, or_false] at hc; rcases hc with rfl | rfl | rfl | rfl | rfl | rfl | rfl | rfl | rfl <;> rfl) (by decide)) rfl ?_; rintro _ w306 ⟨b27, rfl, hS307⟩; refine wl_call (r_call fn21 rfl rfl) rfl (concatE_ok [75, 87, 69, 49] (octs8 (UInt64.ofNat x.e.nr.toNat)) (octs8 (UInt64.ofNat x.e.tm.toNat)) [UInt8.ofNat x.e.act.toNat] x.e.ac x.e.ky x.e.pv (octs (UInt32.ofNat x.e.bo.length)) x.e.bo _ _ _ _ _ _ _ _ _ _ _ _ _ _ _ _ _ _ _ _ _ _ (Row.of_at (at_all (hS307.heap (.head _)))) (Row.of_at (at_all (hS307.heap (.tail _ (.tail _ (.tail _ (.tail _ (.head _)))))))) (Row.of_at (at_all (hS307.heap (.tail _ (.tail _ (.tail _ (.tail _ (.tail _ (.head _))))))))) (Row.of_at (at_all (hS307.heap (.tail _ (.tail _ (.head _)))))) (Row.of_at (at_all (hS307.heap (.tail _ (.tail _ (.tail _ (.head _))))))) (Row.of_at (ent_at3 (hS307.heap (.tail _ (.tail _ (.tail _ (.tail _ (.tail _ (.tail _ (.head _)))))))) hx)) (Row.of_at (ent_at19 (hS307.heap (.tail _ (.tail _ (.tail _ (.tail _ (.tail _ (.tail _ (.head _)))))))) hx)) (Row.of_at (ent_at35 (hS307.heap (.tail _ (.tail _ (.tail _ (.tail _ (.tail _ (.tail _ (.head _)))))))) hx)) (Row.of_at (short_at4 (hS307.heap (.tail _ (.head _))))) (hbo.st hS307) rfl (by simp) (by simp) rfl hac hky hpv (by simp) rfl hx.e.bn) ?_
          rintro _ w308 ⟨a28, c28, rfl, hc28, hx309⟩
          have hS310 := hS307.call hx309
          simp only [List.cons_append, List.nil_append] at hS310; refine wl_val (r_assign (v := .slice _ _ _) rfl) rfl ?_; refine wl_nil ?_; refine c_then ?_; refine wp_ret ?_; refine ret1 Try.results42 ?_
          have eN := EV.L_len hx.e
          have eL : [75, 87, 69, 49] ++ octs8 (UInt64.ofNat x.e.nr.toNat) ++ octs8 (UInt64.ofNat x.e.tm.toNat) ++ [UInt8.ofNat x.e.act.toNat] ++ x.e.ac ++ x.e.ky ++ x.e.pv ++ octs (UInt32.ofNat x.e.bo.length) ++ x.e.bo = x.e.L := by simp only [EV.L, EV.M, EV.H]
          exact ⟨_, _, congrArg (fun n => Value.slice _ n _) eN.symm, by rw [eN]; exact hc28, St.rowTo (hS310.perm ((List.Perm.cons _ ((List.Perm.cons _ ((List.Perm.cons _ ((List.Perm.cons _ ((List.Perm.cons _ ((List.Perm.cons _ ((List.Perm.cons _ (List.Perm.refl _)).trans (List.perm_middle (l₁ := [_])).symm)).trans (List.perm_middle (l₁ := [_])).symm)).trans (List.perm_middle (l₁ := [_])).symm)).trans (List.perm_middle (l₁ := [_])).symm)).trans (List.perm_middle (l₁ := [_])).symm)).trans (List.perm_middle (l₁ := [_])).symm)).trans (List.perm_middle (l₁ := [_])).symm)).drop1.drop1.drop1.drop1.drop1.drop1.drop1 eN.symm (by rw [← eL]; simp)⟩
      · refine o_call rfl (r_call fn33 rfl rfl) rfl (rlong_z x.e.tm _ (by omega) (by omega)) ?_
        rintro _ w311 ⟨b10, rfl, hx312⟩
        have hS313 := hS272.call hx312
        simp only [List.cons_append, List.nil_append] at hS313
        refine ⟨hS313.drop1.drop1.drop1, ?_⟩
        refine g_all (rs := [1, 11, 21]) (by decide +kernel) (by decide +kernel) rfl ?_
        simp only [List.forall_mem_cons, List.not_mem_nil, false_imp_iff, implies_true, and_true]
        refine ⟨?_, ?_, ?_⟩
        · refine o_exv rfl (x_mark [_] hS313 ti30.und ti5.und rfl) rfl ?_
          rintro _ w314 ⟨rfl, hS315⟩; simp only [List.cons_append, List.nil_append] at hS315
          refine ⟨hS315.drop1.drop1.drop1, ?_⟩
          refine g_all (rs := [11, 21]) (by decide +kernel) (by decide +kernel) rfl ?_
          simp only [List.forall_mem_cons, List.not_mem_nil, false_imp_iff, implies_true, and_true]
          refine ⟨?_, ?_⟩
          · refine o_exv rfl (x_lit (vs := (([UInt8.ofNat x.e.act.toNat] : List UInt8).map b8)) hS315 ti30.und ti5 rfl rfl rfl (by repeat' first | exact one_nil | exact one_b8 _ | exact one_v32 _ | exact one_all rfl | refine one_cons rfl ?_ | refine one_app ?_ ?_) (by decide)) rfl ?_
            rintro _ w316 ⟨b14, rfl, hS317⟩
            refine ⟨hS317.drop1.drop1.drop1.drop1, ?_⟩
            refine g_one 21 (by decide +kernel) (by decide +kernel) ?_; refine o_call rfl (r_call fn31 rfl rfl) rfl (rshort_ok x.e.bo.length _ (by omega)) ?_; rintro _ w318 ⟨b24, rfl, hx319⟩
            have hS320 := hS317.call hx319
            simp only [List.cons_append, List.nil_append] at hS320
            refine ⟨hS320.drop1.drop1.drop1.drop1.drop1, ?_⟩
            refine g_tail (by decide +kernel) rfl (by decide +kernel) ?_; refine wl_exv (x_lit (vs := [.slice _ _ _, .slice _ _ _, .slice _ _ _, .slice _ _ _, .slice _ _ _, .slice _ _ _, .slice _ _ _, .slice _ _ _, .slice _ _ _]) hS320 ti90.und ti30 rfl rfl rfl (by intro c hc; simp only [List.mem_cons, List.not_mem_nil, or_false] at hc; rcases hc with rfl | rfl | rfl | rfl | rfl | rfl | rfl | rfl | rfl <;> rfl) (by decide)) rfl ?_; rintro _ w321 ⟨b27, rfl, hS322⟩; refine wl_call (r_call fn21 rfl rfl) rfl (concatE_ok [75, 87, 69, 49] (octs8 (UInt64.ofNat x.e.nr.toNat)) (octs8 (UInt64.ofNat x.e.tm.toNat)) [UInt8.ofNat x.e.act.toNat] x.e.ac x.e.ky x.e.pv (octs (UInt32.ofNat x.e.bo.length)) x.e.bo _ _ _ _ _ _ _ _ _ _ _ _ _ _ _ _ _ _ _ _ _ _ (Row.of_at (at_all (hS322.heap (.head _)))) (Row.of_at (at_all (hS322.heap (.tail _ (.tail _ (.tail _ (.tail _ (.head _)))))))) (Row.of_at (at_all (hS322.heap (.tail _ (.tail _ (.tail _ (.tail _ (.tail _ (.head _))))))))) (Row.of_at (at_all (hS322.heap (.tail _ (.tail _ (.tail _ (.head _))))))) (Row.of_at (at_all (hS322.heap (.tail _ (.tail _ (.head _)))))) (Row.of_at (ent_at3 (hS322.heap (.tail _ (.tail _ (.tail _ (.tail _ (.tail _ (.tail _ (.head _)))))))) hx)) (Row.of_at (ent_at19 (hS322.heap (.tail _ (.tail _ (.tail _ (.tail _ (.tail _ (.tail _ (.head _)))))))) hx)) (Row.of_at (ent_at35 (hS322.heap (.tail _ (.tail _ (.tail _ (.tail _ (.tail _ (.tail _ (.head _)))))))) hx)) (Row.of_at (short_at4 (hS322.heap (.tail _ (.head _))))) (hbo.st hS322) rfl (by simp) (by simp) rfl hac hky hpv (by simp) rfl hx.e.bn) ?_
            rintro _ w323 ⟨a28, c28, rfl, hc28, hx324⟩
            have hS325 := hS322.call hx324
            simp only [List.cons_append, List.nil_append] at hS325; refine wl_val (r_assign (v := .slice _ _ _) rfl) rfl ?_; refine wl_nil ?_; refine c_then ?_; refine wp_ret ?_; refine ret1 Try.results42 ?_
            have eN := EV.L_len hx.e
            have eL : [75, 87, 69, 49] ++ octs8 (UInt64.ofNat x.e.nr.toNat) ++ octs8 (UInt64.ofNat x.e.tm.toNat) ++ [UInt8.ofNat x.e.act.toNat] ++ x.e.ac ++ x.e.ky ++ x.e.pv ++ octs (UInt32.ofNat x.e.bo.length) ++ x.e.bo = x.e.L := by simp only [EV.L, EV.M, EV.H]
            exact ⟨_, _, congrArg (fun n => Value.slice _ n _) eN.symm, by rw [eN]; exact hc28, St.rowTo (hS325.perm ((List.Perm.cons _ ((List.Perm.cons _ ((List.Perm.cons _ ((List.Perm.cons _ ((List.Perm.cons _ ((List.Perm.cons _ ((List.Perm.cons _ (List.Perm.refl _)).trans (List.perm_middle (l₁ := [_])).symm)).trans (List.perm_middle (l₁ := [_])).symm)).trans (List.perm_middle (l₁ := [_])).symm)).trans (List.perm_middle (l₁ := [_])).symm)).trans (List.perm_middle (l₁ := [_])).symm)).trans (List.perm_middle (l₁ := [_])).symm)).trans (List.perm_middle (l₁ := [_])).symm)).drop1.drop1.drop1.drop1.drop1.drop1.drop1 eN.symm (by rw [← eL]; simp)⟩
          · refine o_call rfl (r_call fn31 rfl rfl) rfl (rshort_ok x.e.bo.length _ (by omega)) ?_
            rintro _ w326 ⟨b24, rfl, hx327⟩
            have hS328 := hS315.call hx327
            simp only [List.cons_append, List.nil_append] at hS328
            refine ⟨hS328.drop1.drop1.drop1.drop1, ?_⟩
            refine g_one 11 (by decide +kernel) (by decide +kernel) ?_; refine o_exv rfl (x_lit (vs := (([UInt8.ofNat x.e.act.toNat] : List UInt8).map b8)) hS328 ti30.und ti5 rfl rfl rfl (by repeat' first | exact one_nil | exact one_b8 _ | exact one_v32 _ | exact one_all rfl | refine one_cons rfl ?_ | refine one_app ?_ ?_) (by decide)) rfl ?_; rintro _ w329 ⟨b14, rfl, hS330⟩
            refine ⟨hS330.drop1.drop1.drop1.drop1.drop1, ?_⟩
            refine g_tail (by decide +kernel) rfl (by decide +kernel) ?_; refine wl_exv (x_lit (vs := [.slice _ _ _, .slice _ _ _, .slice _ _ _, .slice _ _ _, .slice _ _ _, .slice _ _ _, .slice _ _ _, .slice _ _ _, .slice _ _ _]) hS330 ti90.und ti30 rfl rfl rfl (by intro c hc; simp only [List.mem_cons, List.not_mem_nil, or_false] at hc; rcases hc with rfl | rfl | rfl | rfl | rfl | rfl | rfl | rfl | rfl <;> rfl) (by decide)) rfl ?_; rintro _ w331 ⟨b27, rfl, hS332⟩; refine wl_call (r_call fn21 rfl rfl) rfl (concatE_ok [75, 87, 69, 49] (octs8 (UInt64.ofNat x.e.nr.toNat)) (octs8 (UInt64.ofNat x.e.tm.toNat)) [UInt8.ofNat x.e.act.toNat] x.e.ac x.e.ky x.e.pv (octs (UInt32.ofNat x.e.bo.length)) x.e.bo _ _ _ _ _ _ _ _ _ _ _ _ _ _ _ _ _ _ _ _ _ _ (Row.of_at (at_all (hS332.heap (.head _)))) (Row.of_at (at_all (hS332.heap (.tail _ (.tail _ (.tail _ (.tail _ (.head _)))))))) (Row.of_at (at_all (hS332.heap (.tail _ (.tail _ (.tail _ (.tail _ (.tail _ (.head _))))))))) (Row.of_at (at_all (hS332.heap (.tail _ (.tail _ (.tail _ (.head _))))))) (Row.of_at (at_all (hS332.heap (.tail _ (.head _))))) (Row.of_at (ent_at3 (hS332.heap (.tail _ (.tail _ (.tail _ (.tail _ (.tail _ (.tail _ (.head _)))))))) hx)) (Row.of_at (ent_at19 (hS332.heap (.tail _ (.tail _ (.tail _ (.tail _ (.tail _ (.tail _ (.head _)))))))) hx)) (Row.of_at (ent_at35 (hS332.heap (.tail _ (.tail _ (.tail _ (.tail _ (.tail _ (.tail _ (.head _)))))))) hx)) (Row.of_at (short_at4 (hS332.heap (.tail _ (.tail _ (.head _)))))) (hbo.st hS332) rfl (by simp) (by simp) rfl hac hky hpv (by simp) rfl hx.e.bn) ?_
            rintro _ w333 ⟨a28, c28, rfl, hc28, hx334⟩
            have hS335 := hS332.call hx334
            simp only [List.cons_append, List.nil_append] at hS335; refine wl_val (r_assign (v := .slice _ _ _) rfl) rfl ?_; refine wl_nil ?_; refine c_then ?_; refine wp_ret ?_; refine ret1 Try.results42 ?_
            have eN := EV.L_len hx.e
            have eL : [75, 87, 69, 49] ++ octs8 (UInt64.ofNat x.e.nr.toNat) ++ octs8 (UInt64.ofNat x.e.tm.toNat) ++ [UInt8.ofNat x.e.act.toNat] ++ x.e.ac ++ x.e.ky ++ x.e.pv ++ octs (UInt32.ofNat x.e.bo.length) ++ x.e.bo = x.e.L := by simp only [EV.L, EV.M, EV.H]
            exact ⟨_, _, congrArg (fun n => Value.slice _ n _) eN.symm, by rw [eN]; exact hc28, St.rowTo (hS335.perm ((List.Perm.cons _ ((List.Perm.cons _ ((List.Perm.cons _ ((List.Perm.cons _ ((List.Perm.cons _ ((List.Perm.cons _ ((List.Perm.cons _ (List.Perm.refl _)).trans (List.perm_middle (l₁ := [_])).symm)).trans (List.perm_middle (l₁ := [_])).symm)).trans (List.perm_middle (l₁ := [_])).symm)).trans (List.perm_middle (l₁ := [_])).symm)).trans (List.perm_middle (l₁ := [_])).symm)).trans (List.perm_middle (l₁ := [_])).symm)).trans (List.perm_middle (l₁ := [_])).symm)).drop1.drop1.drop1.drop1.drop1.drop1.drop1 eN.symm (by rw [← eL]; simp)⟩
        · refine o_exv rfl (x_lit (vs := (([UInt8.ofNat x.e.act.toNat] : List UInt8).map b8)) hS313 ti30.und ti5 rfl rfl rfl (by repeat' first | exact one_nil | exact one_b8 _ | exact one_v32 _ | exact one_all rfl | refine one_cons rfl ?_ | refine one_app ?_ ?_) (by decide)) rfl ?_
          rintro _ w336 ⟨b14, rfl, hS337⟩
          refine ⟨hS337.drop1.drop1.drop1.drop1, ?_⟩
          refine g_all (rs := [1, 21]) (by decide +kernel) (by decide +kernel) rfl ?_
          simp only [List.forall_mem_cons, List.not_mem_nil, false_imp_iff, implies_true, and_true]
          refine ⟨?_, ?_⟩
          · refine o_exv rfl (x_mark [_, _] hS337 ti30.und ti5.und rfl) rfl ?_
            rintro _ w338 ⟨rfl, hS339⟩; simp only [List.cons_append, List.nil_append] at hS339
            refine ⟨hS339.drop1.drop1.drop1.drop1, ?_⟩
            refine g_one 21 (by decide +kernel) (by decide +kernel) ?_; refine o_call rfl (r_call fn31 rfl rfl) rfl (rshort_ok x.e.bo.length _ (by omega)) ?_; rintro _ w340 ⟨b24, rfl, hx341⟩
            have hS342 := hS339.call hx341
            simp only [List.cons_append, List.nil_append] at hS342
            refine ⟨hS342.drop1.drop1.drop1.drop1.drop1, ?_⟩
            refine g_tail (by decide +kernel) rfl (by decide +kernel) ?_; refine wl_exv (x_lit (vs := [.slice _ _ _, .slice _ _ _, .slice _ _ _, .slice _ _ _, .slice _ _ _, .slice _ _ _, .slice _ _ _, .slice _ _ _, .slice _ _ _]) hS342 ti90.und ti30 rfl rfl rfl (by intro c hc; simp only [List.mem_cons, List.not_mem_nil, or_false] at hc; rcases hc with rfl | rfl | rfl | rfl | rfl | rfl | rfl | rfl | rfl <;> rfl) (by decide)) rfl ?_; rintro _ w343 ⟨b27, rfl, hS344⟩; refine wl_call (r_call fn21 rfl rfl) rfl (concatE_ok [75, 87, 69, 49] (octs8 (UInt64.ofNat x.e.nr.toNat)) (octs8 (UInt64.ofNat x.e.tm.toNat)) [UInt8.ofNat x.e.act.toNat] x.e.ac x.e.ky x.e.pv (octs (UInt32.ofNat x.e.bo.length)) x.e.bo _ _ _ _ _ _ _ _ _ _ _ _ _ _ _ _ _ _ _ _ _ _ (Row.of_at (at_all (hS344.heap (.head _)))) (Row.of_at (at_all (hS344.heap (.tail _ (.tail _ (.tail _ (.tail _ (.head _)))))))) (Row.of_at (at_all (hS344.heap (.tail _ (.tail _ (.tail _ (.tail _ (.tail _ (.head _))))))))) (Row.of_at (at_all (hS344.heap (.tail _ (.tail _ (.tail _ (.head _))))))) (Row.of_at (at_all (hS344.heap (.tail _ (.tail _ (.head _)))))) (Row.of_at (ent_at3 (hS344.heap (.tail _ (.tail _ (.tail _ (.tail _ (.tail _ (.tail _ (.head _)))))))) hx)) (Row.of_at (ent_at19 (hS344.heap (.tail _ (.tail _ (.tail _ (.tail _ (.tail _ (.tail _ (.head _)))))))) hx)) (Row.of_at (ent_at35 (hS344.heap (.tail _ (.tail _ (.tail _ (.tail _ (.tail _ (.tail _ (.head _)))))))) hx)) (Row.of_at (short_at4 (hS344.heap (.tail _ (.head _))))) (hbo.st hS344) rfl (by simp) (by simp) rfl hac hky hpv (by simp) rfl hx.e.bn) ?_
            rintro _ w345 ⟨a28, c28, rfl, hc28, hx346⟩
            have hS347 := hS344.call hx346
            simp only [List.cons_append, List.nil_append] at hS347; refine wl_val (r_assign (v := .slice _ _ _) rfl) rfl ?_; refine wl_nil ?_; refine c_then ?_; refine wp_ret ?_; refine ret1 Try.results42 ?_
            have eN := EV.L_len hx.e
            have eL : [75, 87, 69, 49] ++ octs8 (UInt64.ofNat x.e.nr.toNat) ++ octs8 (UInt64.ofNat x.e.tm.toNat) ++ [UInt8.ofNat x.e.act.toNat] ++ x.e.ac ++ x.e.ky ++ x.e.pv ++ octs (UInt32.ofNat x.e.bo.length) ++ x.e.bo = x.e.L := by simp only [EV.L, EV.M, EV.H]
            exact ⟨_, _, congrArg (fun n => Value.slice _ n _) eN.symm, by rw [eN]; exact hc28, St.rowTo (hS347.perm ((List.Perm.cons _ ((List.Perm.cons _ ((List.Perm.cons _ ((List.Perm.cons _ ((List.Perm.cons _ ((List.Perm.cons _ ((List.Perm.cons _ (List.Perm.refl _)).trans (List.perm_middle (l₁ := [_])).symm)).trans (List.perm_middle (l₁ := [_])).symm)).trans (List.perm_middle (l₁ := [_])).symm)).trans (List.perm_middle (l₁ := [_])).symm)).trans (List.perm_middle (l₁ := [_])).symm)).trans (List.perm_middle (l₁ := [_])).symm)).trans (List.perm_middle (l₁ := [_])).symm)).drop1.drop1.drop1.drop1.drop1.drop1.drop1 eN.symm (by rw [← eL]; simp)⟩
          · refine o_call rfl (r_call fn31 rfl rfl) rfl (rshort_ok x.e.bo.length _ (by omega)) ?_
            rintro _ w348 ⟨b24, rfl, hx349⟩
            have hS350 := hS337.call hx349
            simp only [List.cons_append, List.nil_append] at hS350
            refine ⟨hS350.drop1.drop1.drop1.drop1.drop1, ?_⟩
            refine g_one 1 (by decide +kernel) (by decide +kernel) ?_; refine o_exv rfl (x_mark [_, _, _] hS350 ti30.und ti5.und rfl) rfl ?_; rintro _ w351 ⟨rfl, hS352⟩; simp only [List.cons_append, List.nil_append] at hS352
            refine ⟨hS352.drop1.drop1.drop1.drop1.drop1, ?_⟩
            refine g_tail (by decide +kernel) rfl (by decide +kernel) ?_; refine wl_exv (x_lit (vs := [.slice _ _ _, .slice _ _ _, .slice _ _ _, .slice _ _ _, .slice _ _ _, .slice _ _ _, .slice _ _ _, .slice _ _ _, .slice _ _ _]) hS352 ti90.und ti30 rfl rfl rfl (by intro c hc; simp only [List.mem_cons, List.not_mem_nil, or_false] at hc; rcases hc with rfl | rfl | rfl | rfl | rfl | rfl | rfl | rfl | rfl <;> rfl) (by decide)) rfl ?_; rintro _ w353 ⟨b27, rfl, hS354⟩; refine wl_call (r_call fn21 rfl rfl) rfl (concatE_ok [75, 87, 69, 49] (octs8 (UInt64.ofNat x.e.nr.toNat)) (octs8 (UInt64.ofNat x.e.tm.toNat)) [UInt8.ofNat x.e.act.toNat] x.e.ac x.e.ky x.e.pv (octs (UInt32.ofNat x.e.bo.length)) x.e.bo _ _ _ _ _ _ _ _ _ _ _ _ _ _ _ _ _ _ _ _ _ _ (Row.of_at (at_all (hS354.heap (.head _)))) (Row.of_at (at_all (hS354.heap (.tail _ (.tail _ (.tail _ (.tail _ (.head _)))))))) (Row.of_at (at_all (hS354.heap (.tail _ (.tail _ (.tail _ (.tail _ (.tail _ (.head _))))))))) (Row.of_at (at_all (hS354.heap (.tail _ (.tail _ (.tail _ (.head _))))))) (Row.of_at (at_all (hS354.heap (.tail _ (.tail _ (.head _)))))) (Row.of_at (ent_at3 (hS354.heap (.tail _ (.tail _ (.tail _ (.tail _ (.tail _ (.tail _ (.head _)))))))) hx)) (Row.of_at (ent_at19 (hS354.heap (.tail _ (.tail _ (.tail _ (.tail _ (.tail _ (.tail _ (.head _)))))))) hx)) (Row.of_at (ent_at35 (hS354.heap (.tail _ (.tail _ (.tail _ (.tail _ (.tail _ (.tail _ (.head _)))))))) hx)) (Row.of_at (short_at4 (hS354.heap (.tail _ (.head _))))) (hbo.st hS354) rfl (by simp) (by simp) rfl hac hky hpv (by simp) rfl hx.e.bn) ?_
            rintro _ w355 ⟨a28, c28, rfl, hc28, hx356⟩
            have hS357 := hS354.call hx356
            simp only [List.cons_append, List.nil_append] at hS357; refine wl_val (r_assign (v := .slice _ _ _) rfl) rfl ?_; refine wl_nil ?_; refine c_then ?_; refine wp_ret ?_; refine ret1 Try.results42 ?_
            have eN := EV.L_len hx.e
            have eL : [75, 87, 69, 49] ++ octs8 (UInt64.ofNat x.e.nr.toNat) ++ octs8 (UInt64.ofNat x.e.tm.toNat) ++ [UInt8.ofNat x.e.act.toNat] ++ x.e.ac ++ x.e.ky ++ x.e.pv ++ octs (UInt32.ofNat x.e.bo.length) ++ x.e.bo = x.e.L := by simp only [EV.L, EV.M, EV.H]
            exact ⟨_, _, congrArg (fun n => Value.slice _ n _) eN.symm, by rw [eN]; exact hc28, St.rowTo (hS357.perm ((List.Perm.cons _ ((List.Perm.cons _ ((List.Perm.cons _ ((List.Perm.cons _ ((List.Perm.cons _ ((List.Perm.cons _ ((List.Perm.cons _ (List.Perm.refl _)).trans (List.perm_middle (l₁ := [_])).symm)).trans (List.perm_middle (l₁ := [_])).symm)).trans (List.perm_middle (l₁ := [_])).symm)).trans (List.perm_middle (l₁ := [_])).symm)).trans (List.perm_middle (l₁ := [_])).symm)).trans (List.perm_middle (l₁ := [_])).symm)).trans (List.perm_middle (l₁ := [_])).symm)).drop1.drop1.drop1.drop1.drop1.drop1.drop1 eN.symm (by rw [← eL]; simp)⟩
        · refine o_call rfl (r_call fn31 rfl rfl) rfl (rshort_ok x.e.bo.length _ (by omega)) ?_
          rintro _ w358 ⟨b24, rfl, hx359⟩
          have hS360 := hS313.call hx359
          simp only [List.cons_append, List.nil_append] at hS360
          refine ⟨hS360.drop1.drop1.drop1.drop1, ?_⟩
          refine g_all (rs := [1, 11]) (by decide +kernel) (by decide +kernel) rfl ?_
          simp only [List.forall_mem_cons, List.not_mem_nil, false_imp_iff, implies_true, and_true]
          refine ⟨?_, ?_⟩
          · refine o_exv rfl (x_mark [_, _] hS360 ti30.und ti5.und rfl) rfl ?_
            rintro _ w361 ⟨rfl, hS362⟩; simp only [List.cons_append, List.nil_append] at hS362
            refine ⟨hS362.drop1.drop1.drop1.drop1, ?_⟩
            refine g_one 11 (by decide +kernel) (by decide +kernel) ?_; refine o_exv rfl (x_lit (vs := (([UInt8.ofNat x.e.act.toNat] : List UInt8).map b8)) hS362 ti30.und ti5 rfl rfl rfl (by repeat' first | exact one_nil | exact one_b8 _ | exact one_v32 _ | exact one_all rfl | refine one_cons rfl ?_ | refine one_app ?_ ?_) (by decide)) rfl ?_; rintro _ w363 ⟨b14, rfl, hS364⟩
            refine ⟨hS364.drop1.drop1.drop1.drop1.drop1, ?_⟩
            refine g_tail (by decide +kernel) rfl (by decide +kernel) ?_; refine wl_exv (x_lit (vs := [.slice _ _ _, .slice _ _ _, .slice _ _ _, .slice _ _ _, .slice _ _ _, .slice _ _ _, .slice _ _ _, .slice _ _ _, .slice _ _ _]) hS364 ti90.und ti30 rfl rfl rfl (by intro c hc; simp only [List.mem_cons, List.not_mem_nil, or_false] at hc; rcases hc with rfl | rfl | rfl | rfl | rfl | rfl | rfl | rfl | rfl <;> rfl) (by decide)) rfl ?_; rintro _ w365 ⟨b27, rfl, hS366⟩; refine wl_call (r_call fn21 rfl rfl) rfl (concatE_ok [75, 87, 69, 49] (octs8 (UInt64.ofNat x.e.nr.toNat)) (octs8 (UInt64.ofNat x.e.tm.toNat)) [UInt8.ofNat x.e.act.toNat] x.e.ac x.e.ky x.e.pv (octs (UInt32.ofNat x.e.bo.length)) x.e.bo _ _ _ _ _ _ _ _ _ _ _ _ _ _ _ _ _ _ _ _ _ _ (Row.of_at (at_all (hS366.heap (.head _)))) (Row.of_at (at_all (hS366.heap (.tail _ (.tail _ (.tail _ (.tail _ (.head _)))))))) (Row.of_at (at_all (hS366.heap (.tail _ (.tail _ (.tail _ (.tail _ (.tail _ (.head _))))))))) (Row.of_at (at_all (hS366.heap (.tail _ (.tail _ (.tail _ (.head _))))))) (Row.of_at (at_all (hS366.heap (.tail _ (.head _))))) (Row.of_at (ent_at3 (hS366.heap (.tail _ (.tail _ (.tail _ (.tail _ (.tail _ (.tail _ (.head _)))))))) hx)) (Row.of_at (ent_at19 (hS366.heap (.tail _ (.tail _ (.tail _ (.tail _ (.tail _ (.tail _ (.head _)))))))) hx)) (Row.of_at (ent_at35 (hS366.heap (.tail _ (.tail _ (.tail _ (.tail _ (.tail _ (.tail _ (.head _)))))))) hx)) (Row.of_at (short_at4 (hS366.heap (.tail _ (.tail _ (.head _)))))) (hbo.st hS366) rfl (by simp) (by simp) rfl hac hky hpv (by simp) rfl hx.e.bn) ?_
            rintro _ w367 ⟨a28, c28, rfl, hc28, hx368⟩
            have hS369 := hS366.call hx368
            simp only [List.cons_append, List.nil_append] at hS369; refine wl_val (r_assign (v := .slice _ _ _) rfl) rfl ?_; refine wl_nil ?_; refine c_then ?_; refine wp_ret ?_; refine ret1 Try.results42 ?_
            have eN := EV.L_len hx.e
            have eL : [75, 87, 69, 49] ++ octs8 (UInt64.ofNat x.e.nr.toNat) ++ octs8 (UInt64.ofNat x.e.tm.toNat) ++ [UInt8.ofNat x.e.act.toNat] ++ x.e.ac ++ x.e.ky ++ x.e.pv ++ octs (UInt32.ofNat x.e.bo.length) ++ x.e.bo = x.e.L := by simp only [EV.L, EV.M, EV.H]
            exact ⟨_, _, congrArg (fun n => Value.slice _ n _) eN.symm, by rw [eN]; exact hc28, St.rowTo (hS369.perm ((List.Perm.cons _ ((List.Perm.cons _ ((List.Perm.cons _ ((List.Perm.cons _ ((List.Perm.cons _ ((List.Perm.cons _ ((List.Perm.cons _ (List.Perm.refl _)).trans (List.perm_middle (l₁ := [_])).symm)).trans (List.perm_middle (l₁ := [_])).symm)).trans (List.perm_middle (l₁ := [_])).symm)).trans (List.perm_middle (l₁ := [_])).symm)).trans (List.perm_middle (l₁ := [_])).symm)).trans (List.perm_middle (l₁ := [_])).symm)).trans (List.perm_middle (l₁ := [_])).symm)).drop1.drop1.drop1.drop1.drop1.drop1.drop1 eN.symm (by rw [← eL]; simp)⟩
          · refine o_exv rfl (x_lit (vs := (([UInt8.ofNat x.e.act.toNat] : List UInt8).map b8)) hS360 ti30.und ti5 rfl rfl rfl (by repeat' first | exact one_nil | exact one_b8 _ | exact one_v32 _ | exact one_all rfl | refine one_cons rfl ?_ | refine one_app ?_ ?_) (by decide)) rfl ?_
            rintro _ w370 ⟨b14, rfl, hS371⟩
            refine ⟨hS371.drop1.drop1.drop1.drop1.drop1, ?_⟩
            refine g_one 1 (by decide +kernel) (by decide +kernel) ?_; refine o_exv rfl (x_mark [_, _, _] hS371 ti30.und ti5.und rfl) rfl ?_; rintro _ w372 ⟨rfl, hS373⟩; simp only [List.cons_append, List.nil_append] at hS373
            refine ⟨hS373.drop1.drop1.drop1.drop1.drop1, ?_⟩
            refine g_tail (by decide +kernel) rfl (by decide +kernel) ?_; refine wl_exv (x_lit (vs := [.slice _ _ _, .slice _ _ _, .slice _ _ _, .slice _ _ _, .slice _ _ _, .slice _ _ _, .slice _ _ _, .slice _ _ _, .slice _ _ _]) hS373 ti90.und ti30 rfl rfl rfl (by intro c hc; simp only [List.mem_cons, List.not_mem_nil, or_false] at hc; rcases hc with rfl | rfl | rfl | rfl | rfl | rfl | rfl | rfl | rfl <;> rfl) (by decide)) rfl ?_; rintro _ w374 ⟨b27, rfl, hS375⟩; refine wl_call (r_call fn21 rfl rfl) rfl (concatE_ok [75, 87, 69, 49] (octs8 (UInt64.ofNat x.e.nr.toNat)) (octs8 (UInt64.ofNat x.e.tm.toNat)) [UInt8.ofNat x.e.act.toNat] x.e.ac x.e.ky x.e.pv (octs (UInt32.ofNat x.e.bo.length)) x.e.bo _ _ _ _ _ _ _ _ _ _ _ _ _ _ _ _ _ _ _ _ _ _ (Row.of_at (at_all (hS375.heap (.head _)))) (Row.of_at (at_all (hS375.heap (.tail _ (.tail _ (.tail _ (.tail _ (.head _)))))))) (Row.of_at (at_all (hS375.heap (.tail _ (.tail _ (.tail _ (.tail _ (.tail _ (.head _))))))))) (Row.of_at (at_all (hS375.heap (.tail _ (.tail _ (.tail _ (.head _))))))) (Row.of_at (at_all (hS375.heap (.tail _ (.head _))))) (Row.of_at (ent_at3 (hS375.heap (.tail _ (.tail _ (.tail _ (.tail _ (.tail _ (.tail _ (.head _)))))))) hx)) (Row.of_at (ent_at19 (hS375.heap (.tail _ (.tail _ (.tail _ (.tail _ (.tail _ (.tail _ (.head _)))))))) hx)) (Row.of_at (ent_at35 (hS375.heap (.tail _ (.tail _ (.tail _ (.tail _ (.tail _ (.tail _ (.head _)))))))) hx)) (Row.of_at (short_at4 (hS375.heap (.tail _ (.tail _ (.head _)))))) (hbo.st hS375) rfl (by simp) (by simp) rfl hac hky hpv (by simp) rfl hx.e.bn) ?_
            rintro _ w376 ⟨a28, c28, rfl, hc28, hx377⟩
            have hS378 := hS375.call hx377
            simp only [List.cons_append, List.nil_append] at hS378; refine wl_val (r_assign (v := .slice _ _ _) rfl) rfl ?_; refine wl_nil ?_; refine c_then ?_; refine wp_ret ?_; refine ret1 Try.results42 ?_
            have eN := EV.L_len hx.e
            have eL : [75, 87, 69, 49] ++ octs8 (UInt64.ofNat x.e.nr.toNat) ++ octs8 (UInt64.ofNat x.e.tm.toNat) ++ [UInt8.ofNat x.e.act.toNat] ++ x.e.ac ++ x.e.ky ++ x.e.pv ++ octs (UInt32.ofNat x.e.bo.length) ++ x.e.bo = x.e.L := by simp only [EV.L, EV.M, EV.H]
            exact ⟨_, _, congrArg (fun n => Value.slice _ n _) eN.symm, by rw [eN]; exact hc28, St.rowTo (hS378.perm ((List.Perm.cons _ ((List.Perm.cons _ ((List.Perm.cons _ ((List.Perm.cons _ ((List.Perm.cons _ ((List.Perm.cons _ ((List.Perm.cons _ (List.Perm.refl _)).trans (List.perm_middle (l₁ := [_])).symm)).trans (List.perm_middle (l₁ := [_])).symm)).trans (List.perm_middle (l₁ := [_])).symm)).trans (List.perm_middle (l₁ := [_])).symm)).trans (List.perm_middle (l₁ := [_])).symm)).trans (List.perm_middle (l₁ := [_])).symm)).trans (List.perm_middle (l₁ := [_])).symm)).drop1.drop1.drop1.drop1.drop1.drop1.drop1 eN.symm (by rw [← eL]; simp)⟩
      · refine o_exv rfl (x_lit (vs := (([UInt8.ofNat x.e.act.toNat] : List UInt8).map b8)) hS272 ti30.und ti5 rfl rfl rfl (by repeat' first | exact one_nil | exact one_b8 _ | exact one_v32 _ | exact one_all rfl | refine one_cons rfl ?_ | refine one_app ?_ ?_) (by decide)) rfl ?_
        rintro _ w379 ⟨b14, rfl, hS380⟩
        refine ⟨hS380.drop1.drop1.drop1, ?_⟩
        refine g_all (rs := [1, 7]) (by decide +kernel) (by decide +kernel) rfl ?_
        simp only [List.forall_mem_cons, List.not_mem_nil, false_imp_iff, implies_true, and_true]
        refine ⟨?_, ?_⟩
        · refine o_exv rfl (x_mark [_] hS380 ti30.und ti5.und rfl) rfl ?_
          rintro _ w381 ⟨rfl, hS382⟩; simp only [List.cons_append, List.nil_append] at hS382
          refine ⟨hS382.drop1.drop1.drop1, ?_⟩
          refine g_one 7 (by decide +kernel) (by decide +kernel) ?_; refine o_call rfl (r_call fn33 rfl rfl) rfl (rlong_z x.e.tm _ (by omega) (by omega)) ?_; rintro _ w383 ⟨b10, rfl, hx384⟩
          have hS385 := hS382.call hx384
          simp only [List.cons_append, List.nil_append] at hS385
          refine ⟨hS385.drop1.drop1.drop1.drop1, ?_⟩
          refine g_one 21 (by decide +kernel) (by decide +kernel) ?_; refine o_call rfl (r_call fn31 rfl rfl) rfl (rshort_ok x.e.bo.length _ (by omega)) ?_; rintro _ w386 ⟨b24, rfl, hx387⟩
          have hS388 := hS385.call hx387
          simp only [List.cons_append, List.nil_append] at hS388
          refine ⟨hS388.drop1.drop1.drop1.drop1.drop1, ?_⟩
          refine g_tail (by decide +kernel) rfl (by decide +kernel) ?_; refine wl_exv (x_lit (vs := [.slice _ _ _, .slice _ _ _, .slice _ _ _, .slice _ _ _, .slice _ _ _, .slice _ _ _, .slice _ _ _, .slice _ _ _, .slice _ _ _]) hS388 ti90.und ti30 rfl rfl rfl (by intro c hc; simp only [List.mem_cons, List.not_mem_nil, or_false] at hc; rcases hc with rfl | rfl | rfl | rfl | rfl | rfl | rfl | rfl | rfl <;> rfl) (by decide)) rfl ?_; rintro _ w389 ⟨b27, rfl, hS390⟩; refine wl_call (r_call fn21 rfl rfl) rfl (concatE_ok [75, 87, 69, 49] (octs8 (UInt64.ofNat x.e.nr.toNat)) (octs8 (UInt64.ofNat x.e.tm.toNat)) [UInt8.ofNat x.e.act.toNat] x.e.ac x.e.ky x.e.pv (octs (UInt32.ofNat x.e.bo.length)) x.e.bo _ _ _ _ _ _ _ _ _ _ _ _ _ _ _ _ _ _ _ _ _ _ (Row.of_at (at_all (hS390.heap (.head _)))) (Row.of_at (at_all (hS390.heap (.tail _ (.tail _ (.tail _ (.tail _ (.head _)))))))) (Row.of_at (at_all (hS390.heap (.tail _ (.tail _ (.tail _ (.tail _ (.tail _ (.head _))))))))) (Row.of_at (at_all (hS390.heap (.tail _ (.tail _ (.head _)))))) (Row.of_at (at_all (hS390.heap (.tail _ (.tail _ (.tail _ (.head _))))))) (Row.of_at (ent_at3 (hS390.heap (.tail _ (.tail _ (.tail _ (.tail _ (.tail _ (.tail _ (.head _)))))))) hx)) (Row.of_at (ent_at19 (hS390.heap (.tail _ (.tail _ (.tail _ (.tail _ (.tail _ (.tail _ (.head _)))))))) hx)) (Row.of_at (ent_at35 (hS390.heap (.tail _ (.tail _ (.tail _ (.tail _ (.tail _ (.tail _ (.head _)))))))) hx)) (Row.of_at (short_at4 (hS390.heap (.tail _ (.head _))))) (hbo.st hS390) rfl (by simp) (by simp) rfl hac hky hpv (by simp) rfl hx.e.bn) ?_
          rintro _ w391 ⟨a28, c28, rfl, hc28, hx392⟩
          have hS393 := hS390.call hx392
          simp only [List.cons_append, List.nil_append] at hS393; refine wl_val (r_assign (v := .slice _ _ _) rfl) rfl ?_; refine wl_nil ?_; refine c_then ?_; refine wp_ret ?_; refine ret1 Try.results42 ?_
          have eN := EV.L_len hx.e
          have eL : [75, 87, 69, 49] ++ octs8 (UInt64.ofNat x.e.nr.toNat) ++ octs8 (UInt64.ofNat x.e.tm.toNat) ++ [UInt8.ofNat x.e.act.toNat] ++ x.e.ac ++ x.e.ky ++ x.e.pv ++ octs (UInt32.ofNat x.e.bo.length) ++ x.e.bo = x.e.L := by simp only [EV.L, EV.M, EV.H]
          exact ⟨_, _, congrArg (fun n => Value.slice _ n _) eN.symm, by rw [eN]; exact hc28, St.rowTo (hS393.perm ((List.Perm.cons _ ((List.Perm.cons _ ((List.Perm.cons _ ((List.Perm.cons _ ((List.Perm.cons _ ((List.Perm.cons _ ((List.Perm.cons _ (List.Perm.refl _)).trans (List.perm_middle (l₁ := [_])).symm)).trans (List.perm_middle (l₁ := [_])).symm)).trans (List.perm_middle (l₁ := [_])).symm)).trans (List.perm_middle (l₁ := [_])).symm)).trans (List.perm_middle (l₁ := [_])).symm)).trans (List.perm_middle (l₁ := [_])).symm)).trans (List.perm_middle (l₁ := [_])).symm)).drop1.drop1.drop1.drop1.drop1.drop1.drop1 eN.symm (by rw [← eL]; simp)⟩
        · refine o_call rfl (r_call fn33 rfl rfl) rfl (rlong_z x.e.tm _ (by omega) (by omega)) ?_
          rintro _ w394 ⟨b10, rfl, hx395⟩
          have hS396 := hS380.call hx395
          simp only [List.cons_append, List.nil_append] at hS396
          refine ⟨hS396.drop1.drop1.drop1.drop1, ?_⟩
          refine g_all (rs := [1, 21]) (by decide +kernel) (by decide +kernel) rfl ?_
          simp only [List.forall_mem_cons, List.not_mem_nil, false_imp_iff, implies_true, and_true]
          refine ⟨?_, ?_⟩
          · refine o_exv rfl (x_mark [_, _] hS396 ti30.und ti5.und rfl) rfl ?_
            rintro _ w397 ⟨rfl, hS398⟩; simp only [List.cons_append, List.nil_append] at hS398
            refine ⟨hS398.drop1.drop1.drop1.drop1, ?_⟩
            refine g_one 21 (by decide +kernel) (by decide +kernel) ?_; refine o_call rfl (r_call fn31 rfl rfl) rfl (rshort_ok x.e.bo.length _ (by omega)) ?_; rintro _ w399 ⟨b24, rfl, hx400⟩
            have hS401 := hS398.call hx400
            simp only [List.cons_append, List.nil_append] at hS401
            refine ⟨hS401.drop1.drop1.drop1.drop1.drop1, ?_⟩
            refine g_tail (by decide +kernel) rfl (by decide +kernel) ?_; refine wl_exv (x_lit (vs := [.slice _ _ _, .slice _ _ _, .slice _ _ _, .slice _ _ _, .slice _ _ _, .slice _ _ _, .slice _ _ _, .slice _ _ _, .slice _ _ _]) hS401 ti90.und ti30 rfl rfl rfl (by intro c hc; simp only [List.mem_cons, List.not_mem_nil, or_false] at hc; rcases hc with rfl | rfl | rfl | rfl | rfl | rfl | rfl | rfl | rfl <;> rfl) (by decide)) rfl ?_; rintro _ w402 ⟨b27, rfl, hS403⟩; refine wl_call (r_call fn21 rfl rfl) rfl (concatE_ok [75, 87, 69, 49] (octs8 (UInt64.ofNat x.e.nr.toNat)) (octs8 (UInt64.ofNat x.e.tm.toNat)) [UInt8.ofNat x.e.act.toNat] x.e.ac x.e.ky x.e.pv (octs (UInt32.ofNat x.e.bo.length)) x.e.bo _ _ _ _ _ _ _ _ _ _ _ _ _ _ _ _ _ _ _ _ _ _ (Row.of_at (at_all (hS403.heap (.head _)))) (Row.of_at (at_all (hS403.heap (.tail _ (.tail _ (.tail _ (.tail _ (.head _)))))))) (Row.of_at (at_all (hS403.heap (.tail _ (.tail _ (.tail _ (.tail _ (.tail _ (.head _))))))))) (Row.of_at (at_all (hS403.heap (.tail _ (.tail _ (.head _)))))) (Row.of_at (at_all (hS403.heap (.tail _ (.tail _ (.tail _ (.head _))))))) (Row.of_at (ent_at3 (hS403.heap (.tail _ (.tail _ (.tail _ (.tail _ (.tail _ (.tail _ (.head _)))))))) hx)) (Row.of_at (ent_at19 (hS403.heap (.tail _ (.tail _ (.tail _ (.tail _ (.tail _ (.tail _ (.head _)))))))) hx)) (Row.of_at (ent_at35 (hS403.heap (.tail _ (.tail _ (.tail _ (.tail _ (.tail _ (.tail _ (.head _)))))))) hx)) (Row.of_at (short_at4 (hS403.heap (.tail _ (.head _))))) (hbo.st hS403) rfl (by simp) (by simp) rfl hac hky hpv (by simp) rfl hx.e.bn) ?_
            rintro _ w404 ⟨a28, c28, rfl, hc28, hx405⟩
            have hS406 := hS403.call hx405
            simp only [List.cons_append, List.nil_append] at hS406; refine wl_val (r_assign (v := .slice _ _ _) rfl) rfl ?_; refine wl_nil ?_; refine c_then ?_; refine wp_ret ?_; refine ret1 Try.results42 ?_
            have eN := EV.L_len hx.e
            have eL : [75, 87, 69, 49] ++ octs8 (UInt64.ofNat x.e.nr.toNat) ++ octs8 (UInt64.ofNat x.e.tm.toNat) ++ [UInt8.ofNat x.e.act.toNat] ++ x.e.ac ++ x.e.ky ++ x.e.pv ++ octs (UInt32.ofNat x.e.bo.length) ++ x.e.bo = x.e.L := by simp only [EV.L, EV.M, EV.H]
            exact ⟨_, _, congrArg (fun n => Value.slice _ n _) eN.symm, by rw [eN]; exact hc28, St.rowTo (hS406.perm ((List.Perm.cons _ ((List.Perm.cons _ ((List.Perm.cons _ ((List.Perm.cons _ ((List.Perm.cons _ ((List.Perm.cons _ ((List.Perm.cons _ (List.Perm.refl _)).trans (List.perm_middle (l₁ := [_])).symm)).trans (List.perm_middle (l₁ := [_])).symm)).trans (List.perm_middle (l₁ := [_])).symm)).trans (List.perm_middle (l₁ := [_])).symm)).trans (List.perm_middle (l₁ := [_])).symm)).trans (List.perm_middle (l₁ := [_])).symm)).trans (List.perm_middle (l₁ := [_])).symm)).drop1.drop1.drop1.drop1.drop1.drop1.drop1 eN.symm (by rw [← eL]; simp)⟩
          · refine o_call rfl (r_call fn31 rfl rfl) rfl (rshort_ok x.e.bo.length _ (by omega)) ?_
            rintro _ w407 ⟨b24, rfl, hx408⟩
            have hS409 := hS396.call hx408
            simp only [List.cons_append, List.nil_append] at hS409
            refine ⟨hS409.drop1.drop1.drop1.drop1.drop1, ?_⟩
            refine g_one 1 (by decide +kernel) (by decide +kernel) ?_; refine o_exv rfl (x_mark [_, _, _] hS409 ti30.und ti5.und rfl) rfl ?_; rintro _ w410 ⟨rfl, hS411⟩; simp only [List.cons_append, List.nil_append] at hS411
            refine ⟨hS411.drop1.drop1.drop1.drop1.drop1, ?_⟩
            refine g_tail (by decide +kernel) rfl (by decide +kernel) ?_; refine wl_exv (x_lit (vs := [.slice _ _ _, .slice _ _ _, .slice _ _ _, .slice _ _ _, .slice _ _ _, .slice _ _ _, .slice _ _ _, .slice _ _ _, .slice _ _ _]) hS411 ti90.und ti30 rfl rfl rfl (by intro c hc; simp only [List.mem_cons, List.not_mem_nil, or_false] at hc; rcases hc with rfl | rfl | rfl | rfl | rfl | rfl | rfl | rfl | rfl <;> rfl) (by decide)) rfl ?_; rintro _ w412 ⟨b27, rfl, hS413⟩; refine wl_call (r_call fn21 rfl rfl) rfl (concatE_ok [75, 87, 69, 49] (octs8 (UInt64.ofNat x.e.nr.toNat)) (octs8 (UInt64.ofNat x.e.tm.toNat)) [UInt8.ofNat x.e.act.toNat] x.e.ac x.e.ky x.e.pv (octs (UInt32.ofNat x.e.bo.length)) x.e.bo _ _ _ _ _ _ _ _ _ _ _ _ _ _ _ _ _ _ _ _ _ _ (Row.of_at (at_all (hS413.heap (.head _)))) (Row.of_at (at_all (hS413.heap (.tail _ (.tail _ (.tail _ (.tail _ (.head _)))))))) (Row.of_at (at_all (hS413.heap (.tail _ (.tail _ (.tail _ (.tail _ (.tail _ (.head _))))))))) (Row.of_at (at_all (hS413.heap (.tail _ (.tail _ (.head _)))))) (Row.of_at (at_all (hS413.heap (.tail _ (.tail _ (.tail _ (.head _))))))) (Row.of_at (ent_at3 (hS413.heap (.tail _ (.tail _ (.tail _ (.tail _ (.tail _ (.tail _ (.head _)))))))) hx)) (Row.of_at (ent_at19 (hS413.heap (.tail _ (.tail _ (.tail _ (.tail _ (.tail _ (.tail _ (.head _)))))))) hx)) (Row.of_at (ent_at35 (hS413.heap (.tail _ (.tail _ (.tail _ (.tail _ (.tail _ (.tail _ (.head _)))))))) hx)) (Row.of_at (short_at4 (hS413.heap (.tail _ (.head _))))) (hbo.st hS413) rfl (by simp) (by simp) rfl hac hky hpv (by simp) rfl hx.e.bn) ?_
            rintro _ w414 ⟨a28, c28, rfl, hc28, hx415⟩
            have hS416 := hS413.call hx415
            simp only [List.cons_append, List.nil_append] at hS416; refine wl_val (r_assign (v := .slice _ _ _) rfl) rfl ?_; refine wl_nil ?_; refine c_then ?_; refine wp_ret ?_; refine ret1 Try.results42 ?_
            have eN := EV.L_len hx.e
            have eL : [75, 87, 69, 49] ++ octs8 (UInt64.ofNat x.e.nr.toNat) ++ octs8 (UInt64.ofNat x.e.tm.toNat) ++ [UInt8.ofNat x.e.act.toNat] ++ x.e.ac ++ x.e.ky ++ x.e.pv ++ octs (UInt32.ofNat x.e.bo.length) ++ x.e.bo = x.e.L := by simp only [EV.L, EV.M, EV.H]
            exact ⟨_, _, congrArg (fun n => Value.slice _ n _) eN.symm, by rw [eN]; exact hc28, St.rowTo (hS416.perm ((List.Perm.cons _ ((List.Perm.cons _ ((List.Perm.cons _ ((List.Perm.cons _ ((List.Perm.cons _ ((List.Perm.cons _ ((List.Perm.cons _ (List.Perm.refl _)).trans (List.perm_middle (l₁ := [_])).symm)).trans (List.perm_middle (l₁ := [_])).symm)).trans (List.perm_middle (l₁ := [_])).symm)).trans (List.perm_middle (l₁ := [_])).symm)).trans (List.perm_middle (l₁ := [_])).symm)).trans (List.perm_middle (l₁ := [_])).symm)).trans (List.perm_middle (l₁ := [_])).symm)).drop1.drop1.drop1.drop1.drop1.drop1.drop1 eN.symm (by rw [← eL]; simp)⟩
    · refine o_call rfl (r_call fn33 rfl rfl) rfl (rlong_z x.e.tm _ (by omega) (by omega)) ?_
      rintro _ w417 ⟨b10, rfl, hx418⟩
      have hS419 := hS270.call hx418
      simp only [List.cons_append, List.nil_append] at hS419
      refine ⟨hS419.drop1.drop1, ?_⟩
      refine g_all (rs := [0, 11, 21]) (by decide +kernel) (by decide +kernel) rfl ?_
      simp only [List.forall_mem_cons, List.not_mem_nil, false_imp_iff, implies_true, and_true]
      refine ⟨?_, ?_, ?_⟩
      · refine o_exv rfl (x_lit (vs := (([75, 87, 69, 49] : List UInt8).map b8)) hS419 ti30.und ti5 rfl rfl rfl (by repeat' first | exact one_nil | exact one_b8 _ | exact one_v32 _ | exact one_all rfl | refine one_cons rfl ?_ | refine one_app ?_ ?_) (by decide)) rfl ?_
        rintro _ w420 ⟨b3, rfl, hS421⟩
        refine ⟨hS421.drop1.drop1.drop1, ?_⟩
        refine g_all (rs := [1, 11, 21]) (by decide +kernel) (by decide +kernel) rfl ?_
        simp only [List.forall_mem_cons, List.not_mem_nil, false_imp_iff, implies_true, and_true]
        refine ⟨?_, ?_, ?_⟩
        · refine o_exv rfl (x_mark [] hS421 ti30.und ti5.und rfl) rfl ?_
          rintro _ w422 ⟨rfl, hS423⟩; simp only [List.cons_append, List.nil_append] at hS423
          refine ⟨hS423.drop1.drop1.drop1, ?_⟩
          refine g_all (rs := [11, 21]) (by decide +kernel) (by decide +kernel) rfl ?_
          simp only [List.forall_mem_cons, List.not_mem_nil, false_imp_iff, implies_true, and_true]
          refine ⟨?_, ?_⟩
          · refine o_exv rfl (x_lit (vs := (([UInt8.ofNat x.e.act.toNat] : List UInt8).map b8)) hS423 ti30.und ti5 rfl rfl rfl (by repeat' first | exact one_nil | exact one_b8 _ | exact one_v32 _ | exact one_all rfl | refine one_cons rfl ?_ | refine one_app ?_ ?_) (by decide)) rfl ?_
            rintro _ w424 ⟨b14, rfl, hS425⟩
            refine ⟨hS425.drop1.drop1.drop1.drop1, ?_⟩
            refine g_one 21 (by decide +kernel) (by decide +kernel) ?_; refine o_call rfl (r_call fn31 rfl rfl) rfl (rshort_ok x.e.bo.length _ (by omega)) ?_; rintro _ w426 ⟨b24, rfl, hx427⟩
            have hS428 := hS425.call hx427
            simp only [List.cons_append, List.nil_append] at hS428
            refine ⟨hS428.drop1.drop1.drop1.drop1.drop1, ?_⟩
            refine g_tail (by decide +kernel) rfl (by decide +kernel) ?_; refine wl_exv (x_lit (vs := [.slice _ _ _, .slice _ _ _, .slice _ _ _, .slice _ _ _, .slice _ _ _, .slice _ _ _, .slice _ _ _, .slice _ _ _, .slice _ _ _]) hS428 ti90.und ti30 rfl rfl rfl (by intro c hc; simp only [List.mem_cons, List.not_mem_nil, or_false] at hc; rcases hc with rfl | rfl | rfl | rfl | rfl | rfl | rfl | rfl | rfl <;> rfl) (by decide)) rfl ?_; rintro _ w429 ⟨b27, rfl, hS430⟩; refine wl_call (r_call fn21 rfl rfl) rfl (concatE_ok [75, 87, 69, 49] (octs8 (UInt64.ofNat x.e.nr.toNat)) (octs8 (UInt64.ofNat x.e.tm.toNat)) [UInt8.ofNat x.e.act.toNat] x.e.ac x.e.ky x.e.pv (octs (UInt32.ofNat x.e.bo.length)) x.e.bo _ _ _ _ _ _ _ _ _ _ _ _ _ _ _ _ _ _ _ _ _ _ (Row.of_at (at_all (hS430.heap (.head _)))) (Row.of_at (at_all (hS430.heap (.tail _ (.tail _ (.tail _ (.head _))))))) (Row.of_at (at_all (hS430.heap (.tail _ (.tail _ (.tail _ (.tail _ (.tail _ (.head _))))))))) (Row.of_at (at_all (hS430.heap (.tail _ (.tail _ (.tail _ (.tail _ (.head _)))))))) (Row.of_at (at_all (hS430.heap (.tail _ (.tail _ (.head _)))))) (Row.of_at (ent_at3 (hS430.heap (.tail _ (.tail _ (.tail _ (.tail _ (.tail _ (.tail _ (.head _)))))))) hx)) (Row.of_at (ent_at19 (hS430.heap (.tail _ (.tail _ (.tail _ (.tail _ (.tail _ (.tail _ (.head _)))))))) hx)) (Row.of_at (ent_at35 (hS430.heap (.tail _ (.tail _ (.tail _ (.tail _ (.tail _ (.tail _ (.head _)))))))) hx)) (Row.of_at (short_at4 (hS430.heap (.tail _ (.head _))))) (hbo.st hS430) rfl (by simp) (by simp) rfl hac hky hpv (by simp) rfl hx.e.bn) ?_
            rintro _ w431 ⟨a28, c28, rfl, hc28, hx432⟩
            have hS433 := hS430.call hx432
            simp only [List.cons_append, List.nil_append] at hS433; refine wl_val (r_assign (v := .slice _ _ _) rfl) rfl ?_; refine wl_nil ?_; refine c_then ?_; refine wp_ret ?_; refine ret1 Try.results42 ?_
            have eN := EV.L_len hx.e
            have eL : [75, 87, 69, 49] ++ octs8 (UInt64.ofNat x.e.nr.toNat) ++ octs8 (UInt64.ofNat x.e.tm.toNat) ++ [UInt8.ofNat x.e.act.toNat] ++ x.e.ac ++ x.e.ky ++ x.e.pv ++ octs (UInt32.ofNat x.e.bo.length) ++ x.e.bo = x.e.L := by simp only [EV.L, EV.M, EV.H]
            exact ⟨_, _, congrArg (fun n => Value.slice _ n _) eN.symm, by rw [eN]; exact hc28, St.rowTo (hS433.perm ((List.Perm.cons _ ((List.Perm.cons _ ((List.Perm.cons _ ((List.Perm.cons _ ((List.Perm.cons _ ((List.Perm.cons _ ((List.Perm.cons _ (List.Perm.refl _)).trans (List.perm_middle (l₁ := [_])).symm)).trans (List.perm_middle (l₁ := [_])).symm)).trans (List.perm_middle (l₁ := [_])).symm)).trans (List.perm_middle (l₁ := [_])).symm)).trans (List.perm_middle (l₁ := [_])).symm)).trans (List.perm_middle (l₁ := [_])).symm)).trans (List.perm_middle (l₁ := [_])).symm)).drop1.drop1.drop1.drop1.drop1.drop1.drop1 eN.symm (by rw [← eL]; simp)⟩
          · refine o_call rfl (r_call fn31 rfl rfl) rfl (rshort_ok x.e.bo.length _ (by omega)) ?_
            rintro _ w434 ⟨b24, rfl, hx435⟩
            have hS436 := hS423.call hx435
            simp only [List.cons_append, List.nil_append] at hS436
            refine ⟨hS436.drop1.drop1.drop1.drop1, ?_⟩
            refine g_one 11 (by decide +kernel) (by decide +kernel) ?_; refine o_exv rfl (x_lit (vs := (([UInt8.ofNat x.e.act.toNat] : List UInt8).map b8)) hS436 ti30.und ti5 rfl rfl rfl (by repeat' first | exact one_nil | exact one_b8 _ | exact one_v32 _ | exact one_all rfl | refine one_cons rfl ?_ | refine one_app ?_ ?_) (by decide)) rfl ?_; rintro _ w437 ⟨b14, rfl, hS438⟩
            refine ⟨hS438.drop1.drop1.drop1.drop1.drop1, ?_⟩
            refine g_tail (by decide +kernel) rfl (by decide +kernel) ?_; refine wl_exv (x_lit (vs := [.slice _ _ _, .slice _ _ _, .slice _ _ _, .slice _ _ _, .slice _ _ _, .slice _ _ _, .slice _ _ _, .slice _ _ _, .slice _ _ _]) hS438 ti90.und ti30 rfl rfl rfl (by intro c hc; simp only [List.mem_cons, List.not_mem_nil, or_false] at hc; rcases hc with rfl | rfl | rfl | rfl | rfl | rfl | rfl | rfl | rfl <;> rfl) (by decide)) rfl ?_; rintro _ w439 ⟨b27, rfl, hS440⟩; refine wl_call (r_call fn21 rfl rfl) rfl (concatE_ok [75, 87, 69, 49] (octs8 (UInt64.ofNat x.e.nr.toNat)) (octs8 (UInt64.ofNat x.e.tm.toNat)) [UInt8.ofNat x.e.act.toNat] x.e.ac x.e.ky x.e.pv (octs (UInt32.ofNat x.e.bo.length)) x.e.bo _ _ _ _ _ _ _ _ _ _ _ _ _ _ _ _ _ _ _ _ _ _ (Row.of_at (at_all (hS440.heap (.head _)))) (Row.of_at (at_all (hS440.heap (.tail _ (.tail _ (.tail _ (.head _))))))) (Row.of_at (at_all (hS440.heap (.tail _ (.tail _ (.tail _ (.tail _ (.tail _ (.head _))))))))) (Row.of_at (at_all (hS440.heap (.tail _ (.tail _ (.tail _ (.tail _ (.head _)))))))) (Row.of_at (at_all (hS440.heap (.tail _ (.head _))))) (Row.of_at (ent_at3 (hS440.heap (.tail _ (.tail _ (.tail _ (.tail _ (.tail _ (.tail _ (.head _)))))))) hx)) (Row.of_at (ent_at19 (hS440.heap (.tail _ (.tail _ (.tail _ (.tail _ (.tail _ (.tail _ (.head _)))))))) hx)) (Row.of_at (ent_at35 (hS440.heap (.tail _ (.tail _ (.tail _ (.tail _ (.tail _ (.tail _ (.head _)))))))) hx)) (Row.of_at (short_at4 (hS440.heap (.tail _ (.tail _ (.head _)))))) (hbo.st hS440) rfl (by simp) (by simp) rfl hac hky hpv (by simp) rfl hx.e.bn) ?_
            rintro _ w441 ⟨a28, c28, rfl, hc28, hx442⟩
            have hS443 := hS440.call hx442
            simp only [List.cons_append, List.nil_append] at hS443; refine wl_val (r_assign (v := .slice _ _ _) rfl) rfl ?_; refine wl_nil ?_; refine c_then ?_; refine wp_ret ?_; refine ret1 Try.results42 ?_
            have eN := EV.L_len hx.e
            have eL : [75, 87, 69, 49] ++ octs8 (UInt64.ofNat x.e.nr.toNat) ++ octs8 (UInt64.ofNat x.e.tm.toNat) ++ [UInt8.ofNat x.e.act.toNat] ++ x.e.ac ++ x.e.ky ++ x.e.pv ++ octs (UInt32.ofNat x.e.bo.length) ++ x.e.bo = x.e.L := by simp only [EV.L, EV.M, EV.H]
            exact ⟨_, _, congrArg (fun n => Value.slice _ n _) eN.symm, by rw [eN]; exact hc28, St.rowTo (hS443.perm ((List.Perm.cons _ ((List.Perm.cons _ ((List.Perm.cons _ ((List.Perm.cons _ ((List.Perm.cons _ ((List.Perm.cons _ ((List.Perm.cons _ (List.Perm.refl _)).trans (List.perm_middle (l₁ := [_])).symm)).trans (List.perm_middle (l₁ := [_])).symm)).trans (List.perm_middle (l₁ := [_])).symm)).trans (List.perm_middle (l₁ := [_])).symm)).trans (List.perm_middle (l₁ := [_])).symm)).trans (List.perm_middle (l₁ := [_])).symm)).trans (List.perm_middle (l₁ := [_])).symm)).drop1.drop1.drop1.drop1.drop1.drop1.drop1 eN.symm (by rw [← eL]; simp)⟩
        · refine o_exv rfl (x_lit (vs := (([UInt8.ofNat x.e.act.toNat] : List UInt8).map b8)) hS421 ti30.und ti5 rfl rfl rfl (by repeat' first | exact one_nil | exact one_b8 _ | exact one_v32 _ | exact one_all rfl | refine one_cons rfl ?_ | refine one_app ?_ ?_) (by decide)) rfl ?_
          rintro _ w444 ⟨b14, rfl, hS445⟩
          refine ⟨hS445.drop1.drop1.drop1.drop1, ?_⟩
          refine g_all (rs := [1, 21]) (by decide +kernel) (by decide +kernel) rfl ?_
          simp only [List.forall_mem_cons, List.not_mem_nil, false_imp_iff, implies_true, and_true]
          refine ⟨?_, ?_⟩
          · refine o_exv rfl (x_mark [_] hS445 ti30.und ti5.und rfl) rfl ?_
            rintro _ w446 ⟨rfl, hS447⟩; simp only [List.cons_append, List.nil_append] at hS447
            refine ⟨hS447.drop1.drop1.drop1.drop1, ?_⟩
            refine g_one 21 (by decide +kernel) (by decide +kernel) ?_; refine o_call rfl (r_call fn31 rfl rfl) rfl (rshort_ok x.e.bo.length _ (by omega)) ?_; rintro _ w448 ⟨b24, rfl, hx449⟩
            have hS450 := hS447.call hx449
            simp only [List.cons_append, List.nil_append] at hS450
            refine ⟨hS450.drop1.drop1.drop1.drop1.drop1, ?_⟩
            refine g_tail (by decide +kernel) rfl (by decide +kernel) ?_; refine wl_exv (x_lit (vs := [.slice _ _ _, .slice _ _ _, .slice _ _ _, .slice _ _ _, .slice _ _ _, .slice _ _ _, .slice _ _ _, .slice _ _ _, .slice _ _ _]) hS450 ti90.und ti30 rfl rfl rfl (by intro c hc; simp only [List.mem_cons, List.not_mem_nil, or_false] at hc; rcases hc with rfl | rfl | rfl | rfl | rfl | rfl | rfl | rfl | rfl <;> rfl) (by decide)) rfl ?_; rintro _ w451 ⟨b27, rfl, hS452⟩; refine wl_call (r_call fn21 rfl rfl) rfl (concatE_ok [75, 87, 69, 49] (octs8 (UInt64.ofNat x.e.nr.toNat)) (octs8 (UInt64.ofNat x.e.tm.toNat)) [UInt8.ofNat x.e.act.toNat] x.e.ac x.e.ky x.e.pv (octs (UInt32.ofNat x.e.bo.length)) x.e.bo _ _ _ _ _ _ _ _ _ _ _ _ _ _ _ _ _ _ _ _ _ _ (Row.of_at (at_all (hS452.heap (.head _)))) (Row.of_at (at_all (hS452.heap (.tail _ (.tail _ (.tail _ (.head _))))))) (Row.of_at (at_all (hS452.heap (.tail _ (.tail _ (.tail _ (.tail _ (.tail _ (.head _))))))))) (Row.of_at (at_all (hS452.heap (.tail _ (.tail _ (.tail _ (.tail _ (.head _)))))))) (Row.of_at (at_all (hS452.heap (.tail _ (.tail _ (.head _)))))) (Row.of_at (ent_at3 (hS452.heap (.tail _ (.tail _ (.tail _ (.tail _ (.tail _ (.tail _ (.head _)))))))) hx)) (Row.of_at (ent_at19 (hS452.heap (.tail _ (.tail _ (.tail _ (.tail _ (.tail _ (.tail _ (.head _)))))))) hx)) (Row.of_at (ent_at35 (hS452.heap (.tail _ (.tail _ (.tail _ (.tail _ (.tail _ (.tail _ (.head _)))))))) hx)) (Row.of_at (short_at4 (hS452.heap (.tail _ (.head _))))) (hbo.st hS452) rfl (by simp) (by simp) rfl hac hky hpv (by simp) rfl hx.e.bn) ?_
            rintro _ w453 ⟨a28, c28, rfl, hc28, hx454⟩
            have hS455 := hS452.call hx454
            simp only [List.cons_append, List.nil_append] at hS455; refine wl_val (r_assign (v := .slice _ _ _) rfl) rfl ?_; refine wl_nil ?_; refine c_then ?_; refine wp_ret ?_; refine ret1 Try.results42 ?_
            have eN := EV.L_len hx.e
            have eL : [75, 87, 69, 49] ++ octs8 (UInt64.ofNat x.e.nr.toNat) ++ octs8 (UInt64.ofNat x.e.tm.toNat) ++ [UInt8.ofNat x.e.act.toNat] ++ x.e.ac ++ x.e.ky ++ x.e.pv ++ octs (UInt32.ofNat x.e.bo.length) ++ x.e.bo = x.e.L := by simp only [EV.L, EV.M, EV.H]
            exact ⟨_, _, congrArg (fun n => Value.slice _ n _) eN.symm, by rw [eN]; exact hc28, St.rowTo (hS455.perm ((List.Perm.cons _ ((List.Perm.cons _ ((List.Perm.cons _ ((List.Perm.cons _ ((List.Perm.cons _ ((List.Perm.cons _ ((List.Perm.cons _ (List.Perm.refl _)).trans (List.perm_middle (l₁ := [_])).symm)).trans (List.perm_middle (l₁ := [_])).symm)).trans (List.perm_middle (l₁ := [_])).symm)).trans (List.perm_middle (l₁ := [_])).symm)).trans (List.perm_middle (l₁ := [_])).symm)).trans (List.perm_middle (l₁ := [_])).symm)).trans (List.perm_middle (l₁ := [_])).symm)).drop1.drop1.drop1.drop1.drop1.drop1.drop1 eN.symm (by rw [← eL]; simp)⟩
          · refine o_call rfl (r_call fn31 rfl rfl) rfl (rshort_ok x.e.bo.length _ (by omega)) ?_
            rintro _ w456 ⟨b24, rfl, hx457⟩
            have hS458 := hS445.call hx457
            simp only [List.cons_append, List.nil_append] at hS458
            refine ⟨hS458.drop1.drop1.drop1.drop1.drop1, ?_⟩
            refine g_one 1 (by decide +kernel) (by decide +kernel) ?_; refine o_exv rfl (x_mark [_, _] hS458 ti30.und ti5.und rfl) rfl ?_; rintro _ w459 ⟨rfl, hS460⟩; simp only [List.cons_append, List.nil_append] at hS460
            refine ⟨hS460.drop1.drop1.drop1.drop1.drop1, ?_⟩
            refine g_tail (by decide +kernel) rfl (by decide +kernel) ?_; refine wl_exv (x_lit (vs := [.slice _ _ _, .slice _ _ _, .slice _ _ _, .slice _ _ _, .slice _ _ _, .slice _ _ _, .slice _ _ _, .slice _ _ _, .slice _ _ _]) hS460 ti90.und ti30 rfl rfl rfl (by intro c hc; simp only [List.mem_cons, List.not_mem_nil, or_false] at hc; rcases hc with rfl | rfl | rfl | rfl | rfl | rfl | rfl | rfl | rfl <;> rfl) (by decide)) rfl ?_; rintro _ w461 ⟨b27, rfl, hS462⟩; refine wl_call (r_call fn21 rfl rfl) rfl (concatE_ok [75, 87, 69, 49] (octs8 (UInt64.ofNat x.e.nr.toNat)) (octs8 (UInt64.ofNat x.e.tm.toNat)) [UInt8.ofNat x.e.act.toNat] x.e.ac x.e.ky x.e.pv (octs (UInt32.ofNat x.e.bo.length)) x.e.bo _ _ _ _ _ _ _ _ _ _ _ _ _ _ _ _ _ _ _ _ _ _ (Row.of_at (at_all (hS462.heap (.head _)))) (Row.of_at (at_all (hS462.heap (.tail _ (.tail _ (.tail _ (.head _))))))) (Row.of_at (at_all (hS462.heap (.tail _ (.tail _ (.tail _ (.tail _ (.tail _ (.head _))))))))) (Row.of_at (at_all (hS462.heap (.tail _ (.tail _ (.tail _ (.tail _ (.head _)))))))) (Row.of_at (at_all (hS462.heap (.tail _ (.tail _ (.head _)))))) (Row.of_at (ent_at3 (hS462.heap (.tail _ (.tail _ (.tail _ (.tail _ (.tail _ (.tail _ (.head _)))))))) hx)) (Row.of_at (ent_at19 (hS462.heap (.tail _ (.tail _ (.tail _ (.tail _ (.tail _ (.tail _ (.head _)))))))) hx)) (Row.of_at (ent_at35 (hS462.heap (.tail _ (.tail _ (.tail _ (.tail _ (.tail _ (.tail _ (.head _)))))))) hx)) (Row.of_at (short_at4 (hS462.heap (.tail _ (.head _))))) (hbo.st hS462) rfl (by simp) (by simp) rfl hac hky hpv (by simp) rfl hx.e.bn) ?_
            rintro _ w463 ⟨a28, c28, rfl, hc28, hx464⟩
            have hS465 := hS462.call hx464
            simp only [List.cons_append, List.nil_append] at hS465; refine wl_val (r_assign (v := .slice _ _ _) rfl) rfl ?_; refine wl_nil ?_; refine c_then ?_; refine wp_ret ?_; refine ret1 Try.results42 ?_
            have eN := EV.L_len hx.e
            have eL : [75, 87, 69, 49] ++ octs8 (UInt64.ofNat x.e.nr.toNat) ++ octs8 (UInt64.ofNat x.e.tm.toNat) ++ [UInt8.ofNat x.e.act.toNat] ++ x.e.ac ++ x.e.ky ++ x.e.pv ++ octs (UInt32.ofNat x.e.bo.length) ++ x.e.bo = x.e.L := by simp only [EV.L, EV.M, EV.H]
            exact ⟨_, _, congrArg (fun n => Value.slice _ n _) eN.symm, by rw [eN]; exact hc28, St.rowTo (hS465.perm ((List.Perm.cons _ ((List.Perm.cons _ ((List.Perm.cons _ ((List.Perm.cons _ ((List.Perm.cons _ ((List.Perm.cons _ ((List.Perm.cons _ (List.Perm.refl _)).trans (List.perm_middle (l₁ := [_])).symm)).trans (List.perm_middle (l₁ := [_])).symm)).trans (List.perm_middle (l₁ := [_])).symm)).trans (List.perm_middle (l₁ := [_])).symm)).trans (List.perm_middle (l₁ := [_])).symm)).trans (List.perm_middle (l₁ := [_])).symm)).trans (List.perm_middle (l₁ := [_])).symm)).drop1.drop1.drop1.drop1.drop1.drop1.drop1 eN.symm (by rw [← eL]; simp)⟩
        · refine o_call rfl (r_call fn31 rfl rfl) rfl (rshort_ok x.e.bo.length _ (by omega)) ?_
          rintro _ w466 ⟨b24, rfl, hx467⟩
          have hS468 := hS421.call hx467
          simp only [List.cons_append, List.nil_append] at hS468
          refine ⟨hS468.drop1.drop1.drop1.drop1, ?_⟩
          refine g_all (rs := [1, 11]) (by decide +kernel) (by decide +kernel) rfl ?_
          simp only [List.forall_mem_cons, List.not_mem_nil, false_imp_iff, implies_true, and_true]
          refine ⟨?_, ?_⟩
          · refine o_exv rfl (x_mark [_] hS468 ti30.und ti5.und rfl) rfl ?_
            rintro _ w469 ⟨rfl, hS470⟩; simp only [List.cons_append, List.nil_append] at hS470
            refine ⟨hS470.drop1.drop1.drop1.drop1, ?_⟩
            refine g_one 11 (by decide +kernel) (by decide +kernel) ?_; refine o_exv rfl (x_lit (vs := (([UInt8.ofNat x.e.act.toNat] : List UInt8).map b8)) hS470 ti30.und ti5 rfl rfl rfl (by repeat' first | exact one_nil | exact one_b8 _ | exact one_v32 _ | exact one_all rfl | refine one_cons rfl ?_ | refine one_app ?_ ?_) (by decide)) rfl ?_; rintro _ w471 ⟨b14, rfl, hS472⟩
            refine ⟨hS472.drop1.drop1.drop1.drop1.drop1, ?_⟩
            refine g_tail (by decide +kernel) rfl (by decide +kernel) ?_; refine wl_exv (x_lit (vs := [.slice _ _ _, .slice _ _ _, .slice _ _ _, .slice _ _ _, .slice _ _ _, .slice _ _ _, .slice _ _ _, .slice _ _ _, .slice _ _ _]) hS472 ti90.und ti30 rfl rfl rfl (by intro c hc; simp only [List.mem_cons, List.not_mem_nil, or_false] at hc; rcases hc with rfl | rfl | rfl | rfl | rfl | rfl | rfl | rfl | rfl <;> rfl) (by decide)) rfl ?_; rintro _ w473 ⟨b27, rfl, hS474⟩; refine wl_call (r_call fn21 rfl rfl) rfl (concatE_ok [75, 87, 69, 49] (octs8 (UInt64.ofNat x.e.nr.toNat)) (octs8 (UInt64.ofNat x.e.tm.toNat)) [UInt8.ofNat x.e.act.toNat] x.e.ac x.e.ky x.e.pv (octs (UInt32.ofNat x.e.bo.length)) x.e.bo _ _ _ _ _ _ _ _ _ _ _ _ _ _ _ _ _ _ _ _ _ _ (Row.of_at (at_all (hS474.heap (.head _)))) (Row.of_at (at_all (hS474.heap (.tail _ (.tail _ (.tail _ (.head _))))))) (Row.of_at (at_all (hS474.heap (.tail _ (.tail _ (.tail _ (.tail _ (.tail _ (.head _))))))))) (Row.of_at (at_all (hS474.heap (.tail _ (.tail _ (.tail _ (.tail _ (.head _)))))))) (Row.of_at (at_all (hS474.heap (.tail _ (.head _))))) (Row.of_at (ent_at3 (hS474.heap (.tail _ (.tail _ (.tail _ (.tail _ (.tail _ (.tail _ (.head _)))))))) hx)) (Row.of_at (ent_at19 (hS474.heap (.tail _ (.tail _ (.tail _ (.tail _ (.tail _ (.tail _ (.head _)))))))) hx)) (Row.of_at (ent_at35 (hS474.heap (.tail _ (.tail _ (.tail _ (.tail _ (.tail _ (.tail _ (.head _)))))))) hx)) (Row.of_at (short_at4 (hS474.heap (.tail _ (.tail _ (.head _)))))) (hbo.st hS474) rfl (by simp) (by simp) rfl hac hky hpv (by simp) rfl hx.e.bn) ?_
            rintro _ w475 ⟨a28, c28, rfl, hc28, hx476⟩
            have hS477 := hS474.call hx476
            simp only [List.cons_append, List.nil_append] at hS477; refine wl_val (r_assign (v := .slice _ _ _) rfl) rfl ?_; refine wl_nil ?_; refine c_then ?_; refine wp_ret ?_; refine ret1 Try.results42 ?_
            have eN := EV.L_len hx.e
            have eL : [75, 87, 69, 49] ++ octs8 (UInt64.ofNat x.e.nr.toNat) ++ octs8 (UInt64.ofNat x.e.tm.toNat) ++ [UInt8.ofNat x.e.act.toNat] ++ x.e.ac ++ x.e.ky ++ x.e.pv ++ octs (UInt32.ofNat x.e.bo.length) ++ x.e.bo = x.e.L := by simp only [EV.L, EV.M, EV.H]
            exact ⟨_, _, congrArg (fun n => Value.slice _ n _) eN.symm, by rw [eN]; exact hc28, St.rowTo (hS477.perm ((List.Perm.cons _ ((List.Perm.cons _ ((List.Perm.cons _ ((List.Perm.cons _ ((List.Perm.cons _ ((List.Perm.cons _ ((List.Perm.cons _ (List.Perm.refl _)).trans (List.perm_middle (l₁ := [_])).symm)).trans (List.perm_middle (l₁ := [_])).symm)).trans (List.perm_middle (l₁ := [_])).symm)).trans (List.perm_middle (l₁ := [_])).symm)).trans (List.perm_middle (l₁ := [_])).symm)).trans (List.perm_middle (l₁ := [_])).symm)).trans (List.perm_middle (l₁ := [_])).symm)).drop1.drop1.drop1.drop1.drop1.drop1.drop1 eN.symm (by rw [← eL]; simp)⟩
          · refine o_exv rfl (x_lit (vs := (([UInt8.ofNat x.e.act.toNat] : List UInt8).map b8)) hS468 ti30.und ti5 rfl rfl rfl (by repeat' first | exact one_nil | exact one_b8 _ | exact one_v32 _ | exact one_all rfl | refine one_cons rfl ?_ | refine one_app ?_ ?_) (by decide)) rfl ?_
            rintro _ w478 ⟨b14, rfl, hS479⟩
            refine ⟨hS479.drop1.drop1.drop1.drop1.drop1, ?_⟩
            refine g_one 1 (by decide +kernel) (by decide +kernel) ?_; refine o_exv rfl (x_mark [_, _] hS479 ti30.und ti5.und rfl) rfl ?_; rintro _ w480 ⟨rfl, hS481⟩; simp only [List.cons_append, List.nil_append] at hS481
            refine ⟨hS481.drop1.drop1.drop1.drop1.drop1, ?_⟩
            refine g_tail (by decide +kernel) rfl (by decide +kernel) ?_; refine wl_exv (x_lit (vs := [.slice _ _ _, .slice _ _ _, .slice _ _ _, .slice _ _ _, .slice _ _ _, .slice _ _ _, .slice _ _ _, .slice _ _ _, .slice _ _ _]) hS481 ti90.und ti30 rfl rfl rfl (by intro c hc; simp only [List.mem_cons, List.not_mem_nil, or_false] at hc; rcases hc with rfl | rfl | rfl | rfl | rfl | rfl | rfl | rfl | rfl <;> rfl) (by decide)) rfl ?_; rintro _ w482 ⟨b27, rfl, hS483⟩; refine wl_call (r_call fn21 rfl rfl) rfl (concatE_ok [75, 87, 69, 49] (octs8 (UInt64.ofNat x.e.nr.toNat)) (octs8 (UInt64.ofNat x.e.tm.toNat)) [UInt8.ofNat x.e.act.toNat] x.e.ac x.e.ky x.e.pv (octs (UInt32.ofNat x.e.bo.length)) x.e.bo _ _ _ _ _ _ _ _ _ _ _ _ _ _ _ _ _ _ _ _ _ _ (Row.of_at (at_all (hS483.heap (.head _)))) (Row.of_at (at_all (hS483.heap (.tail _ (.tail _ (.tail _ (.head _))))))) (Row.of_at (at_all (hS483.heap (.tail _ (.tail _ (.tail _ (.tail _ (.tail _ (.head _))))))))) (Row.of_at (at_all (hS483.heap (.tail _ (.tail _ (.tail _ (.tail _ (.head _)))))))) (Row.of_at (at_all (hS483.heap (.tail _ (.head _))))) (Row.of_at (ent_at3 (hS483.heap (.tail _ (.tail _ (.tail _ (.tail _ (.tail _ (.tail _ (.head _)))))))) hx)) (Row.of_at (ent_at19 (hS483.heap (.tail _ (.tail _ (.tail _ (.tail _ (.tail _ (.tail _ (.head _)))))))) hx)) (Row.of_at (ent_at35 (hS483.heap (.tail _ (.tail _ (.tail _ (.tail _ (.tail _ (.tail _ (.head _)))))))) hx)) (Row.of_at (short_at4 (hS483.heap (.tail _ (.tail _ (.head _)))))) (hbo.st hS483) rfl (by simp) (by simp) rfl hac hky hpv (by simp) rfl hx.e.bn) ?_
            rintro _ w484 ⟨a28, c28, rfl, hc28, hx485⟩
            have hS486 := hS483.call hx485
            simp only [List.cons_append, List.nil_append] at hS486; refine wl_val (r_assign (v := .slice _ _ _) rfl) rfl ?_; refine wl_nil ?_; refine c_then ?_; refine wp_ret ?_; refine ret1 Try.results42 ?_
            have eN := EV.L_len hx.e
            have eL : [75, 87, 69, 49] ++ octs8 (UInt64.ofNat x.e.nr.toNat) ++ octs8 (UInt64.ofNat x.e.tm.toNat) ++ [UInt8.ofNat x.e.act.toNat] ++ x.e.ac ++ x.e.ky ++ x.e.pv ++ octs (UInt32.ofNat x.e.bo.length) ++ x.e.bo = x.e.L := by simp only [EV.L, EV.M, EV.H]
            exact ⟨_, _, congrArg (fun n => Value.slice _ n _) eN.symm, by rw [eN]; exact hc28, St.rowTo (hS486.perm ((List.Perm.cons _ ((List.Perm.cons _ ((List.Perm.cons _ ((List.Perm.cons _ ((List.Perm.cons _ ((List.Perm.cons _ ((List.Perm.cons _ (List.Perm.refl _)).trans (List.perm_middle (l₁ := [_])).symm)).trans (List.perm_middle (l₁ := [_])).symm)).trans (List.perm_middle (l₁ := [_])).symm)).trans (List.perm_middle (l₁ := [_])).symm)).trans (List.perm_middle (l₁ := [_])).symm)).trans (List.perm_middle (l₁ := [_])).symm)).trans (List.perm_middle (l₁ := [_])).symm)).drop1.drop1.drop1.drop1.drop1.drop1.drop1 eN.symm (by rw [← eL]; simp)⟩
      · refine o_exv rfl (x_lit (vs := (([UInt8.ofNat x.e.act.toNat] : List UInt8).map b8)) hS419 ti30.und ti5 rfl rfl rfl (by repeat' first | exact one_nil | exact one_b8 _ | exact one_v32 _ | exact one_all rfl | refine one_cons rfl ?_ | refine one_app ?_ ?_) (by decide)) rfl ?_
        rintro _ w487 ⟨b14, rfl, hS488⟩
        refine ⟨hS488.drop1.drop1.drop1, ?_⟩
        refine g_all (rs := [0, 21]) (by decide +kernel) (by decide +kernel) rfl ?_
        simp only [List.forall_mem_cons, List.not_mem_nil, false_imp_iff, implies_true, and_true]
        refine ⟨?_, ?_⟩
        · refine o_exv rfl (x_lit (vs := (([75, 87, 69, 49] : List UInt8).map b8)) hS488 ti30.und ti5 rfl rfl rfl (by repeat' first | exact one_nil | exact one_b8 _ | exact one_v32 _ | exact one_all rfl | refine one_cons rfl ?_ | refine one_app ?_ ?_) (by decide)) rfl ?_
          rintro _ w489 ⟨b3, rfl, hS490⟩
          refine ⟨hS490.drop1.drop1.drop1.drop1, ?_⟩
          refine g_all (rs := [1, 21]) (by decide +kernel) (by decide +kernel) rfl ?_
          simp only [List.forall_mem_cons, List.not_mem_nil, false_imp_iff, implies_true, and_true]
          refine ⟨?_, ?_⟩
          · refine o_exv rfl (x_mark [] hS490 ti30.und ti5.und rfl) rfl ?_
            rintro _ w491 ⟨rfl, hS492⟩; simp only [List.cons_append, List.nil_append] at hS492
            refine ⟨hS492.drop1.drop1.drop1.drop1, ?_⟩
            refine g_one 21 (by decide +kernel) (by decide +kernel) ?_; refine o_call rfl (r_call fn31 rfl rfl) rfl (rshort_ok x.e.bo.length _ (by omega)) ?_; rintro _ w493 ⟨b24, rfl, hx494⟩
            have hS495 := hS492.call hx494
            simp only [List.cons_append, List.nil_append] at hS495
            refine ⟨hS495.drop1.drop1.drop1.drop1.drop1, ?_⟩
            refine g_tail (by decide +kernel) rfl (by decide +kernel) ?_; refine wl_exv (x_lit (vs := [.slice _ _ _, .slice _ _ _, .slice _ _ _, .slice _ _ _, .slice _ _ _, .slice _ _ _, .slice _ _ _, .slice _ _ _, .slice _ _ _]) hS495 ti90.und ti30 rfl rfl rfl (by intro c hc; simp only [List.mem_cons, List.not_mem_nil, or_false] at hc; rcases hc with rfl | rfl | rfl | rfl | rfl | rfl | rfl | rfl | rfl <;> rfl) (by decide)) rfl ?_; rintro _ w496 ⟨b27, rfl, hS497⟩; refine wl_call (r_call fn21 rfl rfl) rfl (concatE_ok [75, 87, 69, 49] (octs8 (UInt64.ofNat x.e.nr.toNat)) (octs8 (UInt64.ofNat x.e.tm.toNat)) [UInt8.ofNat x.e.act.toNat] x.e.ac x.e.ky x.e.pv (octs (UInt32.ofNat x.e.bo.length)) x.e.bo _ _ _ _ _ _ _ _ _ _ _ _ _ _ _ _ _ _ _ _ _ _ (Row.of_at (at_all (hS497.heap (.head _)))) (Row.of_at (at_all (hS497.heap (.tail _ (.tail _ (.head _)))))) (Row.of_at (at_all (hS497.heap (.tail _ (.tail _ (.tail _ (.tail _ (.tail _ (.head _))))))))) (Row.of_at (at_all (hS497.heap (.tail _ (.tail _ (.tail _ (.tail _ (.head _)))))))) (Row.of_at (at_all (hS497.heap (.tail _ (.tail _ (.tail _ (.head _))))))) (Row.of_at (ent_at3 (hS497.heap (.tail _ (.tail _ (.tail _ (.tail _ (.tail _ (.tail _ (.head _)))))))) hx)) (Row.of_at (ent_at19 (hS497.heap (.tail _ (.tail _ (.tail _ (.tail _ (.tail _ (.tail _ (.head _)))))))) hx)) (Row.of_at (ent_at35 (hS497.heap (.tail _ (.tail _ (.tail _ (.tail _ (.tail _ (.tail _ (.head _)))))))) hx)) (Row.of_at (short_at4 (hS497.heap (.tail _ (.head _))))) (hbo.st hS497) rfl (by simp) (by simp) rfl hac hky hpv (by simp) rfl hx.e.bn) ?_
            rintro _ w498 ⟨a28, c28, rfl, hc28, hx499⟩
            have hS500 := hS497.call hx499
            simp only [List.cons_append, List.nil_append] at hS500; refine wl_val (r_assign (v := .slice _ _ _) rfl) rfl ?_; refine wl_nil ?_; refine c_then ?_; refine wp_ret ?_; refine ret1 Try.results42 ?_
            have eN := EV.L_len hx.e
            have eL : [75, 87, 69, 49] ++ octs8 (UInt64.ofNat x.e.nr.toNat) ++ octs8 (UInt64.ofNat x.e.tm.toNat) ++ [UInt8.ofNat x.e.act.toNat] ++ x.e.ac ++ x.e.ky ++ x.e.pv ++ octs (UInt32.ofNat x.e.bo.length) ++ x.e.bo = x.e.L := by simp only [EV.L, EV.M, EV.H]
            exact ⟨_, _, congrArg (fun n => Value.slice _ n _) eN.symm, by rw [eN]; exact hc28, St.rowTo (hS500.perm ((List.Perm.cons _ ((List.Perm.cons _ ((List.Perm.cons _ ((List.Perm.cons _ ((List.Perm.cons _ ((List.Perm.cons _ ((List.Perm.cons _ (List.Perm.refl _)).trans (List.perm_middle (l₁ := [_])).symm)).trans (List.perm_middle (l₁ := [_])).symm)).trans (List.perm_middle (l₁ := [_])).symm)).trans (List.perm_middle (l₁ := [_])).symm)).trans (List.perm_middle (l₁ := [_])).symm)).trans (List.perm_middle (l₁ := [_])).symm)).trans (List.perm_middle (l₁ := [_])).symm)).drop1.drop1.drop1.drop1.drop1.drop1.drop1 eN.symm (by rw [← eL]; simp)⟩
          · refine o_call rfl (r_call fn31 rfl rfl) rfl (rshort_ok x.e.bo.length _ (by omega)) ?_
            rintro _ w501 ⟨b24, rfl, hx502⟩
            have hS503 := hS490.call hx502
            simp only [List.cons_append, List.nil_append] at hS503
            refine ⟨hS503.drop1.drop1.drop1.drop1.drop1, ?_⟩
            refine g_one 1 (by decide +kernel) (by decide +kernel) ?_; refine o_exv rfl (x_mark [_] hS503 ti30.und ti5.und rfl) rfl ?_; rintro _ w504 ⟨rfl, hS505⟩; simp only [List.cons_append, List.nil_append] at hS505
            refine ⟨hS505.drop1.drop1.drop1.drop1.drop1, ?_⟩
            refine g_tail (by decide +kernel) rfl (by decide +kernel) ?_; refine wl_exv (x_lit (vs := [.slice _ _ _, .slice _ _ _, .slice _ _ _, .slice _ _ _, .slice _ _ _, .slice _ _ _, .slice _ _ _, .slice _ _ _, .slice _ _ _]) hS505 ti90.und ti30 rfl rfl rfl (by intro c hc; simp only [List.mem_cons, List.not_mem_nil, or_false] at hc; rcases hc with rfl | rfl | rfl | rfl | rfl | rfl | rfl | rfl | rfl <;> rfl) (by decide)) rfl ?_; rintro _ w506 ⟨b27, rfl, hS507⟩; refine wl_call (r_call fn21 rfl rfl) rfl (concatE_ok [75, 87, 69, 49] (octs8 (UInt64.ofNat x.e.nr.toNat)) (octs8 (UInt64.ofNat x.e.tm.toNat)) [UInt8.ofNat x.e.act.toNat] x.e.ac x.e.ky x.e.pv (octs (UInt32.ofNat x.e.bo.length)) x.e.bo _ _ _ _ _ _ _ _ _ _ _ _ _ _ _ _ _ _ _ _ _ _ (Row.of_at (at_all (hS507.heap (.head _)))) (Row.of_at (at_all (hS507.heap (.tail _ (.tail _ (.head _)))))) (Row.of_at (at_all (hS507.heap (.tail _ (.tail _ (.tail _ (.tail _ (.tail _ (.head _))))))))) (Row.of_at (at_all (hS507.heap (.tail _ (.tail _ (.tail _ (.tail _ (.head _)))))))) (Row.of_at (at_all (hS507.heap (.tail _ (.tail _ (.tail _ (.head _))))))) (Row.of_at (ent_at3 (hS507.heap (.tail _ (.tail _ (.tail _ (.tail _ (.tail _ (.tail _ (.head _)))))))) hx)) (Row.of_at (ent_at19 (hS507.heap (.tail _ (.tail _ (.tail _ (.tail _ (.tail _ (.tail _ (.head _)))))))) hx)) (Row.of_at (ent_at35 (hS507.heap (.tail _ (.tail _ (.tail _ (.tail _ (.tail _ (.tail _ (.head _)))))))) hx)) (Row.of_at (short_at4 (hS507.heap (.tail _ (.head _))))) (hbo.st hS507) rfl (by simp) (by simp) rfl hac hky hpv (by simp) rfl hx.e.bn) ?_
            rintro _ w508 ⟨a28, c28, rfl, hc28, hx509⟩
            have hS510 := hS507.call hx509
            simp only [List.cons_append, List.nil_append] at hS510; refine wl_val (r_assign (v := .slice _ _ _) rfl) rfl ?_; refine wl_nil ?_; refine c_then ?_; refine wp_ret ?_; refine ret1 Try.results42 ?_
            have eN := EV.L_len hx.e
            have eL : [75, 87, 69, 49] ++ octs8 (UInt64.ofNat x.e.nr.toNat) ++ octs8 (UInt64.ofNat x.e.tm.toNat) ++ [UInt8.ofNat x.e.act.toNat] ++ x.e.ac ++ x.e.ky ++ x.e.pv ++ octs (UInt32.ofNat x.e.bo.length) ++ x.e.bo = x.e.L := by simp only [EV.L, EV.M, EV.H]
            exact ⟨_, _, congrArg (fun n => Value.slice _ n _) eN.symm, by rw [eN]; exact hc28, St.rowTo (hS510.perm ((List.Perm.cons _ ((List.Perm.cons _ ((List.Perm.cons _ ((List.Perm.cons _ ((List.Perm.cons _ ((List.Perm.cons _ ((List.Perm.cons _ (List.Perm.refl _)).trans (List.perm_middle (l₁ := [_])).symm)).trans (List.perm_middle (l₁ := [_])).symm)).trans (List.perm_middle (l₁ := [_])).symm)).trans (List.perm_middle (l₁ := [_])).symm)).trans (List.perm_middle (l₁ := [_])).symm)).trans (List.perm_middle (l₁ := [_])).symm)).trans (List.perm_middle (l₁ := [_])).symm)).drop1.drop1.drop1.drop1.drop1.drop1.drop1 eN.symm (by rw [← eL]; simp)⟩
        · refine o_call rfl (r_call fn31 rfl rfl) rfl (rshort_ok x.e.bo.length _ (by omega)) ?_
          rintro _ w511 ⟨b24, rfl, hx512⟩
          have hS513 := hS488.call hx512
          simp only [List.cons_append, List.nil_append] at hS513
          refine ⟨hS513.drop1.drop1.drop1.drop1, ?_⟩
          refine g_one 0 (by decide +kernel) (by decide +kernel) ?_; refine o_exv rfl (x_lit (vs := (([75, 87, 69, 49] : List UInt8).map b8)) hS513 ti30.und ti5 rfl rfl rfl (by repeat' first | exact one_nil | exact one_b8 _ | exact one_v32 _ | exact one_all rfl | refine one_cons rfl ?_ | refine one_app ?_ ?_) (by decide)) rfl ?_; rintro _ w514 ⟨b3, rfl, hS515⟩
          refine ⟨hS515.drop1.drop1.drop1.drop1.drop1, ?_⟩
          refine g_one 1 (by decide +kernel) (by decide +kernel) ?_; refine o_exv rfl (x_mark [] hS515 ti30.und ti5.und rfl) rfl ?_; rintro _ w516 ⟨rfl, hS517⟩; simp only [List.cons_append, List.nil_append] at hS517
          refine ⟨hS517.drop1.drop1.drop1.drop1.drop1, ?_⟩
          refine g_tail (by decide +kernel) rfl (by decide +kernel) ?_; refine wl_exv (x_lit (vs := [.slice _ _ _, .slice _ _ _, .slice _ _ _, .slice _ _ _, .slice _ _ _, .slice _ _ _, .slice _ _ _, .slice _ _ _, .slice _ _ _]) hS517 ti90.und ti30 rfl rfl rfl (by intro c hc; simp only [List.mem_cons, List.not_mem_nil, or_false] at hc; rcases hc with rfl | rfl | rfl | rfl | rfl | rfl | rfl | rfl | rfl <;> rfl) (by decide)) rfl ?_; rintro _ w518 ⟨b27, rfl, hS519⟩; refine wl_call (r_call fn21 rfl rfl) rfl (concatE_ok [75, 87, 69, 49] (octs8 (UInt64.ofNat x.e.nr.toNat)) (octs8 (UInt64.ofNat x.e.tm.toNat)) [UInt8.ofNat x.e.act.toNat] x.e.ac x.e.ky x.e.pv (octs (UInt32.ofNat x.e.bo.length)) x.e.bo _ _ _ _ _ _ _ _ _ _ _ _ _ _ _ _ _ _ _ _ _ _ (Row.of_at (at_all (hS519.heap (.head _)))) (Row.of_at (at_all (hS519.heap (.tail _ (.head _))))) (Row.of_at (at_all (hS519.heap (.tail _ (.tail _ (.tail _ (.tail _ (.tail _ (.head _))))))))) (Row.of_at (at_all (hS519.heap (.tail _ (.tail _ (.tail _ (.tail _ (.head _)))))))) (Row.of_at (at_all (hS519.heap (.tail _ (.tail _ (.tail _ (.head _))))))) (Row.of_at (ent_at3 (hS519.heap (.tail _ (.tail _ (.tail _ (.tail _ (.tail _ (.tail _ (.head _)))))))) hx)) (Row.of_at (ent_at19 (hS519.heap (.tail _ (.tail _ (.tail _ (.tail _ (.tail _ (.tail _ (.head _)))))))) hx)) (Row.of_at (ent_at35 (hS519.heap (.tail _ (.tail _ (.tail _ (.tail _ (.tail _ (.tail _ (.head _)))))))) hx)) (Row.of_at (short_at4 (hS519.heap (.tail _ (.tail _ (.head _)))))) (hbo.st hS519) rfl (by simp) (by simp) rfl hac hky hpv (by simp) rfl hx.e.bn) ?_
          rintro _ w520 ⟨a28, c28, rfl, hc28, hx521⟩
          have hS522 := hS519.call hx521
          simp only [List.cons_append, List.nil_append] at hS522; refine wl_val (r_assign (v := .slice _ _ _) rfl) rfl ?_; refine wl_nil ?_; refine c_then ?_; refine wp_ret ?_; refine ret1 Try.results42 ?_
          have eN := EV.L_len hx.e
          have eL : [75, 87, 69, 49] ++ octs8 (UInt64.ofNat x.e.nr.toNat) ++ octs8 (UInt64.ofNat x.e.tm.toNat) ++ [UInt8.ofNat x.e.act.toNat] ++ x.e.ac ++ x.e.ky ++ x.e.pv ++ octs (UInt32.ofNat x.e.bo.length) ++ x.e.bo = x.e.L := by simp only [EV.L, EV.M, EV.H]
          exact ⟨_, _, congrArg (fun n => Value.slice _ n _) eN.symm, by rw [eN]; exact hc28, St.rowTo (hS522.perm ((List.Perm.cons _ ((List.Perm.cons _ ((List.Perm.cons _ ((List.Perm.cons _ ((List.Perm.cons _ ((List.Perm.cons _ ((List.Perm.cons _ (List.Perm.refl _)).trans (List.perm_middle (l₁ := [_])).symm)).trans (List.perm_middle (l₁ := [_])).symm)).trans (List.perm_middle (l₁ := [_])).symm)).trans (List.perm_middle (l₁ := [_])).symm)).trans (List.perm_middle (l₁ := [_])).symm)).trans (List.perm_middle (l₁ := [_])).symm)).trans (List.perm_middle (l₁ := [_])).symm)).drop1.drop1.drop1.drop1.drop1.drop1.drop1 eN.symm (by rw [← eL]; simp)⟩
      · refine o_call rfl (r_call fn31 rfl rfl) rfl (rshort_ok x.e.bo.length _ (by omega)) ?_
        rintro _ w523 ⟨b24, rfl, hx524⟩
        have hS525 := hS419.call hx524
        simp only [List.cons_append, List.nil_append] at hS525
        refine ⟨hS525.drop1.drop1.drop1, ?_⟩
        refine g_all (rs := [0, 11]) (by decide +kernel) (by decide +kernel) rfl ?_
        simp only [List.forall_mem_cons, List.not_mem_nil, false_imp_iff, implies_true, and_true]
        refine ⟨?_, ?_⟩
        · refine o_exv rfl (x_lit (vs := (([75, 87, 69, 49] : List UInt8).map b8)) hS525 ti30.und ti5 rfl rfl rfl (by repeat' first | exact one_nil | exact one_b8 _ | exact one_v32 _ | exact one_all rfl | refine one_cons rfl ?_ | refine one_app ?_ ?_) (by decide)) rfl ?_
          rintro _ w526 ⟨b3, rfl, hS527⟩
          refine ⟨hS527.drop1.drop1.drop1.drop1, ?_⟩
          refine g_all (rs := [1, 11]) (by decide +kernel) (by decide +kernel) rfl ?_
          simp only [List.forall_mem_cons, List.not_mem_nil, false_imp_iff, implies_true, and_true]
          refine ⟨?_, ?_⟩
          · refine o_exv rfl (x_mark [] hS527 ti30.und ti5.und rfl) rfl ?_
            rintro _ w528 ⟨rfl, hS529⟩; simp only [List.cons_append, List.nil_append] at hS529
            refine ⟨hS529.drop1.drop1.drop1.drop1, ?_⟩
            refine g_one 11 (by decide +kernel) (by decide +kernel) ?_; refine o_exv rfl (x_lit (vs := (([UInt8.ofNat x.e.act.toNat] : List UInt8).map b8)) hS529 ti30.und ti5 rfl rfl rfl (by repeat' first | exact one_nil | exact one_b8 _ | exact one_v32 _ | exact one_all rfl | refine one_cons rfl ?_ | refine one_app ?_ ?_) (by decide)) rfl ?_; rintro _ w530 ⟨b14, rfl, hS531⟩
            refine ⟨hS531.drop1.drop1.drop1.drop1.drop1, ?_⟩
            refine g_tail (by decide +kernel) rfl (by decide +kernel) ?_; refine wl_exv (x_lit (vs := [.slice _ _ _, .slice _ _ _, .slice _ _ _, .slice _ _ _, .slice _ _ _, .slice _ _ _, .slice _ _ _, .slice _ _ _, .slice _ _ _]) hS531 ti90.und ti30 rfl rfl rfl (by intro c hc; simp only [List.mem_cons, List.not_mem_nil, or_false] at hc; rcases hc with rfl | rfl | rfl | rfl | rfl | rfl | rfl | rfl | rfl <;> rfl) (by decide)) rfl ?_; rintro _ w532 ⟨b27, rfl, hS533⟩; refine wl_call (r_call fn21 rfl rfl) rfl (concatE_ok [75, 87, 69, 49] (octs8 (UInt64.ofNat x.e.nr.toNat)) (octs8 (UInt64.ofNat x.e.tm.toNat)) [UInt8.ofNat x.e.act.toNat] x.e.ac x.e.ky x.e.pv (octs (UInt32.ofNat x.e.bo.length)) x.e.bo _ _ _ _ _ _ _ _ _ _ _ _ _ _ _ _ _ _ _ _ _ _ (Row.of_at (at_all (hS533.heap (.head _)))) (Row.of_at (at_all (hS533.heap (.tail _ (.tail _ (.head _)))))) (Row.of_at (at_all (hS533.heap (.tail _ (.tail _ (.tail _ (.tail _ (.tail _ (.head _))))))))) (Row.of_at (at_all (hS533.heap (.tail _ (.tail _ (.tail _ (.tail _ (.head _)))))))) (Row.of_at (at_all (hS533.heap (.tail _ (.head _))))) (Row.of_at (ent_at3 (hS533.heap (.tail _ (.tail _ (.tail _ (.tail _ (.tail _ (.tail _ (.head _)))))))) hx)) (Row.of_at (ent_at19 (hS533.heap (.tail _ (.tail _ (.tail _ (.tail _ (.tail _ (.tail _ (.head _)))))))) hx)) (Row.of_at (ent_at35 (hS533.heap (.tail _ (.tail _ (.tail _ (.tail _ (.tail _ (.tail _ (.head _)))))))) hx)) (Row.of_at (short_at4 (hS533.heap (.tail _ (.tail _ (.tail _ (.head _))))))) (hbo.st hS533) rfl (by simp) (by simp) rfl hac hky hpv (by simp) rfl hx.e.bn) ?_
            rintro _ w534 ⟨a28, c28, rfl, hc28, hx535⟩
            have hS536 := hS533.call hx535
            simp only [List.cons_append, List.nil_append] at hS536; refine wl_val (r_assign (v := .slice _ _ _) rfl) rfl ?_; refine wl_nil ?_; refine c_then ?_; refine wp_ret ?_; refine ret1 Try.results42 ?_
            have eN := EV.L_len hx.e
            have eL : [75, 87, 69, 49] ++ octs8 (UInt64.ofNat x.e.nr.toNat) ++ octs8 (UInt64.ofNat x.e.tm.toNat) ++ [UInt8.ofNat x.e.act.toNat] ++ x.e.ac ++ x.e.ky ++ x.e.pv ++ octs (UInt32.ofNat x.e.bo.length) ++ x.e.bo = x.e.L := by simp only [EV.L, EV.M, EV.H]
            exact ⟨_, _, congrArg (fun n => Value.slice _ n _) eN.symm, by rw [eN]; exact hc28, St.rowTo (hS536.perm ((List.Perm.cons _ ((List.Perm.cons _ ((List.Perm.cons _ ((List.Perm.cons _ ((List.Perm.cons _ ((List.Perm.cons _ ((List.Perm.cons _ (List.Perm.refl _)).trans (List.perm_middle (l₁ := [_])).symm)).trans (List.perm_middle (l₁ := [_])).symm)).trans (List.perm_middle (l₁ := [_])).symm)).trans (List.perm_middle (l₁ := [_])).symm)).trans (List.perm_middle (l₁ := [_])).symm)).trans (List.perm_middle (l₁ := [_])).symm)).trans (List.perm_middle (l₁ := [_])).symm)).drop1.drop1.drop1.drop1.drop1.drop1.drop1 eN.symm (by rw [← eL]; simp)⟩
          · refine o_exv rfl (x_lit (vs := (([UInt8.ofNat x.e.act.toNat] : List UInt8).map b8)) hS527 ti30.und ti5 rfl rfl rfl (by repeat' first | exact one_nil | exact one_b8 _ | exact one_v32 _ | exact one_all rfl | refine one_cons rfl ?_ | refine one_app ?_ ?_) (by decide)) rfl ?_
            rintro _ w537 ⟨b14, rfl, hS538⟩
            refine ⟨hS538.drop1.drop1.drop1.drop1.drop1, ?_⟩
            refine g_one 1 (by decide +kernel) (by decide +kernel) ?_; refine o_exv rfl (x_mark [_] hS538 ti30.und ti5.und rfl) rfl ?_; rintro _ w539 ⟨rfl, hS540⟩; simp only [List.cons_append, List.nil_append] at hS540
            refine ⟨hS540.drop1.drop1.drop1.drop1.drop1, ?_⟩
            refine g_tail (by decide +kernel) rfl (by decide +kernel) ?_; refine wl_exv (x_lit (vs := [.slice _ _ _, .slice _ _ _, .slice _ _ _, .slice _ _ _, .slice _ _ _, .slice _ _ _, .slice _ _ _, .slice _ _ _, .slice _ _ _]) hS540 ti90.und ti30 rfl rfl rfl (by intro c hc; simp only [List.mem_cons, List.not_mem_nil, or_false] at hc; rcases hc with rfl | rfl | rfl | rfl | rfl | rfl | rfl | rfl | rfl <;> rfl) (by decide)) rfl ?_; rintro _ w541 ⟨b27, rfl, hS542⟩; refine wl_call (r_call fn21 rfl rfl) rfl (concatE_ok [75, 87, 69, 49] (octs8 (UInt64.ofNat x.e.nr.toNat)) (octs8 (UInt64.ofNat x.e.tm.toNat)) [UInt8.ofNat x.e.act.toNat] x.e.ac x.e.ky x.e.pv (octs (UInt32.ofNat x.e.bo.length)) x.e.bo _ _ _ _ _ _ _ _ _ _ _ _ _ _ _ _ _ _ _ _ _ _ (Row.of_at (at_all (hS542.heap (.head _)))) (Row.of_at (at_all (hS542.heap (.tail _ (.tail _ (.head _)))))) (Row.of_at (at_all (hS542.heap (.tail _ (.tail _ (.tail _ (.tail _ (.tail _ (.head _))))))))) (Row.of_at (at_all (hS542.heap (.tail _ (.tail _ (.tail _ (.tail _ (.head _)))))))) (Row.of_at (at_all (hS542.heap (.tail _ (.head _))))) (Row.of_at (ent_at3 (hS542.heap (.tail _ (.tail _ (.tail _ (.tail _ (.tail _ (.tail _ (.head _)))))))) hx)) (Row.of_at (ent_at19 (hS542.heap (.tail _ (.tail _ (.tail _ (.tail _ (.tail _ (.tail _ (.head _)))))))) hx)) (Row.of_at (ent_at35 (hS542.heap (.tail _ (.tail _ (.tail _ (.tail _ (.tail _ (.tail _ (.head _)))))))) hx)) (Row.of_at (short_at4 (hS542.heap (.tail _ (.tail _ (.tail _ (.head _))))))) (hbo.st hS542) rfl (by simp) (by simp) rfl hac hky hpv (by simp) rfl hx.e.bn) ?_
            rintro _ w543 ⟨a28, c28, rfl, hc28, hx544⟩
            have hS545 := hS542.call hx544
            simp only [List.cons_append, List.nil_append] at hS545; refine wl_val (r_assign (v := .slice _ _ _) rfl) rfl ?_; refine wl_nil ?_; refine c_then ?_; refine wp_ret ?_; refine ret1 Try.results42 ?_
            have eN := EV.L_len hx.e
            have eL : [75, 87, 69, 49] ++ octs8 (UInt64.ofNat x.e.nr.toNat) ++ octs8 (UInt64.ofNat x.e.tm.toNat) ++ [UInt8.ofNat x.e.act.toNat] ++ x.e.ac ++ x.e.ky ++ x.e.pv ++ octs (UInt32.ofNat x.e.bo.length) ++ x.e.bo = x.e.L := by simp only [EV.L, EV.M, EV.H]
            exact ⟨_, _, congrArg (fun n => Value.slice _ n _) eN.symm, by rw [eN]; exact hc28, St.rowTo (hS545.perm ((List.Perm.cons _ ((List.Perm.cons _ ((List.Perm.cons _ ((List.Perm.cons _ ((List.Perm.cons _ ((List.Perm.cons _ ((List.Perm.cons _ (List.Perm.refl _)).trans (List.perm_middle (l₁ := [_])).symm)).trans (List.perm_middle (l₁ := [_])).symm)).trans (List.perm_middle (l₁ := [_])).symm)).trans (List.perm_middle (l₁ := [_])).symm)).trans (List.perm_middle (l₁ := [_])).symm)).trans (List.perm_middle (l₁ := [_])).symm)).trans (List.perm_middle (l₁ := [_])).symm)).drop1.drop1.drop1.drop1.drop1.drop1.drop1 eN.symm (by rw [← eL]; simp)⟩
        · refine o_exv rfl (x_lit (vs := (([UInt8.ofNat x.e.act.toNat] : List UInt8).map b8)) hS525 ti30.und ti5 rfl rfl rfl (by repeat' first | exact one_nil | exact one_b8 _ | exact one_v32 _ | exact one_all rfl | refine one_cons rfl ?_ | refine one_app ?_ ?_) (by decide)) rfl ?_
          rintro _ w546 ⟨b14, rfl, hS547⟩
          refine ⟨hS547.drop1.drop1.drop1.drop1, ?_⟩
          refine g_one 0 (by decide +kernel) (by decide +kernel) ?_; refine o_exv rfl (x_lit (vs := (([75, 87, 69, 49] : List UInt8).map b8)) hS547 ti30.und ti5 rfl rfl rfl (by repeat' first | exact one_nil | exact one_b8 _ | exact one_v32 _ | exact one_all rfl | refine one_cons rfl ?_ | refine one_app ?_ ?_) (by decide)) rfl ?_; rintro _ w548 ⟨b3, rfl, hS549⟩
          refine ⟨hS549.drop1.drop1.drop1.drop1.drop1, ?_⟩
          refine g_one 1 (by decide +kernel) (by decide +kernel) ?_; refine o_exv rfl (x_mark [] hS549 ti30.und ti5.und rfl) rfl ?_; rintro _ w550 ⟨rfl, hS551⟩; simp only [List.cons_append, List.nil_append] at hS551
          refine ⟨hS551.drop1.drop1.drop1.drop1.drop1, ?_⟩
          refine g_tail (by decide +kernel) rfl (by decide +kernel) ?_; refine wl_exv (x_lit (vs := [.slice _ _ _, .slice _ _ _, .slice _ _ _, .slice _ _ _, .slice _ _ _, .slice _ _ _, .slice _ _ _, .slice _ _ _, .slice _ _ _]) hS551 ti90.und ti30 rfl rfl rfl (by intro c hc; simp only [List.mem_cons, List.not_mem_nil, or_false] at hc; rcases hc with rfl | rfl | rfl | rfl | rfl | rfl | rfl | rfl | rfl <;> rfl) (by decide)) rfl ?_; rintro _ w552 ⟨b27, rfl, hS553⟩; refine wl_call (r_call fn21 rfl rfl) rfl (concatE_ok [75, 87, 69, 49] (octs8 (UInt64.ofNat x.e.nr.toNat)) (octs8 (UInt64.ofNat x.e.tm.toNat)) [UInt8.ofNat x.e.act.toNat] x.e.ac x.e.ky x.e.pv (octs (UInt32.ofNat x.e.bo.length)) x.e.bo _ _ _ _ _ _ _ _ _ _ _ _ _ _ _ _ _ _ _ _ _ _ (Row.of_at (at_all (hS553.heap (.head _)))) (Row.of_at (at_all (hS553.heap (.tail _ (.head _))))) (Row.of_at (at_all (hS553.heap (.tail _ (.tail _ (.tail _ (.tail _ (.tail _ (.head _))))))))) (Row.of_at (at_all (hS553.heap (.tail _ (.tail _ (.tail _ (.tail _ (.head _)))))))) (Row.of_at (at_all (hS553.heap (.tail _ (.tail _ (.head _)))))) (Row.of_at (ent_at3 (hS553.heap (.tail _ (.tail _ (.tail _ (.tail _ (.tail _ (.tail _ (.head _)))))))) hx)) (Row.of_at (ent_at19 (hS553.heap (.tail _ (.tail _ (.tail _ (.tail _ (.tail _ (.tail _ (.head _)))))))) hx)) (Row.of_at (ent_at35 (hS553.heap (.tail _ (.tail _ (.tail _ (.tail _ (.tail _ (.tail _ (.head _)))))))) hx)) (Row.of_at (short_at4 (hS553.heap (.tail _ (.tail _ (.tail _ (.head _))))))) (hbo.st hS553) rfl (by simp) (by simp) rfl hac hky hpv (by simp) rfl hx.e.bn) ?_
          rintro _ w554 ⟨a28, c28, rfl, hc28, hx555⟩
          have hS556 := hS553.call hx555
          simp only [List.cons_append, List.nil_append] at hS556; refine wl_val (r_assign (v := .slice _ _ _) rfl) rfl ?_; refine wl_nil ?_; refine c_then ?_; refine wp_ret ?_; refine ret1 Try.results42 ?_
          have eN := EV.L_len hx.e
          have eL : [75, 87, 69, 49] ++ octs8 (UInt64.ofNat x.e.nr.toNat) ++ octs8 (UInt64.ofNat x.e.tm.toNat) ++ [UInt8.ofNat x.e.act.toNat] ++ x.e.ac ++ x.e.ky ++ x.e.pv ++ octs (UInt32.ofNat x.e.bo.length) ++ x.e.bo = x.e.L := by simp only [EV.L, EV.M, EV.H]
          exact ⟨_, _, congrArg (fun n => Value.slice _ n _) eN.symm, by rw [eN]; exact hc28, St.rowTo (hS556.perm ((List.Perm.cons _ ((List.Perm.cons _ ((List.Perm.cons _ ((List.Perm.cons _ ((List.Perm.cons _ ((List.Perm.cons _ ((List.Perm.cons _ (List.Perm.refl _)).trans (List.perm_middle (l₁ := [_])).symm)).trans (List.perm_middle (l₁ := [_])).symm)).trans (List.perm_middle (l₁ := [_])).symm)).trans (List.perm_middle (l₁ := [_])).symm)).trans (List.perm_middle (l₁ := [_])).symm)).trans (List.perm_middle (l₁ := [_])).symm)).trans (List.perm_middle (l₁ := [_])).symm)).drop1.drop1.drop1.drop1.drop1.drop1.drop1 eN.symm (by rw [← eL]; simp)⟩
    · refine o_exv rfl (x_lit (vs := (([UInt8.ofNat x.e.act.toNat] : List UInt8).map b8)) hS270 ti30.und ti5 rfl rfl rfl (by repeat' first | exact one_nil | exact one_b8 _ | exact one_v32 _ | exact one_all rfl | refine one_cons rfl ?_ | refine one_app ?_ ?_) (by decide)) rfl ?_
      rintro _ w557 ⟨b14, rfl, hS558⟩
      refine ⟨hS558.drop1.drop1, ?_⟩
      refine g_all (rs := [0, 7]) (by decide +kernel) (by decide +kernel) rfl ?_
      simp only [List.forall_mem_cons, List.not_mem_nil, false_imp_iff, implies_true, and_true]
      refine ⟨?_, ?_⟩
      · refine o_exv rfl (x_lit (vs := (([75, 87, 69, 49] : List UInt8).map b8)) hS558 ti30.und ti5 rfl rfl rfl (by repeat' first | exact one_nil | exact one_b8 _ | exact one_v32 _ | exact one_all rfl | refine one_cons rfl ?_ | refine one_app ?_ ?_) (by decide)) rfl ?_
        rintro _ w559 ⟨b3, rfl, hS560⟩
        refine ⟨hS560.drop1.drop1.drop1, ?_⟩
        refine g_all (rs := [1, 7]) (by decide +kernel) (by decide +kernel) rfl ?_
        simp only [List.forall_mem_cons, List.not_mem_nil, false_imp_iff, implies_true, and_true]
        refine ⟨?_, ?_⟩
        · refine o_exv rfl (x_mark [] hS560 ti30.und ti5.und rfl) rfl ?_
          rintro _ w561 ⟨rfl, hS562⟩; simp only [List.cons_append, List.nil_append] at hS562
          refine ⟨hS562.drop1.drop1.drop1, ?_⟩
          refine g_one 7 (by decide +kernel) (by decide +kernel) ?_; refine o_call rfl (r_call fn33 rfl rfl) rfl (rlong_z x.e.tm _ (by omega) (by omega)) ?_; rintro _ w563 ⟨b10, rfl, hx564⟩
          have hS565 := hS562.call hx564
          simp only [List.cons_append, List.nil_append] at hS565
          refine ⟨hS565.drop1.drop1.drop1.drop1, ?_⟩
          refine g_one 21 (by decide +kernel) (by decide +kernel) ?_; refine o_call rfl (r_call fn31 rfl rfl) rfl (rshort_ok x.e.bo.length _ (by omega)) ?_; rintro _ w566 ⟨b24, rfl, hx567⟩
          have hS568 := hS565.call hx567
          simp only [List.cons_append, List.nil_append] at hS568
          refine ⟨hS568.drop1.drop1.drop1.drop1.drop1, ?_⟩
          refine g_tail (by decide +kernel) rfl (by decide +kernel) ?_; refine wl_exv (x_lit (vs := [.slice _ _ _, .slice _ _ _, .slice _ _ _, .slice _ _ _, .slice _ _ _, .slice _ _ _, .slice _ _ _, .slice _ _ _, .slice _ _ _]) hS568 ti90.und ti30 rfl rfl rfl (by intro c hc; simp only [List.mem_cons, List.not_mem_nil, or_false] at hc; rcases hc with rfl | rfl | rfl | rfl | rfl | rfl | rfl | rfl | rfl <;> rfl) (by decide)) rfl ?_; rintro _ w569 ⟨b27, rfl, hS570⟩; refine wl_call (r_call fn21 rfl rfl) rfl (concatE_ok [75, 87, 69, 49] (octs8 (UInt64.ofNat x.e.nr.toNat)) (octs8 (UInt64.ofNat x.e.tm.toNat)) [UInt8.ofNat x.e.act.toNat] x.e.ac x.e.ky x.e.pv (octs (UInt32.ofNat x.e.bo.length)) x.e.bo _ _ _ _ _ _ _ _ _ _ _ _ _ _ _ _ _ _ _ _ _ _ (Row.of_at (at_all (hS570.heap (.head _)))) (Row.of_at (at_all (hS570.heap (.tail _ (.tail _ (.tail _ (.head _))))))) (Row.of_at (at_all (hS570.heap (.tail _ (.tail _ (.tail _ (.tail _ (.tail _ (.head _))))))))) (Row.of_at (at_all (hS570.heap (.tail _ (.tail _ (.head _)))))) (Row.of_at (at_all (hS570.heap (.tail _ (.tail _ (.tail _ (.tail _ (.head _)))))))) (Row.of_at (ent_at3 (hS570.heap (.tail _ (.tail _ (.tail _ (.tail _ (.tail _ (.tail _ (.head _)))))))) hx)) (Row.of_at (ent_at19 (hS570.heap (.tail _ (.tail _ (.tail _ (.tail _ (.tail _ (.tail _ (.head _)))))))) hx)) (Row.of_at (ent_at35 (hS570.heap (.tail _ (.tail _ (.tail _ (.tail _ (.tail _ (.tail _ (.head _)))))))) hx)) (Row.of_at (short_at4 (hS570.heap (.tail _ (.head _))))) (hbo.st hS570) rfl (by simp) (by simp) rfl hac hky hpv (by simp) rfl hx.e.bn) ?_
          rintro _ w571 ⟨a28, c28, rfl, hc28, hx572⟩
          have hS573 := hS570.call hx572
          simp only [List.cons_append, List.nil_append] at hS573; refine wl_val (r_assign (v := .slice _ _ _) rfl) rfl ?_; refine wl_nil ?_; refine c_then ?_; refine wp_ret ?_; refine ret1 Try.results42 ?_
          have eN := EV.L_len hx.e
          have eL : [75, 87, 69, 49] ++ octs8 (UInt64.ofNat x.e.nr.toNat) ++ octs8 (UInt64.ofNat x.e.tm.toNat) ++ [UInt8.ofNat x.e.act.toNat] ++ x.e.ac ++ x.e.ky ++ x.e.pv ++ octs (UInt32.ofNat x.e.bo.length) ++ x.e.bo = x.e.L := by simp only [EV.L, EV.M, EV.H]
          exact ⟨_, _, congrArg (fun n => Value.slice _ n _) eN.symm, by rw [eN]; exact hc28, St.rowTo (hS573.perm ((List.Perm.cons _ ((List.Perm.cons _ ((List.Perm.cons _ ((List.Perm.cons _ ((List.Perm.cons _ ((List.Perm.cons _ ((List.Perm.cons _ (List.Perm.refl _)).trans (List.perm_middle (l₁ := [_])).symm)).trans (List.perm_middle (l₁ := [_])).symm)).trans (List.perm_middle (l₁ := [_])).symm)).trans (List.perm_middle (l₁ := [_])).symm)).trans (List.perm_middle (l₁ := [_])).symm)).trans (List.perm_middle (l₁ := [_])).symm)).trans (List.perm_middle (l₁ := [_])).symm)).drop1.drop1.drop1.drop1.drop1.drop1.drop1 eN.symm (by rw [← eL]; simp)⟩
        · refine o_call rfl (r_call fn33 rfl rfl) rfl (rlong_z x.e.tm _ (by omega) (by omega)) ?_
          rintro _ w574 ⟨b10, rfl, hx575⟩
          have hS576 := hS560.call hx575
          simp only [List.cons_append, List.nil_append] at hS576
          refine ⟨hS576.drop1.drop1.drop1.drop1, ?_⟩
          refine g_all (rs := [1, 21]) (by decide +kernel) (by decide +kernel) rfl ?_
          simp only [List.forall_mem_cons, List.not_mem_nil, false_imp_iff, implies_true, and_true]
          refine ⟨?_, ?_⟩
          · refine o_exv rfl (x_mark [_] hS576 ti30.und ti5.und rfl) rfl ?_
            rintro _ w577 ⟨rfl, hS578⟩; simp only [List.cons_append, List.nil_append] at hS578
            refine ⟨hS578.drop1.drop1.drop1.drop1, ?_⟩
            refine g_one 21 (by decide +kernel) (by decide +kernel) ?_; refine o_call rfl (r_call fn31 rfl rfl) rfl (rshort_ok x.e.bo.length _ (by omega)) ?_; rintro _ w579 ⟨b24, rfl, hx580⟩
            have hS581 := hS578.call hx580
            simp only [List.cons_append, List.nil_append] at hS581
            refine ⟨hS581.drop1.drop1.drop1.drop1.drop1, ?_⟩
            refine g_tail (by decide +kernel) rfl (by decide +kernel) ?_; refine wl_exv (x_lit (vs := [.slice _ _ _, .slice _ _ _, .slice _ _ _, .slice _ _ _, .slice _ _ _, .slice _ _ _, .slice _ _ _, .slice _ _ _, .slice _ _ _]) hS581 ti90.und ti30 rfl rfl rfl (by intro c hc; simp only [List.mem_cons, List.not_mem_nil, or_false] at hc; rcases hc with rfl | rfl | rfl | rfl | rfl | rfl | rfl | rfl | rfl <;> rfl) (by decide)) rfl ?_; rintro _ w582 ⟨b27, rfl, hS583⟩; refine wl_call (r_call fn21 rfl rfl) rfl (concatE_ok [75, 87, 69, 49] (octs8 (UInt64.ofNat x.e.nr.toNat)) (octs8 (UInt64.ofNat x.e.tm.toNat)) [UInt8.ofNat x.e.act.toNat] x.e.ac x.e.ky x.e.pv (octs (UInt32.ofNat x.e.bo.length)) x.e.bo _ _ _ _ _ _ _ _ _ _ _ _ _ _ _ _ _ _ _ _ _ _ (Row.of_at (at_all (hS583.heap (.head _)))) (Row.of_at (at_all (hS583.heap (.tail _ (.tail _ (.tail _ (.head _))))))) (Row.of_at (at_all (hS583.heap (.tail _ (.tail _ (.tail _ (.tail _ (.tail _ (.head _))))))))) (Row.of_at (at_all (hS583.heap (.tail _ (.tail _ (.head _)))))) (Row.of_at (at_all (hS583.heap (.tail _ (.tail _ (.tail _ (.tail _ (.head _)))))))) (Row.of_at (ent_at3 (hS583.heap (.tail _ (.tail _ (.tail _ (.tail _ (.tail _ (.tail _ (.head _)))))))) hx)) (Row.of_at (ent_at19 (hS583.heap (.tail _ (.tail _ (.tail _ (.tail _ (.tail _ (.tail _ (.head _)))))))) hx)) (Row.of_at (ent_at35 (hS583.heap (.tail _ (.tail _ (.tail _ (.tail _ (.tail _ (.tail _ (.head _)))))))) hx)) (Row.of_at (short_at4 (hS583.heap (.tail _ (.head _))))) (hbo.st hS583) rfl (by simp) (by simp) rfl hac hky hpv (by simp) rfl hx.e.bn) ?_
            rintro _ w584 ⟨a28, c28, rfl, hc28, hx585⟩
            have hS586 := hS583.call hx585
            simp only [List.cons_append, List.nil_append] at hS586; refine wl_val (r_assign (v := .slice _ _ _) rfl) rfl ?_; refine wl_nil ?_; refine c_then ?_; refine wp_ret ?_; refine ret1 Try.results42 ?_
            have eN := EV.L_len hx.e
            have eL : [75, 87, 69, 49] ++ octs8 (UInt64.ofNat x.e.nr.toNat) ++ octs8 (UInt64.ofNat x.e.tm.toNat) ++ [UInt8.ofNat x.e.act.toNat] ++ x.e.ac ++ x.e.ky ++ x.e.pv ++ octs (UInt32.ofNat x.e.bo.length) ++ x.e.bo = x.e.L := by simp only [EV.L, EV.M, EV.H]
            exact ⟨_, _, congrArg (fun n => Value.slice _ n _) eN.symm, by rw [eN]; exact hc28, St.rowTo (hS586.perm ((List.Perm.cons _ ((List.Perm.cons _ ((List.Perm.cons _ ((List.Perm.cons _ ((List.Perm.cons _ ((List.Perm.cons _ ((List.Perm.cons _ (List.Perm.refl _)).trans (List.perm_middle (l₁ := [_])).symm)).trans (List.perm_middle (l₁ := [_])).symm)).trans (List.perm_middle (l₁ := [_])).symm)).trans (List.perm_middle (l₁ := [_])).symm)).trans (List.perm_middle (l₁ := [_])).symm)).trans (List.perm_middle (l₁ := [_])).symm)).trans (List.perm_middle (l₁ := [_])).symm)).drop1.drop1.drop1.drop1.drop1.drop1.drop1 eN.symm (by rw [← eL]; simp)⟩
          · refine o_call rfl (r_call fn31 rfl rfl) rfl (rshort_ok x.e.bo.length _ (by omega)) ?_
            rintro _ w587 ⟨b24, rfl, hx588⟩
            have hS589 := hS576.call hx588
            simp only [List.cons_append, List.nil_append] at hS589
            refine ⟨hS589.drop1.drop1.drop1.drop1.drop1, ?_⟩
            refine g_one 1 (by decide +kernel) (by decide +kernel) ?_; refine o_exv rfl (x_mark [_, _] hS589 ti30.und ti5.und rfl) rfl ?_; rintro _ w590 ⟨rfl, hS591⟩; simp only [List.cons_append, List.nil_append] at hS591
            refine ⟨hS591.drop1.drop1.drop1.drop1.drop1, ?_⟩
            refine g_tail (by decide +kernel) rfl (by decide +kernel) ?_; refine wl_exv (x_lit (vs := [.slice _ _ _, .slice _ _ _, .slice _ _ _, .slice _ _ _, .slice _ _ _, .slice _ _ _, .slice _ _ _, .slice _ _ _, .slice _ _ _]) hS591 ti90.und ti30 rfl rfl rfl (by intro c hc; simp only [List.mem_cons, List.not_mem_nil, or_false] at hc; rcases hc with rfl | rfl | rfl | rfl | rfl | rfl | rfl | rfl | rfl <;> rfl) (by decide)) rfl ?_; rintro _ w592 ⟨b27, rfl, hS593⟩; refine wl_call (r_call fn21 rfl rfl) rfl (concatE_ok [75, 87, 69, 49] (octs8 (UInt64.ofNat x.e.nr.toNat)) (octs8 (UInt64.ofNat x.e.tm.toNat)) [UInt8.ofNat x.e.act.toNat] x.e.ac x.e.ky x.e.pv (octs (UInt32.ofNat x.e.bo.length)) x.e.bo _ _ _ _ _ _ _ _ _ _ _ _ _ _ _ _ _ _ _ _ _ _ (Row.of_at (at_all (hS593.heap (.head _)))) (Row.of_at (at_all (hS593.heap (.tail _ (.tail _ (.tail _ (.head _))))))) (Row.of_at (at_all (hS593.heap (.tail _ (.tail _ (.tail _ (.tail _ (.tail _ (.head _))))))))) (Row.of_at (at_all (hS593.heap (.tail _ (.tail _ (.head _)))))) (Row.of_at (at_all (hS593.heap (.tail _ (.tail _ (.tail _ (.tail _ (.head _)))))))) (Row.of_at (ent_at3 (hS593.heap (.tail _ (.tail _ (.tail _ (.tail _ (.tail _ (.tail _ (.head _)))))))) hx)) (Row.of_at (ent_at19 (hS593.heap (.tail _ (.tail _ (.tail _ (.tail _ (.tail _ (.tail _ (.head _)))))))) hx)) (Row.of_at (ent_at35 (hS593.heap (.tail _ (.tail _ (.tail _ (.tail _ (.tail _ (.tail _ (.head _)))))))) hx)) (Row.of_at (short_at4 (hS593.heap (.tail _ (.head _))))) (hbo.st hS593) rfl (by simp) (by simp) rfl hac hky hpv (by simp) rfl hx.e.bn) ?_
            rintro _ w594 ⟨a28, c28, rfl, hc28, hx595⟩
            have hS596 := hS593.call hx595
            simp only [List.cons_append, List.nil_append] at hS596; refine wl_val (r_assign (v := .slice _ _ _) rfl) rfl ?_; refine wl_nil ?_; refine c_then ?_; refine wp_ret ?_; refine ret1 Try.results42 ?_
            have eN := EV.L_len hx.e
            have eL : [75, 87, 69, 49] ++ octs8 (UInt64.ofNat x.e.nr.toNat) ++ octs8 (UInt64.ofNat x.e.tm.toNat) ++ [UInt8.ofNat x.e.act.toNat] ++ x.e.ac ++ x.e.ky ++ x.e.pv ++ octs (UInt32.ofNat x.e.bo.length) ++ x.e.bo = x.e.L := by simp only [EV.L, EV.M, EV.H]
            exact ⟨_, _, congrArg (fun n => Value.slice _ n _) eN.symm, by rw [eN]; exact hc28, St.rowTo (hS596.perm ((List.Perm.cons _ ((List.Perm.cons _ ((List.Perm.cons _ ((List.Perm.cons _ ((List.Perm.cons _ ((List.Perm.cons _ ((List.Perm.cons _ (List.Perm.refl _)).trans (List.perm_middle (l₁ := [_])).symm)).trans (List.perm_middle (l₁ := [_])).symm)).trans (List.perm_middle (l₁ := [_])).symm)).trans (List.perm_middle (l₁ := [_])).symm)).trans (List.perm_middle (l₁ := [_])).symm)).trans (List.perm_middle (l₁ := [_])).symm)).trans (List.perm_middle (l₁ := [_])).symm)).drop1.drop1.drop1.drop1.drop1.drop1.drop1 eN.symm (by rw [← eL]; simp)⟩
      · refine o_call rfl (r_call fn33 rfl rfl) rfl (rlong_z x.e.tm _ (by omega) (by omega)) ?_
        rintro _ w597 ⟨b10, rfl, hx598⟩
        have hS599 := hS558.call hx598
        simp only [List.cons_append, List.nil_append] at hS599
        refine ⟨hS599.drop1.drop1.drop1, ?_⟩
        refine g_all (rs := [0, 21]) (by decide +kernel) (by decide +kernel) rfl ?_
        simp only [List.forall_mem_cons, List.not_mem_nil, false_imp_iff, implies_true, and_true]
        refine ⟨?_, ?_⟩
        · refine o_exv rfl (x_lit (vs := (([75, 87, 69, 49] : List UInt8).map b8)) hS599 ti30.und ti5 rfl rfl rfl (by repeat' first | exact one_nil | exact one_b8 _ | exact one_v32 _ | exact one_all rfl | refine one_cons rfl ?_ | refine one_app ?_ ?_) (by decide)) rfl ?_
          rintro _ w600 ⟨b3, rfl, hS601⟩
          refine ⟨hS601.drop1.drop1.drop1.drop1, ?_⟩
          refine g_all (rs := [1, 21]) (by decide +kernel) (by decide +kernel) rfl ?_
          simp only [List.forall_mem_cons, List.not_mem_nil, false_imp_iff, implies_true, and_true]
          refine ⟨?_, ?_⟩
          · refine o_exv rfl (x_mark [] hS601 ti30.und ti5.und rfl) rfl ?_
            rintro _ w602 ⟨rfl, hS603⟩; simp only [List.cons_append, List.nil_append] at hS603
            refine ⟨hS603.drop1.drop1.drop1.drop1, ?_⟩
            refine g_one 21 (by decide +kernel) (by decide +kernel) ?_; refine o_call rfl (r_call fn31 rfl rfl) rfl (rshort_ok x.e.bo.length _ (by omega)) ?_; rintro _ w604 ⟨b24, rfl, hx605⟩
            have hS606 := hS603.call hx605
            simp only [List.cons_append, List.nil_append] at hS606
            refine ⟨hS606.drop1.drop1.drop1.drop1.drop1, ?_⟩
            refine g_tail (by decide +kernel) rfl (by decide +kernel) ?_; refine wl_exv (x_lit (vs := [.slice _ _ _, .slice _ _ _, .slice _ _ _, .slice _ _ _, .slice _ _ _, .slice _ _ _, .slice _ _ _, .slice _ _ _, .slice _ _ _]) hS606 ti90.und ti30 rfl rfl rfl (by intro c hc; simp only [List.mem_cons, List.not_mem_nil, or_false] at hc; rcases hc with rfl | rfl | rfl | rfl | rfl | rfl | rfl | rfl | rfl <;> rfl) (by decide)) rfl ?_; rintro _ w607 ⟨b27, rfl, hS608⟩; refine wl_call (r_call fn21 rfl rfl) rfl (concatE_ok [75, 87, 69, 49] (octs8 (UInt64.ofNat x.e.nr.toNat)) (octs8 (UInt64.ofNat x.e.tm.toNat)) [UInt8.ofNat x.e.act.toNat] x.e.ac x.e.ky x.e.pv (octs (UInt32.ofNat x.e.bo.length)) x.e.bo _ _ _ _ _ _ _ _ _ _ _ _ _ _ _ _ _ _ _ _ _ _ (Row.of_at (at_all (hS608.heap (.head _)))) (Row.of_at (at_all (hS608.heap (.tail _ (.tail _ (.head _)))))) (Row.of_at (at_all (hS608.heap (.tail _ (.tail _ (.tail _ (.tail _ (.tail _ (.head _))))))))) (Row.of_at (at_all (hS608.heap (.tail _ (.tail _ (.tail _ (.head _))))))) (Row.of_at (at_all (hS608.heap (.tail _ (.tail _ (.tail _ (.tail _ (.head _)))))))) (Row.of_at (ent_at3 (hS608.heap (.tail _ (.tail _ (.tail _ (.tail _ (.tail _ (.tail _ (.head _)))))))) hx)) (Row.of_at (ent_at19 (hS608.heap (.tail _ (.tail _ (.tail _ (.tail _ (.tail _ (.tail _ (.head _)))))))) hx)) (Row.of_at (ent_at35 (hS608.heap (.tail _ (.tail _ (.tail _ (.tail _ (.tail _ (.tail _ (.head _)))))))) hx)) (Row.of_at (short_at4 (hS608.heap (.tail _ (.head _))))) (hbo.st hS608) rfl (by simp) (by simp) rfl hac hky hpv (by simp) rfl hx.e.bn) ?_
            rintro _ w609 ⟨a28, c28, rfl, hc28, hx610⟩
            have hS611 := hS608.call hx610
            simp only [List.cons_append, List.nil_append] at hS611; refine wl_val (r_assign (v := .slice _ _ _) rfl) rfl ?_; refine wl_nil ?_; refine c_then ?_; refine wp_ret ?_; refine ret1 Try.results42 ?_
            have eN := EV.L_len hx.e
            have eL : [75, 87, 69, 49] ++ octs8 (UInt64.ofNat x.e.nr.toNat) ++ octs8 (UInt64.ofNat x.e.tm.toNat) ++ [UInt8.ofNat x.e.act.toNat] ++ x.e.ac ++ x.e.ky ++ x.e.pv ++ octs (UInt32.ofNat x.e.bo.length) ++ x.e.bo = x.e.L := by simp only [EV.L, EV.M, EV.H]
            exact ⟨_, _, congrArg (fun n => Value.slice _ n _) eN.symm, by rw [eN]; exact hc28, St.rowTo (hS611.perm ((List.Perm.cons _ ((List.Perm.cons _ ((List.Perm.cons _ ((List.Perm.cons _ ((List.Perm.cons _ ((List.Perm.cons _ ((List.Perm.cons _ (List.Perm.refl _)).trans (List.perm_middle (l₁ := [_])).symm)).trans (List.perm_middle (l₁ := [_])).symm)).trans (List.perm_middle (l₁ := [_])).symm)).trans (List.perm_middle (l₁ := [_])).symm)).trans (List.perm_middle (l₁ := [_])).symm)).trans (List.perm_middle (l₁ := [_])).symm)).trans (List.perm_middle (l₁ := [_])).symm)).drop1.drop1.drop1.drop1.drop1.drop1.drop1 eN.symm (by rw [← eL]; simp)⟩
          · refine o_call rfl (r_call fn31 rfl rfl) rfl (rshort_ok x.e.bo.length _ (by omega)) ?_
            rintro _ w612 ⟨b24, rfl, hx613⟩
            have hS614 := hS601.call hx613
            simp only [List.cons_append, List.nil_append] at hS614
            refine ⟨hS614.drop1.drop1.drop1.drop1.drop1, ?_⟩
            refine g_one 1 (by decide +kernel) (by decide +kernel) ?_; refine o_exv rfl (x_mark [_] hS614 ti30.und ti5.und rfl) rfl ?_; rintro _ w615 ⟨rfl, hS616⟩; simp only [List.cons_append, List.nil_append] at hS616
            refine ⟨hS616.drop1.drop1.drop1.drop1.drop1, ?_⟩
            refine g_tail (by decide +kernel) rfl (by decide +kernel) ?_; refine wl_exv (x_lit (vs := [.slice _ _ _, .slice _ _ _, .slice _ _ _, .slice _ _ _, .slice _ _ _, .slice _ _ _, .slice _ _ _, .slice _ _ _, .slice _ _ _]) hS616 ti90.und ti30 rfl rfl rfl (by intro c hc; simp only [List.mem_cons, List.not_mem_nil, or_false] at hc; rcases hc with rfl | rfl | rfl | rfl | rfl | rfl | rfl | rfl | rfl <;> rfl) (by decide)) rfl ?_; rintro _ w617 ⟨b27, rfl, hS618⟩; refine wl_call (r_call fn21 rfl rfl) rfl (concatE_ok [75, 87, 69, 49] (octs8 (UInt64.ofNat x.e.nr.toNat)) (octs8 (UInt64.ofNat x.e.tm.toNat)) [UInt8.ofNat x.e.act.toNat] x.e.ac x.e.ky x.e.pv (octs (UInt32.ofNat x.e.bo.length)) x.e.bo _ _ _ _ _ _ _ _ _ _ _ _ _ _ _ _ _ _ _ _ _ _ (Row.of_at (at_all (hS618.heap (.head _)))) (Row.of_at (at_all (hS618.heap (.tail _ (.tail _ (.head _)))))) (Row.of_at (at_all (hS618.heap (.tail _ (.tail _ (.tail _ (.tail _ (.tail _ (.head _))))))))) (Row.of_at (at_all (hS618.heap (.tail _ (.tail _ (.tail _ (.head _))))))) (Row.of_at (at_all (hS618.heap (.tail _ (.tail _ (.tail _ (.tail _ (.head _)))))))) (Row.of_at (ent_at3 (hS618.heap (.tail _ (.tail _ (.tail _ (.tail _ (.tail _ (.tail _ (.head _)))))))) hx)) (Row.of_at (ent_at19 (hS618.heap (.tail _ (.tail _ (.tail _ (.tail _ (.tail _ (.tail _ (.head _)))))))) hx)) (Row.of_at (ent_at35 (hS618.heap (.tail _ (.tail _ (.tail _ (.tail _ (.tail _ (.tail _ (.head _)))))))) hx)) (Row.of_at (short_at4 (hS618.heap (.tail _ (.head _))))) (hbo.st hS618) rfl (by simp) (by simp) rfl hac hky hpv (by simp) rfl hx.e.bn) ?_
            rintro _ w619 ⟨a28, c28, rfl, hc28, hx620⟩
            have hS621 := hS618.call hx620
            simp only [List.cons_append, List.nil_append] at hS621; refine wl_val (r_assign (v := .slice _ _ _) rfl) rfl ?_; refine wl_nil ?_; refine c_then ?_; refine wp_ret ?_; refine ret1 Try.results42 ?_
            have eN := EV.L_len hx.e
            have eL : [75, 87, 69, 49] ++ octs8 (UInt64.ofNat x.e.nr.toNat) ++ octs8 (UInt64.ofNat x.e.tm.toNat) ++ [UInt8.ofNat x.e.act.toNat] ++ x.e.ac ++ x.e.ky ++ x.e.pv ++ octs (UInt32.ofNat x.e.bo.length) ++ x.e.bo = x.e.L := by simp only [EV.L, EV.M, EV.H]
            exact ⟨_, _, congrArg (fun n => Value.slice _ n _) eN.symm, by rw [eN]; exact hc28, St.rowTo (hS621.perm ((List.Perm.cons _ ((List.Perm.cons _ ((List.Perm.cons _ ((List.Perm.cons _ ((List.Perm.cons _ ((List.Perm.cons _ ((List.Perm.cons _ (List.Perm.refl _)).trans (List.perm_middle (l₁ := [_])).symm)).trans (List.perm_middle (l₁ := [_])).symm)).trans (List.perm_middle (l₁ := [_])).symm)).trans (List.perm_middle (l₁ := [_])).symm)).trans (List.perm_middle (l₁ := [_])).symm)).trans (List.perm_middle (l₁ := [_])).symm)).trans (List.perm_middle (l₁ := [_])).symm)).drop1.drop1.drop1.drop1.drop1.drop1.drop1 eN.symm (by rw [← eL]; simp)⟩
        · refine o_call rfl (r_call fn31 rfl rfl) rfl (rshort_ok x.e.bo.length _ (by omega)) ?_
          rintro _ w622 ⟨b24, rfl, hx623⟩
          have hS624 := hS599.call hx623
          simp only [List.cons_append, List.nil_append] at hS624
          refine ⟨hS624.drop1.drop1.drop1.drop1, ?_⟩
          refine g_one 0 (by decide +kernel) (by decide +kernel) ?_; refine o_exv rfl (x_lit (vs := (([75, 87, 69, 49] : List UInt8).map b8)) hS624 ti30.und ti5 rfl rfl rfl (by repeat' first | exact one_nil | exact one_b8 _ | exact one_v32 _ | exact one_all rfl | refine one_cons rfl ?_ | refine one_app ?_ ?_) (by decide)) rfl ?_; rintro _ w625 ⟨b3, rfl, hS626⟩
          refine ⟨hS626.drop1.drop1.drop1.drop1.drop1, ?_⟩
          refine g_one 1 (by decide +kernel) (by decide +kernel) ?_; refine o_exv rfl (x_mark [] hS626 ti30.und ti5.und rfl) rfl ?_; rintro _ w627 ⟨rfl, hS628⟩; simp only [List.cons_append, List.nil_append] at hS628
          refine ⟨hS628.drop1.drop1.drop1.drop1.drop1, ?_⟩
          refine g_tail (by decide +kernel) rfl (by decide +kernel) ?_; refine wl_exv (x_lit (vs := [.slice _ _ _, .slice _ _ _, .slice _ _ _, .slice _ _ _, .slice _ _ _, .slice _ _ _, .slice _ _ _, .slice _ _ _, .slice _ _ _]) hS628 ti90.und ti30 rfl rfl rfl (by intro c hc; simp only [List.mem_cons, List.not_mem_nil, or_false] at hc; rcases hc with rfl | rfl | rfl | rfl | rfl | rfl | rfl | rfl | rfl <;> rfl) (by decide)) rfl ?_; rintro _ w629 ⟨b27, rfl, hS630⟩; refine wl_call (r_call fn21 rfl rfl) rfl (concatE_ok [75, 87, 69, 49] (octs8 (UInt64.ofNat x.e.nr.toNat)) (octs8 (UInt64.ofNat x.e.tm.toNat)) [UInt8.ofNat x.e.act.toNat] x.e.ac x.e.ky x.e.pv (octs (UInt32.ofNat x.e.bo.length)) x.e.bo _ _ _ _ _ _ _ _ _ _ _ _ _ _ _ _ _ _ _ _ _ _ (Row.of_at (at_all (hS630.heap (.head _)))) (Row.of_at (at_all (hS630.heap (.tail _ (.head _))))) (Row.of_at (at_all (hS630.heap (.tail _ (.tail _ (.tail _ (.tail _ (.tail _ (.head _))))))))) (Row.of_at (at_all (hS630.heap (.tail _ (.tail _ (.tail _ (.head _))))))) (Row.of_at (at_all (hS630.heap (.tail _ (.tail _ (.tail _ (.tail _ (.head _)))))))) (Row.of_at (ent_at3 (hS630.heap (.tail _ (.tail _ (.tail _ (.tail _ (.tail _ (.tail _ (.head _)))))))) hx)) (Row.of_at (ent_at19 (hS630.heap (.tail _ (.tail _ (.tail _ (.tail _ (.tail _ (.tail _ (.head _)))))))) hx)) (Row.of_at (ent_at35 (hS630.heap (.tail _ (.tail _ (.tail _ (.tail _ (.tail _ (.tail _ (.head _)))))))) hx)) (Row.of_at (short_at4 (hS630.heap (.tail _ (.tail _ (.head _)))))) (hbo.st hS630) rfl (by simp) (by simp) rfl hac hky hpv (by simp) rfl hx.e.bn) ?_
          rintro _ w631 ⟨a28, c28, rfl, hc28, hx632⟩
          have hS633 := hS630.call hx632
          simp only [List.cons_append, List.nil_append] at hS633; refine wl_val (r_assign (v := .slice _ _ _) rfl) rfl ?_; refine wl_nil ?_; refine c_then ?_; refine wp_ret ?_; refine ret1 Try.results42 ?_
          have eN := EV.L_len hx.e
          have eL : [75, 87, 69, 49] ++ octs8 (UInt64.ofNat x.e.nr.toNat) ++ octs8 (UInt64.ofNat x.e.tm.toNat) ++ [UInt8.ofNat x.e.act.toNat] ++ x.e.ac ++ x.e.ky ++ x.e.pv ++ octs (UInt32.ofNat x.e.bo.length) ++ x.e.bo = x.e.L := by simp only [EV.L, EV.M, EV.H]
          exact ⟨_, _, congrArg (fun n => Value.slice _ n _) eN.symm, by rw [eN]; exact hc28, St.rowTo (hS633.perm ((List.Perm.cons _ ((List.Perm.cons _ ((List.Perm.cons _ ((List.Perm.cons _ ((List.Perm.cons _ ((List.Perm.cons _ ((List.Perm.cons _ (List.Perm.refl _)).trans (List.perm_middle (l₁ := [_])).symm)).trans (List.perm_middle (l₁ := [_])).symm)).trans (List.perm_middle (l₁ := [_])).symm)).trans (List.perm_middle (l₁ := [_])).symm)).trans (List.perm_middle (l₁ := [_])).symm)).trans (List.perm_middle (l₁ := [_])).symm)).trans (List.perm_middle (l₁ := [_])).symm)).drop1.drop1.drop1.drop1.drop1.drop1.drop1 eN.symm (by rw [← eL]; simp)⟩
  · refine o_exv rfl (x_lit (vs := (([UInt8.ofNat x.e.act.toNat] : List UInt8).map b8)) hS4 ti30.und ti5 rfl rfl rfl (by repeat' first | exact one_nil | exact one_b8 _ | exact one_v32 _ | exact one_all rfl | refine one_cons rfl ?_ | refine one_app ?_ ?_) (by decide)) rfl ?_
    rintro _ w634 ⟨b14, rfl, hS635⟩
    refine ⟨hS635.drop1, ?_⟩
    refine g_all (rs := [0, 4]) (by decide +kernel) (by decide +kernel) rfl ?_
    simp only [List.forall_mem_cons, List.not_mem_nil, false_imp_iff, implies_true, and_true]
    refine ⟨?_, ?_⟩
    · refine o_exv rfl (x_lit (vs := (([75, 87, 69, 49] : List UInt8).map b8)) hS635 ti30.und ti5 rfl rfl rfl (by repeat' first | exact one_nil | exact one_b8 _ | exact one_v32 _ | exact one_all rfl | refine one_cons rfl ?_ | refine one_app ?_ ?_) (by decide)) rfl ?_
      rintro _ w636 ⟨b3, rfl, hS637⟩
      refine ⟨hS637.drop1.drop1, ?_⟩
      refine g_all (rs := [1, 4]) (by decide +kernel) (by decide +kernel) rfl ?_
      simp only [List.forall_mem_cons, List.not_mem_nil, false_imp_iff, implies_true, and_true]
      refine ⟨?_, ?_⟩
      · refine o_exv rfl (x_mark [] hS637 ti30.und ti5.und rfl) rfl ?_
        rintro _ w638 ⟨rfl, hS639⟩; simp only [List.cons_append, List.nil_append] at hS639
        refine ⟨hS639.drop1.drop1, ?_⟩
        refine g_one 4 (by decide +kernel) (by decide +kernel) ?_; refine o_call rfl (r_call fn33 rfl rfl) rfl (rlong_z x.e.nr _ (by omega) (by omega)) ?_; rintro _ w640 ⟨b7, rfl, hx641⟩
        have hS642 := hS639.call hx641
        simp only [List.cons_append, List.nil_append] at hS642
        refine ⟨hS642.drop1.drop1.drop1, ?_⟩
        refine g_one 7 (by decide +kernel) (by decide +kernel) ?_; refine o_call rfl (r_call fn33 rfl rfl) rfl (rlong_z x.e.tm _ (by omega) (by omega)) ?_; rintro _ w643 ⟨b10, rfl, hx644⟩
        have hS645 := hS642.call hx644
        simp only [List.cons_append, List.nil_append] at hS645
        refine ⟨hS645.drop1.drop1.drop1.drop1, ?_⟩
        refine g_one 21 (by decide +kernel) (by decide +kernel) ?_; refine o_call rfl (r_call fn31 rfl rfl) rfl (rshort_ok x.e.bo.length _ (by omega)) ?_; rintro _ w646 ⟨b24, rfl, hx647⟩
        have hS648 := hS645.call hx647
        simp only [List.cons_append, List.nil_append] at hS648
        refine ⟨hS648.drop1.drop1.drop1.drop1.drop1, ?_⟩
        refine g_tail (by decide +kernel) rfl (by decide +kernel) ?_; refine wl_exv (x_lit (vs := [.slice _ _ _, .slice _ _ _, .slice _ _ _, .slice _ _ _, .slice _ _ _, .slice _ _ _, .slice _ _ _, .slice _ _ _, .slice _ _ _]) hS648 ti90.und ti30 rfl rfl rfl (by intro c hc; simp only [List.mem_cons, List.not_mem_nil, or_false] at hc; rcases hc with rfl | rfl | rfl | rfl | rfl | rfl | rfl | rfl | rfl <;> rfl) (by decide)) rfl ?_; rintro _ w649 ⟨b27, rfl, hS650⟩; refine wl_call (r_call fn21 rfl rfl) rfl (concatE_ok [75, 87, 69, 49] (octs8 (UInt64.ofNat x.e.nr.toNat)) (octs8 (UInt64.ofNat x.e.tm.toNat)) [UInt8.ofNat x.e.act.toNat] x.e.ac x.e.ky x.e.pv (octs (UInt32.ofNat x.e.bo.length)) x.e.bo _ _ _ _ _ _ _ _ _ _ _ _ _ _ _ _ _ _ _ _ _ _ (Row.of_at (at_all (hS650.heap (.head _)))) (Row.of_at (at_all (hS650.heap (.tail _ (.tail _ (.tail _ (.tail _ (.head _)))))))) (Row.of_at (at_all (hS650.heap (.tail _ (.tail _ (.tail _ (.head _))))))) (Row.of_at (at_all (hS650.heap (.tail _ (.tail _ (.head _)))))) (Row.of_at (at_all (hS650.heap (.tail _ (.tail _ (.tail _ (.tail _ (.tail _ (.head _))))))))) (Row.of_at (ent_at3 (hS650.heap (.tail _ (.tail _ (.tail _ (.tail _ (.tail _ (.tail _ (.head _)))))))) hx)) (Row.of_at (ent_at19 (hS650.heap (.tail _ (.tail _ (.tail _ (.tail _ (.tail _ (.tail _ (.head _)))))))) hx)) (Row.of_at (ent_at35 (hS650.heap (.tail _ (.tail _ (.tail _ (.tail _ (.tail _ (.tail _ (.head _)))))))) hx)) (Row.of_at (short_at4 (hS650.heap (.tail _ (.head _))))) (hbo.st hS650) rfl (by simp) (by simp) rfl hac hky hpv (by simp) rfl hx.e.bn) ?_
        rintro _ w651 ⟨a28, c28, rfl, hc28, hx652⟩
        have hS653 := hS650.call hx652
        simp only [List.cons_append, List.nil_append] at hS653; refine wl_val (r_assign (v := .slice _ _ _) rfl) rfl ?_; refine wl_nil ?_; refine c_then ?_; refine wp_ret ?_; refine ret1 Try.results42 ?_
        have eN := EV.L_len hx.e
        have eL : [75, 87, 69, 49] ++ octs8 (UInt64.ofNat x.e.nr.toNat) ++ octs8 (UInt64.ofNat x.e.tm.toNat) ++ [UInt8.ofNat x.e.act.toNat] ++ x.e.ac ++ x.e.ky ++ x.e.pv ++ octs (UInt32.ofNat x.e.bo.length) ++ x.e.bo = x.e.L := by simp only [EV.L, EV.M, EV.H]
        exact ⟨_, _, congrArg (fun n => Value.slice _ n _) eN.symm, by rw [eN]; exact hc28, St.rowTo (hS653.perm ((List.Perm.cons _ ((List.Perm.cons _ ((List.Perm.cons _ ((List.Perm.cons _ ((List.Perm.cons _ ((List.Perm.cons _ ((List.Perm.cons _ (List.Perm.refl _)).trans (List.perm_middle (l₁ := [_])).symm)).trans (List.perm_middle (l₁ := [_])).symm)).trans (List.perm_middle (l₁ := [_])).symm)).trans (List.perm_middle (l₁ := [_])).symm)).trans (List.perm_middle (l₁ := [_])).symm)).trans (List.perm_middle (l₁ := [_])).symm)).trans (List.perm_middle (l₁ := [_])).symm)).drop1.drop1.drop1.drop1.drop1.drop1.drop1 eN.symm (by rw [← eL]; simp)⟩
      · refine o_call rfl (r_call fn33 rfl rfl) rfl (rlong_z x.e.nr _ (by omega) (by omega)) ?_
        rintro _ w654 ⟨b7, rfl, hx655⟩
        have hS656 := hS637.call hx655
        simp only [List.cons_append, List.nil_append] at hS656
        refine ⟨hS656.drop1.drop1.drop1, ?_⟩
        refine g_all (rs := [1, 7]) (by decide +kernel) (by decide +kernel) rfl ?_
        simp only [List.forall_mem_cons, List.not_mem_nil, false_imp_iff, implies_true, and_true]
        refine ⟨?_, ?_⟩
        · refine o_exv rfl (x_mark [_] hS656 ti30.und ti5.und rfl) rfl ?_
          rintro _ w657 ⟨rfl, hS658⟩; simp only [List.cons_append, List.nil_append] at hS658
          refine ⟨hS658.drop1.drop1.drop1, ?_⟩
          refine g_one 7 (by decide +kernel) (by decide +kernel) ?_; refine o_call rfl (r_call fn33 rfl rfl) rfl (rlong_z x.e.tm _ (by omega) (by omega)) ?_; rintro _ w659 ⟨b10, rfl, hx660⟩
          have hS661 := hS658.call hx660
          simp only [List.cons_append, List.nil_append] at hS661
          refine ⟨hS661.drop1.drop1.drop1.drop1, ?_⟩
          refine g_one 21 (by decide +kernel) (by decide +kernel) ?_; refine o_call rfl (r_call fn31 rfl rfl) rfl (rshort_ok x.e.bo.length _ (by omega)) ?_; rintro _ w662 ⟨b24, rfl, hx663⟩
          have hS664 := hS661.call hx663
          simp only [List.cons_append, List.nil_append] at hS664
          refine ⟨hS664.drop1.drop1.drop1.drop1.drop1, ?_⟩
          refine g_tail (by decide +kernel) rfl (by decide +kernel) ?_; refine wl_exv (x_lit (vs := [.slice _ _ _, .slice _ _ _, .slice _ _ _, .slice _ _ _, .slice _ _ _, .slice _ _ _, .slice _ _ _, .slice _ _ _, .slice _ _ _]) hS664 ti90.und ti30 rfl rfl rfl (by intro c hc; simp only [List.mem_cons, List.not_mem_nil, or_false] at hc; rcases hc with rfl | rfl | rfl | rfl | rfl | rfl | rfl | rfl | rfl <;> rfl) (by decide)) rfl ?_; rintro _ w665 ⟨b27, rfl, hS666⟩; refine wl_call (r_call fn21 rfl rfl) rfl (concatE_ok [75, 87, 69, 49] (octs8 (UInt64.ofNat x.e.nr.toNat)) (octs8 (UInt64.ofNat x.e.tm.toNat)) [UInt8.ofNat x.e.act.toNat] x.e.ac x.e.ky x.e.pv (octs (UInt32.ofNat x.e.bo.length)) x.e.bo _ _ _ _ _ _ _ _ _ _ _ _ _ _ _ _ _ _ _ _ _ _ (Row.of_at (at_all (hS666.heap (.head _)))) (Row.of_at (at_all (hS666.heap (.tail _ (.tail _ (.tail _ (.tail _ (.head _)))))))) (Row.of_at (at_all (hS666.heap (.tail _ (.tail _ (.tail _ (.head _))))))) (Row.of_at (at_all (hS666.heap (.tail _ (.tail _ (.head _)))))) (Row.of_at (at_all (hS666.heap (.tail _ (.tail _ (.tail _ (.tail _ (.tail _ (.head _))))))))) (Row.of_at (ent_at3 (hS666.heap (.tail _ (.tail _ (.tail _ (.tail _ (.tail _ (.tail _ (.head _)))))))) hx)) (Row.of_at (ent_at19 (hS666.heap (.tail _ (.tail _ (.tail _ (.tail _ (.tail _ (.tail _ (.head _)))))))) hx)) (Row.of_at (ent_at35 (hS666.heap (.tail _ (.tail _ (.tail _ (.tail _ (.tail _ (.tail _ (.head _)))))))) hx)) (Row.of_at (short_at4 (hS666.heap (.tail _ (.head _))))) (hbo.st hS666) rfl (by simp) (by simp) rfl hac hky hpv (by simp) rfl hx.e.bn) ?_
          rintro _ w667 ⟨a28, c28, rfl, hc28, hx668⟩
          have hS669 := hS666.call hx668
          simp only [List.cons_append, List.nil_append] at hS669; refine wl_val (r_assign (v := .slice _ _ _) rfl) rfl ?_; refine wl_nil ?_; refine c_then ?_; refine wp_ret ?_; refine ret1 Try.results42 ?_
          have eN := EV.L_len hx.e
          have eL : [75, 87, 69, 49] ++ octs8 (UInt64.ofNat x.e.nr.toNat) ++ octs8 (UInt64.ofNat x.e.tm.toNat) ++ [UInt8.ofNat x.e.act.toNat] ++ x.e.ac ++ x.e.ky ++ x.e.pv ++ octs (UInt32.ofNat x.e.bo.length) ++ x.e.bo = x.e.L := by simp only [EV.L, EV.M, EV.H]
          exact ⟨_, _, congrArg (fun n => Value.slice _ n _) eN.symm, by rw [eN]; exact hc28, St.rowTo (hS669.perm ((List.Perm.cons _ ((List.Perm.cons _ ((List.Perm.cons _ ((List.Perm.cons _ ((List.Perm.cons _ ((List.Perm.cons _ ((List.Perm.cons _ (List.Perm.refl _)).trans (List.perm_middle (l₁ := [_])).symm)).trans (List.perm_middle (l₁ := [_])).symm)).trans (List.perm_middle (l₁ := [_])).symm)).trans (List.perm_middle (l₁ := [_])).symm)).trans (List.perm_middle (l₁ := [_])).symm)).trans (List.perm_middle (l₁ := [_])).symm)).trans (List.perm_middle (l₁ := [_])).symm)).drop1.drop1.drop1.drop1.drop1.drop1.drop1 eN.symm (by rw [← eL]; simp)⟩
        · refine o_call rfl (r_call fn33 rfl rfl) rfl (rlong_z x.e.tm _ (by omega) (by omega)) ?_
          rintro _ w670 ⟨b10, rfl, hx671⟩
          have hS672 := hS656.call hx671
          simp only [List.cons_append, List.nil_append] at hS672
          refine ⟨hS672.drop1.drop1.drop1.drop1, ?_⟩
          refine g_all (rs := [1, 21]) (by decide +kernel) (by decide +kernel) rfl ?_
          simp only [List.forall_mem_cons, List.not_mem_nil, false_imp_iff, implies_true, and_true]
          refine ⟨?_, ?_⟩
          · refine o_exv rfl (x_mark [_, _] hS672 ti30.und ti5.und rfl) rfl ?_
            rintro _ w673 ⟨rfl, hS674⟩; simp only [List.cons_append, List.nil_append] at hS674
            refine ⟨hS674.drop1.drop1.drop1.drop1, ?_⟩
            refine g_one 21 (by decide +kernel) (by decide +kernel) ?_; refine o_call rfl (r_call fn31 rfl rfl) rfl (rshort_ok x.e.bo.length _ (by omega)) ?_; rintro _ w675 ⟨b24, rfl, hx676⟩
            have hS677 := hS674.call hx676
            simp only [List.cons_append, List.nil_append] at hS677
            refine ⟨hS677.drop1.drop1.drop1.drop1.drop1, ?_⟩
            refine g_tail (by decide +kernel) rfl (by decide +kernel) ?_; refine wl_exv (x_lit (vs := [.slice _ _ _, .slice _ _ _, .slice _ _ _, .slice _ _ _, .slice _ _ _, .slice _ _ _, .slice _ _ _, .slice _ _ _, .slice _ _ _]) hS677 ti90.und ti30 rfl rfl rfl (by intro c hc; simp only [List.mem_cons, List.not_mem_nil, or_false] at hc; rcases hc with rfl | rfl | rfl | rfl | rfl | rfl | rfl | rfl | rfl <;> rfl) (by decide)) rfl ?_; rintro _ w678 ⟨b27, rfl, hS679⟩; refine wl_call (r_call fn21 rfl rfl) rfl (concatE_ok [75, 87, 69, 49] (octs8 (UInt64.ofNat x.e.nr.toNat)) (octs8 (UInt64.ofNat x.e.tm.toNat)) [UInt8.ofNat x.e.act.toNat] x.e.ac x.e.ky x.e.pv (octs (UInt32.ofNat x.e.bo.length)) x.e.bo _ _ _ _ _ _ _ _ _ _ _ _ _ _ _ _ _ _ _ _ _ _ (Row.of_at (at_all (hS679.heap (.head _)))) (Row.of_at (at_all (hS679.heap (.tail _ (.tail _ (.tail _ (.tail _ (.head _)))))))) (Row.of_at (at_all (hS679.heap (.tail _ (.tail _ (.tail _ (.head _))))))) (Row.of_at (at_all (hS679.heap (.tail _ (.tail _ (.head _)))))) (Row.of_at (at_all (hS679.heap (.tail _ (.tail _ (.tail _ (.tail _ (.tail _ (.head _))))))))) (Row.of_at (ent_at3 (hS679.heap (.tail _ (.tail _ (.tail _ (.tail _ (.tail _ (.tail _ (.head _)))))))) hx)) (Row.of_at (ent_at19 (hS679.heap (.tail _ (.tail _ (.tail _ (.tail _ (.tail _ (.tail _ (.head _)))))))) hx)) (Row.of_at (ent_at35 (hS679.heap (.tail _ (.tail _ (.tail _ (.tail _ (.tail _ (.tail _ (.head _)))))))) hx)) (Row.of_at (short_at4 (hS679.heap (.tail _ (.head _))))) (hbo.st hS679) rfl (by simp) (by simp) rfl hac hky hpv (by simp) rfl hx.e.bn) ?_
            rintro _ w680 ⟨a28, c28, rfl, hc28, hx681⟩
            have hS682 := hS679.call hx681
            simp only [List.cons_append, List.nil_append] at hS682; refine wl_val (r_assign (v := .slice _ _ _) rfl) rfl ?_; refine wl_nil ?_; refine c_then ?_; refine wp_ret ?_; refine ret1 Try.results42 ?_
            have eN := EV.L_len hx.e
            have eL : [75, 87, 69, 49] ++ octs8 (UInt64.ofNat x.e.nr.toNat) ++ octs8 (UInt64.ofNat x.e.tm.toNat) ++ [UInt8.ofNat x.e.act.toNat] ++ x.e.ac ++ x.e.ky ++ x.e.pv ++ octs (UInt32.ofNat x.e.bo.length) ++ x.e.bo = x.e.L := by simp only [EV.L, EV.M, EV.H]
            exact ⟨_, _, congrArg (fun n => Value.slice _ n _) eN.symm, by rw [eN]; exact hc28, St.rowTo (hS682.perm ((List.Perm.cons _ ((List.Perm.cons _ ((List.Perm.cons _ ((List.Perm.cons _ ((List.Perm.cons _ ((List.Perm.cons _ ((List.Perm.cons _ (List.Perm.refl _)).trans (List.perm_middle (l₁ := [_])).symm)).trans (List.perm_middle (l₁ := [_])).symm)).trans (List.perm_middle (l₁ := [_])).symm)).trans (List.perm_middle (l₁ := [_])).symm)).trans (List.perm_middle (l₁ := [_])).symm)).trans (List.perm_middle (l₁ := [_])).symm)).trans (List.perm_middle (l₁ := [_])).symm)).drop1.drop1.drop1.drop1.drop1.drop1.drop1 eN.symm (by rw [← eL]; simp)⟩
          · refine o_call rfl (r_call fn31 rfl rfl) rfl (rshort_ok x.e.bo.length _ (by omega)) ?_
            rintro _ w683 ⟨b24, rfl, hx684⟩
            have hS685 := hS672.call hx684
            simp only [List.cons_append, List.nil_append] at hS685
            refine ⟨hS685.drop1.drop1.drop1.drop1.drop1, ?_⟩
            refine g_one 1 (by decide +kernel) (by decide +kernel) ?_; refine o_exv rfl (x_mark [_, _, _] hS685 ti30.und ti5.und rfl) rfl ?_; rintro _ w686 ⟨rfl, hS687⟩; simp only [List.cons_append, List.nil_append] at hS687
            refine ⟨hS687.drop1.drop1.drop1.drop1.drop1, ?_⟩
            refine g_tail (by decide +kernel) rfl (by decide +kernel) ?_; refine wl_exv (x_lit (vs := [.slice _ _ _, .slice _ _ _, .slice _ _ _, .slice _ _ _, .slice _ _ _, .slice _ _ _, .slice _ _ _, .slice _ _ _, .slice _ _ _]) hS687 ti90.und ti30 rfl rfl rfl (by intro c hc; simp only [List.mem_cons, List.not_mem_nil, or_false] at hc; rcases hc with rfl | rfl | rfl | rfl | rfl | rfl | rfl | rfl | rfl <;> rfl) (by decide)) rfl ?_; rintro _ w688 ⟨b27, rfl, hS689⟩; refine wl_call (r_call fn21 rfl rfl) rfl (concatE_ok [75, 87, 69, 49] (octs8 (UInt64.ofNat x.e.nr.toNat)) (octs8 (UInt64.ofNat x.e.tm.toNat)) [UInt8.ofNat x.e.act.toNat] x.e.ac x.e.ky x.e.pv (octs (UInt32.ofNat x.e.bo.length)) x.e.bo _ _ _ _ _ _ _ _ _ _ _ _ _ _ _ _ _ _ _ _ _ _ (Row.of_at (at_all (hS689.heap (.head _)))) (Row.of_at (at_all (hS689.heap (.tail _ (.tail _ (.tail _ (.tail _ (.head _)))))))) (Row.of_at (at_all (hS689.heap (.tail _ (.tail _ (.tail _ (.head _))))))) (Row.of_at (at_all (hS689.heap (.tail _ (.tail _ (.head _)))))) (Row.of_at (at_all (hS689.heap (.tail _ (.tail _ (.tail _ (.tail _ (.tail _ (.head _))))))))) (Row.of_at (ent_at3 (hS689.heap (.tail _ (.tail _ (.tail _ (.tail _ (.tail _ (.tail _ (.head _)))))))) hx)) (Row.of_at (ent_at19 (hS689.heap (.tail _ (.tail _ (.tail _ (.tail _ (.tail _ (.tail _ (.head _)))))))) hx)) (Row.of_at (ent_at35 (hS689.heap (.tail _ (.tail _ (.tail _ (.tail _ (.tail _ (.tail _ (.head _)))))))) hx)) (Row.of_at (short_at4 (hS689.heap (.tail _ (.head _))))) (hbo.st hS689) rfl (by simp) (by simp) rfl hac hky hpv (by simp) rfl hx.e.bn) ?_
            rintro _ w690 ⟨a28, c28, rfl, hc28, hx691⟩
            have hS692 := hS689.call hx691
            simp only [List.cons_append, List.nil_append] at hS692; refine wl_val (r_assign (v := .slice _ _ _) rfl) rfl ?_; refine wl_nil ?_; refine c_then ?_; refine wp_ret ?_; refine ret1 Try.results42 ?_
            have eN := EV.L_len hx.e
            have eL : [75, 87, 69, 49] ++ octs8 (UInt64.ofNat x.e.nr.toNat) ++ octs8 (UInt64.ofNat x.e.tm.toNat) ++ [UInt8.ofNat x.e.act.toNat] ++ x.e.ac ++ x.e.ky ++ x.e.pv ++ octs (UInt32.ofNat x.e.bo.length) ++ x.e.bo = x.e.L := by simp only [EV.L, EV.M, EV.H]
            exact ⟨_, _, congrArg (fun n => Value.slice _ n _) eN.symm, by rw [eN]; exact hc28, St.rowTo (hS692.perm ((List.Perm.cons _ ((List.Perm.cons _ ((List.Perm.cons _ ((List.Perm.cons _ ((List.Perm.cons _ ((List.Perm.cons _ ((List.Perm.cons _ (List.Perm.refl _)).trans (List.perm_middle (l₁ := [_])).symm)).trans (List.perm_middle (l₁ := [_])).symm)).trans (List.perm_middle (l₁ := [_])).symm)).trans (List.perm_middle (l₁ := [_])).symm)).trans (List.perm_middle (l₁ := [_])).symm)).trans (List.perm_middle (l₁ := [_])).symm)).trans (List.perm_middle (l₁ := [_])).symm)).drop1.drop1.drop1.drop1.drop1.drop1.drop1 eN.symm (by rw [← eL]; simp)⟩
    · refine o_call rfl (r_call fn33 rfl rfl) rfl (rlong_z x.e.nr _ (by omega) (by omega)) ?_
      rintro _ w693 ⟨b7, rfl, hx694⟩
      have hS695 := hS635.call hx694
      simp only [List.cons_append, List.nil_append] at hS695
      refine ⟨hS695.drop1.drop1, ?_⟩
      refine g_all (rs := [0, 7]) (by decide +kernel) (by decide +kernel) rfl ?_
      simp only [List.forall_mem_cons, List.not_mem_nil, false_imp_iff, implies_true, and_true]
      refine ⟨?_, ?_⟩
      · refine o_exv rfl (x_lit (vs := (([75, 87, 69, 49] : List UInt8).map b8)) hS695 ti30.und ti5 rfl rfl rfl (by repeat' first | exact one_nil | exact one_b8 _ | exact one_v32 _ | exact one_all rfl | refine one_cons rfl ?_ | refine one_app ?_ ?_) (by decide)) rfl ?_
        rintro _ w696 ⟨b3, rfl, hS697⟩
        refine ⟨hS697.drop1.drop1.drop1, ?_⟩
        refine g_all (rs := [1, 7]) (by decide +kernel) (by decide +kernel) rfl ?_
        simp only [List.forall_mem_cons, List.not_mem_nil, false_imp_iff, implies_true, and_true]
        refine ⟨?_, ?_⟩
        · refine o_exv rfl (x_mark [] hS697 ti30.und ti5.und rfl) rfl ?_
          rintro _ w698 ⟨rfl, hS699⟩; simp only [List.cons_append, List.nil_append] at hS699
          refine ⟨hS699.drop1.drop1.drop1, ?_⟩
          refine g_one 7 (by decide +kernel) (by decide +kernel) ?_; refine o_call rfl (r_call fn33 rfl rfl) rfl (rlong_z x.e.tm _ (by omega) (by omega)) ?_; rintro _ w700 ⟨b10, rfl, hx701⟩
          have hS702 := hS699.call hx701
          simp only [List.cons_append, List.nil_append] at hS702
          refine ⟨hS702.drop1.drop1.drop1.drop1, ?_⟩
          refine g_one 21 (by decide +kernel) (by decide +kernel) ?_; refine o_call rfl (r_call fn31 rfl rfl) rfl (rshort_ok x.e.bo.length _ (by omega)) ?_; rintro _ w703 ⟨b24, rfl, hx704⟩
          have hS705 := hS702.call hx704
          simp only [List.cons_append, List.nil_append] at hS705
          refine ⟨hS705.drop1.drop1.drop1.drop1.drop1, ?_⟩
          refine g_tail (by decide +kernel) rfl (by decide +kernel) ?_; refine wl_exv (x_lit (vs := [.slice _ _ _, .slice _ _ _, .slice _ _ _, .slice _ _ _, .slice _ _ _, .slice _ _ _, .slice _ _ _, .slice _ _ _, .slice _ _ _]) hS705 ti90.und ti30 rfl rfl rfl (by intro c hc; simp only [List.mem_cons, List.not_mem_nil, or_false] at hc; rcases hc with rfl | rfl | rfl | rfl | rfl | rfl | rfl | rfl | rfl <;> rfl) (by decide)) rfl ?_; rintro _ w706 ⟨b27, rfl, hS707⟩; refine wl_call (r_call fn21 rfl rfl) rfl (concatE_ok [75, 87, 69, 49] (octs8 (UInt64.ofNat x.e.nr.toNat)) (octs8 (UInt64.ofNat x.e.tm.toNat)) [UInt8.ofNat x.e.act.toNat] x.e.ac x.e.ky x.e.pv (octs (UInt32.ofNat x.e.bo.length)) x.e.bo _ _ _ _ _ _ _ _ _ _ _ _ _ _ _ _ _ _ _ _ _ _ (Row.of_at (at_all (hS707.heap (.head _)))) (Row.of_at (at_all (hS707.heap (.tail _ (.tail _ (.tail _ (.head _))))))) (Row.of_at (at_all (hS707.heap (.tail _ (.tail _ (.tail _ (.tail _ (.head _)))))))) (Row.of_at (at_all (hS707.heap (.tail _ (.tail _ (.head _)))))) (Row.of_at (at_all (hS707.heap (.tail _ (.tail _ (.tail _ (.tail _ (.tail _ (.head _))))))))) (Row.of_at (ent_at3 (hS707.heap (.tail _ (.tail _ (.tail _ (.tail _ (.tail _ (.tail _ (.head _)))))))) hx)) (Row.of_at (ent_at19 (hS707.heap (.tail _ (.tail _ (.tail _ (.tail _ (.tail _ (.tail _ (.head _)))))))) hx)) (Row.of_at (ent_at35 (hS707.heap (.tail _ (.tail _ (.tail _ (.tail _ (.tail _ (.tail _ (.head _)))))))) hx)) (Row.of_at (short_at4 (hS707.heap (.tail _ (.head _))))) (hbo.st hS707) rfl (by simp) (by simp) rfl hac hky hpv (by simp) rfl hx.e.bn) ?_
          rintro _ w708 ⟨a28, c28, rfl, hc28, hx709⟩
          have hS710 := hS707.call hx709
          simp only [List.cons_append, List.nil_append] at hS710; refine wl_val (r_assign (v := .slice _ _ _) rfl) rfl ?_; refine wl_nil ?_; refine c_then ?_; refine wp_ret ?_; refine ret1 Try.results42 ?_
          have eN := EV.L_len hx.e
          have eL : [75, 87, 69, 49] ++ octs8 (UInt64.ofNat x.e.nr.toNat) ++ octs8 (UInt64.ofNat x.e.tm.toNat) ++ [UInt8.ofNat x.e.act.toNat] ++ x.e.ac ++ x.e.ky ++ x.e.pv ++ octs (UInt32.ofNat x.e.bo.length) ++ x.e.bo = x.e.L := by simp only [EV.L, EV.M, EV.H]
          exact ⟨_, _, congrArg (fun n => Value.slice _ n _) eN.symm, by rw [eN]; exact hc28, St.rowTo (hS710.perm ((List.Perm.cons _ ((List.Perm.cons _ ((List.Perm.cons _ ((List.Perm.cons _ ((List.Perm.cons _ ((List.Perm.cons _ ((List.Perm.cons _ (List.Perm.refl _)).trans (List.perm_middle (l₁ := [_])).symm)).trans (List.perm_middle (l₁ := [_])).symm)).trans (List.perm_middle (l₁ := [_])).symm)).trans (List.perm_middle (l₁ := [_])).symm)).trans (List.perm_middle (l₁ := [_])).symm)).trans (List.perm_middle (l₁ := [_])).symm)).trans (List.perm_middle (l₁ := [_])).symm)).drop1.drop1.drop1.drop1.drop1.drop1.drop1 eN.symm (by rw [← eL]; simp)⟩
        · refine o_call rfl (r_call fn33 rfl rfl) rfl (rlong_z x.e.tm _ (by omega) (by omega)) ?_
          rintro _ w711 ⟨b10, rfl, hx712⟩
          have hS713 := hS697.call hx712
          simp only [List.cons_append, List.nil_append] at hS713
          refine ⟨hS713.drop1.drop1.drop1.drop1, ?_⟩
          refine g_all (rs := [1, 21]) (by decide +kernel) (by decide +kernel) rfl ?_
          simp only [List.forall_mem_cons, List.not_mem_nil, false_imp_iff, implies_true, and_true]
          refine ⟨?_, ?_⟩
          · refine o_exv rfl (x_mark [_] hS713 ti30.und ti5.und rfl) rfl ?_
            rintro _ w714 ⟨rfl, hS715⟩; simp only [List.cons_append, List.nil_append] at hS715
            refine ⟨hS715.drop1.drop1.drop1.drop1, ?_⟩
            refine g_one 21 (by decide +kernel) (by decide +kernel) ?_; refine o_call rfl (r_call fn31 rfl rfl) rfl (rshort_ok x.e.bo.length _ (by omega)) ?_; rintro _ w716 ⟨b24, rfl, hx717⟩
            have hS718 := hS715.call hx717
            simp only [List.cons_append, List.nil_append] at hS718
            refine ⟨hS718.drop1.drop1.drop1.drop1.drop1, ?_⟩
            refine g_tail (by decide +kernel) rfl (by decide +kernel) ?_; refine wl_exv (x_lit (vs := [.slice _ _ _, .slice _ _ _, .slice _ _ _, .slice _ _ _, .slice _ _ _, .slice _ _ _, .slice _ _ _, .slice _ _ _, .slice _ _ _]) hS718 ti90.und ti30 rfl rfl rfl (by intro c hc; simp only [List.mem_cons, List.not_mem_nil, or_false] at hc; rcases hc with rfl | rfl | rfl | rfl | rfl | rfl | rfl | rfl | rfl <;> rfl) (by decide)) rfl ?_; rintro _ w719 ⟨b27, rfl, hS720⟩; refine wl_call (r_call fn21 rfl rfl) rfl (concatE_ok [75, 87, 69, 49] (octs8 (UInt64.ofNat x.e.nr.toNat)) (octs8 (UInt64.ofNat x.e.tm.toNat)) [UInt8.ofNat x.e.act.toNat] x.e.ac x.e.ky x.e.pv (octs (UInt32.ofNat x.e.bo.length)) x.e.bo _ _ _ _ _ _ _ _ _ _ _ _ _ _ _ _ _ _ _ _ _ _ (Row.of_at (at_all (hS720.heap (.head _)))) (Row.of_at (at_all (hS720.heap (.tail _ (.tail _ (.tail _ (.head _))))))) (Row.of_at (at_all (hS720.heap (.tail _ (.tail _ (.tail _ (.tail _ (.head _)))))))) (Row.of_at (at_all (hS720.heap (.tail _ (.tail _ (.head _)))))) (Row.of_at (at_all (hS720.heap (.tail _ (.tail _ (.tail _ (.tail _ (.tail _ (.head _))))))))) (Row.of_at (ent_at3 (hS720.heap (.tail _ (.tail _ (.tail _ (.tail _ (.tail _ (.tail _ (.head _)))))))) hx)) (Row.of_at (ent_at19 (hS720.heap (.tail _ (.tail _ (.tail _ (.tail _ (.tail _ (.tail _ (.head _)))))))) hx)) (Row.of_at (ent_at35 (hS720.heap (.tail _ (.tail _ (.tail _ (.tail _ (.tail _ (.tail _ (.head _)))))))) hx)) (Row.of_at (short_at4 (hS720.heap (.tail _ (.head _))))) (hbo.st hS720) rfl (by simp) (by simp) rfl hac hky hpv (by simp) rfl hx.e.bn) ?_
            rintro _ w721 ⟨a28, c28, rfl, hc28, hx722⟩
            have hS723 := hS720.call hx722
            simp only [List.cons_append, List.nil_append] at hS723; refine wl_val (r_assign (v := .slice _ _ _) rfl) rfl ?_; refine wl_nil ?_; refine c_then ?_; refine wp_ret ?_; refine ret1 Try.results42 ?_
            have eN := EV.L_len hx.e
            have eL : [75, 87, 69, 49] ++ octs8 (UInt64.ofNat x.e.nr.toNat) ++ octs8 (UInt64.ofNat x.e.tm.toNat) ++ [UInt8.ofNat x.e.act.toNat] ++ x.e.ac ++ x.e.ky ++ x.e.pv ++ octs (UInt32.ofNat x.e.bo.length) ++ x.e.bo = x.e.L := by simp only [EV.L, EV.M, EV.H]
            exact ⟨_, _, congrArg (fun n => Value.slice _ n _) eN.symm, by rw [eN]; exact hc28, St.rowTo (hS723.perm ((List.Perm.cons _ ((List.Perm.cons _ ((List.Perm.cons _ ((List.Perm.cons _ ((List.Perm.cons _ ((List.Perm.cons _ ((List.Perm.cons _ (List.Perm.refl _)).trans (List.perm_middle (l₁ := [_])).symm)).trans (List.perm_middle (l₁ := [_])).symm)).trans (List.perm_middle (l₁ := [_])).symm)).trans (List.perm_middle (l₁ := [_])).symm)).trans (List.perm_middle (l₁ := [_])).symm)).trans (List.perm_middle (l₁ := [_])).symm)).trans (List.perm_middle (l₁ := [_])).symm)).drop1.drop1.drop1.drop1.drop1.drop1.drop1 eN.symm (by rw [← eL]; simp)⟩
          · refine o_call rfl (r_call fn31 rfl rfl) rfl (rshort_ok x.e.bo.length _ (by omega)) ?_
            rintro _ w724 ⟨b24, rfl, hx725⟩
            have hS726 := hS713.call hx725
            simp only [List.cons_append, List.nil_append] at hS726
            refine ⟨hS726.drop1.drop1.drop1.drop1.drop1, ?_⟩
            refine g_one 1 (by decide +kernel) (by decide +kernel) ?_; refine o_exv rfl (x_mark [_, _] hS726 ti30.und ti5.und rfl) rfl ?_; rintro _ w727 ⟨rfl, hS728⟩; simp only [List.cons_append, List.nil_append] at hS728
            refine ⟨hS728.drop1.drop1.drop1.drop1.drop1, ?_⟩
            refine g_tail (by decide +kernel) rfl (by decide +kernel) ?_; refine wl_exv (x_lit (vs := [.slice _ _ _, .slice _ _ _, .slice _ _ _, .slice _ _ _, .slice _ _ _, .slice _ _ _, .slice _ _ _, .slice _ _ _, .slice _ _ _]) hS728 ti90.und ti30 rfl rfl rfl (by intro c hc; simp only [List.mem_cons, List.not_mem_nil, or_false] at hc; rcases hc with rfl | rfl | rfl | rfl | rfl | rfl | rfl | rfl | rfl <;> rfl) (by decide)) rfl ?_; rintro _ w729 ⟨b27, rfl, hS730⟩; refine wl_call (r_call fn21 rfl rfl) rfl (concatE_ok [75, 87, 69, 49] (octs8 (UInt64.ofNat x.e.nr.toNat)) (octs8 (UInt64.ofNat x.e.tm.toNat)) [UInt8.ofNat x.e.act.toNat] x.e.ac x.e.ky x.e.pv (octs (UInt32.ofNat x.e.bo.length)) x.e.bo _ _ _ _ _ _ _ _ _ _ _ _ _ _ _ _ _ _ _ _ _ _ (Row.of_at (at_all (hS730.heap (.head _)))) (Row.of_at (at_all (hS730.heap (.tail _ (.tail _ (.tail _ (.head _))))))) (Row.of_at (at_all (hS730.heap (.tail _ (.tail _ (.tail _ (.tail _ (.head _)))))))) (Row.of_at (at_all (hS730.heap (.tail _ (.tail _ (.head _)))))) (Row.of_at (at_all (hS730.heap (.tail _ (.tail _ (.tail _ (.tail _ (.tail _ (.head _))))))))) (Row.of_at (ent_at3 (hS730.heap (.tail _ (.tail _ (.tail _ (.tail _ (.tail _ (.tail _ (.head _)))))))) hx)) (Row.of_at (ent_at19 (hS730.heap (.tail _ (.tail _ (.tail _ (.tail _ (.tail _ (.tail _ (.head _)))))))) hx)) (Row.of_at (ent_at35 (hS730.heap (.tail _ (.tail _ (.tail _ (.tail _ (.tail _ (.tail _ (.head _)))))))) hx)) (Row.of_at (short_at4 (hS730.heap (.tail _ (.head _))))) (hbo.st hS730) rfl (by simp) (by simp) rfl hac hky hpv (by simp) rfl hx.e.bn) ?_
            rintro _ w731 ⟨a28, c28, rfl, hc28, hx732⟩
            have hS733 := hS730.call hx732
            simp only [List.cons_append, List.nil_append] at hS733; refine wl_val (r_assign (v := .slice _ _ _) rfl) rfl ?_; refine wl_nil ?_; refine c_then ?_; refine wp_ret ?_; refine ret1 Try.results42 ?_
            have eN := EV.L_len hx.e
            have eL : [75, 87, 69, 49] ++ octs8 (UInt64.ofNat x.e.nr.toNat) ++ octs8 (UInt64.ofNat x.e.tm.toNat) ++ [UInt8.ofNat x.e.act.toNat] ++ x.e.ac ++ x.e.ky ++ x.e.pv ++ octs (UInt32.ofNat x.e.bo.length) ++ x.e.bo = x.e.L := by simp only [EV.L, EV.M, EV.H]
            exact ⟨_, _, congrArg (fun n => Value.slice _ n _) eN.symm, by rw [eN]; exact hc28, St.rowTo (hS733.perm ((List.Perm.cons _ ((List.Perm.cons _ ((List.Perm.cons _ ((List.Perm.cons _ ((List.Perm.cons _ ((List.Perm.cons _ ((List.Perm.cons _ (List.Perm.refl _)).trans (List.perm_middle (l₁ := [_])).symm)).trans (List.perm_middle (l₁ := [_])).symm)).trans (List.perm_middle (l₁ := [_])).symm)).trans (List.perm_middle (l₁ := [_])).symm)).trans (List.perm_middle (l₁ := [_])).symm)).trans (List.perm_middle (l₁ := [_])).symm)).trans (List.perm_middle (l₁ := [_])).symm)).drop1.drop1.drop1.drop1.drop1.drop1.drop1 eN.symm (by rw [← eL]; simp)⟩
      · refine o_call rfl (r_call fn33 rfl rfl) rfl (rlong_z x.e.tm _ (by omega) (by omega)) ?_
        rintro _ w734 ⟨b10, rfl, hx735⟩
        have hS736 := hS695.call hx735
        simp only [List.cons_append, List.nil_append] at hS736
        refine ⟨hS736.drop1.drop1.drop1, ?_⟩
        refine g_all (rs := [0, 21]) (by decide +kernel) (by decide +kernel) rfl ?_
        simp only [List.forall_mem_cons, List.not_mem_nil, false_imp_iff, implies_true, and_true]
        refine ⟨?_, ?_⟩
        · refine o_exv rfl (x_lit (vs := (([75, 87, 69, 49] : List UInt8).map b8)) hS736 ti30.und ti5 rfl rfl rfl (by repeat' first | exact one_nil | exact one_b8 _ | exact one_v32 _ | exact one_all rfl | refine one_cons rfl ?_ | refine one_app ?_ ?_) (by decide)) rfl ?_
          rintro _ w737 ⟨b3, rfl, hS738⟩
          refine ⟨hS738.drop1.drop1.drop1.drop1, ?_⟩
          refine g_all (rs := [1, 21]) (by decide +kernel) (by decide +kernel) rfl ?_
          simp only [List.forall_mem_cons, List.not_mem_nil, false_imp_iff, implies_true, and_true]
          refine ⟨?_, ?_⟩
          · refine o_exv rfl (x_mark [] hS738 ti30.und ti5.und rfl) rfl ?_
            rintro _ w739 ⟨rfl, hS740⟩; simp only [List.cons_append, List.nil_append] at hS740
            refine ⟨hS740.drop1.drop1.drop1.drop1, ?_⟩
            refine g_one 21 (by decide +kernel) (by decide +kernel) ?_; refine o_call rfl (r_call fn31 rfl rfl) rfl (rshort_ok x.e.bo.length _ (by omega)) ?_; rintro _ w741 ⟨b24, rfl, hx742⟩
            have hS743 := hS740.call hx742
            simp only [List.cons_append, List.nil_append] at hS743
            refine ⟨hS743.drop1.drop1.drop1.drop1.drop1, ?_⟩
            refine g_tail (by decide +kernel) rfl (by decide +kernel) ?_; refine wl_exv (x_lit (vs := [.slice _ _ _, .slice _ _ _, .slice _ _ _, .slice _ _ _, .slice _ _ _, .slice _ _ _, .slice _ _ _, .slice _ _ _, .slice _ _ _]) hS743 ti90.und ti30 rfl rfl rfl (by intro c hc; simp only [List.mem_cons, List.not_mem_nil, or_false] at hc; rcases hc with rfl | rfl | rfl | rfl | rfl | rfl | rfl | rfl | rfl <;> rfl) (by decide)) rfl ?_; rintro _ w744 ⟨b27, rfl, hS745⟩; refine wl_call (r_call fn21 rfl rfl) rfl (concatE_ok [75, 87, 69, 49] (octs8 (UInt64.ofNat x.e.nr.toNat)) (octs8 (UInt64.ofNat x.e.tm.toNat)) [UInt8.ofNat x.e.act.toNat] x.e.ac x.e.ky x.e.pv (octs (UInt32.ofNat x.e.bo.length)) x.e.bo _ _ _ _ _ _ _ _ _ _ _ _ _ _ _ _ _ _ _ _ _ _ (Row.of_at (at_all (hS745.heap (.head _)))) (Row.of_at (at_all (hS745.heap (.tail _ (.tail _ (.head _)))))) (Row.of_at (at_all (hS745.heap (.tail _ (.tail _ (.tail _ (.tail _ (.head _)))))))) (Row.of_at (at_all (hS745.heap (.tail _ (.tail _ (.tail _ (.head _))))))) (Row.of_at (at_all (hS745.heap (.tail _ (.tail _ (.tail _ (.tail _ (.tail _ (.head _))))))))) (Row.of_at (ent_at3 (hS745.heap (.tail _ (.tail _ (.tail _ (.tail _ (.tail _ (.tail _ (.head _)))))))) hx)) (Row.of_at (ent_at19 (hS745.heap (.tail _ (.tail _ (.tail _ (.tail _ (.tail _ (.tail _ (.head _)))))))) hx)) (Row.of_at (ent_at35 (hS745.heap (.tail _ (.tail _ (.tail _ (.tail _ (.tail _ (.tail _ (.head _)))))))) hx)) (Row.of_at (short_at4 (hS745.heap (.tail _ (.head _))))) (hbo.st hS745) rfl (by simp) (by simp) rfl hac hky hpv (by simp) rfl hx.e.bn) ?_
            rintro _ w746 ⟨a28, c28, rfl, hc28, hx747⟩
            have hS748 := hS745.call hx747
            simp only [List.cons_append, List.nil_append] at hS748; refine wl_val (r_assign (v := .slice _ _ _) rfl) rfl ?_; refine wl_nil ?_; refine c_then ?_; refine wp_ret ?_; refine ret1 Try.results42 ?_
            have eN := EV.L_len hx.e
            have eL : [75, 87, 69, 49] ++ octs8 (UInt64.ofNat x.e.nr.toNat) ++ octs8 (UInt64.ofNat x.e.tm.toNat) ++ [UInt8.ofNat x.e.act.toNat] ++ x.e.ac ++ x.e.ky ++ x.e.pv ++ octs (UInt32.ofNat x.e.bo.length) ++ x.e.bo = x.e.L := by simp only [EV.L, EV.M, EV.H]
            exact ⟨_, _, congrArg (fun n => Value.slice _ n _) eN.symm, by rw [eN]; exact hc28, St.rowTo (hS748.perm ((List.Perm.cons _ ((List.Perm.cons _ ((List.Perm.cons _ ((List.Perm.cons _ ((List.Perm.cons _ ((List.Perm.cons _ ((List.Perm.cons _ (List.Perm.refl _)).trans (List.perm_middle (l₁ := [_])).symm)).trans (List.perm_middle (l₁ := [_])).symm)).trans (List.perm_middle (l₁ := [_])).symm)).trans (List.perm_middle (l₁ := [_])).symm)).trans (List.perm_middle (l₁ := [_])).symm)).trans (List.perm_middle (l₁ := [_])).symm)).trans (List.perm_middle (l₁ := [_])).symm)).drop1.drop1.drop1.drop1.drop1.drop1.drop1 eN.symm (by rw [← eL]; simp)⟩
          · refine o_call rfl (r_call fn31 rfl rfl) rfl (rshort_ok x.e.bo.length _ (by omega)) ?_
            rintro _ w749 ⟨b24, rfl, hx750⟩
            have hS751 := hS738.call hx750
            simp only [List.cons_append, List.nil_append] at hS751
            refine ⟨hS751.drop1.drop1.drop1.drop1.drop1, ?_⟩
            refine g_one 1 (by decide +kernel) (by decide +kernel) ?_; refine o_exv rfl (x_mark [_] hS751 ti30.und ti5.und rfl) rfl ?_; rintro _ w752 ⟨rfl, hS753⟩; simp only [List.cons_append, List.nil_append] at hS753
            refine ⟨hS753.drop1.drop1.drop1.drop1.drop1, ?_⟩
            refine g_tail (by decide +kernel) rfl (by decide +kernel) ?_; refine wl_exv (x_lit (vs := [.slice _ _ _, .slice _ _ _, .slice _ _ _, .slice _ _ _, .slice _ _ _, .slice _ _ _, .slice _ _ _, .slice _ _ _, .slice _ _ _]) hS753 ti90.und ti30 rfl rfl rfl (by intro c hc; simp only [List.mem_cons, List.not_mem_nil, or_false] at hc; rcases hc with rfl | rfl | rfl | rfl | rfl | rfl | rfl | rfl | rfl <;> rfl) (by decide)) rfl ?_; rintro _ w754 ⟨b27, rfl, hS755⟩; refine wl_call (r_call fn21 rfl rfl) rfl (concatE_ok [75, 87, 69, 49] (octs8 (UInt64.ofNat x.e.nr.toNat)) (octs8 (UInt64.ofNat x.e.tm.toNat)) [UInt8.ofNat x.e.act.toNat] x.e.ac x.e.ky x.e.pv (octs (UInt32.ofNat x.e.bo.length)) x.e.bo _ _ _ _ _ _ _ _ _ _ _ _ _ _ _ _ _ _ _ _ _ _ (Row.of_at (at_all (hS755.heap (.head _)))) (Row.of_at (at_all (hS755.heap (.tail _ (.tail _ (.head _)))))) (Row.of_at (at_all (hS755.heap (.tail _ (.tail _ (.tail _ (.tail _ (.head _)))))))) (Row.of_at (at_all (hS755.heap (.tail _ (.tail _ (.tail _ (.head _))))))) (Row.of_at (at_all (hS755.heap (.tail _ (.tail _ (.tail _ (.tail _ (.tail _ (.head _))))))))) (Row.of_at (ent_at3 (hS755.heap (.tail _ (.tail _ (.tail _ (.tail _ (.tail _ (.tail _ (.head _)))))))) hx)) (Row.of_at (ent_at19 (hS755.heap (.tail _ (.tail _ (.tail _ (.tail _ (.tail _ (.tail _ (.head _)))))))) hx)) (Row.of_at (ent_at35 (hS755.heap (.tail _ (.tail _ (.tail _ (.tail _ (.tail _ (.tail _ (.head _)))))))) hx)) (Row.of_at (short_at4 (hS755.heap (.tail _ (.head _))))) (hbo.st hS755) rfl (by simp) (by simp) rfl hac hky hpv (by simp) rfl hx.e.bn) ?_
            rintro _ w756 ⟨a28, c28, rfl, hc28, hx757⟩
            have hS758 := hS755.call hx757
            simp only [List.cons_append, List.nil_append] at hS758; refine wl_val (r_assign (v := .slice _ _ _) rfl) rfl ?_; refine wl_nil ?_; refine c_then ?_; refine wp_ret ?_; refine ret1 Try.results42 ?_
            have eN := EV.L_len hx.e
            have eL : [75, 87, 69, 49] ++ octs8 (UInt64.ofNat x.e.nr.toNat) ++ octs8 (UInt64.ofNat x.e.tm.toNat) ++ [UInt8.ofNat x.e.act.toNat] ++ x.e.ac ++ x.e.ky ++ x.e.pv ++ octs (UInt32.ofNat x.e.bo.length) ++ x.e.bo = x.e.L := by simp only [EV.L, EV.M, EV.H]
            exact ⟨_, _, congrArg (fun n => Value.slice _ n _) eN.symm, by rw [eN]; exact hc28, St.rowTo (hS758.perm ((List.Perm.cons _ ((List.Perm.cons _ ((List.Perm.cons _ ((List.Perm.cons _ ((List.Perm.cons _ ((List.Perm.cons _ ((List.Perm.cons _ (List.Perm.refl _)).trans (List.perm_middle (l₁ := [_])).symm)).trans (List.perm_middle (l₁ := [_])).symm)).trans (List.perm_middle (l₁ := [_])).symm)).trans (List.perm_middle (l₁ := [_])).symm)).trans (List.perm_middle (l₁ := [_])).symm)).trans (List.perm_middle (l₁ := [_])).symm)).trans (List.perm_middle (l₁ := [_])).symm)).drop1.drop1.drop1.drop1.drop1.drop1.drop1 eN.symm (by rw [← eL]; simp)⟩
        · refine o_call rfl (r_call fn31 rfl rfl) rfl (rshort_ok x.e.bo.length _ (by omega)) ?_
          rintro _ w759 ⟨b24, rfl, hx760⟩
          have hS761 := hS736.call hx760
          simp only [List.cons_append, List.nil_append] at hS761
          refine ⟨hS761.drop1.drop1.drop1.drop1, ?_⟩
          refine g_one 0 (by decide +kernel) (by decide +kernel) ?_; refine o_exv rfl (x_lit (vs := (([75, 87, 69, 49] : List UInt8).map b8)) hS761 ti30.und ti5 rfl rfl rfl (by repeat' first | exact one_nil | exact one_b8 _ | exact one_v32 _ | exact one_all rfl | refine one_cons rfl ?_ | refine one_app ?_ ?_) (by decide)) rfl ?_; rintro _ w762 ⟨b3, rfl, hS763⟩
          refine ⟨hS763.drop1.drop1.drop1.drop1.drop1, ?_⟩
          refine g_one 1 (by decide +kernel) (by decide +kernel) ?_; refine o_exv rfl (x_mark [] hS763 ti30.und ti5.und rfl) rfl ?_; rintro _ w764 ⟨rfl, hS765⟩; simp only [List.cons_append, List.nil_append] at hS765
          refine ⟨hS765.drop1.drop1.drop1.drop1.drop1, ?_⟩
          refine g_tail (by decide +kernel) rfl (by decide +kernel) ?_; refine wl_exv (x_lit (vs := [.slice _ _ _, .slice _ _ _, .slice _ _ _, .slice _ _ _, .slice _ _ _, .slice _ _ _, .slice _ _ _, .slice _ _ _, .slice _ _ _]) hS765 ti90.und ti30 rfl rfl rfl (by intro c hc; simp only [List.mem_cons, List.not_mem_nil, or_false] at hc; rcases hc with rfl | rfl | rfl | rfl | rfl | rfl | rfl | rfl | rfl <;> rfl) (by decide)) rfl ?_; rintro _ w766 ⟨b27, rfl, hS767⟩; refine wl_call (r_call fn21 rfl rfl) rfl (concatE_ok [75, 87, 69, 49] (octs8 (UInt64.ofNat x.e.nr.toNat)) (octs8 (UInt64.ofNat x.e.tm.toNat)) [UInt8.ofNat x.e.act.toNat] x.e.ac x.e.ky x.e.pv (octs (UInt32.ofNat x.e.bo.length)) x.e.bo _ _ _ _ _ _ _ _ _ _ _ _ _ _ _ _ _ _ _ _ _ _ (Row.of_at (at_all (hS767.heap (.head _)))) (Row.of_at (at_all (hS767.heap (.tail _ (.head _))))) (Row.of_at (at_all (hS767.heap (.tail _ (.tail _ (.tail _ (.tail _ (.head _)))))))) (Row.of_at (at_all (hS767.heap (.tail _ (.tail _ (.tail _ (.head _))))))) (Row.of_at (at_all (hS767.heap (.tail _ (.tail _ (.tail _ (.tail _ (.tail _ (.head _))))))))) (Row.of_at (ent_at3 (hS767.heap (.tail _ (.tail _ (.tail _ (.tail _ (.tail _ (.tail _ (.head _)))))))) hx)) (Row.of_at (ent_at19 (hS767.heap (.tail _ (.tail _ (.tail _ (.tail _ (.tail _ (.tail _ (.head _)))))))) hx)) (Row.of_at (ent_at35 (hS767.heap (.tail _ (.tail _ (.tail _ (.tail _ (.tail _ (.tail _ (.head _)))))))) hx)) (Row.of_at (short_at4 (hS767.heap (.tail _ (.tail _ (.head _)))))) (hbo.st hS767) rfl (by simp) (by simp) rfl hac hky hpv (by simp) rfl hx.e.bn) ?_
          rintro _ w768 ⟨a28, c28, rfl, hc28, hx769⟩
          have hS770 := hS767.call hx769
          simp only [List.cons_append, List.nil_append] at hS770; refine wl_val (r_assign (v := .slice _ _ _) rfl) rfl ?_; refine wl_nil ?_; refine c_then ?_; refine wp_ret ?_; refine ret1 Try.results42 ?_
          have eN := EV.L_len hx.e
          have eL : [75, 87, 69, 49] ++ octs8 (UInt64.ofNat x.e.nr.toNat) ++ octs8 (UInt64.ofNat x.e.tm.toNat) ++ [UInt8.ofNat x.e.act.toNat] ++ x.e.ac ++ x.e.ky ++ x.e.pv ++ octs (UInt32.ofNat x.e.bo.length) ++ x.e.bo = x.e.L := by simp only [EV.L, EV.M, EV.H]
          exact ⟨_, _, congrArg (fun n => Value.slice _ n _) eN.symm, by rw [eN]; exact hc28, St.rowTo (hS770.perm ((List.Perm.cons _ ((List.Perm.cons _ ((List.Perm.cons _ ((List.Perm.cons _ ((List.Perm.cons _ ((List.Perm.cons _ ((List.Perm.cons _ (List.Perm.refl _)).trans (List.perm_middle (l₁ := [_])).symm)).trans (List.perm_middle (l₁ := [_])).symm)).trans (List.perm_middle (l₁ := [_])).symm)).trans (List.perm_middle (l₁ := [_])).symm)).trans (List.perm_middle (l₁ := [_])).symm)).trans (List.perm_middle (l₁ := [_])).symm)).trans (List.perm_middle (l₁ := [_])).symm)).drop1.drop1.drop1.drop1.drop1.drop1.drop1 eN.symm (by rw [← eL]; simp)⟩

set_option maxHeartbeats 4000000 in
theorem entrySum_ok (x : EntD) (w : World) (hx : EntOk x) (hbo : Row w x.ba (x.e.bo.map b8)) :
    Ret Try.prog 19 [.agg x.v.toArray] w (fun v w' => (¬ x.e.F = 0 ∧ v = .tuple #[.agg ((List.replicate 32 (0 : UInt8)).map b8).toArray, .int .i64 x.e.F] ∧ St w [] w' []) ∨ (x.e.F = 0 ∧ v = .tuple #[.agg (x.e.S.map b8).toArray, vi 0] ∧ St w [] w' [])) := by
  have hxl := ent_len hx
  have hac := hx.e.ac
  have hky := hx.e.ky
  have hpv := hx.e.pv
  refine enter Try.func19 rfl Try.ntmps19 rfl ?_
  have hS := St.refl w []
  refine c_seq ?_; refine c_region ?_; refine wl_exv (x_box hS (v := .agg _) rfl rfl) rfl ?_; rintro _ w1 ⟨b1, rfl, hS2⟩; refine wl_exv (x_alloc (C := ((List.replicate 32 (0 : UInt8)).map b8)) hS2 ti26 rfl) rfl ?_; rintro _ w3 ⟨b2, rfl, hS4⟩; refine wl_val (r_assign (v := .int .i64 0) rfl) rfl ?_; refine wl_nil ?_; refine c_then ?_; refine c_seq ?_; refine c_seq ?_; refine c_region ?_; refine wl_val (r_loadB tie ag41 rfl (hS4.heap (.tail _ (.head _))) (by first | (simp [*]; done) | (simp [*] <;> omega) | omega)) rfl ?_; refine wl_call (r_call fn48 rfl rfl) rfl (entryFault_ok x _ hx (hbo.st hS4)) ?_; rintro _ w5 ⟨rfl, hx6⟩
  have hS7 := hS4.ext hx6
  refine wl_val (r_assign (v := .int .i64 _) rfl) rfl ?_; refine wl_nil ?_; refine c_then ?_; refine c_seq ?_; refine c_region ?_; refine wl_val (r_move (v := .int .i64 _) rfl) rfl ?_
  refine wl_dec (r_neq rfl rfl) rfl (fun h2_1 => ?_) (fun h2_1 => ?_)
  · refine wl_nil ?_
    refine c_then ?_; refine c_true rfl ?_; refine c_seq ?_; refine c_region ?_; refine wl_val (r_build0 (cs := ((List.replicate 32 (0 : UInt8)).map b8)) ti26.und ti26 ti5) rfl ?_; refine wl_val (r_move (v := .int .i64 _) rfl) rfl ?_; refine wl_exs (x_storeW [] hS7 ti26 rfl rfl (by first | (simp [*]; done) | (simp [*] <;> omega) | omega) (by first | (simp [*]; done) | (simp [*] <;> omega) | omega) (by repeat' first | exact one_nil | exact one_b8 _ | exact one_v32 _ | exact one_all rfl | refine one_cons rfl ?_ | refine one_app ?_ ?_)) rfl ?_; intro w8 hS9; simp only [List.cons_append, List.nil_append] at hS9; refine wl_val (r_assign (v := .int .i64 _) rfl) rfl ?_; refine wl_nil ?_; refine c_then ?_; refine wp_ret ?_; refine c_thenR ?_; refine ret2 Try.results19 ⟨_, rfl, run_loadVar_blk ti26 rfl (hS9.heap (.head _)) (by first | (simp [*]; done) | (simp [*] <;> omega) | omega)⟩ rfl ?_
    exact .inl ⟨h2_1, rfl, hS9.fin⟩
  refine wl_nil ?_; refine c_then ?_; refine c_false rfl ?_; refine wp_skip ?_; refine c_then ?_; refine c_seq ?_
  have hg := EV.good (Decidable.of_not_not h2_1)
  have g1 := hg.n0
  have g2 := hg.n1
  have g3 := hg.t0
  have g4 := hg.t1
  have g5 := hg.a0
  have g6 := hg.a1
  have g7 := hg.bl
  have hEL := EV.L_len hx.e
  refine c_region ?_; refine wl_val (r_loadB tie ag41 rfl (hS7.heap (.tail _ (.head _))) (by first | (simp [*]; done) | (simp [*] <;> omega) | omega)) rfl ?_; refine wl_call (r_call fn51 rfl rfl) rfl (ahead_ok x _ hx (hbo.st hS7) hg) ?_; rintro _ w10 ⟨a12, c12, rfl, hc12, hx11⟩
  have hS12 := hS7.call hx11
  simp only [List.cons_append, List.nil_append] at hS12; refine wl_call (r_call fn45 rfl rfl) rfl (sumOf_in 3 x.e.L _ _ _ _ (by decide) (St.rowAt hS12 (.head _)) rfl hc12 (by omega)) ?_; rintro _ w13 ⟨rfl, hx14⟩
  have hS15 := hS12.ext hx14
  refine wl_val (r_extract (v := .agg _) rfl rfl) rfl ?_; refine wl_val (r_extract (v := .int .i64 _) rfl rfl) rfl ?_; refine wl_exs (x_storeW [_] hS15 ti26 rfl rfl (by first | (simp [*]; done) | (simp [*] <;> omega) | omega) (by first | (simp [*]; done) | (simp [*] <;> omega) | omega) (by repeat' first | exact one_nil | exact one_b8 _ | exact one_v32 _ | exact one_all rfl | refine one_cons rfl ?_ | refine one_app ?_ ?_)) rfl ?_; intro w16 hS17; simp only [List.cons_append, List.nil_append] at hS17; refine wl_val (r_assign (v := .int .i64 _) rfl) rfl ?_; refine wl_nil ?_; refine c_then ?_; refine wp_ret ?_; refine ret2 Try.results19 ⟨_, rfl, run_loadVar_blk ti26 rfl (hS17.heap (.tail _ (.head _))) (by first | (simp [*]; done) | (simp [*] <;> omega) | omega)⟩ rfl ?_
  exact .inr ⟨Decidable.of_not_not h2_1, rfl, hS17.fin⟩

set_option maxHeartbeats 4000000 in
theorem rentrySum_ok (x : EntD) (w : World) (hx : EntOk x) (hbo : Row w x.ba (x.e.bo.map b8)) (hg : EGood x.e) :
    Ret Try.prog 20 [.agg x.v.toArray] w (fun v w' => v = .agg (x.e.S.map b8).toArray ∧ St w [] w' []) := by
  have hxl := ent_len hx
  have hac := hx.e.ac
  have hky := hx.e.ky
  have hpv := hx.e.pv
  have g1 := hg.n0
  have g2 := hg.n1
  have g3 := hg.t0
  have g4 := hg.t1
  have g5 := hg.a0
  have g6 := hg.a1
  have g7 := hg.bl
  have hEL := EV.L_len hx.e
  refine enter Try.func20 rfl Try.ntmps20 rfl ?_
  have hS := St.refl w []
  refine c_seq ?_; refine c_region ?_; refine wl_exv (x_box hS (v := .agg _) rfl rfl) rfl ?_; rintro _ w1 ⟨b1, rfl, hS2⟩; refine wl_exv (x_alloc (C := ((List.replicate 32 (0 : UInt8)).map b8)) hS2 ti26 rfl) rfl ?_; rintro _ w3 ⟨b2, rfl, hS4⟩; refine wl_nil ?_; refine c_then ?_; refine c_seq ?_; refine c_region ?_; refine wl_val (r_loadB tie ag41 rfl (hS4.heap (.tail _ (.head _))) (by first | (simp [*]; done) | (simp [*] <;> omega) | omega)) rfl ?_; refine wl_call (r_call fn42 rfl rfl) rfl (plain_ok x _ hx (hbo.st hS4) hg) ?_; rintro _ w5 ⟨a4, c4, rfl, hc4, hx6⟩
  have hS7 := hS4.call hx6
  simp only [List.cons_append, List.nil_append] at hS7; refine wl_call (r_call fn14 rfl rfl) rfl (rsum_ok 3 x.e.L _ _ _ _ (St.rowAt hS7 (.head _)) rfl (by omega)) ?_; rintro _ w8 ⟨rfl, hx9⟩
  have hS10 := hS7.ext hx9
  refine wl_exs (x_storeW [_] hS10 ti26 rfl rfl (by first | (simp [*]; done) | (simp [*] <;> omega) | omega) (by first | (simp [*]; done) | (simp [*] <;> omega) | omega) (by repeat' first | exact one_nil | exact one_b8 _ | exact one_v32 _ | exact one_all rfl | refine one_cons rfl ?_ | refine one_app ?_ ?_)) rfl ?_; intro w11 hS12; simp only [List.cons_append, List.nil_append] at hS12; refine wl_nil ?_; refine c_then ?_; refine wp_ret ?_; refine retc Try.results20 ⟨_, rfl, run_loadVar_blk ti26 rfl (hS12.heap (.tail _ (.head _))) (by first | (simp [*]; done) | (simp [*] <;> omega) | omega)⟩ ?_
  exact ⟨rfl, hS12.fin⟩

set_option maxHeartbeats 4000000 in
theorem printEntry_ok (x : EntD) (w : World) (hx : EntOk x) (hbo : Row w x.ba (x.e.bo.map b8)) :
    Ret Try.prog 18 [.agg x.v.toArray] w (fun v w' => (¬ x.e.F = 0 ∧ v = .tuple #[.slice none 0 0, .int .i64 x.e.F] ∧ St w [] w' []) ∨ (x.e.F = 0 ∧ ∃ a' c', v = .tuple #[.slice a' x.e.P.length c', vi 0] ∧ x.e.P.length ≤ c' ∧ St w [] w' [.row (.slice a' x.e.P.length c') 5 1 x.e.P.length (x.e.P.map b8)])) := by
  have hxl := ent_len hx
  have hac := hx.e.ac
  have hky := hx.e.ky
  have hpv := hx.e.pv
  refine enter Try.func18 rfl Try.ntmps18 rfl ?_
  have hS := St.refl w []
  refine c_seq ?_; refine c_region ?_; refine wl_exv (x_box hS (v := .agg _) rfl rfl) rfl ?_; rintro _ w1 ⟨b1, rfl, hS2⟩; refine wl_val (r_assign (v := .slice none 0 0) rfl) rfl ?_; refine wl_val (r_assign (v := .int .i64 0) rfl) rfl ?_; refine wl_nil ?_; refine c_then ?_; refine c_seq ?_; refine c_region ?_; refine wl_val (r_loadB tie ag41 rfl (hS2.heap (.head _)) (by first | (simp [*]; done) | (simp [*] <;> omega) | omega)) rfl ?_; refine wl_call (r_call fn19 rfl rfl) rfl (entrySum_ok x _ hx (hbo.st hS2)) ?_
  rintro _ w3 (⟨hf, rfl, hx4⟩ | ⟨hf, rfl, hx4⟩)
  · have hS5 := hS2.ext hx4
    refine wl_val (r_move (v := .tuple _) rfl) rfl ?_; refine wl_val (r_extract (v := .agg _) rfl rfl) rfl ?_; refine wl_val (r_extract (v := .int .i64 _) rfl rfl) rfl ?_; refine wl_exv (x_alloc (C := ((List.replicate 32 (0 : UInt8)).map b8)) hS5 ti26 rfl) rfl ?_; rintro _ w6 ⟨b4, rfl, hS7⟩; refine wl_exs (x_storeW [] hS7 ti26 rfl rfl (by first | (simp [*]; done) | (simp [*] <;> omega) | omega) (by first | (simp [*]; done) | (simp [*] <;> omega) | omega) (by repeat' first | exact one_nil | exact one_b8 _ | exact one_v32 _ | exact one_all rfl | refine one_cons rfl ?_ | refine one_app ?_ ?_)) rfl ?_; intro w8 hS9; simp only [List.cons_append, List.nil_append] at hS9; refine wl_val (r_assign (v := .int .i64 _) rfl) rfl ?_; refine wl_nil ?_; refine c_then ?_; refine c_seq ?_; refine c_seq ?_; refine c_region ?_; refine wl_val (r_move (v := .int .i64 _) rfl) rfl ?_; refine wl_dec_t (r_neq rfl rfl) rfl hf ?_; refine wl_nil ?_; refine c_then ?_; refine c_true rfl ?_; refine c_seq ?_; refine c_region ?_; refine wl_val (r_move (v := .int .i64 _) rfl) rfl ?_; refine wl_val (r_assign (v := .slice none 0 0) rfl) rfl ?_; refine wl_val (r_assign (v := .int .i64 _) rfl) rfl ?_; refine wl_nil ?_; refine c_then ?_; refine wp_ret ?_; refine c_thenR ?_; refine ret2 Try.results18 rfl rfl ?_
    exact .inl ⟨hf, rfl, hS9.fin⟩
  have hS5 := hS2.ext hx4
  refine wl_val (r_move (v := .tuple _) rfl) rfl ?_; refine wl_val (r_extract (v := .agg _) rfl rfl) rfl ?_; refine wl_val (r_extract (v := .int .i64 _) rfl rfl) rfl ?_; refine wl_exv (x_alloc (C := ((List.replicate 32 (0 : UInt8)).map b8)) hS5 ti26 rfl) rfl ?_; rintro _ w10 ⟨b4, rfl, hS11⟩; refine wl_exs (x_storeW [] hS11 ti26 rfl rfl (by first | (simp [*]; done) | (simp [*] <;> omega) | omega) (by first | (simp [*]; done) | (simp [*] <;> omega) | omega) (by repeat' first | exact one_nil | exact one_b8 _ | exact one_v32 _ | exact one_all rfl | refine one_cons rfl ?_ | refine one_app ?_ ?_)) rfl ?_; intro w12 hS13; simp only [List.cons_append, List.nil_append] at hS13; refine wl_val (r_assign (v := .int .i64 _) rfl) rfl ?_; refine wl_nil ?_; refine c_then ?_; refine c_seq ?_; refine c_seq ?_; refine c_region ?_; refine wl_val (r_move (v := .int .i64 _) rfl) rfl ?_; refine wl_dec_f (r_neq rfl rfl) rfl (by decide) ?_; refine wl_nil ?_; refine c_then ?_; refine c_false rfl ?_; refine wp_skip ?_; refine c_then ?_; refine c_seq ?_
  have hg := EV.good (hf)
  have g1 := hg.n0
  have g2 := hg.n1
  have g3 := hg.t0
  have g4 := hg.t1
  have g5 := hg.a0
  have g6 := hg.a1
  have g7 := hg.bl
  have hEL := EV.L_len hx.e
  refine c_drawS 3 hMixed hS13 ?_; intro w14 hS15; refine g_take 0 rfl (by decide +kernel) rfl (fun _ _ _ h => h) hS15 (fun wF hF => r_loadB tie ag41 rfl (hF.heap (.tail _ (.head _))) (by first | (simp [*]; done) | (simp [*] <;> omega) | omega)) ?_; refine g_take 2 rfl (by decide +kernel) rfl (fun _ _ _ h => h) hS15 (fun wF hF => r_sa1_0 ti26.und ti5 rfl ) ?_; refine g_one 1 (by decide +kernel) (by decide +kernel) ?_; refine o_call rfl (r_call fn51 rfl rfl) rfl (ahead_ok x _ hx (hbo.st hS15) hg) ?_; rintro _ w16 ⟨a15, c15, rfl, hc15, hx17⟩
  have hS18 := hS15.call hx17
  simp only [List.cons_append, List.nil_append] at hS18
  refine ⟨hS18.drop1, ?_⟩
  refine g_tail (by decide +kernel) rfl (by decide +kernel) ?_; refine wl_exv (x_append [] hS18 ti30.und ti5 rfl (by decide) rfl rfl (Row.of_at (at_all (hS18.heap (.tail _ (.head _))))) (by simp) (by first | exact one_b8 _ | exact one_v32 _ | (intro c hc; simp only [List.mem_cons, List.not_mem_nil, or_false] at hc; (first | subst hc | rcases hc with rfl | rfl) <;> rfl)) (by first | omega | (simp [*]; done) | (simp [*] <;> omega)) (by first | omega | (simp [*]; done) | (simp [*] <;> omega)) _ rfl) rfl ?_; rintro _ w19 ⟨aq21, cq21, rfl, hcq21, hS20⟩; simp only [List.cons_append, List.nil_append] at hS20; refine wl_val (r_assign (v := .slice _ _ _) rfl) rfl ?_; refine wl_val (r_assign (v := .int .i64 0) rfl) rfl ?_; refine wl_nil ?_; refine c_then ?_; refine wp_ret ?_; refine ret2 Try.results18 rfl rfl ?_
  have eP : x.e.P.length = x.e.L.length + 32 := by simp [EV.P]
  exact .inr ⟨hf, _, _, congrArg (fun n => Value.tuple #[.slice _ n _, vi 0]) eP.symm, by rw [eP]; exact hcq21, St.rowTo (hS20.perm ((List.Perm.cons _ ((List.Perm.cons _ (List.Perm.refl _)).trans (List.perm_middle (l₁ := [_])).symm)).trans (List.perm_middle (l₁ := [_])).symm)).drop1.drop1 eP.symm (by simp [EV.P])⟩

set_option maxHeartbeats 4000000 in
theorem rprintEntry_ok (x : EntD) (w : World) (hx : EntOk x) (hbo : Row w x.ba (x.e.bo.map b8)) :
    Ret Try.prog 13 [.agg x.v.toArray] w (fun v w' => (¬ x.e.F = 0 ∧ v = .tuple #[.slice none 0 0, .int .i64 x.e.F] ∧ St w [] w' []) ∨ (x.e.F = 0 ∧ ∃ a' c', v = .tuple #[.slice a' x.e.P.length c', vi 0] ∧ x.e.P.length ≤ c' ∧ St w [] w' [.row (.slice a' x.e.P.length c') 5 1 x.e.P.length (x.e.P.map b8)])) := by
  have hxl := ent_len hx
  have hac := hx.e.ac
  have hky := hx.e.ky
  have hpv := hx.e.pv
  refine enter Try.func13 rfl Try.ntmps13 rfl ?_
  have hS := St.refl w []
  refine c_seq ?_; refine c_region ?_; refine wl_exv (x_box hS (v := .agg _) rfl rfl) rfl ?_; rintro _ w1 ⟨b1, rfl, hS2⟩; refine wl_val (r_assign (v := .slice none 0 0) rfl) rfl ?_; refine wl_val (r_assign (v := .int .i64 0) rfl) rfl ?_; refine wl_nil ?_; refine c_then ?_; refine c_seq ?_; refine c_seq ?_; refine c_region ?_; refine wl_val (r_loadB tie ag41 rfl (hS2.heap (.head _)) (by first | (simp [*]; done) | (simp [*] <;> omega) | omega)) rfl ?_; refine wl_call (r_call fn41 rfl rfl) rfl (rentryError_ok x _ hx (hbo.st hS2)) ?_; rintro _ w3 ⟨rfl, hx4⟩
  have hS5 := hS2.ext hx4
  refine wl_val (r_assign (v := .int .i64 _) rfl) rfl ?_; refine wl_nil ?_; refine c_then ?_; refine c_seq ?_; refine c_region ?_; refine wl_val (r_move (v := .int .i64 _) rfl) rfl ?_
  refine wl_dec (r_neq rfl rfl) rfl (fun h2_1 => ?_) (fun h2_1 => ?_)
  · refine wl_nil ?_
    refine c_then ?_; refine c_true rfl ?_; refine c_seq ?_; refine c_region ?_; refine wl_val (r_move (v := .int .i64 _) rfl) rfl ?_; refine wl_val (r_assign (v := .slice none 0 0) rfl) rfl ?_; refine wl_val (r_assign (v := .int .i64 _) rfl) rfl ?_; refine wl_nil ?_; refine c_then ?_; refine wp_ret ?_; refine c_thenR ?_; refine ret2 Try.results13 rfl rfl ?_
    exact .inl ⟨h2_1, rfl, hS5.fin⟩
  refine wl_nil ?_; refine c_then ?_; refine c_false rfl ?_; refine wp_skip ?_; refine c_then ?_; refine c_seq ?_
  have hg := EV.good (Decidable.of_not_not h2_1)
  have g1 := hg.n0
  have g2 := hg.n1
  have g3 := hg.t0
  have g4 := hg.t1
  have g5 := hg.a0
  have g6 := hg.a1
  have g7 := hg.bl
  have hEL := EV.L_len hx.e
  refine c_region ?_; refine wl_val (r_loadB tie ag41 rfl (hS5.heap (.head _)) (by first | (simp [*]; done) | (simp [*] <;> omega) | omega)) rfl ?_; refine wl_call (r_call fn20 rfl rfl) rfl (rentrySum_ok x _ hx (hbo.st hS5) hg) ?_; rintro _ w6 ⟨rfl, hx7⟩
  have hS8 := hS5.ext hx7
  refine wl_exv (x_alloc (C := ((List.replicate 32 (0 : UInt8)).map b8)) hS8 ti26 rfl) rfl ?_; rintro _ w9 ⟨b5, rfl, hS10⟩; refine wl_exs (x_storeW [] hS10 ti26 rfl rfl (by first | (simp [*]; done) | (simp [*] <;> omega) | omega) (by first | (simp [*]; done) | (simp [*] <;> omega) | omega) (by repeat' first | exact one_nil | exact one_b8 _ | exact one_v32 _ | exact one_all rfl | refine one_cons rfl ?_ | refine one_app ?_ ?_)) rfl ?_; intro w11 hS12; simp only [List.cons_append, List.nil_append] at hS12; refine wl_nil ?_; refine c_then ?_; refine c_seq ?_; refine c_drawS 3 hMixed hS12 ?_; intro w13 hS14; refine g_take 0 rfl (by decide +kernel) rfl (fun _ _ _ h => h) hS14 (fun wF hF => r_loadB tie ag41 rfl (hF.heap (.tail _ (.head _))) (by first | (simp [*]; done) | (simp [*] <;> omega) | omega)) ?_; refine g_take 2 rfl (by decide +kernel) rfl (fun _ _ _ h => h) hS14 (fun wF hF => r_sa1_0 ti26.und ti5 rfl ) ?_; refine g_one 1 (by decide +kernel) (by decide +kernel) ?_; refine o_call rfl (r_call fn42 rfl rfl) rfl (plain_ok x _ hx (hbo.st hS14) hg) ?_; rintro _ w15 ⟨a14, c14, rfl, hc14, hx16⟩
  have hS17 := hS14.call hx16
  simp only [List.cons_append, List.nil_append] at hS17
  refine ⟨hS17.drop1, ?_⟩
  refine g_tail (by decide +kernel) rfl (by decide +kernel) ?_; refine wl_exv (x_append [] hS17 ti30.und ti5 rfl (by decide) rfl rfl (Row.of_at (at_all (hS17.heap (.tail _ (.head _))))) (by simp) (by first | exact one_b8 _ | exact one_v32 _ | (intro c hc; simp only [List.mem_cons, List.not_mem_nil, or_false] at hc; (first | subst hc | rcases hc with rfl | rfl) <;> rfl)) (by first | omega | (simp [*]; done) | (simp [*] <;> omega)) (by first | omega | (simp [*]; done) | (simp [*] <;> omega)) _ rfl) rfl ?_; rintro _ w18 ⟨aq20, cq20, rfl, hcq20, hS19⟩; simp only [List.cons_append, List.nil_append] at hS19; refine wl_val (r_assign (v := .slice _ _ _) rfl) rfl ?_; refine wl_val (r_assign (v := .int .i64 0) rfl) rfl ?_; refine wl_nil ?_; refine c_then ?_; refine wp_ret ?_; refine ret2 Try.results13 rfl rfl ?_
  have eP : x.e.P.length = x.e.L.length + 32 := by simp [EV.P]
  exact .inr ⟨Decidable.of_not_not h2_1, _, _, congrArg (fun n => Value.tuple #[.slice _ n _, vi 0]) eP.symm, by rw [eP]; exact hcq20, St.rowTo (hS19.perm ((List.Perm.cons _ ((List.Perm.cons _ (List.Perm.refl _)).trans (List.perm_middle (l₁ := [_])).symm)).trans (List.perm_middle (l₁ := [_])).symm)).drop1.drop1 eP.symm (by simp [EV.P])⟩

end Go.Proofs.Ytbanoknkplcedaa
