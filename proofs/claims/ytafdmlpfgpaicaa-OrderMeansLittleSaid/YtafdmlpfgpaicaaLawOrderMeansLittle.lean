/- For every policy, ask and number: in another order of the rules the same asks are allowed, with as many approvals; the law's function returns true and turns nothing. No condition. -/
import Derived.Test.YtafdmlpfgpaicaaRows
import Derived.Test.YtafdmlpfgpaicaaOpen
import Derived.Test.YtafdmlpfgpaicaaPolC
namespace Go.Proofs.Ytafdmlpfgpaicaa.lawOrderMeansLittle
open Go.Kw Go.Proofs.Ytafdmlpfgpaicaa
open Go.ChangeShapes Go.WideShapes Go.ChangeAt Go.RowKit
set_option linter.unusedVariables false
set_option linter.unusedSimpArgs false
set_option maxRecDepth 100000
set_option maxHeartbeats 20000000

set_option maxHeartbeats 4000000 in
theorem walk (rs : List RuleD) (pa : Option Addr) (n pc : Nat) (q : AskD) (turn : Int) (w : World) (hrs : Row w pa (rs.flatMap RuleD.v)) (hl : rs.length = n) (hn : n ≤ 140737488351232) (hall : ∀ r ∈ rs, RuleAt w r) (hq : AskOk q) (hr : Row w q.ra (q.ro.map sv)) (hpc : n ≤ pc) (htn1 : -9223372036854775808 ≤ turn) (htn2 : turn ≤ 9223372036854775807) :
    Ret Try.prog 5 [.agg #[.slice pa n pc], .agg q.v.toArray, .int .i64 turn] w (fun v w' => v = .bool true ∧ St w [] w' []) := by
  subst hl
  have hac := hq.ac
  have hkey := hq.key
  have hdet := hq.det
  refine enter Try.func5 rfl Try.ntmps5 rfl ?_
  have hS := St.refl w []
  refine c_seq ?_
  refine c_region ?_
  refine wl_exv (x_box hS (v := .agg _) rfl rfl) rfl ?_
  rintro _ w1 ⟨b3, rfl, hS2⟩
  refine wl_exv (x_box hS2 (v := .agg _) rfl rfl) rfl ?_
  rintro _ w3 ⟨b4, rfl, hS4⟩
  refine wl_val (r_assign (v := .bool false) rfl) rfl ?_
  refine wl_nil ?_
  refine c_then ?_
  refine c_seq ?_
  refine c_seq ?_
  refine c_region ?_
  refine wl_call (r_call fn7 rfl rfl) rfl (landed_ok _) ?_
  rintro _ w5 ⟨rfl, hx6⟩
  have hS7 := hS4.ext hx6
  refine wl_val (r_not rfl) rfl ?_
  refine wl_nil ?_
  refine c_then ?_
  refine c_false rfl ?_
  refine wp_skip ?_
  refine c_then ?_
  refine c_seq ?_
  refine c_region ?_
  refine wl_val (r_loadB ti48 ag48 rfl (hS7.heap (.tail _ (.head _))) (by first | (simp [*]; done) | (simp [*] <;> omega) | omega)) rfl ?_
  refine wl_val (r_loadB ti34 ag34 rfl (hS7.heap (.head _)) (by first | (simp [*]; done) | (simp [*] <;> omega) | omega)) rfl ?_
  refine wl_call (r_call fn19 rfl rfl) rfl (pdecide_ok rs pa rs.length pc q _ (hrs.st hS7) rfl hn (fun r hr' => (hall r hr').st hS7) hq (hr.st hS7)) ?_
  rintro _ w8 (⟨hp, rfl, hx9⟩ | ⟨hp, rfl, hx9⟩ | ⟨hp, al, ru, nd, fr, rfl, hdec, hx9⟩)
  · have hS10 := hS7.ext hx9
    refine wl_val (r_move (v := .tuple _) rfl) rfl ?_
    refine wl_val (r_extract (v := .agg _) rfl rfl) rfl ?_
    refine wl_val (r_extract (v := .int .i64 _) rfl rfl) rfl ?_
    refine wl_exv (x_alloc (C := [.bool false, .int .i64 0, .int .i64 0, .string ⟨#[]⟩]) hS10 ti50 rfl) rfl ?_
    rintro _ w11 ⟨b7, rfl, hS12⟩
    refine wl_exs (x_storeW [] hS12 ti50 rfl rfl rfl rfl one_dec) rfl ?_
    intro w13 hS14
    simp only [List.cons_append, List.nil_append] at hS14
    refine wl_val (r_assign (v := .int .i64 _) rfl) rfl ?_
    refine wl_nil ?_
    refine c_then ?_
    refine c_seq ?_
    refine c_seq ?_
    refine c_region ?_
    refine wl_val (r_move (v := .int .i64 _) rfl) rfl ?_
    refine wl_dec_t (r_neq rfl rfl) rfl hp ?_
    refine wl_val (r_move (v := .bool _) rfl) rfl ?_
    refine wl_not rfl ?_
    refine wl_not rfl ?_
    refine wl_not rfl ?_
    refine wl_not rfl ?_
    refine wl_val (r_pick_t rfl (v := .bool true) rfl) rfl ?_
    refine wl_nil ?_
    refine c_then ?_
    refine c_true rfl ?_
    refine c_seq ?_
    refine c_region ?_
    refine wl_val (r_assign (v := .bool true) rfl) rfl ?_
    refine wl_nil ?_
    refine c_then ?_
    refine wp_ret ?_
    refine c_thenR ?_
    refine ret1 Try.results5 ?_
    exact ⟨rfl, hS14.fin⟩
  · have hS10 := hS7.ext hx9
    refine wl_val (r_move (v := .tuple _) rfl) rfl ?_
    refine wl_val (r_extract (v := .agg _) rfl rfl) rfl ?_
    refine wl_val (r_extract (v := .int .i64 _) rfl rfl) rfl ?_
    refine wl_exv (x_alloc (C := [.bool false, .int .i64 0, .int .i64 0, .string ⟨#[]⟩]) hS10 ti50 rfl) rfl ?_
    rintro _ w15 ⟨b7, rfl, hS16⟩
    refine wl_exs (x_storeW [] hS16 ti50 rfl rfl rfl rfl one_dec) rfl ?_
    intro w17 hS18
    simp only [List.cons_append, List.nil_append] at hS18
    refine wl_val (r_assign (v := .int .i64 _) rfl) rfl ?_
    refine wl_nil ?_
    refine c_then ?_
    refine c_seq ?_
    refine c_seq ?_
    refine c_region ?_
    refine wl_val (r_move (v := .int .i64 _) rfl) rfl ?_
    refine wl_dec_t (r_neq rfl rfl) rfl hp.2 ?_
    refine wl_val (r_move (v := .bool _) rfl) rfl ?_
    refine wl_not rfl ?_
    refine wl_not rfl ?_
    refine wl_not rfl ?_
    refine wl_not rfl ?_
    refine wl_val (r_pick_t rfl (v := .bool true) rfl) rfl ?_
    refine wl_nil ?_
    refine c_then ?_
    refine c_true rfl ?_
    refine c_seq ?_
    refine c_region ?_
    refine wl_val (r_assign (v := .bool true) rfl) rfl ?_
    refine wl_nil ?_
    refine c_then ?_
    refine wp_ret ?_
    refine c_thenR ?_
    refine ret1 Try.results5 ?_
    exact ⟨rfl, hS18.fin⟩
  have hS10 := hS7.ext hx9
  refine wl_val (r_move (v := .tuple _) rfl) rfl ?_
  refine wl_val (r_extract (v := .agg _) rfl rfl) rfl ?_
  refine wl_val (r_extract (v := .int .i64 _) rfl rfl) rfl ?_
  refine wl_exv (x_alloc (C := [.bool false, .int .i64 0, .int .i64 0, .string ⟨#[]⟩]) hS10 ti50 rfl) rfl ?_
  rintro _ w19 ⟨b7, rfl, hS20⟩
  refine wl_exs (x_storeW [] hS20 ti50 rfl rfl rfl rfl one_dec) rfl ?_
  intro w21 hS22
  simp only [List.cons_append, List.nil_append] at hS22
  refine wl_val (r_assign (v := .int .i64 _) rfl) rfl ?_
  refine wl_nil ?_
  refine c_then ?_
  refine c_seq ?_
  refine c_seq ?_
  refine c_region ?_
  refine wl_val (r_move (v := .int .i64 _) rfl) rfl ?_
  refine wl_dec_f (r_neq rfl rfl) rfl (by decide) ?_
  refine wl_val (r_move (v := .bool _) rfl) rfl ?_
  refine wl_val (r_field fa48_0 rfl) rfl ?_
  refine wl_val (r_loadB1 ti46.und rfl rfl (hS22.heap (.tail _ (.tail _ (.head _)))) rfl) rfl ?_
  refine wl_val (r_len (T := 46) rfl ti46.und rfl _ rfl) rfl ?_
  refine wl_dec (r_eql rfl rfl) rfl (fun h4_6 => ?_) (fun h4_6 => ?_)
  · refine wl_val (r_pick_f rfl (v := .bool _) rfl) rfl ?_
    refine wl_nil ?_
    refine c_then ?_
    refine c_true rfl ?_
    refine c_seq ?_
    refine c_region ?_
    refine wl_val (r_assign (v := .bool true) rfl) rfl ?_
    refine wl_nil ?_
    refine c_then ?_
    refine wp_ret ?_
    refine c_thenR ?_
    refine ret1 Try.results5 ?_
    exact ⟨rfl, hS22.fin⟩
  refine wl_val (r_pick_f rfl (v := .bool _) rfl) rfl ?_
  refine wl_nil ?_
  refine c_then ?_
  refine c_false rfl ?_
  refine wp_skip ?_
  refine c_then ?_
  refine c_seq ?_
  have hpz := polE_zero hp.1
  have htm := tmod_b (a := turn) (b := rs.length) (by omega)
  refine c_drawS 12 hMixed hS22 ?_
  intro w23 hS24
  refine g_take 0 rfl (by decide +kernel) rfl (fun _ _ _ h => h) hS24 (fun wF hF => r_move (v := .int .i64 _) rfl) ?_
  refine g_take 1 rfl (by decide +kernel) rfl (fun _ _ _ h => h) hS24 (fun wF hF => r_field fa48_0 rfl) ?_
  refine g_take 2 rfl (by decide +kernel) rfl (fun _ _ _ h => h) hS24 (fun wF hF => r_loadB1 ti46.und rfl rfl (hF.heap (.tail _ (.tail _ (.head _)))) rfl) ?_
  refine g_take 3 rfl (by decide +kernel) rfl (fun _ _ _ h => h) hS24 (fun wF hF => r_len (T := 46) rfl ti46.und rfl _ rfl) ?_
  refine g_take 4 rfl (by decide +kernel) rfl (fun _ _ _ h => h) hS24 (fun wF hF => r_remI rfl rfl (by omega)) ?_
  refine g_take 5 rfl (by decide +kernel) rfl (fun _ _ _ h => h) hS24 (fun wF hF => r_field fa48_0 rfl) ?_
  refine g_take 6 rfl (by decide +kernel) rfl (fun _ _ _ h => h) hS24 (fun wF hF => r_loadB1 ti46.und rfl rfl (hF.heap (.tail _ (.tail _ (.head _)))) rfl) ?_
  refine g_take 7 rfl (by decide +kernel) rfl (fun _ _ _ h => h) hS24 (fun wF hF => r_len (T := 46) rfl ti46.und rfl _ rfl) ?_
  refine g_take 8 rfl (by decide +kernel) rfl (fun _ _ _ h => h) hS24 (fun wF hF => r_addi rfl rfl (by omega) (by omega)) ?_
  refine g_take 9 rfl (by decide +kernel) rfl (fun _ _ _ h => h) hS24 (fun wF hF => r_field fa48_0 rfl) ?_
  refine g_take 10 rfl (by decide +kernel) rfl (fun _ _ _ h => h) hS24 (fun wF hF => r_loadB1 ti46.und rfl rfl (hF.heap (.tail _ (.tail _ (.head _)))) rfl) ?_
  refine g_take 11 rfl (by decide +kernel) rfl (fun _ _ _ h => h) hS24 (fun wF hF => r_len (T := 46) rfl ti46.und rfl _ rfl) ?_
  refine g_tail (by decide +kernel) rfl (by decide +kernel) ?_
  refine wl_val (r_remI rfl rfl (by omega)) rfl ?_
  refine wl_val (r_assign (v := .int .i64 _) rfl) rfl ?_
  refine wl_nil ?_
  refine c_then ?_
  refine c_seq ?_
  obtain ⟨k, hk⟩ : ∃ k : Nat, (((turn.tmod (rs.length : Int)) + (rs.length : Int)).tmod (rs.length : Int)) = (k : Int) := ⟨_, (Int.toNat_of_nonneg (Int.tmod_nonneg _ (by omega))).symm⟩
  have hkn : k ≤ rs.length := by have := (tmod_b (a := (turn.tmod (rs.length : Int)) + (rs.length : Int)) (b := rs.length) (by omega)).2; omega
  refine c_set (d := 9) (v := vi k) (congrArg (Value.int .i64) hk) ?_
  have hd := Row.from8 hrs hpc k
  have ht := Row.to8 hrs k
  refine c_drawS 12 hMixed hS24 ?_
  intro w25 hS26
  refine g_take 0 rfl (by decide +kernel) rfl (fun _ _ _ h => h) hS26 (fun wF hF => r_field fa48_0 rfl) ?_
  refine g_take 1 rfl (by decide +kernel) rfl (fun _ _ _ h => h) hS26 (fun wF hF => r_loadB1 ti46.und rfl rfl (hF.heap (.tail _ (.tail _ (.head _)))) rfl) ?_
  refine g_take 2 rfl (by decide +kernel) rfl (fun _ _ _ h => h) hS26 (fun wF hF => r_move (v := .int .i64 _) rfl) ?_
  refine g_take 3 rfl (by decide +kernel) rfl (fun _ _ _ h => h) hS26 (fun wF hF => r_sl_l ti46.und ti37 rfl rfl (by omega)) ?_
  refine g_take 4 rfl (by decide +kernel) rfl (fun _ _ _ h => h) hS26 (fun wF hF => r_field fa48_0 rfl) ?_
  refine g_take 5 rfl (by decide +kernel) rfl (fun _ _ _ h => h) hS26 (fun wF hF => r_loadB1 ti46.und rfl rfl (hF.heap (.tail _ (.tail _ (.head _)))) rfl) ?_
  refine g_take 6 rfl (by decide +kernel) rfl (fun _ _ _ h => h) hS26 (fun wF hF => r_move (v := .int .i64 _) rfl) ?_
  refine g_take 7 rfl (by decide +kernel) rfl (fun _ _ _ h => h) hS26 (fun wF hF => r_sl_h ti46.und ti37 rfl rfl (by omega)) ?_
  refine g_all (rs := [8, 11]) (by decide +kernel) (by decide +kernel) rfl ?_
  simp only [List.forall_mem_cons, List.not_mem_nil, false_imp_iff, implies_true, and_true]
  refine ⟨?_, ?_⟩
  · refine o_exv rfl (x_lit (vs := [.slice _ _ _, .slice _ _ _]) hS26 ti85.und ti46 rfl rfl rfl (by intro c hc; simp only [List.mem_cons, List.not_mem_nil, or_false] at hc; rcases hc with rfl | rfl <;> rfl) (by decide)) rfl ?_
    rintro _ w27 ⟨b49, rfl, hS28⟩
    refine ⟨hS28.drop1, ?_⟩
    refine g_all (rs := [9, 11]) (by decide +kernel) (by decide +kernel) rfl ?_
    simp only [List.forall_mem_cons, List.not_mem_nil, false_imp_iff, implies_true, and_true]
    refine ⟨?_, ?_⟩
    · refine o_call rfl (r_call fn20 rfl rfl) rfl (concatR2_ok (rs.drop k) (rs.take k) _ _ _ (rs.length - k) k _ _ _ _ (Row.of_at (at_all (hS28.heap (.head _)))) (hd.st hS28) (ht.st hS28) (by rw [List.length_drop]) (by rw [List.length_take]; omega) (by omega)) ?_
      rintro _ w29 ⟨a50, c50, rfl, hx30⟩
      have hS31 := hS28.call hx30
      simp only [List.cons_append, List.nil_append] at hS31
      refine ⟨hS31.drop1.drop1, ?_⟩
      refine g_take 10 rfl (by decide +kernel) rfl (fun _ _ _ h => h) hS31.drop1.drop1 (fun wF hF => r_buildF (vs := [.slice _ _ _]) (out := [.slice _ _ _]) pl48 ti48 rfl rfl (by intro i hi; match i, hi with | 0, _ => rfl) rfl) ?_
      refine g_one 11 (by decide +kernel) (by decide +kernel) ?_
      refine o_exv rfl (x_alloc (C := [.slice none 0 0]) hS31 ti48 rfl) rfl ?_
      rintro _ w32 ⟨b10, rfl, hS33⟩
      refine ⟨hS33.drop1.drop1.drop1, ?_⟩
      refine g_tail (by decide +kernel) rfl (by decide +kernel) ?_
      refine wl_exs (x_storeW [] hS33 ti48 rfl rfl rfl rfl (by repeat' first | exact one_nil | exact one_b8 _ | exact one_v32 _ | exact one_all rfl | refine one_cons rfl ?_ | refine one_app ?_ ?_)) rfl ?_
      intro w34 hS35
      simp only [List.cons_append, List.nil_append] at hS35
      refine wl_nil ?_
      refine c_then ?_
      refine c_seq ?_
      obtain ⟨rs1, hrs1⟩ : ∃ r, r = rs.drop k ++ rs.take k := ⟨_, rfl⟩
      have hs1 : Same rs rs1 := by rw [hrs1]; exact Same.turn rs k
      have hl1 : rs1.length = rs.length - k + k := by rw [← hs1.1]; omega
      rw [← hrs1] at hS35
      obtain ⟨g, C, hga, hC, hCn, hcc, hS36⟩ := St.rowBlk (l1 := []) (hS35.perm ((List.Perm.cons _ (List.Perm.refl _)).trans (List.perm_middle (l₁ := [_])).symm)) (by omega)
      subst hga
      obtain ⟨D, rfl⟩ := part8 (m := (rs.length - k + k) / 2) hl1 hC
      simp only [List.nil_append] at hS36
      refine c_region ?_
      refine wl_val (r_field fa48_0 rfl) rfl ?_
      refine wl_val (r_loadB1 ti46.und rfl rfl (hS36.heap (.tail _ (.head _))) rfl) rfl ?_
      refine wl_val (r_field fa48_0 rfl) rfl ?_
      refine wl_val (r_loadB1 ti46.und rfl rfl (hS36.heap (.tail _ (.head _))) rfl) rfl ?_
      refine wl_val (r_len (T := 46) rfl ti46.und rfl _ rfl) rfl ?_
      refine wl_val (r_quon (b := 2) rfl rfl (by omega) (by omega)) rfl ?_
      refine wl_val (r_sl_h ti46.und ti37 rfl rfl (by omega)) rfl ?_
      refine wl_call (r_call fn21 rfl rfl) rfl (reverseR_ok (rs1.take ((rs.length - k + k) / 2)) _ g ((rs.length - k + k) / 2) _ _ (hS36.heap (.head _)) (by rw [List.length_take]; omega) (by omega)) ?_
      rintro _ w37 (⟨lq, hsm2, hx38⟩)
      · have hS39 := St.callM (X := [_]) (L := [_, _, _, _, _]) hS36 hx38 (by simp [Item.id])
        simp only [List.cons_append, List.nil_append] at hS39
        rw [← List.append_assoc, ← List.flatMap_append] at hS39
        refine wl_nil ?_
        refine c_then ?_
        refine c_seq ?_
        have hsame : Same rs (lq ++ rs1.drop ((rs.length - k + k) / 2)) := hs1.trans (by have := hsm2.app (Same.refl (rs1.drop ((rs.length - k + k) / 2))); rwa [List.take_append_drop] at this)
        refine c_region ?_
        refine wl_val (r_loadB ti48 ag48 rfl (hS39.heap (.tail _ (.head _))) (by first | (simp [*]; done) | (simp [*] <;> omega) | omega)) rfl ?_
        refine wl_val (r_loadB ti34 ag34 rfl (hS39.heap (.tail _ (.tail _ (.tail _ (.tail _ (.head _)))))) (by first | (simp [*]; done) | (simp [*] <;> omega) | omega)) rfl ?_
        refine wl_call (r_call fn19 rfl rfl) rfl (pdecide_ok (lq ++ rs1.drop ((rs.length - k + k) / 2)) _ _ _ q _ (Row.of_pre (hS39.heap (.head _))) (by rw [← hsame.1]; omega) (by omega) (fun r hr' => (hall r ((hsame.2 r).2 hr')).st hS39) hq (hr.st hS39)) ?_
        rintro _ w40 (⟨hp2, rfl, hx41⟩ | ⟨hp2, rfl, hx41⟩ | ⟨hp2, al2, ru2, nd2, fr2, rfl, hdec2, hx41⟩)
        · exact absurd (polE_same hsame hp.1) hp2
        · exact absurd hp.2 hp2.2
        have hS42 := hS39.ext hx41
        refine wl_val (r_move (v := .tuple _) rfl) rfl ?_
        refine wl_val (r_extract (v := .agg _) rfl rfl) rfl ?_
        refine wl_val (r_extract (v := .int .i64 _) rfl rfl) rfl ?_
        refine wl_exv (x_alloc (C := [.bool false, .int .i64 0, .int .i64 0, .string ⟨#[]⟩]) hS42 ti50 rfl) rfl ?_
        rintro _ w43 ⟨b11, rfl, hS44⟩
        refine wl_exs (x_storeW [] hS44 ti50 rfl rfl rfl rfl one_dec) rfl ?_
        intro w45 hS46
        simp only [List.cons_append, List.nil_append] at hS46
        refine wl_val (r_assign (v := .int .i64 _) rfl) rfl ?_
        refine wl_nil ?_
        refine c_then ?_
        refine c_seq ?_
        refine c_region ?_
        refine wl_val (r_move (v := .int .i64 _) rfl) rfl ?_
        refine wl_dec_t (r_eql rfl rfl) rfl (by decide) ?_
        refine wl_val (r_move (v := .bool _) rfl) rfl ?_
        refine wl_val (r_field fa50_0 rfl) rfl ?_
        refine wl_val (r_loadB1 ti4.und rfl rfl (hS46.heap (.tail _ (.tail _ (.tail _ (.tail _ (.head _)))))) rfl) rfl ?_
        refine wl_val (r_field fa50_0 rfl) rfl ?_
        refine wl_val (r_loadB1 ti4.und rfl rfl (hS46.heap (.head _)) rfl) rfl ?_
        refine wl_dec_t (r_eqlBool ti4.und rfl rfl) rfl (dec_perm hsame.2 hdec hdec2).1 ?_
        refine wl_val (r_pick_t rfl (v := .bool _) rfl) rfl ?_
        refine wl_val (r_move (v := .bool _) rfl) rfl ?_
        refine wl_val (r_field fa50_2 rfl) rfl ?_
        refine wl_val (r_loadB1 ti3.und rfl rfl (hS46.heap (.tail _ (.tail _ (.tail _ (.tail _ (.head _)))))) rfl) rfl ?_
        refine wl_val (r_field fa50_2 rfl) rfl ?_
        refine wl_val (r_loadB1 ti3.und rfl rfl (hS46.heap (.head _)) rfl) rfl ?_
        refine wl_dec_t (r_eql rfl rfl) rfl (dec_perm hsame.2 hdec hdec2).2.1 ?_
        refine wl_val (r_pick_t rfl (v := .bool _) rfl) rfl ?_
        refine wl_val (r_move (v := .bool _) rfl) rfl ?_
        refine wl_val (r_field fa50_1 rfl) rfl ?_
        refine wl_val (r_loadB1 ti3.und rfl rfl (hS46.heap (.tail _ (.tail _ (.tail _ (.tail _ (.head _)))))) rfl) rfl ?_
        refine wl_val (r_lss rfl rfl) rfl ?_
        refine wl_val (r_field fa50_1 rfl) rfl ?_
        refine wl_val (r_loadB1 ti3.und rfl rfl (hS46.heap (.head _)) rfl) rfl ?_
        refine wl_val (r_lss rfl rfl) rfl ?_
        refine wl_dec_t (r_eqlBool ti4.und rfl rfl) rfl (decide_eq_decide.2 (dec_perm hsame.2 hdec hdec2).2.2) ?_
        refine wl_val (r_pick_t rfl (v := .bool _) rfl) rfl ?_
        refine wl_val (r_assign (v := .bool _) rfl) rfl ?_
        refine wl_nil ?_
        refine c_then ?_
        refine wp_ret ?_
        refine ret1 Try.results5 ?_
        exact ⟨rfl, hS46.fin⟩
    · refine o_exv rfl (x_alloc (C := [.slice none 0 0]) hS28 ti48 rfl) rfl ?_
      rintro _ w47 ⟨b10, rfl, hS48⟩
      refine ⟨hS48.drop1.drop1, ?_⟩
      refine g_one 9 (by decide +kernel) (by decide +kernel) ?_
      refine o_call rfl (r_call fn20 rfl rfl) rfl (concatR2_ok (rs.drop k) (rs.take k) _ _ _ (rs.length - k) k _ _ _ _ (Row.of_at (at_all (hS48.heap (.tail _ (.head _))))) (hd.st hS48) (ht.st hS48) (by rw [List.length_drop]) (by rw [List.length_take]; omega) (by omega)) ?_
      rintro _ w49 ⟨a50, c50, rfl, hx50⟩
      have hS51 := hS48.call hx50
      simp only [List.cons_append, List.nil_append] at hS51
      refine ⟨hS51.drop1.drop1.drop1, ?_⟩
      refine g_take 10 rfl (by decide +kernel) rfl (fun _ _ _ h => h) hS51.drop1.drop1.drop1 (fun wF hF => r_buildF (vs := [.slice _ _ _]) (out := [.slice _ _ _]) pl48 ti48 rfl rfl (by intro i hi; match i, hi with | 0, _ => rfl) rfl) ?_
      refine g_tail (by decide +kernel) rfl (by decide +kernel) ?_
      refine wl_exs (x_storeW [_] hS51 ti48 rfl rfl rfl rfl (by repeat' first | exact one_nil | exact one_b8 _ | exact one_v32 _ | exact one_all rfl | refine one_cons rfl ?_ | refine one_app ?_ ?_)) rfl ?_
      intro w52 hS53
      simp only [List.cons_append, List.nil_append] at hS53
      refine wl_nil ?_
      refine c_then ?_
      refine c_seq ?_
      obtain ⟨rs1, hrs1⟩ : ∃ r, r = rs.drop k ++ rs.take k := ⟨_, rfl⟩
      have hs1 : Same rs rs1 := by rw [hrs1]; exact Same.turn rs k
      have hl1 : rs1.length = rs.length - k + k := by rw [← hs1.1]; omega
      rw [← hrs1] at hS53
      obtain ⟨g, C, hga, hC, hCn, hcc, hS54⟩ := St.rowBlk (l1 := []) hS53 (by omega)
      subst hga
      obtain ⟨D, rfl⟩ := part8 (m := (rs.length - k + k) / 2) hl1 hC
      simp only [List.nil_append] at hS54
      refine c_region ?_
      refine wl_val (r_field fa48_0 rfl) rfl ?_
      refine wl_val (r_loadB1 ti46.und rfl rfl (hS54.heap (.tail _ (.head _))) rfl) rfl ?_
      refine wl_val (r_field fa48_0 rfl) rfl ?_
      refine wl_val (r_loadB1 ti46.und rfl rfl (hS54.heap (.tail _ (.head _))) rfl) rfl ?_
      refine wl_val (r_len (T := 46) rfl ti46.und rfl _ rfl) rfl ?_
      refine wl_val (r_quon (b := 2) rfl rfl (by omega) (by omega)) rfl ?_
      refine wl_val (r_sl_h ti46.und ti37 rfl rfl (by omega)) rfl ?_
      refine wl_call (r_call fn21 rfl rfl) rfl (reverseR_ok (rs1.take ((rs.length - k + k) / 2)) _ g ((rs.length - k + k) / 2) _ _ (hS54.heap (.head _)) (by rw [List.length_take]; omega) (by omega)) ?_
      rintro _ w55 (⟨lq, hsm2, hx56⟩)
      · have hS57 := St.callM (X := [_]) (L := [_, _, _, _, _]) hS54 hx56 (by simp [Item.id])
        simp only [List.cons_append, List.nil_append] at hS57
        rw [← List.append_assoc, ← List.flatMap_append] at hS57
        refine wl_nil ?_
        refine c_then ?_
        refine c_seq ?_
        have hsame : Same rs (lq ++ rs1.drop ((rs.length - k + k) / 2)) := hs1.trans (by have := hsm2.app (Same.refl (rs1.drop ((rs.length - k + k) / 2))); rwa [List.take_append_drop] at this)
        refine c_region ?_
        refine wl_val (r_loadB ti48 ag48 rfl (hS57.heap (.tail _ (.head _))) (by first | (simp [*]; done) | (simp [*] <;> omega) | omega)) rfl ?_
        refine wl_val (r_loadB ti34 ag34 rfl (hS57.heap (.tail _ (.tail _ (.tail _ (.tail _ (.head _)))))) (by first | (simp [*]; done) | (simp [*] <;> omega) | omega)) rfl ?_
        refine wl_call (r_call fn19 rfl rfl) rfl (pdecide_ok (lq ++ rs1.drop ((rs.length - k + k) / 2)) _ _ _ q _ (Row.of_pre (hS57.heap (.head _))) (by rw [← hsame.1]; omega) (by omega) (fun r hr' => (hall r ((hsame.2 r).2 hr')).st hS57) hq (hr.st hS57)) ?_
        rintro _ w58 (⟨hp2, rfl, hx59⟩ | ⟨hp2, rfl, hx59⟩ | ⟨hp2, al2, ru2, nd2, fr2, rfl, hdec2, hx59⟩)
        · exact absurd (polE_same hsame hp.1) hp2
        · exact absurd hp.2 hp2.2
        have hS60 := hS57.ext hx59
        refine wl_val (r_move (v := .tuple _) rfl) rfl ?_
        refine wl_val (r_extract (v := .agg _) rfl rfl) rfl ?_
        refine wl_val (r_extract (v := .int .i64 _) rfl rfl) rfl ?_
        refine wl_exv (x_alloc (C := [.bool false, .int .i64 0, .int .i64 0, .string ⟨#[]⟩]) hS60 ti50 rfl) rfl ?_
        rintro _ w61 ⟨b11, rfl, hS62⟩
        refine wl_exs (x_storeW [] hS62 ti50 rfl rfl rfl rfl one_dec) rfl ?_
        intro w63 hS64
        simp only [List.cons_append, List.nil_append] at hS64
        refine wl_val (r_assign (v := .int .i64 _) rfl) rfl ?_
        refine wl_nil ?_
        refine c_then ?_
        refine c_seq ?_
        refine c_region ?_
        refine wl_val (r_move (v := .int .i64 _) rfl) rfl ?_
        refine wl_dec_t (r_eql rfl rfl) rfl (by decide) ?_
        refine wl_val (r_move (v := .bool _) rfl) rfl ?_
        refine wl_val (r_field fa50_0 rfl) rfl ?_
        refine wl_val (r_loadB1 ti4.und rfl rfl (hS64.heap (.tail _ (.tail _ (.tail _ (.tail _ (.head _)))))) rfl) rfl ?_
        refine wl_val (r_field fa50_0 rfl) rfl ?_
        refine wl_val (r_loadB1 ti4.und rfl rfl (hS64.heap (.head _)) rfl) rfl ?_
        refine wl_dec_t (r_eqlBool ti4.und rfl rfl) rfl (dec_perm hsame.2 hdec hdec2).1 ?_
        refine wl_val (r_pick_t rfl (v := .bool _) rfl) rfl ?_
        refine wl_val (r_move (v := .bool _) rfl) rfl ?_
        refine wl_val (r_field fa50_2 rfl) rfl ?_
        refine wl_val (r_loadB1 ti3.und rfl rfl (hS64.heap (.tail _ (.tail _ (.tail _ (.tail _ (.head _)))))) rfl) rfl ?_
        refine wl_val (r_field fa50_2 rfl) rfl ?_
        refine wl_val (r_loadB1 ti3.und rfl rfl (hS64.heap (.head _)) rfl) rfl ?_
        refine wl_dec_t (r_eql rfl rfl) rfl (dec_perm hsame.2 hdec hdec2).2.1 ?_
        refine wl_val (r_pick_t rfl (v := .bool _) rfl) rfl ?_
        refine wl_val (r_move (v := .bool _) rfl) rfl ?_
        refine wl_val (r_field fa50_1 rfl) rfl ?_
        refine wl_val (r_loadB1 ti3.und rfl rfl (hS64.heap (.tail _ (.tail _ (.tail _ (.tail _ (.head _)))))) rfl) rfl ?_
        refine wl_val (r_lss rfl rfl) rfl ?_
        refine wl_val (r_field fa50_1 rfl) rfl ?_
        refine wl_val (r_loadB1 ti3.und rfl rfl (hS64.heap (.head _)) rfl) rfl ?_
        refine wl_val (r_lss rfl rfl) rfl ?_
        refine wl_dec_t (r_eqlBool ti4.und rfl rfl) rfl (decide_eq_decide.2 (dec_perm hsame.2 hdec hdec2).2.2) ?_
        refine wl_val (r_pick_t rfl (v := .bool _) rfl) rfl ?_
        refine wl_val (r_assign (v := .bool _) rfl) rfl ?_
        refine wl_nil ?_
        refine c_then ?_
        refine wp_ret ?_
        refine ret1 Try.results5 ?_
        exact ⟨rfl, hS64.fin⟩
  · refine o_exv rfl (x_alloc (C := [.slice none 0 0]) hS26 ti48 rfl) rfl ?_
    rintro _ w65 ⟨b10, rfl, hS66⟩
    refine ⟨hS66.drop1, ?_⟩
    refine g_one 8 (by decide +kernel) (by decide +kernel) ?_
    refine o_exv rfl (x_lit (vs := [.slice _ _ _, .slice _ _ _]) hS66 ti85.und ti46 rfl rfl rfl (by intro c hc; simp only [List.mem_cons, List.not_mem_nil, or_false] at hc; rcases hc with rfl | rfl <;> rfl) (by decide)) rfl ?_
    rintro _ w67 ⟨b49, rfl, hS68⟩
    refine ⟨hS68.drop1.drop1, ?_⟩
    refine g_one 9 (by decide +kernel) (by decide +kernel) ?_
    refine o_call rfl (r_call fn20 rfl rfl) rfl (concatR2_ok (rs.drop k) (rs.take k) _ _ _ (rs.length - k) k _ _ _ _ (Row.of_at (at_all (hS68.heap (.head _)))) (hd.st hS68) (ht.st hS68) (by rw [List.length_drop]) (by rw [List.length_take]; omega) (by omega)) ?_
    rintro _ w69 ⟨a50, c50, rfl, hx70⟩
    have hS71 := hS68.call hx70
    simp only [List.cons_append, List.nil_append] at hS71
    refine ⟨hS71.drop1.drop1.drop1, ?_⟩
    refine g_take 10 rfl (by decide +kernel) rfl (fun _ _ _ h => h) hS71.drop1.drop1.drop1 (fun wF hF => r_buildF (vs := [.slice _ _ _]) (out := [.slice _ _ _]) pl48 ti48 rfl rfl (by intro i hi; match i, hi with | 0, _ => rfl) rfl) ?_
    refine g_tail (by decide +kernel) rfl (by decide +kernel) ?_
    refine wl_exs (x_storeW [_, _] hS71 ti48 rfl rfl rfl rfl (by repeat' first | exact one_nil | exact one_b8 _ | exact one_v32 _ | exact one_all rfl | refine one_cons rfl ?_ | refine one_app ?_ ?_)) rfl ?_
    intro w72 hS73
    simp only [List.cons_append, List.nil_append] at hS73
    refine wl_nil ?_
    refine c_then ?_
    refine c_seq ?_
    obtain ⟨rs1, hrs1⟩ : ∃ r, r = rs.drop k ++ rs.take k := ⟨_, rfl⟩
    have hs1 : Same rs rs1 := by rw [hrs1]; exact Same.turn rs k
    have hl1 : rs1.length = rs.length - k + k := by rw [← hs1.1]; omega
    rw [← hrs1] at hS73
    obtain ⟨g, C, hga, hC, hCn, hcc, hS74⟩ := St.rowBlk (l1 := []) hS73 (by omega)
    subst hga
    obtain ⟨D, rfl⟩ := part8 (m := (rs.length - k + k) / 2) hl1 hC
    simp only [List.nil_append] at hS74
    refine c_region ?_
    refine wl_val (r_field fa48_0 rfl) rfl ?_
    refine wl_val (r_loadB1 ti46.und rfl rfl (hS74.heap (.tail _ (.tail _ (.head _)))) rfl) rfl ?_
    refine wl_val (r_field fa48_0 rfl) rfl ?_
    refine wl_val (r_loadB1 ti46.und rfl rfl (hS74.heap (.tail _ (.tail _ (.head _)))) rfl) rfl ?_
    refine wl_val (r_len (T := 46) rfl ti46.und rfl _ rfl) rfl ?_
    refine wl_val (r_quon (b := 2) rfl rfl (by omega) (by omega)) rfl ?_
    refine wl_val (r_sl_h ti46.und ti37 rfl rfl (by omega)) rfl ?_
    refine wl_call (r_call fn21 rfl rfl) rfl (reverseR_ok (rs1.take ((rs.length - k + k) / 2)) _ g ((rs.length - k + k) / 2) _ _ (hS74.heap (.head _)) (by rw [List.length_take]; omega) (by omega)) ?_
    rintro _ w75 (⟨lq, hsm2, hx76⟩)
    · have hS77 := St.callM (X := [_]) (L := [_, _, _, _, _]) hS74 hx76 (by simp [Item.id])
      simp only [List.cons_append, List.nil_append] at hS77
      rw [← List.append_assoc, ← List.flatMap_append] at hS77
      refine wl_nil ?_
      refine c_then ?_
      refine c_seq ?_
      have hsame : Same rs (lq ++ rs1.drop ((rs.length - k + k) / 2)) := hs1.trans (by have := hsm2.app (Same.refl (rs1.drop ((rs.length - k + k) / 2))); rwa [List.take_append_drop] at this)
      refine c_region ?_
      refine wl_val (r_loadB ti48 ag48 rfl (hS77.heap (.tail _ (.tail _ (.head _)))) (by first | (simp [*]; done) | (simp [*] <;> omega) | omega)) rfl ?_
      refine wl_val (r_loadB ti34 ag34 rfl (hS77.heap (.tail _ (.tail _ (.tail _ (.tail _ (.head _)))))) (by first | (simp [*]; done) | (simp [*] <;> omega) | omega)) rfl ?_
      refine wl_call (r_call fn19 rfl rfl) rfl (pdecide_ok (lq ++ rs1.drop ((rs.length - k + k) / 2)) _ _ _ q _ (Row.of_pre (hS77.heap (.head _))) (by rw [← hsame.1]; omega) (by omega) (fun r hr' => (hall r ((hsame.2 r).2 hr')).st hS77) hq (hr.st hS77)) ?_
      rintro _ w78 (⟨hp2, rfl, hx79⟩ | ⟨hp2, rfl, hx79⟩ | ⟨hp2, al2, ru2, nd2, fr2, rfl, hdec2, hx79⟩)
      · exact absurd (polE_same hsame hp.1) hp2
      · exact absurd hp.2 hp2.2
      have hS80 := hS77.ext hx79
      refine wl_val (r_move (v := .tuple _) rfl) rfl ?_
      refine wl_val (r_extract (v := .agg _) rfl rfl) rfl ?_
      refine wl_val (r_extract (v := .int .i64 _) rfl rfl) rfl ?_
      refine wl_exv (x_alloc (C := [.bool false, .int .i64 0, .int .i64 0, .string ⟨#[]⟩]) hS80 ti50 rfl) rfl ?_
      rintro _ w81 ⟨b11, rfl, hS82⟩
      refine wl_exs (x_storeW [] hS82 ti50 rfl rfl rfl rfl one_dec) rfl ?_
      intro w83 hS84
      simp only [List.cons_append, List.nil_append] at hS84
      refine wl_val (r_assign (v := .int .i64 _) rfl) rfl ?_
      refine wl_nil ?_
      refine c_then ?_
      refine c_seq ?_
      refine c_region ?_
      refine wl_val (r_move (v := .int .i64 _) rfl) rfl ?_
      refine wl_dec_t (r_eql rfl rfl) rfl (by decide) ?_
      refine wl_val (r_move (v := .bool _) rfl) rfl ?_
      refine wl_val (r_field fa50_0 rfl) rfl ?_
      refine wl_val (r_loadB1 ti4.und rfl rfl (hS84.heap (.tail _ (.tail _ (.tail _ (.tail _ (.head _)))))) rfl) rfl ?_
      refine wl_val (r_field fa50_0 rfl) rfl ?_
      refine wl_val (r_loadB1 ti4.und rfl rfl (hS84.heap (.head _)) rfl) rfl ?_
      refine wl_dec_t (r_eqlBool ti4.und rfl rfl) rfl (dec_perm hsame.2 hdec hdec2).1 ?_
      refine wl_val (r_pick_t rfl (v := .bool _) rfl) rfl ?_
      refine wl_val (r_move (v := .bool _) rfl) rfl ?_
      refine wl_val (r_field fa50_2 rfl) rfl ?_
      refine wl_val (r_loadB1 ti3.und rfl rfl (hS84.heap (.tail _ (.tail _ (.tail _ (.tail _ (.head _)))))) rfl) rfl ?_
      refine wl_val (r_field fa50_2 rfl) rfl ?_
      refine wl_val (r_loadB1 ti3.und rfl rfl (hS84.heap (.head _)) rfl) rfl ?_
      refine wl_dec_t (r_eql rfl rfl) rfl (dec_perm hsame.2 hdec hdec2).2.1 ?_
      refine wl_val (r_pick_t rfl (v := .bool _) rfl) rfl ?_
      refine wl_val (r_move (v := .bool _) rfl) rfl ?_
      refine wl_val (r_field fa50_1 rfl) rfl ?_
      refine wl_val (r_loadB1 ti3.und rfl rfl (hS84.heap (.tail _ (.tail _ (.tail _ (.tail _ (.head _)))))) rfl) rfl ?_
      refine wl_val (r_lss rfl rfl) rfl ?_
      refine wl_val (r_field fa50_1 rfl) rfl ?_
      refine wl_val (r_loadB1 ti3.und rfl rfl (hS84.heap (.head _)) rfl) rfl ?_
      refine wl_val (r_lss rfl rfl) rfl ?_
      refine wl_dec_t (r_eqlBool ti4.und rfl rfl) rfl (decide_eq_decide.2 (dec_perm hsame.2 hdec hdec2).2.2) ?_
      refine wl_val (r_pick_t rfl (v := .bool _) rfl) rfl ?_
      refine wl_val (r_assign (v := .bool _) rfl) rfl ?_
      refine wl_nil ?_
      refine c_then ?_
      refine wp_ret ?_
      refine ret1 Try.results5 ?_
      exact ⟨rfl, hS84.fin⟩


theorem own : ownKnob Try.prog.godebug = none := by kernel_rfl
theorem laidOut : laidOutB Try.prog = true := by kernel_rfl
theorem readable3 : Try.prog.readableRec 3 = true := by kernel_rfl
theorem inside3 : decide (3 < Try.prog.types.size) = true := by kernel_rfl
theorem readable34 : Try.prog.readableRec 34 = true := by kernel_rfl
theorem inside34 : decide (34 < Try.prog.types.size) = true := by kernel_rfl
theorem readable48 : Try.prog.readableRec 48 = true := by kernel_rfl
theorem inside48 : decide (48 < Try.prog.types.size) = true := by kernel_rfl
theorem lifted (os : Os) (started : os.Started) (H : Type) (enc : TypeId × Value → H) :
    ReturnsInHanded {} Try.checked os 5 .any (Rows.orderMeansLittleSpec.pre6 enc Try.prog Try.f5 Rows.orderMeansLittleRow.domain false) (Rows.orderMeansLittleSpec.post enc Try.prog Try.f5 false true false false) := by
  refine returnsInHanded_of_change_sized (C := Try.checked) own started (by kernel_rfl) Try.func5
    (ChangeSpec.witness6 (enc := enc) (C := Try.checked) false ⟨#[], #[.agg #[.slice none 0 0], .agg #[.int .u8 0, .int .u8 0, .int .u8 0, .int .u8 0, .int .u8 0, .int .u8 0, .int .u8 0, .int .u8 0, .int .u8 0, .int .u8 0, .int .u8 0, .int .u8 0, .int .u8 0, .int .u8 0, .int .u8 0, .int .u8 0, .slice none 0 0, .int .i64 0, .string ⟨#[]⟩, .int .u8 0, .int .u8 0, .int .u8 0, .int .u8 0, .int .u8 0, .int .u8 0, .int .u8 0, .int .u8 0, .int .u8 0, .int .u8 0, .int .u8 0, .int .u8 0, .int .u8 0, .int .u8 0, .int .u8 0, .int .u8 0, .int .i64 0, .int .u8 0, .int .u8 0, .int .u8 0, .int .u8 0, .int .u8 0, .int .u8 0, .int .u8 0, .int .u8 0, .int .u8 0, .int .u8 0, .int .u8 0, .int .u8 0, .int .u8 0, .int .u8 0, .int .u8 0, .int .u8 0, .int .u8 0, .int .u8 0, .int .u8 0, .int .u8 0, .int .u8 0, .int .u8 0, .int .u8 0, .int .u8 0, .int .u8 0, .int .u8 0, .int .u8 0, .int .u8 0, .int .u8 0, .int .u8 0, .int .u8 0, .int .u8 0], .int .i64 0], []⟩ 8 (by kernel_rfl) (by kernel_rfl) (by kernel_rfl) (by kernel_rfl)) ?_
  intro W base args ds gs before hval0 hW hcnd hsz0 _
  have hval : ∀ (j : Nat) t v, Try.f5.params[j]? = some t → args[j]? = some v → Value.okWide Try.prog W .any base t v := hval0
  have hW' := hW
  obtain ⟨p, q, hA0, hV, rfl, hfz, hnd⟩ := hW
  have hA : DataW.TrodAll enc Try.prog W 0 (fun _ => true) true Try.f5.params.toList args.toList ds p := hA0
  have hsz : (DataW.weightsEach Try.prog (Try.f5.params.toList ++ Rows.orderMeansLittleSpec.plain.varTypes Try.prog) (ds ++ gs)).all (· ≤ reachBytes) = true := hsz0
  rw [Try.params5] at hA hval hsz
  obtain ⟨v0, vs0, d0, ds0, p0, q0, hargs, rfl, rfl, h0, r0⟩ := trodAll_cons hA
  obtain ⟨v1, vs1, d1, ds1, p1, q1, rfl, rfl, rfl, h1, r1⟩ := trodAll_cons r0
  obtain ⟨v2, vs2, d2, ds2, p2, q2, rfl, rfl, rfl, h2, r2⟩ := trodAll_cons r1
  obtain ⟨rfl, rfl, rfl⟩ := trodAll_nil r2
  obtain rfl : args = #[v0, v1, v2] := by cases args; simp_all
  obtain ⟨rfl, rfl⟩ := trodVars_none hV
  have lt0 : ∀ x ∈ p0, x.block < W.heap.size := by obtain ⟨m, hm⟩ := h0; exact DataW.trod_lt m _ _ _ hm
  have lt1 : ∀ x ∈ p1, x.block < W.heap.size := by obtain ⟨m, hm⟩ := h1; exact DataW.trod_lt m _ _ _ hm
  have lt2 : ∀ x ∈ p2, x.block < W.heap.size := by obtain ⟨m, hm⟩ := h2; exact DataW.trod_lt m _ _ _ hm
  have ok0 := hval 0 48 v0 rfl rfl
  obtain ⟨⟨pa, pc, rs⟩, rfl, hrs, hpc, hpcc, hall⟩ := open_struct (j := 0) Try.underlying48 (opens_policy (opens_struct Try.underlying48 (by kernel_rfl) (opensFs_cons (sz := 1) (opens_slice (sz := 8) (bts := 120) Try.underlying46 (by kernel_rfl) (by decide) (by kernel_rfl) (fun _ => rfl) (opens_rule (opens_struct Try.underlying37 (by kernel_rfl) (opensFs_cons (sz := 1) (opens_bool Try.underlying4) rfl (by kernel_rfl) (opensFs_cons (sz := 1) (opens_slice1 (bts := 16) Try.underlying30 (by kernel_rfl) (by kernel_rfl) (opens_str Try.underlying9)) rfl (by kernel_rfl) (opensFs_cons (sz := 1) (opens_slice1 (bts := 8) Try.underlying35 (by kernel_rfl) (by kernel_rfl) (opens_i64 Try.underlying3)) rfl (by kernel_rfl) (opensFs_cons (sz := 1) (opens_slice1 (bts := 16) Try.underlying30 (by kernel_rfl) (by kernel_rfl) (opens_str Try.underlying9)) rfl (by kernel_rfl) (opensFs_cons (sz := 1) (opens_i64 Try.underlying3) rfl (by kernel_rfl) (opensFs_cons (sz := 1) (opens_i64 Try.underlying3) rfl (by kernel_rfl) (opensFs_cons (sz := 1) (opens_i64 Try.underlying3) rfl (by kernel_rfl) (opensFs_cons (sz := 1) (opens_str Try.underlying9) rfl (by kernel_rfl) opensFs_nil (by simp)) (by simp)) (by simp)) (by simp)) (by simp)) (by simp)) (by simp)) (by simp))))) rfl (by kernel_rfl) opensFs_nil (by simp)))) ok0 h0 hsz rfl rfl
  simp only [] at hrs hpc hpcc hall
  have ok1 := hval 1 34 v1 rfl rfl
  obtain ⟨q, rfl, hqR⟩ := open_struct (j := 1) Try.underlying34 (opens_ask (opens_struct Try.underlying34 (by kernel_rfl) (opensFs_cons (sz := 16) (opens_bytesA Try.underlying29 Try.underlying5 (by kernel_rfl) (by kernel_rfl)) rfl (by kernel_rfl) (opensFs_cons (sz := 1) (opens_slice1 (bts := 16) Try.underlying30 (by kernel_rfl) (by kernel_rfl) (opens_str Try.underlying9)) rfl (by kernel_rfl) (opensFs_cons (sz := 1) (opens_i64 Try.underlying3) rfl (by kernel_rfl) (opensFs_cons (sz := 1) (opens_str Try.underlying9) rfl (by kernel_rfl) (opensFs_cons (sz := 16) (opens_bytesA Try.underlying29 Try.underlying5 (by kernel_rfl) (by kernel_rfl)) rfl (by kernel_rfl) (opensFs_cons (sz := 1) (opens_i64 Try.underlying3) rfl (by kernel_rfl) (opensFs_cons (sz := 32) (opens_bytesA Try.underlying32 Try.underlying5 (by kernel_rfl) (by kernel_rfl)) rfl (by kernel_rfl) opensFs_nil (by simp)) (by simp)) (by simp)) (by simp)) (by simp)) (by simp)) (by simp)))) ok1 h1 hsz rfl rfl
  have ok2 := hval 2 3 v2 rfl rfl
  obtain ⟨tn, rfl, lotn, hitn⟩ := open_i64 Try.underlying3 ok2 h2
  refine Calls.mono (walk rs pa rs.length pc q tn W hrs rfl (by omega) (fun r hr => ⟨(hall r hr).1, (hall r hr).2.1, (hall r hr).2.2.1, (hall r hr).2.2.2⟩) hqR.1 hqR.2 hpc lotn hitn) fun e W' ⟨v, he, hv, hs⟩ => ?_
  subst hv; subst he
  have bel := hs.below
  exact ⟨_, rfl, _, _, _, [], _, [], hW', trodAll_mk1 (shut_bool Try.underlying4 _), (trodAll_cons_mk (Below.trod laidOut readable48 (of_decide_eq_true inside48) h0 bel lt0) (trodAll_cons_mk (Below.trod laidOut readable34 (of_decide_eq_true inside34) h1 bel lt1) (trodAll_cons_mk (Below.trod laidOut readable3 (of_decide_eq_true inside3) h2 bel lt2) trodAll_mk0))), rfl, bel.frame _, fun h => by cases h⟩
theorem over : Rows.orderMeansLittleRow.holds Try.pinned (OpenSpec.ofChange Rows.orderMeansLittleSpec) :=
  OpenClaim.holds_of_wide 5 Try.f5 rfl rfl rfl rfl rfl rfl rfl ⟨rfl, rfl, rfl, rfl, rfl⟩ rfl rfl rfl rfl rfl (by kernel_rfl) Try.func5 (by kernel_rfl)
    (of_decide_eq_true (by kernel_rfl)) (by unfold Func.isWrapper; rw [if_neg (of_decide_eq_false (by kernel_rfl))]; exact ⟨rfl, rfl⟩)
    (fun os started H enc _ => lifted os started H enc)
theorem proved : Rows.OrderMeansLittleSaid := over
#print axioms proved
end Go.Proofs.Ytafdmlpfgpaicaa.lawOrderMeansLittle
