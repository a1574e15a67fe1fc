/- What the law's proof leans on. No condition. -/
import Derived.Test.YtmonnmndphlkaaaGreatPPdAH
import Derived.Test.YtmonnmndphlkaaaGreatPPdBT
import Derived.Test.YtmonnmndphlkaaaGreatPPdBU
import Derived.Test.YtmonnmndphlkaaaGreatPPdBW
import Derived.Test.YtmonnmndphlkaaaGreatPPdBX
section
namespace Go.Proofs.YtmonnmndphlkaaaGreat
open Go.Kw
set_option linter.unusedVariables false
set_option linter.unusedSimpArgs false
set_option maxRecDepth 100000
theorem decP_ok (rs : List RuleD) (pa : Option Addr) (n pc : Nat) (x : WA) (w : World) (hrs : Row w pa (rs.flatMap RuleD.v)) (hl : rs.length = n) (hn : n ≤ 140737488351232) (hall : ∀ r ∈ rs, RuleAt w r) (hw : WOk x) (hr : Row w x.ra (x.ro.map sv)) : Ret Tryz.prog 36 [.agg #[.slice pa n pc], .agg x.v.toArray, .func (.func 37) #[] #[]] w (fun v w' => ∃ ru, v = .agg (decV (decB rs x.b).1 ru (decB rs x.b).2.1 (decB rs x.b).2.2).toArray ∧ St w [] w' []) :=
  (decide_ok rs pa n pc x.q w hrs hl hn hall hw.ok hr hw.t0 hw.t1).mono fun v w' ⟨al, ru, nd, fr, hv, hd, hS⟩ => ⟨ru, by rw [decB_of hd]; exact hv, hS⟩

theorem rdecP_ok (rs : List RuleD) (pa : Option Addr) (n pc : Nat) (x : WA) (w : World) (hrs : Row w pa (rs.flatMap RuleD.v)) (hl : rs.length = n) (hn : n ≤ 140737488351232) (hall : ∀ r ∈ rs, RuleAt w r) (hw : WOk x) (hr : Row w x.ra (x.ro.map sv)) (hok : ∀ r ∈ rs, ruleE r = 0) : Ret Tryz.prog 15 [.agg #[.slice pa n pc], .agg x.v.toArray] w (fun v w' => ∃ ru, v = .agg (decV (decB rs x.b).1 ru (decB rs x.b).2.1 (decB rs x.b).2.2).toArray ∧ St w [] w' []) :=
  (rdecide_ok rs pa n pc x.q w hrs hl hn hall hw.ok hr hw.t0 hw.t1 hok).mono fun v w' ⟨al, ru, nd, fr, hv, hd, hS⟩ => ⟨ru, by rw [decB_of hd]; exact hv, hS⟩

theorem sameDec_ok (al al2 : Bool) (ru nd ru2 nd2 : Int) (fr fr2 : List UInt8) (w : World) :
    Ret Tryz.prog 35 [.agg (decV al ru nd fr).toArray, .agg (decV al2 ru2 nd2 fr2).toArray] w (fun v w' => (((al, nd, fr) : DB) = (al2, nd2, fr2) ∧ v = .bool true ∧ St w [] w' []) ∨ (¬ ((al, nd, fr) : DB) = (al2, nd2, fr2) ∧ v = .bool false ∧ St w [] w' [])) := by
  refine enter Tryz.func35 rfl Tryz.ntmps35 rfl ?_
  have hS := St.refl w []
  refine c_seq ?_; refine c_region ?_; refine wl_exv (x_box hS (v := .agg _) rfl rfl) rfl ?_; rintro _ w1 ⟨b2, rfl, hS2⟩; refine wl_exv (x_box hS2 (v := .agg _) rfl rfl) rfl ?_; rintro _ w3 ⟨b3, rfl, hS4⟩; refine wl_val (r_assign (v := .bool false) rfl) rfl ?_; refine wl_nil ?_; refine c_then ?_; refine c_seq ?_; refine c_region ?_; refine wl_val (r_field fa52_0 rfl) rfl ?_; refine wl_val (r_loadB1 ti4.und rfl rfl (hS4.heap (.tail _ (.head _))) rfl) rfl ?_; refine wl_val (r_field fa52_0 rfl) rfl ?_; refine wl_val (r_loadB1 ti4.und rfl rfl (hS4.heap (.head _)) rfl) rfl ?_
  refine wl_dec (r_eqlBool ti4.und rfl rfl) rfl (fun h1_4 => ?_) (fun h1_4 => ?_)
  · refine wl_val (r_move (v := .bool _) rfl) rfl ?_
    refine wl_val (r_field fa52_2 rfl) rfl ?_; refine wl_val (r_loadB1 ti3.und rfl rfl (hS4.heap (.tail _ (.head _))) rfl) rfl ?_; refine wl_val (r_field fa52_2 rfl) rfl ?_; refine wl_val (r_loadB1 ti3.und rfl rfl (hS4.heap (.head _)) rfl) rfl ?_
    refine wl_dec (r_eql rfl rfl) rfl (fun h1_10 => ?_) (fun h1_10 => ?_)
    · refine wl_val (r_pick_t rfl (v := .bool _) rfl) rfl ?_
      refine wl_val (r_move (v := .bool _) rfl) rfl ?_; refine wl_val (r_field fa52_3 rfl) rfl ?_; refine wl_val (r_loadB1 ti9.und rfl rfl (hS4.heap (.tail _ (.head _))) rfl) rfl ?_; refine wl_val (r_field fa52_3 rfl) rfl ?_; refine wl_val (r_loadB1 ti9.und rfl rfl (hS4.heap (.head _)) rfl) rfl ?_
      refine wl_dec (r_eqlStrL rfl rfl) rfl (fun h1_17 => ?_) (fun h1_17 => ?_)
      · refine wl_val (r_pick_t rfl (v := .bool _) rfl) rfl ?_
        refine wl_val (r_assign (v := .bool _) rfl) rfl ?_; refine wl_nil ?_; refine c_then ?_; refine wp_ret ?_; refine ret1 Tryz.results35 ?_
        first | exact .inl ⟨by simp_all, rfl, hS4.fin⟩ | exact .inr ⟨by simp_all, rfl, hS4.fin⟩
      refine wl_val (r_pick_t rfl (v := .bool _) rfl) rfl ?_; refine wl_val (r_assign (v := .bool _) rfl) rfl ?_; refine wl_nil ?_; refine c_then ?_; refine wp_ret ?_; refine ret1 Tryz.results35 ?_
      first | exact .inl ⟨by simp_all, rfl, hS4.fin⟩ | exact .inr ⟨by simp_all, rfl, hS4.fin⟩
    refine wl_val (r_pick_t rfl (v := .bool _) rfl) rfl ?_; refine wl_val (r_move (v := .bool _) rfl) rfl ?_; refine wl_not rfl ?_; refine wl_not rfl ?_; refine wl_not rfl ?_; refine wl_not rfl ?_; refine wl_not rfl ?_; refine wl_val (r_pick_f rfl (v := .bool false) rfl) rfl ?_; refine wl_val (r_assign (v := .bool _) rfl) rfl ?_; refine wl_nil ?_; refine c_then ?_; refine wp_ret ?_; refine ret1 Tryz.results35 ?_
    first | exact .inl ⟨by simp_all, rfl, hS4.fin⟩ | exact .inr ⟨by simp_all, rfl, hS4.fin⟩
  refine wl_val (r_move (v := .bool _) rfl) rfl ?_; refine wl_not rfl ?_; refine wl_not rfl ?_; refine wl_not rfl ?_; refine wl_not rfl ?_; refine wl_not rfl ?_; refine wl_val (r_pick_f rfl (v := .bool false) rfl) rfl ?_; refine wl_val (r_move (v := .bool _) rfl) rfl ?_; refine wl_not rfl ?_; refine wl_not rfl ?_; refine wl_not rfl ?_; refine wl_not rfl ?_; refine wl_not rfl ?_; refine wl_val (r_pick_f rfl (v := .bool false) rfl) rfl ?_; refine wl_val (r_assign (v := .bool _) rfl) rfl ?_; refine wl_nil ?_; refine c_then ?_; refine wp_ret ?_; refine ret1 Tryz.results35 ?_
  first | exact .inl ⟨by simp_all, rfl, hS4.fin⟩ | exact .inr ⟨by simp_all, rfl, hS4.fin⟩

set_option maxHeartbeats 2000000 in
theorem common_ok (rs : List RuleD) (pa : Option Addr) (pc : Nat) (rt : List RuleD) (ta : Option Addr) (tc : Nat) (w : World) (hrs : Row w pa (rs.flatMap RuleD.v)) (hall : ∀ r ∈ rs, RuleAt w r) (h20 : rs.length ≤ 20) (hrt : Row w ta (rt.flatMap RuleD.v)) (hallt : ∀ r ∈ rt, RuleAt w r) (t20 : rt.length ≤ 20) :
    Ret Tryz.prog 34 [.agg #[.slice pa rs.length pc], .agg #[.slice ta rt.length tc]] w (fun v w' => (¬ comE rs rt = 0 ∧ v = .tuple #[.slice none 0 0, .int .i64 (comE rs rt)] ∧ St w [] w' []) ∨ (comE rs rt = 0 ∧ (∃ (qs : List WA) (a : Option Addr) (c : Nat) (LT : List Kw.Item), AsksT LT qs ∧ qs.map WA.b = worldBs (rs ++ rt) ∧ (∀ q ∈ qs, WOk q) ∧ qs.length ≤ 100000 ∧ v = .tuple #[.slice a qs.length c, vi 0] ∧ qs.length ≤ c ∧ St w [] w' (.row (.slice a qs.length c) 40 68 qs.length (qs.flatMap WA.v) :: LT)))) := by
  refine enter Tryz.func34 rfl Tryz.ntmps34 rfl ?_
  have hS := St.refl w []
  refine c_seq ?_; refine c_region ?_; refine wl_exv (x_box hS (v := .agg _) rfl rfl) rfl ?_; rintro _ w1 ⟨b2, rfl, hS2⟩; refine wl_exv (x_box hS2 (v := .agg _) rfl rfl) rfl ?_; rintro _ w3 ⟨b3, rfl, hS4⟩; refine wl_val (r_assign (v := .slice none 0 0) rfl) rfl ?_; refine wl_val (r_assign (v := .int .i64 0) rfl) rfl ?_; refine wl_nil ?_; refine c_then ?_; refine c_seq ?_; refine c_seq ?_; refine c_region ?_; refine wl_val (r_loadB ti24 ag24 rfl (hS4.heap (.tail _ (.head _))) (by first | (simp [*]; done) | (simp [*] <;> omega) | omega)) rfl ?_; refine wl_val (r_loadB ti24 ag24 rfl (hS4.heap (.head _)) (by first | (simp [*]; done) | (simp [*] <;> omega) | omega)) rfl ?_; refine wl_val (r_build2 ti106 ti24 rfl) rfl ?_; refine wl_val (r_move (v := .int .i64 0) rfl) rfl ?_; refine wl_nil ?_; refine c_then ?_; refine c_block ?_; refine c_loopE [2, 3, 11] (fun d e w' => ∃ (i : Nat), Kw.look e 12 = vi i ∧ d = 2 - i ∧ St w [] w' [.blk b3 (cl [.slice ta rt.length tc] 24), .blk b2 (cl [.slice pa rs.length pc] 24)] ∧ (i ≤ 2) ∧ (0 < i → polE rs = 0) ∧ (1 < i → polE rt = 0)) (2 - 0) ?_ ?_
  · exact ⟨0, rfl, rfl, hS4, by omega, fun h => absurd h (by omega), fun h => absurd h (by omega)⟩
  · rintro d8 e5 w6 ⟨i, hc0_12, rfl, hS7, hi, hi1, hi2⟩ -
    refine c_set (d := 12) hc0_12 ?_; refine c_seq ?_; refine c_region ?_
    refine wl_dec (r_lss rfl rfl) rfl (fun h2_0 => ?_) (fun h2_0 => ?_)
    · refine wl_nil ?_
      refine c_then ?_; refine c_seq ?_; refine c_true rfl ?_; refine wp_skip ?_; refine c_then ?_; refine c_seq ?_; refine c_block ?_; refine c_seq ?_
      rcases (show i = 0 ∨ i = 1 by omega) with rfl | rfl
      · refine c_region ?_
        refine wl_val (r_indexA1 ti106.und ti24 ag24 rfl rfl (by decide) rfl) rfl ?_; refine wl_exv (x_alloc (C := [.slice none 0 0]) hS7 ti24 rfl) rfl ?_; rintro _ w9 ⟨b7, rfl, hS10⟩; refine wl_exs (x_storeW [] hS10 ti24 rfl rfl (by first | (simp [*]; done) | (simp [*] <;> omega) | omega) (by first | (simp [*]; done) | (simp [*] <;> omega) | omega) (by repeat' first | exact one_nil | exact one_b8 _ | exact one_v32 _ | exact one_all rfl | refine one_cons rfl ?_ | refine one_app ?_ ?_)) rfl ?_; intro w11 hS12; simp only [List.cons_append, List.nil_append] at hS12; refine wl_nil ?_; refine c_then ?_; refine c_seq ?_; refine c_region ?_; refine wl_val (r_loadB ti24 ag24 rfl (hS12.heap (.head _)) (by first | (simp [*]; done) | (simp [*] <;> omega) | omega)) rfl ?_; refine wl_call (r_call fn51 rfl rfl) rfl (check_ok rs pa rs.length pc _ (hrs.st hS12) rfl (by omega) (fun r hr' => (hall r hr').st hS12)) ?_; rintro _ w13 ⟨rfl, hx14⟩
        have hS15 := hS12.ext hx14
        refine wl_val (r_assign (v := .int .i64 _) rfl) rfl ?_; refine wl_nil ?_; refine c_then ?_; refine c_seq ?_; refine c_region ?_; refine wl_val (r_move (v := .int .i64 _) rfl) rfl ?_
        refine wl_dec (r_neq rfl rfl) rfl (fun h5_1 => ?_) (fun h5_1 => ?_)
        · refine wl_nil ?_
          refine c_then ?_; refine c_true rfl ?_; refine c_seq ?_; refine c_region ?_; refine wl_val (r_move (v := .int .i64 _) rfl) rfl ?_; refine wl_val (r_assign (v := .slice none 0 0) rfl) rfl ?_; refine wl_val (r_assign (v := .int .i64 _) rfl) rfl ?_; refine wl_nil ?_; refine c_then ?_; refine wp_ret ?_; refine c_inR ?_; refine c_thenR ?_; refine c_thenR ?_; refine c_inR ?_; refine c_thenR ?_; refine ret2 Tryz.results34 rfl rfl ?_
          have hce : comE rs rt = polE rs := comE_p h5_1
          exact .inl ⟨by rw [hce]; exact h5_1, by rw [hce]; rfl, hS15.fin⟩
        refine wl_nil ?_; refine c_then ?_; refine c_false rfl ?_; refine wp_skip ?_; refine c_inN ?_; refine c_then ?_; refine c_region ?_; refine wl_val (r_addn (b := 1) rfl rfl (by omega)) rfl ?_; refine wl_val (r_move (v := .int .i64 _) rfl) rfl ?_; refine wl_nil ?_; refine c_then ?_
        exact ⟨2 - (0 + 1), _, by omega, rfl, ⟨1, rfl, rfl, hS15.drop1, by omega, fun _ => Classical.not_not.1 h5_1, fun h => absurd h (by omega)⟩, ⟨rfl, rfl, rfl, trivial⟩⟩
      refine c_region ?_; refine wl_val (r_indexA1 ti106.und ti24 ag24 rfl rfl (by decide) rfl) rfl ?_; refine wl_exv (x_alloc (C := [.slice none 0 0]) hS7 ti24 rfl) rfl ?_; rintro _ w16 ⟨b7, rfl, hS17⟩; refine wl_exs (x_storeW [] hS17 ti24 rfl rfl (by first | (simp [*]; done) | (simp [*] <;> omega) | omega) (by first | (simp [*]; done) | (simp [*] <;> omega) | omega) (by repeat' first | exact one_nil | exact one_b8 _ | exact one_v32 _ | exact one_all rfl | refine one_cons rfl ?_ | refine one_app ?_ ?_)) rfl ?_; intro w18 hS19; simp only [List.cons_append, List.nil_append] at hS19; refine wl_nil ?_; refine c_then ?_; refine c_seq ?_; refine c_region ?_; refine wl_val (r_loadB ti24 ag24 rfl (hS19.heap (.head _)) (by first | (simp [*]; done) | (simp [*] <;> omega) | omega)) rfl ?_; refine wl_call (r_call fn51 rfl rfl) rfl (check_ok rt ta rt.length tc _ (hrt.st hS19) rfl (by omega) (fun r hr' => (hallt r hr').st hS19)) ?_; rintro _ w20 ⟨rfl, hx21⟩
      have hS22 := hS19.ext hx21
      refine wl_val (r_assign (v := .int .i64 _) rfl) rfl ?_; refine wl_nil ?_; refine c_then ?_; refine c_seq ?_; refine c_region ?_; refine wl_val (r_move (v := .int .i64 _) rfl) rfl ?_
      refine wl_dec (r_neq rfl rfl) rfl (fun h5_1 => ?_) (fun h5_1 => ?_)
      · refine wl_nil ?_
        refine c_then ?_; refine c_true rfl ?_; refine c_seq ?_; refine c_region ?_; refine wl_val (r_move (v := .int .i64 _) rfl) rfl ?_; refine wl_val (r_assign (v := .slice none 0 0) rfl) rfl ?_; refine wl_val (r_assign (v := .int .i64 _) rfl) rfl ?_; refine wl_nil ?_; refine c_then ?_; refine wp_ret ?_; refine c_inR ?_; refine c_thenR ?_; refine c_thenR ?_; refine c_inR ?_; refine c_thenR ?_; refine ret2 Tryz.results34 rfl rfl ?_
        have hce : comE rs rt = polE rt := comE_q (hi1 (by omega)) h5_1
        exact .inl ⟨by rw [hce]; exact h5_1, by rw [hce]; rfl, hS22.fin⟩
      refine wl_nil ?_; refine c_then ?_; refine c_false rfl ?_; refine wp_skip ?_; refine c_inN ?_; refine c_then ?_; refine c_region ?_; refine wl_val (r_addn (b := 1) rfl rfl (by omega)) rfl ?_; refine wl_val (r_move (v := .int .i64 _) rfl) rfl ?_; refine wl_nil ?_; refine c_then ?_
      exact ⟨2 - (1 + 1), _, by omega, rfl, ⟨2, rfl, rfl, hS22.drop1, by omega, fun _ => hi1 (by omega), fun h => Classical.not_not.1 h5_1⟩, ⟨rfl, rfl, rfl, trivial⟩⟩
    refine wl_nil ?_; refine c_then ?_; refine c_seq ?_; refine c_false rfl ?_; refine wp_exit ?_; refine c_thenE ?_; refine c_thenE ?_; refine c_inE ?_; refine c_then ?_; refine c_seq ?_
    obtain rfl : i = 2 := by omega
    have hz1 := hi1 (by omega)
    have hz2 := hi2 (by omega)
    have hpp := pol_app hz1 hz2 h20 t20
    refine c_region ?_; refine wl_val (r_field fa24_0 rfl) rfl ?_; refine wl_val (r_loadB1 ti22.und rfl rfl (hS7.heap (.tail _ (.head _))) rfl) rfl ?_; refine wl_val (r_field fa24_0 rfl) rfl ?_; refine wl_val (r_loadB1 ti22.und rfl rfl (hS7.heap (.head _)) rfl) rfl ?_; refine wl_exv (x_lit (vs := [.slice _ _ _, .slice _ _ _]) hS7 ti81.und ti22 rfl rfl rfl (by intro c hc; simp only [List.mem_cons, List.not_mem_nil, or_false] at hc; rcases hc with rfl | rfl <;> rfl) (by decide)) rfl ?_; rintro _ w23 ⟨b25, rfl, hS24⟩; refine wl_call (r_call fn14 rfl rfl) rfl (concatR2_ok rs rt pa ta _ rs.length rt.length pc tc _ _ (Row.of_at (at_all (hS24.heap (.head _)))) (hrs.st hS24) (hrt.st hS24) rfl rfl (by omega)) ?_; rintro _ w25 ⟨aC, cC, rfl, hx26⟩
    have hS27 := hS24.call hx26
    simp only [List.cons_append, List.nil_append] at hS27; refine wl_val (r_buildF (vs := [.slice _ _ _]) (out := [.slice _ _ _]) pl24 ti24 rfl rfl (by intro i hi; match i, hi with | 0, _ => rfl) rfl) rfl ?_; refine wl_call (r_call fn24 rfl rfl) rfl (worldOf_ok (rs ++ rt) aC (rs.length + rt.length) cC _ (St.rowAt hS27 (.head _)) (by rw [List.length_append]) (by omega) (fun r hr' => (all_app hall hallt r hr').st hS27)) ?_
    rintro _ w28 (⟨hp, rfl, hx29⟩ | ⟨hp, rfl, hx29⟩ | ⟨hp, qs, aQ, cQ, LT, hA, hb, hrc, rfl, hcQ, hx29⟩)
    · exact absurd hpp hp
    · have hS30 := hS27.ext hx29
      refine wl_val (r_extract (v := .slice _ _ _) rfl rfl) rfl ?_; refine wl_val (r_extract (v := .int .i64 _) rfl rfl) rfl ?_; refine wl_val (r_assign (v := .slice _ _ _) rfl) rfl ?_; refine wl_val (r_assign (v := .int .i64 _) rfl) rfl ?_; refine wl_nil ?_; refine c_then ?_; refine wp_ret ?_; refine ret2 Tryz.results34 rfl rfl ?_
      have hce : comE rs rt = 5 := comE_5 hz1 hz2 hp.2
      exact .inl ⟨by rw [hce]; decide, by rw [hce]; rfl, hS30.fin⟩
    have hS30 := St.callT (X := [_]) (LT := LT) hS27 hx29
    simp only [List.cons_append, List.nil_append] at hS30; refine wl_val (r_extract (v := .slice _ _ _) rfl rfl) rfl ?_; refine wl_val (r_extract (v := .int .i64 _) rfl rfl) rfl ?_; refine wl_val (r_assign (v := .slice _ _ _) rfl) rfl ?_; refine wl_val (r_assign (v := .int .i64 _) rfl) rfl ?_; refine wl_nil ?_; refine c_then ?_; refine wp_ret ?_; refine ret2 Tryz.results34 rfl rfl ?_
    obtain ⟨hq100, hqok⟩ := polE_zero hp.1
    exact .inr ⟨comE_0 hz1 hz2 hp.2, qs, aQ, cQ, LT, hA, hb, wok_of (all_app hall hallt) hqok hq100 hb hrc, by have := asks_len hb; have := hp.2; unfold wTot at this; omega, rfl, hcQ, (hS30.perm ((List.Perm.cons _ ((List.Perm.cons _ ((List.Perm.cons _ ((List.Perm.cons _ (List.Perm.refl _)).trans (List.perm_middle (l₁ := [_])).symm)).trans (List.perm_middle (l₁ := [_])).symm)).trans (List.perm_middle (l₁ := [_])).symm)).trans (List.perm_middle (l₁ := [_])).symm)).drop1.drop1.drop1.drop1⟩

end Go.Proofs.YtmonnmndphlkaaaGreat
end
section
namespace Go.Proofs.YtmonnmndphlkaaaGreat
open Go.Kw
set_option linter.unusedVariables false
set_option linter.unusedSimpArgs false
set_option maxRecDepth 100000
set_option maxHeartbeats 4000000 in
theorem Stricter_ok (rs : List RuleD) (pa : Option Addr) (pc : Nat) (rt : List RuleD) (ta : Option Addr) (tc : Nat) (w : World) (hrs : Row w pa (rs.flatMap RuleD.v)) (hall : ∀ r ∈ rs, RuleAt w r) (h20 : rs.length ≤ 20) (hrt : Row w ta (rt.flatMap RuleD.v)) (hallt : ∀ r ∈ rt, RuleAt w r) (t20 : rt.length ≤ 20) :
    Ret Tryz.prog 13 [.agg #[.slice pa rs.length pc], .agg #[.slice ta rt.length tc]] w (fun v w' => (¬ comE rs rt = 0 ∧ v = .tuple #[.bool false, .int .i64 (comE rs rt)] ∧ St w [] w' []) ∨ (comE rs rt = 0 ∧ v = .tuple #[.bool ((worldBs (rs ++ rt)).all (strictB rs rt)), vi 0] ∧ St w [] w' [])) := by
  refine enter Tryz.func13 rfl Tryz.ntmps13 rfl ?_
  have hS := St.refl w []
  refine c_seq ?_; refine c_region ?_; refine wl_exv (x_box hS (v := .agg _) rfl rfl) rfl ?_; rintro _ w1 ⟨b2, rfl, hS2⟩; refine wl_exv (x_box hS2 (v := .agg _) rfl rfl) rfl ?_; rintro _ w3 ⟨b3, rfl, hS4⟩; refine wl_val (r_assign (v := .bool false) rfl) rfl ?_; refine wl_val (r_assign (v := .int .i64 0) rfl) rfl ?_; refine wl_nil ?_; refine c_then ?_; refine c_seq ?_; refine c_region ?_; refine wl_val (r_loadB ti24 ag24 rfl (hS4.heap (.tail _ (.head _))) (by first | (simp [*]; done) | (simp [*] <;> omega) | omega)) rfl ?_; refine wl_val (r_loadB ti24 ag24 rfl (hS4.heap (.head _)) (by first | (simp [*]; done) | (simp [*] <;> omega) | omega)) rfl ?_; refine wl_call (r_call fn34 rfl rfl) rfl (common_ok rs pa pc rt ta tc _ (hrs.st hS4) (fun r hr' => (hall r hr').st hS4) h20 (hrt.st hS4) (fun r hr' => (hallt r hr').st hS4) t20) ?_
  rintro _ w5 (⟨hce, rfl, hx6⟩ | ⟨hce, qs, aQ, cQ, LT, hA, hb, hw, hql, rfl, hcQ, hx6⟩)
  · have hS7 := hS4.ext hx6
    refine wl_val (r_move (v := .tuple _) rfl) rfl ?_; refine wl_val (r_extract (v := .slice _ _ _) rfl rfl) rfl ?_; refine wl_val (r_extract (v := .int .i64 _) rfl rfl) rfl ?_; refine wl_val (r_assign (v := .slice _ _ _) rfl) rfl ?_; refine wl_val (r_assign (v := .int .i64 _) rfl) rfl ?_; refine wl_nil ?_; refine c_then ?_; refine c_seq ?_; refine c_seq ?_; refine c_region ?_; refine wl_val (r_move (v := .int .i64 _) rfl) rfl ?_; refine wl_dec_t (r_neq rfl rfl) rfl hce ?_; refine wl_nil ?_; refine c_then ?_; refine c_true rfl ?_; refine c_seq ?_; refine c_region ?_; refine wl_val (r_move (v := .int .i64 _) rfl) rfl ?_; refine wl_val (r_assign (v := .bool false) rfl) rfl ?_; refine wl_val (r_assign (v := .int .i64 _) rfl) rfl ?_; refine wl_nil ?_; refine c_then ?_; refine wp_ret ?_; refine c_thenR ?_; refine ret2 Tryz.results13 rfl rfl ?_
    exact .inl ⟨hce, rfl, hS7.fin⟩
  have hS7 := St.callT (X := [_]) (LT := LT) hS4 hx6
  simp only [List.cons_append, List.nil_append] at hS7; refine wl_val (r_move (v := .tuple _) rfl) rfl ?_; refine wl_val (r_extract (v := .slice _ _ _) rfl rfl) rfl ?_; refine wl_val (r_extract (v := .int .i64 _) rfl rfl) rfl ?_; refine wl_val (r_assign (v := .slice _ _ _) rfl) rfl ?_; refine wl_val (r_assign (v := .int .i64 _) rfl) rfl ?_; refine wl_nil ?_; refine c_then ?_; refine c_seq ?_; refine c_seq ?_; refine c_region ?_; refine wl_val (r_move (v := .int .i64 _) rfl) rfl ?_; refine wl_dec_f (r_neq rfl rfl) rfl (by decide) ?_; refine wl_nil ?_; refine c_then ?_; refine c_false rfl ?_; refine wp_skip ?_; refine c_then ?_; refine c_seq ?_; refine c_seq ?_; refine c_region ?_; refine wl_val (r_move (v := .slice _ _ _) rfl) rfl ?_; refine wl_val (r_len (T := 26) rfl ti26.und rfl _ rfl) rfl ?_; refine wl_val (r_move (v := .int .i64 0) rfl) rfl ?_; refine wl_nil ?_; refine c_then ?_; refine c_block ?_; refine c_loopE [2, 3, 21, 22] (fun d e w' => ∃ (i : Nat), Kw.look e 23 = vi i ∧ d = qs.length - i ∧ St w [] w' (.row (.slice aQ qs.length cQ) 40 68 qs.length (qs.flatMap WA.v) :: .blk b3 (cl [.slice ta rt.length tc] 24) :: .blk b2 (cl [.slice pa rs.length pc] 24) :: LT) ∧ (i ≤ qs.length) ∧ (((worldBs (rs ++ rt)).take i).all (strictB rs rt) = true)) (qs.length - 0) ?_ ?_
  · exact ⟨0, rfl, rfl, hS7, Nat.zero_le _, by simp⟩
  · rintro d11 e8 w9 ⟨i, hc0_23, rfl, hS10, hi, hal⟩ -
    refine c_set (d := 23) hc0_23 ?_; refine c_seq ?_; refine c_region ?_
    refine wl_dec (r_lss rfl rfl) rfl (fun h5_0 => ?_) (fun h5_0 => ?_)
    · refine wl_nil ?_
      refine c_then ?_; refine c_seq ?_; refine c_true rfl ?_; refine wp_skip ?_; refine c_then ?_; refine c_seq ?_; refine c_block ?_; refine c_seq ?_
      have hbi := b_at hb (i := i) (by omega)
      refine c_region ?_; refine wl_val (r_ixF wa_v68 ti26.und ti40 rfl rfl (St.rowAt hS10 (.head _)) (by first | (simp [*]; done) | (simp [*] <;> omega) | omega) (by first | omega | (simp [*]; done) | (simp [*] <;> omega)) (by decide)) rfl ?_; refine wl_val (r_loadF wa_v68 ti40 ag40 rfl (St.rowAt hS10 (.head _)) (by first | omega | (simp [*]; done) | (simp [*] <;> omega)) (by decide)) rfl ?_; refine wl_exv (x_alloc (C := [.int .u8 0, .int .u8 0, .int .u8 0, .int .u8 0, .int .u8 0, .int .u8 0, .int .u8 0, .int .u8 0, .int .u8 0, .int .u8 0, .int .u8 0, .int .u8 0, .int .u8 0, .int .u8 0, .int .u8 0, .int .u8 0, .slice none 0 0, .int .i64 0, .string ⟨#[]⟩, .int .u8 0, .int .u8 0, .int .u8 0, .int .u8 0, .int .u8 0, .int .u8 0, .int .u8 0, .int .u8 0, .int .u8 0, .int .u8 0, .int .u8 0, .int .u8 0, .int .u8 0, .int .u8 0, .int .u8 0, .int .u8 0, .int .i64 0, .int .u8 0, .int .u8 0, .int .u8 0, .int .u8 0, .int .u8 0, .int .u8 0, .int .u8 0, .int .u8 0, .int .u8 0, .int .u8 0, .int .u8 0, .int .u8 0, .int .u8 0, .int .u8 0, .int .u8 0, .int .u8 0, .int .u8 0, .int .u8 0, .int .u8 0, .int .u8 0, .int .u8 0, .int .u8 0, .int .u8 0, .int .u8 0, .int .u8 0, .int .u8 0, .int .u8 0, .int .u8 0, .int .u8 0, .int .u8 0, .int .u8 0, .int .u8 0]) hS10 ti40 rfl) rfl ?_; rintro _ w12 ⟨b9, rfl, hS13⟩; refine wl_exs (x_storeW [] hS13 ti40 rfl rfl (wa_v68 _) rfl (one_wa _)) rfl ?_; intro w14 hS15; simp only [List.cons_append, List.nil_append] at hS15; refine wl_nil ?_; refine c_then ?_; refine c_cutE [2, 3, 4, 5, 21, 22, 23] (fun e w' => ∃ (b10 b11 : Nat) (ru1 ru2 : Int), Kw.look e 10 = pt b10 0 ∧ Kw.look e 11 = pt b11 0 ∧ St w [] w' (.blk b10 (cl (decV (decB rs (gt qs i).b).1 ru1 (decB rs (gt qs i).b).2.1 (decB rs (gt qs i).b).2.2) 52) :: .blk b11 (cl (decV (decB rt (gt qs i).b).1 ru2 (decB rt (gt qs i).b).2.1 (decB rt (gt qs i).b).2.2) 52) :: .row (.slice aQ qs.length cQ) 40 68 qs.length (qs.flatMap WA.v) :: .blk b3 (cl [.slice ta rt.length tc] 24) :: .blk b2 (cl [.slice pa rs.length pc] 24) :: LT)) ?_ ?_
      · refine c_drawS 8 hMixed hS15 ?_
        intro w20 hS21; refine g_take 0 rfl (by decide +kernel) rfl (fun _ _ _ h => h) hS21 (fun wF hF => r_loadB ti24 ag24 rfl (hF.heap (.tail _ (.tail _ (.tail _ (.head _))))) (by first | (simp [*]; done) | (simp [*] <;> omega) | omega)) ?_; refine g_take 1 rfl (by decide +kernel) rfl (fun _ _ _ h => h) hS21 (fun wF hF => r_loadB ti40 ag40 rfl (hF.heap (.head _)) (wa_v68 _)) ?_; refine g_take 3 rfl (by decide +kernel) rfl (fun _ _ _ h => h) hS21 (fun wF hF => r_loadB ti24 ag24 rfl (hF.heap (.tail _ (.tail _ (.head _)))) (by first | (simp [*]; done) | (simp [*] <;> omega) | omega)) ?_; refine g_take 4 rfl (by decide +kernel) rfl (fun _ _ _ h => h) hS21 (fun wF hF => r_loadB ti40 ag40 rfl (hF.heap (.head _)) (wa_v68 _)) ?_; refine g_all (rs := [2, 6, 7]) (by decide +kernel) (by decide +kernel) rfl ?_
        simp only [List.forall_mem_cons, List.not_mem_nil, false_imp_iff, implies_true, and_true]
        refine ⟨?_, ?_, ?_⟩
        · refine o_call rfl (r_call fn36 rfl rfl) rfl (decP_ok rs pa rs.length pc (gt qs i) _ (hrs.st hS21) rfl (by omega) (fun r hr' => (hall r hr').st hS21) (hw _ (gt_mem qs i (by omega))) (hA _ (hS21.hold fun x hx => by simp [hx]) _ (gt_mem qs i (by omega)))) ?_
          rintro _ w22 ⟨ru1, rfl, hx23⟩
          have hS24 := hS21.ext hx23
          refine ⟨hS24, ?_⟩
          refine g_all (rs := [5, 6, 7]) (by decide +kernel) (by decide +kernel) rfl ?_
          simp only [List.forall_mem_cons, List.not_mem_nil, false_imp_iff, implies_true, and_true]
          refine ⟨?_, ?_, ?_⟩
          · refine o_call rfl (r_call fn36 rfl rfl) rfl (decP_ok rt ta rt.length tc (gt qs i) _ (hrt.st hS24) rfl (by omega) (fun r hr' => (hallt r hr').st hS24) (hw _ (gt_mem qs i (by omega))) (hA _ (hS24.hold fun x hx => by simp [hx]) _ (gt_mem qs i (by omega)))) ?_
            rintro _ w25 ⟨ru2, rfl, hx26⟩
            have hS27 := hS24.ext hx26
            refine ⟨hS27, ?_⟩
            refine g_all (rs := [6, 7]) (by decide +kernel) (by decide +kernel) rfl ?_
            simp only [List.forall_mem_cons, List.not_mem_nil, false_imp_iff, implies_true, and_true]
            refine ⟨?_, ?_⟩
            · refine o_exv rfl (x_alloc (C := [.bool false, .int .i64 0, .int .i64 0, .string ⟨#[]⟩]) hS27 ti52 rfl) rfl ?_
              rintro _ w28 ⟨b10, rfl, hS29⟩
              refine ⟨hS29.drop1, ?_⟩
              refine g_one 7 (by decide +kernel) (by decide +kernel) ?_; refine o_exv rfl (x_alloc (C := [.bool false, .int .i64 0, .int .i64 0, .string ⟨#[]⟩]) hS29 ti52 rfl) rfl ?_; rintro _ w30 ⟨b11, rfl, hS31⟩
              refine ⟨hS31.drop1.drop1, ?_⟩
              refine g_tail (by decide +kernel) rfl (by decide +kernel) ?_; refine wl_exs (x_storeW [_] hS31 ti52 rfl rfl rfl rfl one_dec) rfl ?_; intro w32 hS33; simp only [List.cons_append, List.nil_append] at hS33; refine wl_exs (x_storeW [] hS33 ti52 rfl rfl rfl rfl one_dec) rfl ?_; intro w34 hS35; simp only [List.cons_append, List.nil_append] at hS35; refine wl_nil ?_; refine c_then ?_
              exact ⟨_, rfl, ⟨b10, b11, ru1, ru2, rfl, rfl, (hS35.perm ((List.Perm.cons _ ((List.Perm.cons _ (List.Perm.refl _)).trans (List.perm_middle (l₁ := [_])).symm)).trans (List.perm_middle (l₁ := [_, _])).symm)).drop1⟩, ⟨rfl, rfl, rfl, rfl, rfl, rfl, rfl, trivial⟩⟩
            · refine o_exv rfl (x_alloc (C := [.bool false, .int .i64 0, .int .i64 0, .string ⟨#[]⟩]) hS27 ti52 rfl) rfl ?_
              rintro _ w36 ⟨b11, rfl, hS37⟩
              refine ⟨hS37.drop1, ?_⟩
              refine g_one 6 (by decide +kernel) (by decide +kernel) ?_; refine o_exv rfl (x_alloc (C := [.bool false, .int .i64 0, .int .i64 0, .string ⟨#[]⟩]) hS37 ti52 rfl) rfl ?_; rintro _ w38 ⟨b10, rfl, hS39⟩
              refine ⟨hS39.drop1.drop1, ?_⟩
              refine g_tail (by decide +kernel) rfl (by decide +kernel) ?_; refine wl_exs (x_storeW [] hS39 ti52 rfl rfl rfl rfl one_dec) rfl ?_; intro w40 hS41; simp only [List.cons_append, List.nil_append] at hS41; refine wl_exs (x_storeW [_] hS41 ti52 rfl rfl rfl rfl one_dec) rfl ?_; intro w42 hS43; simp only [List.cons_append, List.nil_append] at hS43; refine wl_nil ?_; refine c_then ?_
              exact ⟨_, rfl, ⟨b10, b11, ru1, ru2, rfl, rfl, (hS43.perm ((List.Perm.cons _ (List.Perm.refl _)).trans (List.perm_middle (l₁ := [_, _])).symm)).drop1⟩, ⟨rfl, rfl, rfl, rfl, rfl, rfl, rfl, trivial⟩⟩
          · refine o_exv rfl (x_alloc (C := [.bool false, .int .i64 0, .int .i64 0, .string ⟨#[]⟩]) hS24 ti52 rfl) rfl ?_
            rintro _ w44 ⟨b10, rfl, hS45⟩
            refine ⟨hS45.drop1, ?_⟩
            refine g_all (rs := [5, 7]) (by decide +kernel) (by decide +kernel) rfl ?_
            simp only [List.forall_mem_cons, List.not_mem_nil, false_imp_iff, implies_true, and_true]
            refine ⟨?_, ?_⟩
            · refine o_call rfl (r_call fn36 rfl rfl) rfl (decP_ok rt ta rt.length tc (gt qs i) _ (hrt.st hS45) rfl (by omega) (fun r hr' => (hallt r hr').st hS45) (hw _ (gt_mem qs i (by omega))) (hA _ (hS45.hold fun x hx => by simp [hx]) _ (gt_mem qs i (by omega)))) ?_
              rintro _ w46 ⟨ru2, rfl, hx47⟩
              have hS48 := hS45.ext hx47
              refine ⟨hS48.drop1, ?_⟩
              refine g_one 7 (by decide +kernel) (by decide +kernel) ?_; refine o_exv rfl (x_alloc (C := [.bool false, .int .i64 0, .int .i64 0, .string ⟨#[]⟩]) hS48 ti52 rfl) rfl ?_; rintro _ w49 ⟨b11, rfl, hS50⟩
              refine ⟨hS50.drop1.drop1, ?_⟩
              refine g_tail (by decide +kernel) rfl (by decide +kernel) ?_; refine wl_exs (x_storeW [_] hS50 ti52 rfl rfl rfl rfl one_dec) rfl ?_; intro w51 hS52; simp only [List.cons_append, List.nil_append] at hS52; refine wl_exs (x_storeW [] hS52 ti52 rfl rfl rfl rfl one_dec) rfl ?_; intro w53 hS54; simp only [List.cons_append, List.nil_append] at hS54; refine wl_nil ?_; refine c_then ?_
              exact ⟨_, rfl, ⟨b10, b11, ru1, ru2, rfl, rfl, (hS54.perm ((List.Perm.cons _ ((List.Perm.cons _ (List.Perm.refl _)).trans (List.perm_middle (l₁ := [_])).symm)).trans (List.perm_middle (l₁ := [_, _])).symm)).drop1⟩, ⟨rfl, rfl, rfl, rfl, rfl, rfl, rfl, trivial⟩⟩
            · refine o_exv rfl (x_alloc (C := [.bool false, .int .i64 0, .int .i64 0, .string ⟨#[]⟩]) hS45 ti52 rfl) rfl ?_
              rintro _ w55 ⟨b11, rfl, hS56⟩
              refine ⟨hS56.drop1.drop1, ?_⟩
              refine g_one 5 (by decide +kernel) (by decide +kernel) ?_; refine o_call rfl (r_call fn36 rfl rfl) rfl (decP_ok rt ta rt.length tc (gt qs i) _ (hrt.st hS56) rfl (by omega) (fun r hr' => (hallt r hr').st hS56) (hw _ (gt_mem qs i (by omega))) (hA _ (hS56.hold fun x hx => by simp [hx]) _ (gt_mem qs i (by omega)))) ?_; rintro _ w57 ⟨ru2, rfl, hx58⟩
              have hS59 := hS56.ext hx58
              refine ⟨hS59.drop1.drop1, ?_⟩
              refine g_tail (by decide +kernel) rfl (by decide +kernel) ?_; refine wl_exs (x_storeW [_] hS59 ti52 rfl rfl rfl rfl one_dec) rfl ?_; intro w60 hS61; simp only [List.cons_append, List.nil_append] at hS61; refine wl_exs (x_storeW [] hS61 ti52 rfl rfl rfl rfl one_dec) rfl ?_; intro w62 hS63; simp only [List.cons_append, List.nil_append] at hS63; refine wl_nil ?_; refine c_then ?_
              exact ⟨_, rfl, ⟨b10, b11, ru1, ru2, rfl, rfl, (hS63.perm ((List.Perm.cons _ ((List.Perm.cons _ (List.Perm.refl _)).trans (List.perm_middle (l₁ := [_])).symm)).trans (List.perm_middle (l₁ := [_, _])).symm)).drop1⟩, ⟨rfl, rfl, rfl, rfl, rfl, rfl, rfl, trivial⟩⟩
          · refine o_exv rfl (x_alloc (C := [.bool false, .int .i64 0, .int .i64 0, .string ⟨#[]⟩]) hS24 ti52 rfl) rfl ?_
            rintro _ w64 ⟨b11, rfl, hS65⟩
            refine ⟨hS65.drop1, ?_⟩
            refine g_all (rs := [5, 6]) (by decide +kernel) (by decide +kernel) rfl ?_
            simp only [List.forall_mem_cons, List.not_mem_nil, false_imp_iff, implies_true, and_true]
            refine ⟨?_, ?_⟩
            · refine o_call rfl (r_call fn36 rfl rfl) rfl (decP_ok rt ta rt.length tc (gt qs i) _ (hrt.st hS65) rfl (by omega) (fun r hr' => (hallt r hr').st hS65) (hw _ (gt_mem qs i (by omega))) (hA _ (hS65.hold fun x hx => by simp [hx]) _ (gt_mem qs i (by omega)))) ?_
              rintro _ w66 ⟨ru2, rfl, hx67⟩
              have hS68 := hS65.ext hx67
              refine ⟨hS68.drop1, ?_⟩
              refine g_one 6 (by decide +kernel) (by decide +kernel) ?_; refine o_exv rfl (x_alloc (C := [.bool false, .int .i64 0, .int .i64 0, .string ⟨#[]⟩]) hS68 ti52 rfl) rfl ?_; rintro _ w69 ⟨b10, rfl, hS70⟩
              refine ⟨hS70.drop1.drop1, ?_⟩
              refine g_tail (by decide +kernel) rfl (by decide +kernel) ?_; refine wl_exs (x_storeW [] hS70 ti52 rfl rfl rfl rfl one_dec) rfl ?_; intro w71 hS72; simp only [List.cons_append, List.nil_append] at hS72; refine wl_exs (x_storeW [_] hS72 ti52 rfl rfl rfl rfl one_dec) rfl ?_; intro w73 hS74; simp only [List.cons_append, List.nil_append] at hS74; refine wl_nil ?_; refine c_then ?_
              exact ⟨_, rfl, ⟨b10, b11, ru1, ru2, rfl, rfl, (hS74.perm ((List.Perm.cons _ (List.Perm.refl _)).trans (List.perm_middle (l₁ := [_, _])).symm)).drop1⟩, ⟨rfl, rfl, rfl, rfl, rfl, rfl, rfl, trivial⟩⟩
            · refine o_exv rfl (x_alloc (C := [.bool false, .int .i64 0, .int .i64 0, .string ⟨#[]⟩]) hS65 ti52 rfl) rfl ?_
              rintro _ w75 ⟨b10, rfl, hS76⟩
              refine ⟨hS76.drop1.drop1, ?_⟩
              refine g_one 5 (by decide +kernel) (by decide +kernel) ?_; refine o_call rfl (r_call fn36 rfl rfl) rfl (decP_ok rt ta rt.length tc (gt qs i) _ (hrt.st hS76) rfl (by omega) (fun r hr' => (hallt r hr').st hS76) (hw _ (gt_mem qs i (by omega))) (hA _ (hS76.hold fun x hx => by simp [hx]) _ (gt_mem qs i (by omega)))) ?_; rintro _ w77 ⟨ru2, rfl, hx78⟩
              have hS79 := hS76.ext hx78
              refine ⟨hS79.drop1.drop1, ?_⟩
              refine g_tail (by decide +kernel) rfl (by decide +kernel) ?_; refine wl_exs (x_storeW [] hS79 ti52 rfl rfl rfl rfl one_dec) rfl ?_; intro w80 hS81; simp only [List.cons_append, List.nil_append] at hS81; refine wl_exs (x_storeW [_] hS81 ti52 rfl rfl rfl rfl one_dec) rfl ?_; intro w82 hS83; simp only [List.cons_append, List.nil_append] at hS83; refine wl_nil ?_; refine c_then ?_
              exact ⟨_, rfl, ⟨b10, b11, ru1, ru2, rfl, rfl, (hS83.perm ((List.Perm.cons _ (List.Perm.refl _)).trans (List.perm_middle (l₁ := [_, _])).symm)).drop1⟩, ⟨rfl, rfl, rfl, rfl, rfl, rfl, rfl, trivial⟩⟩
        · refine o_exv rfl (x_alloc (C := [.bool false, .int .i64 0, .int .i64 0, .string ⟨#[]⟩]) hS21 ti52 rfl) rfl ?_
          rintro _ w84 ⟨b10, rfl, hS85⟩
          refine ⟨hS85.drop1, ?_⟩
          refine g_all (rs := [2, 7]) (by decide +kernel) (by decide +kernel) rfl ?_
          simp only [List.forall_mem_cons, List.not_mem_nil, false_imp_iff, implies_true, and_true]
          refine ⟨?_, ?_⟩
          · refine o_call rfl (r_call fn36 rfl rfl) rfl (decP_ok rs pa rs.length pc (gt qs i) _ (hrs.st hS85) rfl (by omega) (fun r hr' => (hall r hr').st hS85) (hw _ (gt_mem qs i (by omega))) (hA _ (hS85.hold fun x hx => by simp [hx]) _ (gt_mem qs i (by omega)))) ?_
            rintro _ w86 ⟨ru1, rfl, hx87⟩
            have hS88 := hS85.ext hx87
            refine ⟨hS88.drop1, ?_⟩
            refine g_all (rs := [5, 7]) (by decide +kernel) (by decide +kernel) rfl ?_
            simp only [List.forall_mem_cons, List.not_mem_nil, false_imp_iff, implies_true, and_true]
            refine ⟨?_, ?_⟩
            · refine o_call rfl (r_call fn36 rfl rfl) rfl (decP_ok rt ta rt.length tc (gt qs i) _ (hrt.st hS88) rfl (by omega) (fun r hr' => (hallt r hr').st hS88) (hw _ (gt_mem qs i (by omega))) (hA _ (hS88.hold fun x hx => by simp [hx]) _ (gt_mem qs i (by omega)))) ?_
              rintro _ w89 ⟨ru2, rfl, hx90⟩
              have hS91 := hS88.ext hx90
              refine ⟨hS91.drop1, ?_⟩
              refine g_one 7 (by decide +kernel) (by decide +kernel) ?_; refine o_exv rfl (x_alloc (C := [.bool false, .int .i64 0, .int .i64 0, .string ⟨#[]⟩]) hS91 ti52 rfl) rfl ?_; rintro _ w92 ⟨b11, rfl, hS93⟩
              refine ⟨hS93.drop1.drop1, ?_⟩
              refine g_tail (by decide +kernel) rfl (by decide +kernel) ?_; refine wl_exs (x_storeW [_] hS93 ti52 rfl rfl rfl rfl one_dec) rfl ?_; intro w94 hS95; simp only [List.cons_append, List.nil_append] at hS95; refine wl_exs (x_storeW [] hS95 ti52 rfl rfl rfl rfl one_dec) rfl ?_; intro w96 hS97; simp only [List.cons_append, List.nil_append] at hS97; refine wl_nil ?_; refine c_then ?_
              exact ⟨_, rfl, ⟨b10, b11, ru1, ru2, rfl, rfl, (hS97.perm ((List.Perm.cons _ ((List.Perm.cons _ (List.Perm.refl _)).trans (List.perm_middle (l₁ := [_])).symm)).trans (List.perm_middle (l₁ := [_, _])).symm)).drop1⟩, ⟨rfl, rfl, rfl, rfl, rfl, rfl, rfl, trivial⟩⟩
            · refine o_exv rfl (x_alloc (C := [.bool false, .int .i64 0, .int .i64 0, .string ⟨#[]⟩]) hS88 ti52 rfl) rfl ?_
              rintro _ w98 ⟨b11, rfl, hS99⟩
              refine ⟨hS99.drop1.drop1, ?_⟩
              refine g_one 5 (by decide +kernel) (by decide +kernel) ?_; refine o_call rfl (r_call fn36 rfl rfl) rfl (decP_ok rt ta rt.length tc (gt qs i) _ (hrt.st hS99) rfl (by omega) (fun r hr' => (hallt r hr').st hS99) (hw _ (gt_mem qs i (by omega))) (hA _ (hS99.hold fun x hx => by simp [hx]) _ (gt_mem qs i (by omega)))) ?_; rintro _ w100 ⟨ru2, rfl, hx101⟩
              have hS102 := hS99.ext hx101
              refine ⟨hS102.drop1.drop1, ?_⟩
              refine g_tail (by decide +kernel) rfl (by decide +kernel) ?_; refine wl_exs (x_storeW [_] hS102 ti52 rfl rfl rfl rfl one_dec) rfl ?_; intro w103 hS104; simp only [List.cons_append, List.nil_append] at hS104; refine wl_exs (x_storeW [] hS104 ti52 rfl rfl rfl rfl one_dec) rfl ?_; intro w105 hS106; simp only [List.cons_append, List.nil_append] at hS106; refine wl_nil ?_; refine c_then ?_
              exact ⟨_, rfl, ⟨b10, b11, ru1, ru2, rfl, rfl, (hS106.perm ((List.Perm.cons _ ((List.Perm.cons _ (List.Perm.refl _)).trans (List.perm_middle (l₁ := [_])).symm)).trans (List.perm_middle (l₁ := [_, _])).symm)).drop1⟩, ⟨rfl, rfl, rfl, rfl, rfl, rfl, rfl, trivial⟩⟩
          · refine o_exv rfl (x_alloc (C := [.bool false, .int .i64 0, .int .i64 0, .string ⟨#[]⟩]) hS85 ti52 rfl) rfl ?_
            rintro _ w107 ⟨b11, rfl, hS108⟩
            refine ⟨hS108.drop1.drop1, ?_⟩
            refine g_one 2 (by decide +kernel) (by decide +kernel) ?_; refine o_call rfl (r_call fn36 rfl rfl) rfl (decP_ok rs pa rs.length pc (gt qs i) _ (hrs.st hS108) rfl (by omega) (fun r hr' => (hall r hr').st hS108) (hw _ (gt_mem qs i (by omega))) (hA _ (hS108.hold fun x hx => by simp [hx]) _ (gt_mem qs i (by omega)))) ?_; rintro _ w109 ⟨ru1, rfl, hx110⟩
            have hS111 := hS108.ext hx110
            refine ⟨hS111.drop1.drop1, ?_⟩
            refine g_one 5 (by decide +kernel) (by decide +kernel) ?_; refine o_call rfl (r_call fn36 rfl rfl) rfl (decP_ok rt ta rt.length tc (gt qs i) _ (hrt.st hS111) rfl (by omega) (fun r hr' => (hallt r hr').st hS111) (hw _ (gt_mem qs i (by omega))) (hA _ (hS111.hold fun x hx => by simp [hx]) _ (gt_mem qs i (by omega)))) ?_; rintro _ w112 ⟨ru2, rfl, hx113⟩
            have hS114 := hS111.ext hx113
            refine ⟨hS114.drop1.drop1, ?_⟩
            refine g_tail (by decide +kernel) rfl (by decide +kernel) ?_; refine wl_exs (x_storeW [_] hS114 ti52 rfl rfl rfl rfl one_dec) rfl ?_; intro w115 hS116; simp only [List.cons_append, List.nil_append] at hS116; refine wl_exs (x_storeW [] hS116 ti52 rfl rfl rfl rfl one_dec) rfl ?_; intro w117 hS118; simp only [List.cons_append, List.nil_append] at hS118; refine wl_nil ?_; refine c_then ?_
            exact ⟨_, rfl, ⟨b10, b11, ru1, ru2, rfl, rfl, (hS118.perm ((List.Perm.cons _ ((List.Perm.cons _ (List.Perm.refl _)).trans (List.perm_middle (l₁ := [_])).symm)).trans (List.perm_middle (l₁ := [_, _])).symm)).drop1⟩, ⟨rfl, rfl, rfl, rfl, rfl, rfl, rfl, trivial⟩⟩
        · refine o_exv rfl (x_alloc (C := [.bool false, .int .i64 0, .int .i64 0, .string ⟨#[]⟩]) hS21 ti52 rfl) rfl ?_
          rintro _ w119 ⟨b11, rfl, hS120⟩
          refine ⟨hS120.drop1, ?_⟩
          refine g_all (rs := [2, 6]) (by decide +kernel) (by decide +kernel) rfl ?_
          simp only [List.forall_mem_cons, List.not_mem_nil, false_imp_iff, implies_true, and_true]
          refine ⟨?_, ?_⟩
          · refine o_call rfl (r_call fn36 rfl rfl) rfl (decP_ok rs pa rs.length pc (gt qs i) _ (hrs.st hS120) rfl (by omega) (fun r hr' => (hall r hr').st hS120) (hw _ (gt_mem qs i (by omega))) (hA _ (hS120.hold fun x hx => by simp [hx]) _ (gt_mem qs i (by omega)))) ?_
            rintro _ w121 ⟨ru1, rfl, hx122⟩
            have hS123 := hS120.ext hx122
            refine ⟨hS123.drop1, ?_⟩
            refine g_all (rs := [5, 6]) (by decide +kernel) (by decide +kernel) rfl ?_
            simp only [List.forall_mem_cons, List.not_mem_nil, false_imp_iff, implies_true, and_true]
            refine ⟨?_, ?_⟩
            · refine o_call rfl (r_call fn36 rfl rfl) rfl (decP_ok rt ta rt.length tc (gt qs i) _ (hrt.st hS123) rfl (by omega) (fun r hr' => (hallt r hr').st hS123) (hw _ (gt_mem qs i (by omega))) (hA _ (hS123.hold fun x hx => by simp [hx]) _ (gt_mem qs i (by omega)))) ?_
              rintro _ w124 ⟨ru2, rfl, hx125⟩
              have hS126 := hS123.ext hx125
              refine ⟨hS126.drop1, ?_⟩
              refine g_one 6 (by decide +kernel) (by decide +kernel) ?_; refine o_exv rfl (x_alloc (C := [.bool false, .int .i64 0, .int .i64 0, .string ⟨#[]⟩]) hS126 ti52 rfl) rfl ?_; rintro _ w127 ⟨b10, rfl, hS128⟩
              refine ⟨hS128.drop1.drop1, ?_⟩
              refine g_tail (by decide +kernel) rfl (by decide +kernel) ?_; refine wl_exs (x_storeW [] hS128 ti52 rfl rfl rfl rfl one_dec) rfl ?_; intro w129 hS130; simp only [List.cons_append, List.nil_append] at hS130; refine wl_exs (x_storeW [_] hS130 ti52 rfl rfl rfl rfl one_dec) rfl ?_; intro w131 hS132; simp only [List.cons_append, List.nil_append] at hS132; refine wl_nil ?_; refine c_then ?_
              exact ⟨_, rfl, ⟨b10, b11, ru1, ru2, rfl, rfl, (hS132.perm ((List.Perm.cons _ (List.Perm.refl _)).trans (List.perm_middle (l₁ := [_, _])).symm)).drop1⟩, ⟨rfl, rfl, rfl, rfl, rfl, rfl, rfl, trivial⟩⟩
            · refine o_exv rfl (x_alloc (C := [.bool false, .int .i64 0, .int .i64 0, .string ⟨#[]⟩]) hS123 ti52 rfl) rfl ?_
              rintro _ w133 ⟨b10, rfl, hS134⟩
              refine ⟨hS134.drop1.drop1, ?_⟩
              refine g_one 5 (by decide +kernel) (by decide +kernel) ?_; refine o_call rfl (r_call fn36 rfl rfl) rfl (decP_ok rt ta rt.length tc (gt qs i) _ (hrt.st hS134) rfl (by omega) (fun r hr' => (hallt r hr').st hS134) (hw _ (gt_mem qs i (by omega))) (hA _ (hS134.hold fun x hx => by simp [hx]) _ (gt_mem qs i (by omega)))) ?_; rintro _ w135 ⟨ru2, rfl, hx136⟩
              have hS137 := hS134.ext hx136
              refine ⟨hS137.drop1.drop1, ?_⟩
              refine g_tail (by decide +kernel) rfl (by decide +kernel) ?_; refine wl_exs (x_storeW [] hS137 ti52 rfl rfl rfl rfl one_dec) rfl ?_; intro w138 hS139; simp only [List.cons_append, List.nil_append] at hS139; refine wl_exs (x_storeW [_] hS139 ti52 rfl rfl rfl rfl one_dec) rfl ?_; intro w140 hS141; simp only [List.cons_append, List.nil_append] at hS141; refine wl_nil ?_; refine c_then ?_
              exact ⟨_, rfl, ⟨b10, b11, ru1, ru2, rfl, rfl, (hS141.perm ((List.Perm.cons _ (List.Perm.refl _)).trans (List.perm_middle (l₁ := [_, _])).symm)).drop1⟩, ⟨rfl, rfl, rfl, rfl, rfl, rfl, rfl, trivial⟩⟩
          · refine o_exv rfl (x_alloc (C := [.bool false, .int .i64 0, .int .i64 0, .string ⟨#[]⟩]) hS120 ti52 rfl) rfl ?_
            rintro _ w142 ⟨b10, rfl, hS143⟩
            refine ⟨hS143.drop1.drop1, ?_⟩
            refine g_one 2 (by decide +kernel) (by decide +kernel) ?_; refine o_call rfl (r_call fn36 rfl rfl) rfl (decP_ok rs pa rs.length pc (gt qs i) _ (hrs.st hS143) rfl (by omega) (fun r hr' => (hall r hr').st hS143) (hw _ (gt_mem qs i (by omega))) (hA _ (hS143.hold fun x hx => by simp [hx]) _ (gt_mem qs i (by omega)))) ?_; rintro _ w144 ⟨ru1, rfl, hx145⟩
            have hS146 := hS143.ext hx145
            refine ⟨hS146.drop1.drop1, ?_⟩
            refine g_one 5 (by decide +kernel) (by decide +kernel) ?_; refine o_call rfl (r_call fn36 rfl rfl) rfl (decP_ok rt ta rt.length tc (gt qs i) _ (hrt.st hS146) rfl (by omega) (fun r hr' => (hallt r hr').st hS146) (hw _ (gt_mem qs i (by omega))) (hA _ (hS146.hold fun x hx => by simp [hx]) _ (gt_mem qs i (by omega)))) ?_; rintro _ w147 ⟨ru2, rfl, hx148⟩
            have hS149 := hS146.ext hx148
            refine ⟨hS149.drop1.drop1, ?_⟩
            refine g_tail (by decide +kernel) rfl (by decide +kernel) ?_; refine wl_exs (x_storeW [] hS149 ti52 rfl rfl rfl rfl one_dec) rfl ?_; intro w150 hS151; simp only [List.cons_append, List.nil_append] at hS151; refine wl_exs (x_storeW [_] hS151 ti52 rfl rfl rfl rfl one_dec) rfl ?_; intro w152 hS153; simp only [List.cons_append, List.nil_append] at hS153; refine wl_nil ?_; refine c_then ?_
            exact ⟨_, rfl, ⟨b10, b11, ru1, ru2, rfl, rfl, (hS153.perm ((List.Perm.cons _ (List.Perm.refl _)).trans (List.perm_middle (l₁ := [_, _])).symm)).drop1⟩, ⟨rfl, rfl, rfl, rfl, rfl, rfl, rfl, trivial⟩⟩
      · rintro e16 w17 ⟨b10, b11, ru1, ru2, hc19_10, hc19_11, hS18⟩ -
        refine c_set (d := 10) hc19_10 ?_; refine c_set (d := 11) hc19_11 ?_; refine c_seq ?_
        rcases bool4 (decB rs (gt qs i).b).1 (decB rt (gt qs i).b).1 with ⟨hx, hy⟩ | ⟨hx, hy⟩ | hx
        · refine c_region ?_
          refine wl_val (r_field fa52_0 rfl) rfl ?_; refine wl_val (r_loadB1 ti4.und rfl rfl (hS18.heap (.head _)) (by first | exact dec_al_t hx | exact dec_al_f hx)) rfl ?_; refine wl_val (r_move (v := .bool _) rfl) rfl ?_; refine wl_val (r_field fa52_0 rfl) rfl ?_; refine wl_val (r_loadB1 ti4.und rfl rfl (hS18.heap (.tail _ (.head _))) (by first | exact dec_al_t hy | exact dec_al_f hy)) rfl ?_; refine wl_val (r_not rfl) rfl ?_; refine wl_val (r_move (v := .bool _) rfl) rfl ?_; refine wl_val (r_field fa52_2 rfl) rfl ?_; refine wl_val (r_loadB1 ti3.und rfl rfl (hS18.heap (.head _)) rfl) rfl ?_; refine wl_val (r_field fa52_2 rfl) rfl ?_; refine wl_val (r_loadB1 ti3.und rfl rfl (hS18.heap (.tail _ (.head _))) rfl) rfl ?_
          refine wl_dec (r_lss rfl rfl) rfl (fun h8_11 => ?_) (fun h8_11 => ?_)
          · refine wl_val (r_pick_f rfl (v := .bool _) rfl) rfl ?_
            refine wl_val (r_pick_t rfl (v := .bool _) rfl) rfl ?_; refine wl_nil ?_; refine c_then ?_; refine c_true rfl ?_; refine c_seq ?_; refine c_region ?_; refine wl_val (r_assign (v := .bool false) rfl) rfl ?_; refine wl_val (r_assign (v := .int .i64 0) rfl) rfl ?_; refine wl_nil ?_; refine c_then ?_; refine wp_ret ?_; refine c_inR ?_; refine c_thenR ?_; refine c_thenR ?_; refine c_inR ?_; refine c_thenR ?_; refine ret2 Tryz.results13 rfl rfl ?_
            have hno : (worldBs (rs ++ rt)).all (strictB rs rt) = false := all_not (i := i) (by rw [b_len hb]; omega) (by rw [← hbi]; first | exact less_f hx hy | exact less_lt hx hy h8_11)
            exact .inr ⟨hce, by rw [hno]; rfl, hS18.fin⟩
          refine wl_val (r_pick_f rfl (v := .bool _) rfl) rfl ?_; refine wl_val (r_pick_t rfl (v := .bool _) rfl) rfl ?_; refine wl_nil ?_; refine c_then ?_; refine c_false rfl ?_; refine wp_skip ?_; refine c_inN ?_; refine c_then ?_; refine c_region ?_; refine wl_val (r_addn (b := 1) rfl rfl (by omega)) rfl ?_; refine wl_val (r_move (v := .int .i64 _) rfl) rfl ?_; refine wl_nil ?_; refine c_then ?_
          exact ⟨qs.length - (i + 1), _, by omega, rfl, ⟨i + 1, rfl, rfl, hS18.drop1.drop1, by omega, all_step (by rw [b_len hb]; omega) hal (by rw [← hbi]; first | exact less_n hx | exact less_ge hx hy h8_11)⟩, ⟨rfl, rfl, rfl, rfl, trivial⟩⟩
        · refine c_region ?_
          refine wl_val (r_field fa52_0 rfl) rfl ?_; refine wl_val (r_loadB1 ti4.und rfl rfl (hS18.heap (.head _)) (by first | exact dec_al_t hx | exact dec_al_f hx)) rfl ?_; refine wl_val (r_move (v := .bool _) rfl) rfl ?_; refine wl_val (r_field fa52_0 rfl) rfl ?_; refine wl_val (r_loadB1 ti4.und rfl rfl (hS18.heap (.tail _ (.head _))) (by first | exact dec_al_t hy | exact dec_al_f hy)) rfl ?_; refine wl_val (r_not rfl) rfl ?_; refine wl_val (r_move (v := .bool _) rfl) rfl ?_; refine wl_not rfl ?_; refine wl_not rfl ?_; refine wl_not rfl ?_; refine wl_not rfl ?_; refine wl_not rfl ?_; refine wl_val (r_pick_t rfl (v := .bool true) rfl) rfl ?_; refine wl_val (r_pick_t rfl (v := .bool _) rfl) rfl ?_; refine wl_nil ?_; refine c_then ?_; refine c_true rfl ?_; refine c_seq ?_; refine c_region ?_; refine wl_val (r_assign (v := .bool false) rfl) rfl ?_; refine wl_val (r_assign (v := .int .i64 0) rfl) rfl ?_; refine wl_nil ?_; refine c_then ?_; refine wp_ret ?_; refine c_inR ?_; refine c_thenR ?_; refine c_thenR ?_; refine c_inR ?_; refine c_thenR ?_; refine ret2 Tryz.results13 rfl rfl ?_
          have hno : (worldBs (rs ++ rt)).all (strictB rs rt) = false := all_not (i := i) (by rw [b_len hb]; omega) (by rw [← hbi]; first | exact less_f hx hy | exact less_lt hx hy h8_11)
          exact .inr ⟨hce, by rw [hno]; rfl, hS18.fin⟩
        refine c_region ?_; refine wl_val (r_field fa52_0 rfl) rfl ?_; refine wl_val (r_loadB1 ti4.und rfl rfl (hS18.heap (.head _)) (by first | exact dec_al_t hx | exact dec_al_f hx)) rfl ?_; refine wl_val (r_move (v := .bool _) rfl) rfl ?_; refine wl_not rfl ?_; refine wl_not rfl ?_; refine wl_not rfl ?_; refine wl_not rfl ?_; refine wl_not rfl ?_; refine wl_not rfl ?_; refine wl_not rfl ?_; refine wl_not rfl ?_; refine wl_not rfl ?_; refine wl_not rfl ?_; refine wl_val (r_pick_f rfl (v := .bool false) rfl) rfl ?_; refine wl_nil ?_; refine c_then ?_; refine c_false rfl ?_; refine wp_skip ?_; refine c_inN ?_; refine c_then ?_; refine c_region ?_; refine wl_val (r_addn (b := 1) rfl rfl (by omega)) rfl ?_; refine wl_val (r_move (v := .int .i64 _) rfl) rfl ?_; refine wl_nil ?_; refine c_then ?_
        exact ⟨qs.length - (i + 1), _, by omega, rfl, ⟨i + 1, rfl, rfl, hS18.drop1.drop1, by omega, all_step (by rw [b_len hb]; omega) hal (by rw [← hbi]; first | exact less_n hx | exact less_ge hx hy h8_11)⟩, ⟨rfl, rfl, rfl, rfl, trivial⟩⟩
    refine wl_nil ?_; refine c_then ?_; refine c_seq ?_; refine c_false rfl ?_; refine wp_exit ?_; refine c_thenE ?_; refine c_thenE ?_; refine c_inE ?_; refine c_then ?_; refine c_seq ?_; refine c_region ?_; refine wl_val (r_assign (v := .bool true) rfl) rfl ?_; refine wl_val (r_assign (v := .int .i64 0) rfl) rfl ?_; refine wl_nil ?_; refine c_then ?_; refine wp_ret ?_; refine ret2 Tryz.results13 rfl rfl ?_
    obtain rfl : i = qs.length := by omega
    rw [← b_len hb, List.take_length] at hal
    exact .inr ⟨hce, by rw [hal]; rfl, hS10.fin⟩

set_option maxHeartbeats 4000000 in
theorem Differ_ok (rs : List RuleD) (pa : Option Addr) (pc : Nat) (rt : List RuleD) (ta : Option Addr) (tc : Nat) (w : World) (hrs : Row w pa (rs.flatMap RuleD.v)) (hall : ∀ r ∈ rs, RuleAt w r) (h20 : rs.length ≤ 20) (hrt : Row w ta (rt.flatMap RuleD.v)) (hallt : ∀ r ∈ rt, RuleAt w r) (t20 : rt.length ≤ 20) :
    Ret Tryz.prog 12 [.agg #[.slice pa rs.length pc], .agg #[.slice ta rt.length tc]] w (fun v w' => (¬ comE rs rt = 0 ∧ v = .tuple #[.agg zWA.v.toArray, .bool false, .int .i64 (comE rs rt)] ∧ St w [] w' []) ∨ ((comE rs rt = 0 ∧ ∀ j, j < (worldBs (rs ++ rt)).length → decB rs (gt (worldBs (rs ++ rt)) j) = decB rt (gt (worldBs (rs ++ rt)) j)) ∧ v = .tuple #[.agg zWA.v.toArray, .bool false, vi 0] ∧ St w [] w' []) ∨ (comE rs rt = 0 ∧ ∃ (i : Nat) (x : WA), i < (worldBs (rs ++ rt)).length ∧ (∀ j, j < i → decB rs (gt (worldBs (rs ++ rt)) j) = decB rt (gt (worldBs (rs ++ rt)) j)) ∧ ¬ decB rs (gt (worldBs (rs ++ rt)) i) = decB rt (gt (worldBs (rs ++ rt)) i) ∧ x.b = gt (worldBs (rs ++ rt)) i ∧ x.ro.length ≤ 1000000 ∧ v = .tuple #[.agg x.v.toArray, .bool true, vi 0] ∧ St w [] w' [.row (.slice x.ra x.ro.length x.rc) 9 1 x.ro.length (x.ro.map sv)])) := by
  refine enter Tryz.func12 rfl Tryz.ntmps12 rfl ?_
  have hS := St.refl w []
  refine c_seq ?_; refine c_region ?_; refine wl_exv (x_box hS (v := .agg _) rfl rfl) rfl ?_; rintro _ w1 ⟨b2, rfl, hS2⟩; refine wl_exv (x_box hS2 (v := .agg _) rfl rfl) rfl ?_; rintro _ w3 ⟨b3, rfl, hS4⟩; refine wl_exv (x_alloc (C := [.int .u8 0, .int .u8 0, .int .u8 0, .int .u8 0, .int .u8 0, .int .u8 0, .int .u8 0, .int .u8 0, .int .u8 0, .int .u8 0, .int .u8 0, .int .u8 0, .int .u8 0, .int .u8 0, .int .u8 0, .int .u8 0, .slice none 0 0, .int .i64 0, .string ⟨#[]⟩, .int .u8 0, .int .u8 0, .int .u8 0, .int .u8 0, .int .u8 0, .int .u8 0, .int .u8 0, .int .u8 0, .int .u8 0, .int .u8 0, .int .u8 0, .int .u8 0, .int .u8 0, .int .u8 0, .int .u8 0, .int .u8 0, .int .i64 0, .int .u8 0, .int .u8 0, .int .u8 0, .int .u8 0, .int .u8 0, .int .u8 0, .int .u8 0, .int .u8 0, .int .u8 0, .int .u8 0, .int .u8 0, .int .u8 0, .int .u8 0, .int .u8 0, .int .u8 0, .int .u8 0, .int .u8 0, .int .u8 0, .int .u8 0, .int .u8 0, .int .u8 0, .int .u8 0, .int .u8 0, .int .u8 0, .int .u8 0, .int .u8 0, .int .u8 0, .int .u8 0, .int .u8 0, .int .u8 0, .int .u8 0, .int .u8 0]) hS4 ti40 rfl) rfl ?_; rintro _ w5 ⟨b4, rfl, hS6⟩; refine wl_val (r_assign (v := .bool false) rfl) rfl ?_; refine wl_val (r_assign (v := .int .i64 0) rfl) rfl ?_; refine wl_nil ?_; refine c_then ?_; refine c_seq ?_; refine c_region ?_; refine wl_val (r_loadB ti24 ag24 rfl (hS6.heap (.tail _ (.tail _ (.head _)))) (by first | (simp [*]; done) | (simp [*] <;> omega) | omega)) rfl ?_; refine wl_val (r_loadB ti24 ag24 rfl (hS6.heap (.tail _ (.head _))) (by first | (simp [*]; done) | (simp [*] <;> omega) | omega)) rfl ?_
  refine wl_call (r_call fn34 rfl rfl) rfl (common_ok rs pa pc rt ta tc _ (hrs.st hS6) (fun r hr' => (hall r hr').st hS6) h20 (hrt.st hS6) (fun r hr' => (hallt r hr').st hS6) t20) ?_
  rintro _ w7 (⟨hce, rfl, hx8⟩ | ⟨hce, qs, aQ, cQ, LT, hA, hb, hw, hql, rfl, hcQ, hx8⟩)
  · have hS9 := hS6.ext hx8
    refine wl_val (r_move (v := .tuple _) rfl) rfl ?_; refine wl_val (r_extract (v := .slice _ _ _) rfl rfl) rfl ?_; refine wl_val (r_extract (v := .int .i64 _) rfl rfl) rfl ?_; refine wl_val (r_assign (v := .slice _ _ _) rfl) rfl ?_; refine wl_val (r_assign (v := .int .i64 _) rfl) rfl ?_; refine wl_nil ?_; refine c_then ?_; refine c_seq ?_; refine c_seq ?_; refine c_region ?_; refine wl_val (r_move (v := .int .i64 _) rfl) rfl ?_; refine wl_dec_t (r_neq rfl rfl) rfl hce ?_; refine wl_nil ?_; refine c_then ?_; refine c_true rfl ?_; refine c_seq ?_; refine c_region ?_; refine wl_val (r_buildZ pl40 ti40) rfl ?_; refine wl_val (r_move (v := .int .i64 _) rfl) rfl ?_; refine wl_exs (x_storeW [] hS9 ti40 rfl rfl rfl rfl (one_wa zWA)) rfl ?_; intro w10 hS11; simp only [List.cons_append, List.nil_append] at hS11; refine wl_val (r_assign (v := .bool false) rfl) rfl ?_; refine wl_val (r_assign (v := .int .i64 _) rfl) rfl ?_; refine wl_nil ?_; refine c_then ?_; refine wp_ret ?_; refine c_thenR ?_; refine ret3 Tryz.results12 ⟨_, rfl, run_loadVar_blk ti40 ag40 (hS11.heap (.head _)) (by first | rfl | exact wa_v68 _)⟩ rfl rfl ?_
    exact .inl ⟨hce, rfl, hS11.fin⟩
  have hS9 := St.callT (X := [_]) (LT := LT) hS6 hx8
  simp only [List.cons_append, List.nil_append] at hS9; refine wl_val (r_move (v := .tuple _) rfl) rfl ?_; refine wl_val (r_extract (v := .slice _ _ _) rfl rfl) rfl ?_; refine wl_val (r_extract (v := .int .i64 _) rfl rfl) rfl ?_; refine wl_val (r_assign (v := .slice _ _ _) rfl) rfl ?_; refine wl_val (r_assign (v := .int .i64 _) rfl) rfl ?_; refine wl_nil ?_; refine c_then ?_; refine c_seq ?_; refine c_seq ?_; refine c_region ?_; refine wl_val (r_move (v := .int .i64 _) rfl) rfl ?_; refine wl_dec_f (r_neq rfl rfl) rfl (by decide) ?_; refine wl_nil ?_; refine c_then ?_; refine c_false rfl ?_; refine wp_skip ?_; refine c_then ?_; refine c_seq ?_; refine c_seq ?_; refine c_region ?_; refine wl_val (r_move (v := .slice _ _ _) rfl) rfl ?_; refine wl_val (r_len (T := 26) rfl ti26.und rfl _ rfl) rfl ?_; refine wl_val (r_move (v := .int .i64 0) rfl) rfl ?_; refine wl_nil ?_; refine c_then ?_; refine c_block ?_; refine c_loopE [2, 3, 4, 21, 22] (fun d e w' => ∃ (i : Nat), Kw.look e 23 = vi i ∧ d = qs.length - i ∧ St w [] w' (.row (.slice aQ qs.length cQ) 40 68 qs.length (qs.flatMap WA.v) :: .blk b4 (cl zWA.v 40) :: .blk b3 (cl [.slice ta rt.length tc] 24) :: .blk b2 (cl [.slice pa rs.length pc] 24) :: LT) ∧ (i ≤ qs.length) ∧ (∀ j, j < i → decB rs (gt (worldBs (rs ++ rt)) j) = decB rt (gt (worldBs (rs ++ rt)) j))) (qs.length - 0) ?_ ?_
  · exact ⟨0, rfl, rfl, hS9, Nat.zero_le _, fun j hj => absurd hj (Nat.not_lt_zero _)⟩
  · rintro d15 e12 w13 ⟨i, hc0_23, rfl, hS14, hi, hsm⟩ -
    refine c_set (d := 23) hc0_23 ?_; refine c_seq ?_; refine c_region ?_
    refine wl_dec (r_lss rfl rfl) rfl (fun h5_0 => ?_) (fun h5_0 => ?_)
    · refine wl_nil ?_
      refine c_then ?_; refine c_seq ?_; refine c_true rfl ?_; refine wp_skip ?_; refine c_then ?_; refine c_seq ?_; refine c_block ?_; refine c_seq ?_
      have hbi := b_at hb (i := i) (by omega)
      refine c_region ?_; refine wl_val (r_ixF wa_v68 ti26.und ti40 rfl rfl (St.rowAt hS14 (.head _)) (by first | (simp [*]; done) | (simp [*] <;> omega) | omega) (by first | omega | (simp [*]; done) | (simp [*] <;> omega)) (by decide)) rfl ?_; refine wl_val (r_loadF wa_v68 ti40 ag40 rfl (St.rowAt hS14 (.head _)) (by first | omega | (simp [*]; done) | (simp [*] <;> omega)) (by decide)) rfl ?_; refine wl_exv (x_alloc (C := [.int .u8 0, .int .u8 0, .int .u8 0, .int .u8 0, .int .u8 0, .int .u8 0, .int .u8 0, .int .u8 0, .int .u8 0, .int .u8 0, .int .u8 0, .int .u8 0, .int .u8 0, .int .u8 0, .int .u8 0, .int .u8 0, .slice none 0 0, .int .i64 0, .string ⟨#[]⟩, .int .u8 0, .int .u8 0, .int .u8 0, .int .u8 0, .int .u8 0, .int .u8 0, .int .u8 0, .int .u8 0, .int .u8 0, .int .u8 0, .int .u8 0, .int .u8 0, .int .u8 0, .int .u8 0, .int .u8 0, .int .u8 0, .int .i64 0, .int .u8 0, .int .u8 0, .int .u8 0, .int .u8 0, .int .u8 0, .int .u8 0, .int .u8 0, .int .u8 0, .int .u8 0, .int .u8 0, .int .u8 0, .int .u8 0, .int .u8 0, .int .u8 0, .int .u8 0, .int .u8 0, .int .u8 0, .int .u8 0, .int .u8 0, .int .u8 0, .int .u8 0, .int .u8 0, .int .u8 0, .int .u8 0, .int .u8 0, .int .u8 0, .int .u8 0, .int .u8 0, .int .u8 0, .int .u8 0, .int .u8 0, .int .u8 0]) hS14 ti40 rfl) rfl ?_; rintro _ w16 ⟨b10, rfl, hS17⟩; refine wl_exs (x_storeW [] hS17 ti40 rfl rfl (wa_v68 _) rfl (one_wa _)) rfl ?_; intro w18 hS19; simp only [List.cons_append, List.nil_append] at hS19; refine wl_nil ?_; refine c_then ?_; refine c_seq ?_
      refine c_drawS 5 hMixed hS19 ?_; intro w20 hS21; refine g_take 0 rfl (by decide +kernel) rfl (fun _ _ _ h => h) hS21 (fun wF hF => r_loadB ti24 ag24 rfl (hF.heap (.tail _ (.tail _ (.tail _ (.tail _ (.head _)))))) (by first | (simp [*]; done) | (simp [*] <;> omega) | omega)) ?_; refine g_take 1 rfl (by decide +kernel) rfl (fun _ _ _ h => h) hS21 (fun wF hF => r_loadB ti40 ag40 rfl (hF.heap (.head _)) (wa_v68 _)) ?_; refine g_take 3 rfl (by decide +kernel) rfl (fun _ _ _ h => h) hS21 (fun wF hF => r_loadB ti24 ag24 rfl (hF.heap (.tail _ (.tail _ (.tail _ (.head _))))) (by first | (simp [*]; done) | (simp [*] <;> omega) | omega)) ?_; refine g_take 4 rfl (by decide +kernel) rfl (fun _ _ _ h => h) hS21 (fun wF hF => r_loadB ti40 ag40 rfl (hF.heap (.head _)) (wa_v68 _)) ?_; refine g_one 2 (by decide +kernel) (by decide +kernel) ?_; refine o_call rfl (r_call fn36 rfl rfl) rfl (decP_ok rs pa rs.length pc (gt qs i) _ (hrs.st hS21) rfl (by omega) (fun r hr' => (hall r hr').st hS21) (hw _ (gt_mem qs i (by omega))) (hA _ (hS21.hold fun x hx => by simp [hx]) _ (gt_mem qs i (by omega)))) ?_; rintro _ w22 ⟨ru1, rfl, hx23⟩
      have hS24 := hS21.ext hx23
      refine ⟨hS24, ?_⟩
      refine g_tail (by decide +kernel) rfl (by decide +kernel) ?_; refine wl_call (r_call fn36 rfl rfl) rfl (decP_ok rt ta rt.length tc (gt qs i) _ (hrt.st hS24) rfl (by omega) (fun r hr' => (hallt r hr').st hS24) (hw _ (gt_mem qs i (by omega))) (hA _ (hS24.hold fun x hx => by simp [hx]) _ (gt_mem qs i (by omega)))) ?_; rintro _ w25 ⟨ru2, rfl, hx26⟩
      have hS27 := hS24.ext hx26
      refine wl_call (r_call fn35 rfl rfl) rfl (sameDec_ok _ _ _ _ _ _ _ _ _) ?_
      rintro _ w28 (⟨hd, rfl, hx29⟩ | ⟨hd, rfl, hx29⟩)
      · have hS30 := hS27.ext hx29
        refine wl_val (r_not rfl) rfl ?_; refine wl_nil ?_; refine c_then ?_; refine c_false rfl ?_; refine wp_skip ?_; refine c_inN ?_; refine c_then ?_; refine c_region ?_; refine wl_val (r_addn (b := 1) rfl rfl (by omega)) rfl ?_; refine wl_val (r_move (v := .int .i64 _) rfl) rfl ?_; refine wl_nil ?_; refine c_then ?_
        exact ⟨qs.length - (i + 1), _, by omega, rfl, ⟨i + 1, rfl, rfl, hS30.drop1, by omega, fun j hj => (Nat.lt_succ_iff_lt_or_eq.1 hj).elim (hsm j) (fun e => by rw [e, ← hbi]; exact hd)⟩, ⟨rfl, rfl, rfl, rfl, rfl, trivial⟩⟩
      have hS30 := hS27.ext hx29
      refine wl_val (r_not rfl) rfl ?_; refine wl_nil ?_; refine c_then ?_; refine c_true rfl ?_; refine c_seq ?_
      have hro : (gt qs i).ro.length ≤ 1000000 := by have := asks_ro hb _ (gt_mem qs i (by omega)); have := wR_len (polE_zero (pol_app (comE_z hce).1 (comE_z hce).2.1 h20 t20)).2 (by rw [List.length_append]; omega); omega
      refine c_region ?_; refine wl_val (r_field fa40_1 rfl) rfl ?_; refine wl_val (r_loadB1 ti36.und rfl rfl (hS30.heap (.head _)) rfl) rfl ?_; refine wl_call (r_call fn25 rfl rfl) rfl (cloneS_ok (gt qs i).ro (gt qs i).ra (gt qs i).ro.length (gt qs i).rc _ (hA _ (hS30.hold fun x hx => by simp [hx]) _ (gt_mem qs i (by omega))) rfl (by omega)) ?_; rintro _ w31 ⟨aN, cN, rfl, hcN, hx32⟩
      have hS33 := hS30.call hx32
      simp only [List.cons_append, List.nil_append] at hS33; refine wl_val (r_field fa40_1 rfl) rfl ?_; refine wl_exs (x_store1 (o := 16) (v := .slice aN (gt qs i).ro.length cN) [_] hS33 ti36 rfl rfl rfl (by rw [wa_v68]; decide)) rfl ?_; intro w34 hS35; simp only [List.cons_append, List.nil_append] at hS35
      rw [wa_set16] at hS35
      refine wl_nil ?_; refine c_then ?_; refine c_seq ?_; refine c_region ?_; refine wl_val (r_loadB ti40 ag40 rfl (hS35.heap (.tail _ (.head _))) (wa_v68 _)) rfl ?_; refine wl_exs (x_storeW [_, _, _] hS35 ti40 rfl rfl (wa_v68 _) rfl (one_wa _)) rfl ?_; intro w36 hS37; simp only [List.cons_append, List.nil_append] at hS37; refine wl_val (r_assign (v := .bool true) rfl) rfl ?_; refine wl_val (r_assign (v := .int .i64 0) rfl) rfl ?_; refine wl_nil ?_; refine c_then ?_; refine wp_ret ?_; refine c_inR ?_; refine c_thenR ?_; refine c_thenR ?_; refine c_inR ?_; refine c_thenR ?_; refine ret3 Tryz.results12 ⟨_, rfl, run_loadVar_blk ti40 ag40 (hS37.heap (.tail _ (.tail _ (.tail _ (.head _))))) (by first | rfl | exact wa_v68 _)⟩ rfl rfl ?_
      exact .inr (.inr ⟨hce, i, (gt qs i).to aN cN, by rw [b_len hb]; omega, hsm, by rw [← hbi]; exact hd, hbi, hro, rfl, (St.front [_] (hS37.perm ((List.Perm.cons _ ((List.Perm.cons _ ((List.Perm.cons _ ((List.Perm.cons _ ((List.Perm.cons _ (List.Perm.refl _)).trans (List.perm_middle (l₁ := [_])).symm)).trans (List.perm_middle (l₁ := [_])).symm)).trans (List.perm_middle (l₁ := [_])).symm)).trans (List.perm_middle (l₁ := [_])).symm)).trans (List.perm_middle (l₁ := [_])).symm)).drop1.drop1.drop1.drop1.drop1)⟩)
    refine wl_nil ?_; refine c_then ?_; refine c_seq ?_; refine c_false rfl ?_; refine wp_exit ?_; refine c_thenE ?_; refine c_thenE ?_; refine c_inE ?_; refine c_then ?_; refine c_seq ?_; refine c_region ?_; refine wl_val (r_buildZ pl40 ti40) rfl ?_; refine wl_exs (x_storeW [_] hS14 ti40 rfl rfl rfl rfl (one_wa zWA)) rfl ?_; intro w38 hS39; simp only [List.cons_append, List.nil_append] at hS39; refine wl_val (r_assign (v := .bool false) rfl) rfl ?_; refine wl_val (r_assign (v := .int .i64 0) rfl) rfl ?_; refine wl_nil ?_; refine c_then ?_; refine wp_ret ?_; refine ret3 Tryz.results12 ⟨_, rfl, run_loadVar_blk ti40 ag40 (hS39.heap (.tail _ (.head _))) (by first | rfl | exact wa_v68 _)⟩ rfl rfl ?_
    obtain rfl : i = qs.length := by omega
    exact .inr (.inl ⟨⟨hce, fun j hj => hsm j (by rw [b_len hb] at hj; exact hj)⟩, rfl, hS39.fin⟩)

end Go.Proofs.YtmonnmndphlkaaaGreat
end
