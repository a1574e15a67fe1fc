/- Rules checked. No condition. -/
import Derived.Test.YtafdmlpfgpaicaaFacts
import Derived.Test.YtafdmlpfgpaicaaAskB
namespace Go.Proofs.Ytafdmlpfgpaicaa
open Go.Kw
set_option linter.unusedVariables false
set_option linter.unusedSimpArgs false
set_option maxRecDepth 100000
set_option maxHeartbeats 4000000 in
theorem ruleFault_ok (r : RuleD) (w : World) (hk : RuleOk r) (h1 : Row w r.ra (r.ro.map sv)) (h2 : Row w r.aa (r.acs.map iv)) (h3 : Row w r.la (r.las.map sv)) :
    Ret Try.prog 46 [.agg r.v.toArray] w (fun v w' => v = .int .i64 (ruleE r) ∧ St w [] w' []) := by
  refine enter Try.func46 rfl Try.ntmps46 rfl ?_
  have hS := St.refl w []
  refine c_seq ?_
  refine c_region ?_
  refine wl_exv (x_box hS (v := .agg _) rfl rfl) rfl ?_
  rintro _ w1 ⟨b1, rfl, hS2⟩
  refine wl_val (r_assign (v := .int .i64 0) rfl) rfl ?_
  refine wl_nil ?_
  refine c_then ?_
  refine c_seq ?_
  refine c_block ?_
  refine c_seq ?_
  refine c_region ?_
  refine wl_val (r_field fa37_1 rfl) rfl ?_
  refine wl_val (r_loadB1 ti30.und rfl rfl (hS2.heap (.head _)) rfl) rfl ?_
  refine wl_val (r_len (T := 30) rfl ti30.und rfl _ rfl) rfl ?_
  refine wl_dec (r_gtr rfl rfl) rfl (fun h1_3 => ?_) (fun h1_3 => ?_)
  · refine wl_val (r_move (v := .bool _) rfl) rfl ?_
    refine wl_not rfl ?_
    refine wl_not rfl ?_
    refine wl_not rfl ?_
    refine wl_not rfl ?_
    refine wl_val (r_pick_t rfl (v := .bool true) rfl) rfl ?_
    refine wl_val (r_move (v := .bool _) rfl) rfl ?_
    refine wl_not rfl ?_
    refine wl_not rfl ?_
    refine wl_not rfl ?_
    refine wl_not rfl ?_
    refine wl_val (r_pick_t rfl (v := .bool true) rfl) rfl ?_
    refine wl_val (r_assign (v := .bool _) rfl) rfl ?_
    refine wl_nil ?_
    refine c_then ?_
    refine c_true rfl ?_
    refine c_seq ?_
    refine c_region ?_
    refine wl_val (r_assign (v := .int .i64 5) rfl) rfl ?_
    refine wl_nil ?_
    refine c_then ?_
    refine wp_ret ?_
    refine c_inR ?_
    refine c_thenR ?_
    refine ret1 Try.results46 ?_
    first | exact ⟨congrArg (Value.int .i64) (rule_1 (by omega)).symm, hS2.fin⟩ | (exfalso; omega)
  refine wl_val (r_move (v := .bool _) rfl) rfl ?_
  refine wl_val (r_field fa37_2 rfl) rfl ?_
  refine wl_val (r_loadB1 ti35.und rfl rfl (hS2.heap (.head _)) rfl) rfl ?_
  refine wl_val (r_len (T := 35) rfl ti35.und rfl _ rfl) rfl ?_
  refine wl_dec (r_gtr rfl rfl) rfl (fun h1_8 => ?_) (fun h1_8 => ?_)
  · refine wl_val (r_pick_f rfl (v := .bool _) rfl) rfl ?_
    refine wl_val (r_move (v := .bool _) rfl) rfl ?_
    refine wl_not rfl ?_
    refine wl_not rfl ?_
    refine wl_not rfl ?_
    refine wl_not rfl ?_
    refine wl_val (r_pick_t rfl (v := .bool true) rfl) rfl ?_
    refine wl_val (r_assign (v := .bool _) rfl) rfl ?_
    refine wl_nil ?_
    refine c_then ?_
    refine c_true rfl ?_
    refine c_seq ?_
    refine c_region ?_
    refine wl_val (r_assign (v := .int .i64 5) rfl) rfl ?_
    refine wl_nil ?_
    refine c_then ?_
    refine wp_ret ?_
    refine c_inR ?_
    refine c_thenR ?_
    refine ret1 Try.results46 ?_
    first | exact ⟨congrArg (Value.int .i64) (rule_1 (by omega)).symm, hS2.fin⟩ | (exfalso; omega)
  refine wl_val (r_pick_f rfl (v := .bool _) rfl) rfl ?_
  refine wl_val (r_move (v := .bool _) rfl) rfl ?_
  refine wl_val (r_field fa37_3 rfl) rfl ?_
  refine wl_val (r_loadB1 ti30.und rfl rfl (hS2.heap (.head _)) rfl) rfl ?_
  refine wl_val (r_len (T := 30) rfl ti30.und rfl _ rfl) rfl ?_
  refine wl_dec (r_gtr rfl rfl) rfl (fun h1_14 => ?_) (fun h1_14 => ?_)
  · refine wl_val (r_pick_f rfl (v := .bool _) rfl) rfl ?_
    refine wl_val (r_assign (v := .bool _) rfl) rfl ?_
    refine wl_nil ?_
    refine c_then ?_
    refine c_true rfl ?_
    refine c_seq ?_
    refine c_region ?_
    refine wl_val (r_assign (v := .int .i64 5) rfl) rfl ?_
    refine wl_nil ?_
    refine c_then ?_
    refine wp_ret ?_
    refine c_inR ?_
    refine c_thenR ?_
    refine ret1 Try.results46 ?_
    first | exact ⟨congrArg (Value.int .i64) (rule_1 (by omega)).symm, hS2.fin⟩ | (exfalso; omega)
  refine wl_val (r_pick_f rfl (v := .bool _) rfl) rfl ?_
  refine wl_val (r_assign (v := .bool _) rfl) rfl ?_
  refine wl_nil ?_
  refine c_then ?_
  refine c_false rfl ?_
  refine c_seq ?_
  have n1 : ¬ (16 < r.ro.length ∨ 16 < r.acs.length ∨ 16 < r.las.length) := by omega
  refine c_region ?_
  refine wl_val (r_field fa37_1 rfl) rfl ?_
  refine wl_val (r_loadB1 ti30.und rfl rfl (hS2.heap (.head _)) rfl) rfl ?_
  refine wl_call (r_call fn37 rfl rfl) rfl (containsFuncS_ok r.ro r.ra r.ro.length r.rc 28 [] (fun s => !nameE s) _ (h1.st hS2) rfl hk.rn fn28 (fun x w' hx h => notNameB_ok x w' (hk.rl x hx))) ?_
  rintro _ w3 (⟨hcf, rfl, hx4⟩ | ⟨hcf, rfl, hx4⟩)
  · have hS5 := hS2.ext hx4
    refine wl_val (r_move (v := .bool _) rfl) rfl ?_
    refine wl_not rfl ?_
    refine wl_not rfl ?_
    refine wl_not rfl ?_
    refine wl_not rfl ?_
    refine wl_not rfl ?_
    refine wl_not rfl ?_
    refine wl_not rfl ?_
    refine wl_not rfl ?_
    refine wl_val (r_pick_t rfl (v := .bool true) rfl) rfl ?_
    refine wl_val (r_assign (v := .bool _) rfl) rfl ?_
    refine wl_nil ?_
    refine c_then ?_
    refine c_true rfl ?_
    refine c_seq ?_
    refine c_region ?_
    refine wl_val (r_assign (v := .int .i64 6) rfl) rfl ?_
    refine wl_nil ?_
    refine c_then ?_
    refine wp_ret ?_
    refine c_inR ?_
    refine c_thenR ?_
    refine ret1 Try.results46 ?_
    first | exact ⟨congrArg (Value.int .i64) (rule_4 n1 n2 n3 hcf).symm, hS5.fin⟩ | exact ⟨congrArg (Value.int .i64) (rule_2 n1 (.inl hcf)).symm, hS5.fin⟩ | exact ⟨congrArg (Value.int .i64) (rule_2 n1 (.inr ⟨by assumption, hnn⟩)).symm, hS5.fin⟩ | (exfalso; omega)
  have hS5 := hS2.ext hx4
  refine wl_val (r_move (v := .bool _) rfl) rfl ?_
  refine wl_val (r_field fa37_7 rfl) rfl ?_
  refine wl_val (r_loadB1 ti9.und rfl rfl (hS5.heap (.head _)) rfl) rfl ?_
  refine wl_dec (r_neqStrL rfl rfl) rfl (fun h3_6 => ?_) (fun h3_6 => ?_)
  · refine wl_val (r_move (v := .bool _) rfl) rfl ?_
    refine wl_val (r_field fa37_7 rfl) rfl ?_
    refine wl_val (r_loadB1 ti9.und rfl rfl (hS5.heap (.head _)) rfl) rfl ?_
    refine wl_call (r_call fn28 rfl rfl) rfl (notName_ok r.ofr _ hk.ol) ?_
    rintro _ w6 (⟨hnn, rfl, hx7⟩ | ⟨hnn, rfl, hx7⟩)
    · have hS8 := hS5.ext hx7
      refine wl_val (r_pick_t rfl (v := .bool _) rfl) rfl ?_
      refine wl_val (r_pick_f rfl (v := .bool _) rfl) rfl ?_
      refine wl_val (r_assign (v := .bool _) rfl) rfl ?_
      refine wl_nil ?_
      refine c_then ?_
      refine c_true rfl ?_
      refine c_seq ?_
      refine c_region ?_
      refine wl_val (r_assign (v := .int .i64 6) rfl) rfl ?_
      refine wl_nil ?_
      refine c_then ?_
      refine wp_ret ?_
      refine c_inR ?_
      refine c_thenR ?_
      refine ret1 Try.results46 ?_
      first | exact ⟨congrArg (Value.int .i64) (rule_4 n1 n2 n3 hcf).symm, hS8.fin⟩ | exact ⟨congrArg (Value.int .i64) (rule_2 n1 (.inl hcf)).symm, hS8.fin⟩ | exact ⟨congrArg (Value.int .i64) (rule_2 n1 (.inr ⟨by assumption, hnn⟩)).symm, hS8.fin⟩ | (exfalso; omega)
    have hS8 := hS5.ext hx7
    refine wl_val (r_pick_t rfl (v := .bool _) rfl) rfl ?_
    refine wl_val (r_pick_f rfl (v := .bool _) rfl) rfl ?_
    refine wl_val (r_assign (v := .bool _) rfl) rfl ?_
    refine wl_nil ?_
    refine c_then ?_
    refine c_false rfl ?_
    refine c_seq ?_
    have n2 : ¬ (r.ro.any (fun s => !nameE s) = true ∨ (¬ r.ofr = [] ∧ nameE r.ofr = false)) := by rintro (h | ⟨h, h'⟩); (rw [hcf] at h; cases h); first | exact h3_6 h | (rw [hnn] at h'; cases h')
    refine c_region ?_
    refine wl_val (r_field fa37_2 rfl) rfl ?_
    refine wl_val (r_loadB1 ti35.und rfl rfl (hS8.heap (.head _)) rfl) rfl ?_
    refine wl_call (r_call fn49 rfl rfl) rfl (containsFuncI_ok r.acs r.aa r.acs.length r.ak 77 [] actOut _ (h2.st hS8) rfl hk.an fn77 (fun x w' hx h => anot_ok x w')) ?_
    rintro _ w9 (⟨hcf, rfl, hx10⟩ | ⟨hcf, rfl, hx10⟩)
    · have hS11 := hS8.ext hx10
      refine wl_val (r_assign (v := .bool _) rfl) rfl ?_
      refine wl_nil ?_
      refine c_then ?_
      refine c_true rfl ?_
      refine c_seq ?_
      refine c_region ?_
      refine wl_val (r_assign (v := .int .i64 3) rfl) rfl ?_
      refine wl_nil ?_
      refine c_then ?_
      refine wp_ret ?_
      refine c_inR ?_
      refine c_thenR ?_
      refine ret1 Try.results46 ?_
      first | exact ⟨congrArg (Value.int .i64) (rule_3 n1 n2 hcf).symm, hS11.fin⟩ | (exfalso; omega)
    have hS11 := hS8.ext hx10
    refine wl_val (r_assign (v := .bool _) rfl) rfl ?_
    refine wl_nil ?_
    refine c_then ?_
    refine c_false rfl ?_
    refine c_seq ?_
    have n3 : ¬ (r.acs.any actOut = true) := by rw [hcf]; exact Bool.noConfusion
    refine c_region ?_
    refine wl_val (r_field fa37_3 rfl) rfl ?_
    refine wl_val (r_loadB1 ti30.und rfl rfl (hS11.heap (.head _)) rfl) rfl ?_
    refine wl_call (r_call fn37 rfl rfl) rfl (containsFuncS_ok r.las r.la r.las.length r.lc 78 [] (fun s => !patE s) _ (h3.st hS11) rfl hk.ln fn78 (fun x w' hx h => pnot_ok x w' (hk.ll x hx))) ?_
    rintro _ w12 (⟨hcf, rfl, hx13⟩ | ⟨hcf, rfl, hx13⟩)
    · have hS14 := hS11.ext hx13
      refine wl_val (r_assign (v := .bool _) rfl) rfl ?_
      refine wl_nil ?_
      refine c_then ?_
      refine c_true rfl ?_
      refine c_seq ?_
      refine c_region ?_
      refine wl_val (r_assign (v := .int .i64 6) rfl) rfl ?_
      refine wl_nil ?_
      refine c_then ?_
      refine wp_ret ?_
      refine c_inR ?_
      refine c_thenR ?_
      refine ret1 Try.results46 ?_
      first | exact ⟨congrArg (Value.int .i64) (rule_4 n1 n2 n3 hcf).symm, hS14.fin⟩ | exact ⟨congrArg (Value.int .i64) (rule_2 n1 (.inl hcf)).symm, hS14.fin⟩ | exact ⟨congrArg (Value.int .i64) (rule_2 n1 (.inr ⟨by assumption, hnn⟩)).symm, hS14.fin⟩ | (exfalso; omega)
    have hS14 := hS11.ext hx13
    refine wl_val (r_assign (v := .bool _) rfl) rfl ?_
    refine wl_nil ?_
    refine c_then ?_
    refine c_false rfl ?_
    refine c_seq ?_
    have n4 : ¬ (r.las.any (fun s => !patE s) = true) := by rw [hcf]; exact Bool.noConfusion
    refine c_region ?_
    refine wl_val (r_field fa37_1 rfl) rfl ?_
    refine wl_val (r_loadB1 ti30.und rfl rfl (hS14.heap (.head _)) rfl) rfl ?_
    refine wl_call (r_call fn79 rfl rfl) rfl (twiceS_ok r.ro r.ra r.ro.length r.rc _ (h1.st hS14) rfl hk.rn hk.rc) ?_
    rintro _ w15 (⟨htwro, rfl, hx16⟩ | ⟨htwro, rfl, hx16⟩)
    · have hS17 := hS14.ext hx16
      refine wl_val (r_move (v := .bool _) rfl) rfl ?_
      refine wl_not rfl ?_
      refine wl_not rfl ?_
      refine wl_not rfl ?_
      refine wl_val (r_pick_t rfl (v := .bool true) rfl) rfl ?_
      refine wl_val (r_move (v := .bool _) rfl) rfl ?_
      refine wl_not rfl ?_
      refine wl_not rfl ?_
      refine wl_not rfl ?_
      refine wl_val (r_pick_t rfl (v := .bool true) rfl) rfl ?_
      refine wl_val (r_assign (v := .bool _) rfl) rfl ?_
      refine wl_nil ?_
      refine c_then ?_
      refine c_true rfl ?_
      refine c_seq ?_
      refine c_region ?_
      refine wl_val (r_assign (v := .int .i64 8) rfl) rfl ?_
      refine wl_nil ?_
      refine c_then ?_
      refine wp_ret ?_
      refine c_inR ?_
      refine c_thenR ?_
      refine ret1 Try.results46 ?_
      first | exact ⟨congrArg (Value.int .i64) (rule_5 n1 n2 n3 n4 (by first | exact .inl (by assumption) | exact .inr (.inl (by assumption)) | exact .inr (.inr (by assumption)))).symm, hS17.fin⟩ | (exfalso; omega)
    have hS17 := hS14.ext hx16
    refine wl_val (r_move (v := .bool _) rfl) rfl ?_
    refine wl_val (r_field fa37_2 rfl) rfl ?_
    refine wl_val (r_loadB1 ti35.und rfl rfl (hS17.heap (.head _)) rfl) rfl ?_
    refine wl_call (r_call fn80 rfl rfl) rfl (twiceI_ok r.acs r.aa r.acs.length r.ak _ (h2.st hS17) rfl hk.an hk.ac) ?_
    rintro _ w18 (⟨htwacs, rfl, hx19⟩ | ⟨htwacs, rfl, hx19⟩)
    · have hS20 := hS17.ext hx19
      refine wl_val (r_pick_f rfl (v := .bool _) rfl) rfl ?_
      refine wl_val (r_move (v := .bool _) rfl) rfl ?_
      refine wl_not rfl ?_
      refine wl_not rfl ?_
      refine wl_not rfl ?_
      refine wl_val (r_pick_t rfl (v := .bool true) rfl) rfl ?_
      refine wl_val (r_assign (v := .bool _) rfl) rfl ?_
      refine wl_nil ?_
      refine c_then ?_
      refine c_true rfl ?_
      refine c_seq ?_
      refine c_region ?_
      refine wl_val (r_assign (v := .int .i64 8) rfl) rfl ?_
      refine wl_nil ?_
      refine c_then ?_
      refine wp_ret ?_
      refine c_inR ?_
      refine c_thenR ?_
      refine ret1 Try.results46 ?_
      first | exact ⟨congrArg (Value.int .i64) (rule_5 n1 n2 n3 n4 (by first | exact .inl (by assumption) | exact .inr (.inl (by assumption)) | exact .inr (.inr (by assumption)))).symm, hS20.fin⟩ | (exfalso; omega)
    have hS20 := hS17.ext hx19
    refine wl_val (r_pick_f rfl (v := .bool _) rfl) rfl ?_
    refine wl_val (r_move (v := .bool _) rfl) rfl ?_
    refine wl_val (r_field fa37_3 rfl) rfl ?_
    refine wl_val (r_loadB1 ti30.und rfl rfl (hS20.heap (.head _)) rfl) rfl ?_
    refine wl_call (r_call fn79 rfl rfl) rfl (twiceS_ok r.las r.la r.las.length r.lc _ (h3.st hS20) rfl hk.ln hk.lc) ?_
    rintro _ w21 (⟨htwlas, rfl, hx22⟩ | ⟨htwlas, rfl, hx22⟩)
    · have hS23 := hS20.ext hx22
      refine wl_val (r_pick_f rfl (v := .bool _) rfl) rfl ?_
      refine wl_val (r_assign (v := .bool _) rfl) rfl ?_
      refine wl_nil ?_
      refine c_then ?_
      refine c_true rfl ?_
      refine c_seq ?_
      refine c_region ?_
      refine wl_val (r_assign (v := .int .i64 8) rfl) rfl ?_
      refine wl_nil ?_
      refine c_then ?_
      refine wp_ret ?_
      refine c_inR ?_
      refine c_thenR ?_
      refine ret1 Try.results46 ?_
      first | exact ⟨congrArg (Value.int .i64) (rule_5 n1 n2 n3 n4 (by first | exact .inl (by assumption) | exact .inr (.inl (by assumption)) | exact .inr (.inr (by assumption)))).symm, hS23.fin⟩ | (exfalso; omega)
    have hS23 := hS20.ext hx22
    refine wl_val (r_pick_f rfl (v := .bool _) rfl) rfl ?_
    refine wl_val (r_assign (v := .bool _) rfl) rfl ?_
    refine wl_nil ?_
    refine c_then ?_
    refine c_false rfl ?_
    refine c_seq ?_
    have n5 : ¬ (¬ r.ro.Nodup ∨ ¬ r.acs.Nodup ∨ ¬ r.las.Nodup) := by rintro (h | h | h) <;> exact h (by assumption)
    refine c_region ?_
    refine wl_val (r_field fa37_4 rfl) rfl ?_
    refine wl_val (r_loadB1 ti3.und rfl rfl (hS23.heap (.head _)) rfl) rfl ?_
    refine wl_call (r_call fn43 rfl rfl) rfl (poutside_ok r.fr 0 24 _) ?_
    rintro _ w24 (⟨ho1, rfl, hx25⟩ | ⟨ho1, rfl, hx25⟩)
    · have hS26 := hS23.ext hx25
      refine wl_val (r_move (v := .bool _) rfl) rfl ?_
      refine wl_not rfl ?_
      refine wl_not rfl ?_
      refine wl_not rfl ?_
      refine wl_val (r_pick_t rfl (v := .bool true) rfl) rfl ?_
      refine wl_val (r_move (v := .bool _) rfl) rfl ?_
      refine wl_not rfl ?_
      refine wl_not rfl ?_
      refine wl_not rfl ?_
      refine wl_not rfl ?_
      refine wl_not rfl ?_
      refine wl_not rfl ?_
      refine wl_not rfl ?_
      refine wl_not rfl ?_
      refine wl_not rfl ?_
      refine wl_not rfl ?_
      refine wl_val (r_pick_t rfl (v := .bool true) rfl) rfl ?_
      refine wl_val (r_move (v := .bool _) rfl) rfl ?_
      refine wl_not rfl ?_
      refine wl_not rfl ?_
      refine wl_not rfl ?_
      refine wl_val (r_pick_t rfl (v := .bool true) rfl) rfl ?_
      refine wl_val (r_assign (v := .bool _) rfl) rfl ?_
      refine wl_nil ?_
      refine c_then ?_
      refine c_true rfl ?_
      refine c_seq ?_
      refine c_region ?_
      refine wl_val (r_assign (v := .int .i64 4) rfl) rfl ?_
      refine wl_nil ?_
      refine c_then ?_
      refine wp_ret ?_
      refine c_inR ?_
      refine c_thenR ?_
      refine ret1 Try.results46 ?_
      first | exact ⟨congrArg (Value.int .i64) (rule_6 n1 n2 n3 n4 n5 (by omega)).symm, hS26.fin⟩ | (exfalso; omega)
    have hS26 := hS23.ext hx25
    refine wl_val (r_move (v := .bool _) rfl) rfl ?_
    refine wl_val (r_field fa37_5 rfl) rfl ?_
    refine wl_val (r_loadB1 ti3.und rfl rfl (hS26.heap (.head _)) rfl) rfl ?_
    refine wl_call (r_call fn43 rfl rfl) rfl (poutside_ok r.to 0 24 _) ?_
    rintro _ w27 (⟨ho2, rfl, hx28⟩ | ⟨ho2, rfl, hx28⟩)
    · have hS29 := hS26.ext hx28
      refine wl_val (r_pick_f rfl (v := .bool _) rfl) rfl ?_
      refine wl_val (r_move (v := .bool _) rfl) rfl ?_
      refine wl_not rfl ?_
      refine wl_not rfl ?_
      refine wl_not rfl ?_
      refine wl_not rfl ?_
      refine wl_not rfl ?_
      refine wl_not rfl ?_
      refine wl_not rfl ?_
      refine wl_not rfl ?_
      refine wl_not rfl ?_
      refine wl_not rfl ?_
      refine wl_val (r_pick_t rfl (v := .bool true) rfl) rfl ?_
      refine wl_val (r_move (v := .bool _) rfl) rfl ?_
      refine wl_not rfl ?_
      refine wl_not rfl ?_
      refine wl_not rfl ?_
      refine wl_val (r_pick_t rfl (v := .bool true) rfl) rfl ?_
      refine wl_val (r_assign (v := .bool _) rfl) rfl ?_
      refine wl_nil ?_
      refine c_then ?_
      refine c_true rfl ?_
      refine c_seq ?_
      refine c_region ?_
      refine wl_val (r_assign (v := .int .i64 4) rfl) rfl ?_
      refine wl_nil ?_
      refine c_then ?_
      refine wp_ret ?_
      refine c_inR ?_
      refine c_thenR ?_
      refine ret1 Try.results46 ?_
      first | exact ⟨congrArg (Value.int .i64) (rule_6 n1 n2 n3 n4 n5 (by omega)).symm, hS29.fin⟩ | (exfalso; omega)
    have hS29 := hS26.ext hx28
    refine wl_val (r_pick_f rfl (v := .bool _) rfl) rfl ?_
    refine wl_val (r_move (v := .bool _) rfl) rfl ?_
    refine wl_val (r_field fa37_4 rfl) rfl ?_
    refine wl_val (r_loadB1 ti3.und rfl rfl (hS29.heap (.head _)) rfl) rfl ?_
    refine wl_val (r_field fa37_5 rfl) rfl ?_
    refine wl_val (r_loadB1 ti3.und rfl rfl (hS29.heap (.head _)) rfl) rfl ?_
    refine wl_dec (r_eql rfl rfl) rfl (fun h11_13 => ?_) (fun h11_13 => ?_)
    · refine wl_val (r_move (v := .bool _) rfl) rfl ?_
      refine wl_val (r_field fa37_4 rfl) rfl ?_
      refine wl_val (r_loadB1 ti3.und rfl rfl (hS29.heap (.head _)) rfl) rfl ?_
      refine wl_dec (r_neq rfl rfl) rfl (fun h11_17 => ?_) (fun h11_17 => ?_)
      · refine wl_val (r_pick_t rfl (v := .bool _) rfl) rfl ?_
        refine wl_val (r_pick_f rfl (v := .bool _) rfl) rfl ?_
        refine wl_val (r_move (v := .bool _) rfl) rfl ?_
        refine wl_not rfl ?_
        refine wl_not rfl ?_
        refine wl_not rfl ?_
        refine wl_val (r_pick_t rfl (v := .bool true) rfl) rfl ?_
        refine wl_val (r_assign (v := .bool _) rfl) rfl ?_
        refine wl_nil ?_
        refine c_then ?_
        refine c_true rfl ?_
        refine c_seq ?_
        refine c_region ?_
        refine wl_val (r_assign (v := .int .i64 4) rfl) rfl ?_
        refine wl_nil ?_
        refine c_then ?_
        refine wp_ret ?_
        refine c_inR ?_
        refine c_thenR ?_
        refine ret1 Try.results46 ?_
        first | exact ⟨congrArg (Value.int .i64) (rule_6 n1 n2 n3 n4 n5 (by omega)).symm, hS29.fin⟩ | (exfalso; omega)
      refine wl_val (r_pick_t rfl (v := .bool _) rfl) rfl ?_
      refine wl_val (r_pick_f rfl (v := .bool _) rfl) rfl ?_
      refine wl_val (r_move (v := .bool _) rfl) rfl ?_
      refine wl_val (r_field fa37_6 rfl) rfl ?_
      refine wl_val (r_loadB1 ti3.und rfl rfl (hS29.heap (.head _)) rfl) rfl ?_
      refine wl_call (r_call fn43 rfl rfl) rfl (poutside_ok r.nd 0 16 _) ?_
      rintro _ w30 (⟨ho3, rfl, hx31⟩ | ⟨ho3, rfl, hx31⟩)
      · have hS32 := hS29.ext hx31
        refine wl_val (r_pick_f rfl (v := .bool _) rfl) rfl ?_
        refine wl_val (r_assign (v := .bool _) rfl) rfl ?_
        refine wl_nil ?_
        refine c_then ?_
        refine c_true rfl ?_
        refine c_seq ?_
        refine c_region ?_
        refine wl_val (r_assign (v := .int .i64 4) rfl) rfl ?_
        refine wl_nil ?_
        refine c_then ?_
        refine wp_ret ?_
        refine c_inR ?_
        refine c_thenR ?_
        refine ret1 Try.results46 ?_
        first | exact ⟨congrArg (Value.int .i64) (rule_6 n1 n2 n3 n4 n5 (by omega)).symm, hS32.fin⟩ | (exfalso; omega)
      have hS32 := hS29.ext hx31
      refine wl_val (r_pick_f rfl (v := .bool _) rfl) rfl ?_
      refine wl_val (r_assign (v := .bool _) rfl) rfl ?_
      refine wl_nil ?_
      refine c_then ?_
      refine c_false rfl ?_
      refine c_seq ?_
      rcases bool_cases r.dn with hdn | hdn
      · have n6 : ¬ (r.fr < 0 ∨ 24 < r.fr ∨ r.to < 0 ∨ 24 < r.to ∨ (r.fr = r.to ∧ ¬ r.fr = 0) ∨ r.nd < 0 ∨ 16 < r.nd) := by omega
        refine c_region ?_
        refine wl_val (r_field fa37_6 rfl) rfl ?_
        refine wl_val (r_loadB1 ti3.und rfl rfl (hS32.heap (.head _)) rfl) rfl ?_
        refine wl_dec (r_eql rfl rfl) rfl (fun h13_2 => ?_) (fun h13_2 => ?_)
        · refine wl_val (r_field fa37_7 rfl) rfl ?_
          refine wl_val (r_loadB1 ti9.und rfl rfl (hS32.heap (.head _)) rfl) rfl ?_
          refine wl_dec (r_eqlStrL rfl rfl) rfl (fun h13_5 => ?_) (fun h13_5 => ?_)
          · refine wl_dec_f (r_neqBool ti4.und rfl rfl) rfl (by decide) ?_
            refine wl_val (r_move (v := .bool _) rfl) rfl ?_
            refine wl_val (r_field fa37_0 rfl) rfl ?_
            refine wl_val (r_loadB1 ti4.und rfl rfl (hS32.heap (.head _)) (by first | exact rule_dn_t hdn | exact rule_dn_f hdn)) rfl ?_
            refine wl_val (r_move (v := .bool _) rfl) rfl ?_
            refine wl_val (r_field fa37_6 rfl) rfl ?_
            refine wl_val (r_loadB1 ti3.und rfl rfl (hS32.heap (.head _)) rfl) rfl ?_
            refine wl_dec (r_gtr rfl rfl) rfl (fun h13_13 => ?_) (fun h13_13 => ?_)
            · refine wl_val (r_pick_t rfl (v := .bool _) rfl) rfl ?_
              refine wl_val (r_pick_f rfl (v := .bool _) rfl) rfl ?_
              refine wl_val (r_assign (v := .bool _) rfl) rfl ?_
              refine wl_nil ?_
              refine c_then ?_
              refine c_true rfl ?_
              refine c_seq ?_
              refine c_region ?_
              refine wl_val (r_assign (v := .int .i64 17) rfl) rfl ?_
              refine wl_nil ?_
              refine c_then ?_
              refine wp_ret ?_
              refine c_inR ?_
              refine c_thenR ?_
              refine ret1 Try.results46 ?_
              first | exact ⟨congrArg (Value.int .i64) (rule_7 n1 n2 n3 n4 n5 n6 (.inl ⟨by omega, (by first | assumption | exact Decidable.of_not_not (by assumption))⟩)).symm, hS32.fin⟩ | exact ⟨congrArg (Value.int .i64) (rule_7 n1 n2 n3 n4 n5 n6 (.inr (.inl ⟨by omega, (by first | assumption | exact Decidable.of_not_not (by assumption))⟩))).symm, hS32.fin⟩ | exact ⟨congrArg (Value.int .i64) (rule_7 n1 n2 n3 n4 n5 n6 (.inr (.inr ⟨hdn, by omega⟩))).symm, hS32.fin⟩ | (exfalso; omega)
            refine wl_val (r_pick_t rfl (v := .bool _) rfl) rfl ?_
            refine wl_val (r_pick_f rfl (v := .bool _) rfl) rfl ?_
            refine wl_val (r_assign (v := .bool _) rfl) rfl ?_
            refine wl_nil ?_
            refine c_then ?_
            refine c_false rfl ?_
            refine wp_skip ?_
            refine c_inN ?_
            refine c_then ?_
            refine c_seq ?_
            refine c_region ?_
            refine wl_val (r_assign (v := .int .i64 0) rfl) rfl ?_
            refine wl_nil ?_
            refine c_then ?_
            refine wp_ret ?_
            refine ret1 Try.results46 ?_
            first | exact ⟨congrArg (Value.int .i64) (rule_8 n1 n2 n3 n4 n5 n6 (.inl ⟨by omega, (by first | assumption | exact Decidable.of_not_not (by assumption))⟩)).symm, hS32.fin⟩ | exact ⟨congrArg (Value.int .i64) (rule_8 n1 n2 n3 n4 n5 n6 (.inr ⟨by omega, (by first | assumption | exact Decidable.of_not_not (by assumption)), hdn⟩)).symm, hS32.fin⟩ | (exfalso; omega)
          refine wl_dec_t (r_neqBool ti4.und rfl rfl) rfl (by decide) ?_
          refine wl_val (r_move (v := .bool _) rfl) rfl ?_
          refine wl_not rfl ?_
          refine wl_not rfl ?_
          refine wl_not rfl ?_
          refine wl_not rfl ?_
          refine wl_not rfl ?_
          refine wl_not rfl ?_
          refine wl_not rfl ?_
          refine wl_val (r_pick_t rfl (v := .bool true) rfl) rfl ?_
          refine wl_val (r_assign (v := .bool _) rfl) rfl ?_
          refine wl_nil ?_
          refine c_then ?_
          refine c_true rfl ?_
          refine c_seq ?_
          refine c_region ?_
          refine wl_val (r_assign (v := .int .i64 17) rfl) rfl ?_
          refine wl_nil ?_
          refine c_then ?_
          refine wp_ret ?_
          refine c_inR ?_
          refine c_thenR ?_
          refine ret1 Try.results46 ?_
          first | exact ⟨congrArg (Value.int .i64) (rule_7 n1 n2 n3 n4 n5 n6 (.inl ⟨by omega, (by first | assumption | exact Decidable.of_not_not (by assumption))⟩)).symm, hS32.fin⟩ | exact ⟨congrArg (Value.int .i64) (rule_7 n1 n2 n3 n4 n5 n6 (.inr (.inl ⟨by omega, (by first | assumption | exact Decidable.of_not_not (by assumption))⟩))).symm, hS32.fin⟩ | exact ⟨congrArg (Value.int .i64) (rule_7 n1 n2 n3 n4 n5 n6 (.inr (.inr ⟨hdn, by omega⟩))).symm, hS32.fin⟩ | (exfalso; omega)
        refine wl_val (r_field fa37_7 rfl) rfl ?_
        refine wl_val (r_loadB1 ti9.und rfl rfl (hS32.heap (.head _)) rfl) rfl ?_
        refine wl_dec (r_eqlStrL rfl rfl) rfl (fun h13_5 => ?_) (fun h13_5 => ?_)
        · refine wl_dec_t (r_neqBool ti4.und rfl rfl) rfl (by decide) ?_
          refine wl_val (r_move (v := .bool _) rfl) rfl ?_
          refine wl_not rfl ?_
          refine wl_not rfl ?_
          refine wl_not rfl ?_
          refine wl_not rfl ?_
          refine wl_not rfl ?_
          refine wl_not rfl ?_
          refine wl_not rfl ?_
          refine wl_val (r_pick_t rfl (v := .bool true) rfl) rfl ?_
          refine wl_val (r_assign (v := .bool _) rfl) rfl ?_
          refine wl_nil ?_
          refine c_then ?_
          refine c_true rfl ?_
          refine c_seq ?_
          refine c_region ?_
          refine wl_val (r_assign (v := .int .i64 17) rfl) rfl ?_
          refine wl_nil ?_
          refine c_then ?_
          refine wp_ret ?_
          refine c_inR ?_
          refine c_thenR ?_
          refine ret1 Try.results46 ?_
          first | exact ⟨congrArg (Value.int .i64) (rule_7 n1 n2 n3 n4 n5 n6 (.inl ⟨by omega, (by first | assumption | exact Decidable.of_not_not (by assumption))⟩)).symm, hS32.fin⟩ | exact ⟨congrArg (Value.int .i64) (rule_7 n1 n2 n3 n4 n5 n6 (.inr (.inl ⟨by omega, (by first | assumption | exact Decidable.of_not_not (by assumption))⟩))).symm, hS32.fin⟩ | exact ⟨congrArg (Value.int .i64) (rule_7 n1 n2 n3 n4 n5 n6 (.inr (.inr ⟨hdn, by omega⟩))).symm, hS32.fin⟩ | (exfalso; omega)
        refine wl_dec_f (r_neqBool ti4.und rfl rfl) rfl (by decide) ?_
        refine wl_val (r_move (v := .bool _) rfl) rfl ?_
        refine wl_val (r_field fa37_0 rfl) rfl ?_
        refine wl_val (r_loadB1 ti4.und rfl rfl (hS32.heap (.head _)) (by first | exact rule_dn_t hdn | exact rule_dn_f hdn)) rfl ?_
        refine wl_val (r_move (v := .bool _) rfl) rfl ?_
        refine wl_val (r_field fa37_6 rfl) rfl ?_
        refine wl_val (r_loadB1 ti3.und rfl rfl (hS32.heap (.head _)) rfl) rfl ?_
        refine wl_dec (r_gtr rfl rfl) rfl (fun h13_13 => ?_) (fun h13_13 => ?_)
        · refine wl_val (r_pick_t rfl (v := .bool _) rfl) rfl ?_
          refine wl_val (r_pick_f rfl (v := .bool _) rfl) rfl ?_
          refine wl_val (r_assign (v := .bool _) rfl) rfl ?_
          refine wl_nil ?_
          refine c_then ?_
          refine c_true rfl ?_
          refine c_seq ?_
          refine c_region ?_
          refine wl_val (r_assign (v := .int .i64 17) rfl) rfl ?_
          refine wl_nil ?_
          refine c_then ?_
          refine wp_ret ?_
          refine c_inR ?_
          refine c_thenR ?_
          refine ret1 Try.results46 ?_
          first | exact ⟨congrArg (Value.int .i64) (rule_7 n1 n2 n3 n4 n5 n6 (.inl ⟨by omega, (by first | assumption | exact Decidable.of_not_not (by assumption))⟩)).symm, hS32.fin⟩ | exact ⟨congrArg (Value.int .i64) (rule_7 n1 n2 n3 n4 n5 n6 (.inr (.inl ⟨by omega, (by first | assumption | exact Decidable.of_not_not (by assumption))⟩))).symm, hS32.fin⟩ | exact ⟨congrArg (Value.int .i64) (rule_7 n1 n2 n3 n4 n5 n6 (.inr (.inr ⟨hdn, by omega⟩))).symm, hS32.fin⟩ | (exfalso; omega)
        refine wl_val (r_pick_t rfl (v := .bool _) rfl) rfl ?_
        refine wl_val (r_pick_f rfl (v := .bool _) rfl) rfl ?_
        refine wl_val (r_assign (v := .bool _) rfl) rfl ?_
        refine wl_nil ?_
        refine c_then ?_
        refine c_false rfl ?_
        refine wp_skip ?_
        refine c_inN ?_
        refine c_then ?_
        refine c_seq ?_
        refine c_region ?_
        refine wl_val (r_assign (v := .int .i64 0) rfl) rfl ?_
        refine wl_nil ?_
        refine c_then ?_
        refine wp_ret ?_
        refine ret1 Try.results46 ?_
        first | exact ⟨congrArg (Value.int .i64) (rule_8 n1 n2 n3 n4 n5 n6 (.inl ⟨by omega, (by first | assumption | exact Decidable.of_not_not (by assumption))⟩)).symm, hS32.fin⟩ | exact ⟨congrArg (Value.int .i64) (rule_8 n1 n2 n3 n4 n5 n6 (.inr ⟨by omega, (by first | assumption | exact Decidable.of_not_not (by assumption)), hdn⟩)).symm, hS32.fin⟩ | (exfalso; omega)
      have n6 : ¬ (r.fr < 0 ∨ 24 < r.fr ∨ r.to < 0 ∨ 24 < r.to ∨ (r.fr = r.to ∧ ¬ r.fr = 0) ∨ r.nd < 0 ∨ 16 < r.nd) := by omega
      refine c_region ?_
      refine wl_val (r_field fa37_6 rfl) rfl ?_
      refine wl_val (r_loadB1 ti3.und rfl rfl (hS32.heap (.head _)) rfl) rfl ?_
      refine wl_dec (r_eql rfl rfl) rfl (fun h13_2 => ?_) (fun h13_2 => ?_)
      · refine wl_val (r_field fa37_7 rfl) rfl ?_
        refine wl_val (r_loadB1 ti9.und rfl rfl (hS32.heap (.head _)) rfl) rfl ?_
        refine wl_dec (r_eqlStrL rfl rfl) rfl (fun h13_5 => ?_) (fun h13_5 => ?_)
        · refine wl_dec_f (r_neqBool ti4.und rfl rfl) rfl (by decide) ?_
          refine wl_val (r_move (v := .bool _) rfl) rfl ?_
          refine wl_val (r_field fa37_0 rfl) rfl ?_
          refine wl_val (r_loadB1 ti4.und rfl rfl (hS32.heap (.head _)) (by first | exact rule_dn_t hdn | exact rule_dn_f hdn)) rfl ?_
          refine wl_val (r_move (v := .bool _) rfl) rfl ?_
          refine wl_not rfl ?_
          refine wl_not rfl ?_
          refine wl_not rfl ?_
          refine wl_val (r_pick_f rfl (v := .bool false) rfl) rfl ?_
          refine wl_val (r_pick_f rfl (v := .bool _) rfl) rfl ?_
          refine wl_val (r_assign (v := .bool _) rfl) rfl ?_
          refine wl_nil ?_
          refine c_then ?_
          refine c_false rfl ?_
          refine wp_skip ?_
          refine c_inN ?_
          refine c_then ?_
          refine c_seq ?_
          refine c_region ?_
          refine wl_val (r_assign (v := .int .i64 0) rfl) rfl ?_
          refine wl_nil ?_
          refine c_then ?_
          refine wp_ret ?_
          refine ret1 Try.results46 ?_
          first | exact ⟨congrArg (Value.int .i64) (rule_8 n1 n2 n3 n4 n5 n6 (.inl ⟨by omega, (by first | assumption | exact Decidable.of_not_not (by assumption))⟩)).symm, hS32.fin⟩ | exact ⟨congrArg (Value.int .i64) (rule_8 n1 n2 n3 n4 n5 n6 (.inr ⟨by omega, (by first | assumption | exact Decidable.of_not_not (by assumption)), hdn⟩)).symm, hS32.fin⟩ | (exfalso; omega)
        refine wl_dec_t (r_neqBool ti4.und rfl rfl) rfl (by decide) ?_
        refine wl_val (r_move (v := .bool _) rfl) rfl ?_
        refine wl_not rfl ?_
        refine wl_not rfl ?_
        refine wl_not rfl ?_
        refine wl_not rfl ?_
        refine wl_not rfl ?_
        refine wl_not rfl ?_
        refine wl_not rfl ?_
        refine wl_val (r_pick_t rfl (v := .bool true) rfl) rfl ?_
        refine wl_val (r_assign (v := .bool _) rfl) rfl ?_
        refine wl_nil ?_
        refine c_then ?_
        refine c_true rfl ?_
        refine c_seq ?_
        refine c_region ?_
        refine wl_val (r_assign (v := .int .i64 17) rfl) rfl ?_
        refine wl_nil ?_
        refine c_then ?_
        refine wp_ret ?_
        refine c_inR ?_
        refine c_thenR ?_
        refine ret1 Try.results46 ?_
        first | exact ⟨congrArg (Value.int .i64) (rule_7 n1 n2 n3 n4 n5 n6 (.inl ⟨by omega, (by first | assumption | exact Decidable.of_not_not (by assumption))⟩)).symm, hS32.fin⟩ | exact ⟨congrArg (Value.int .i64) (rule_7 n1 n2 n3 n4 n5 n6 (.inr (.inl ⟨by omega, (by first | assumption | exact Decidable.of_not_not (by assumption))⟩))).symm, hS32.fin⟩ | exact ⟨congrArg (Value.int .i64) (rule_7 n1 n2 n3 n4 n5 n6 (.inr (.inr ⟨hdn, by omega⟩))).symm, hS32.fin⟩ | (exfalso; omega)
      refine wl_val (r_field fa37_7 rfl) rfl ?_
      refine wl_val (r_loadB1 ti9.und rfl rfl (hS32.heap (.head _)) rfl) rfl ?_
      refine wl_dec (r_eqlStrL rfl rfl) rfl (fun h13_5 => ?_) (fun h13_5 => ?_)
      · refine wl_dec_t (r_neqBool ti4.und rfl rfl) rfl (by decide) ?_
        refine wl_val (r_move (v := .bool _) rfl) rfl ?_
        refine wl_not rfl ?_
        refine wl_not rfl ?_
        refine wl_not rfl ?_
        refine wl_not rfl ?_
        refine wl_not rfl ?_
        refine wl_not rfl ?_
        refine wl_not rfl ?_
        refine wl_val (r_pick_t rfl (v := .bool true) rfl) rfl ?_
        refine wl_val (r_assign (v := .bool _) rfl) rfl ?_
        refine wl_nil ?_
        refine c_then ?_
        refine c_true rfl ?_
        refine c_seq ?_
        refine c_region ?_
        refine wl_val (r_assign (v := .int .i64 17) rfl) rfl ?_
        refine wl_nil ?_
        refine c_then ?_
        refine wp_ret ?_
        refine c_inR ?_
        refine c_thenR ?_
        refine ret1 Try.results46 ?_
        first | exact ⟨congrArg (Value.int .i64) (rule_7 n1 n2 n3 n4 n5 n6 (.inl ⟨by omega, (by first | assumption | exact Decidable.of_not_not (by assumption))⟩)).symm, hS32.fin⟩ | exact ⟨congrArg (Value.int .i64) (rule_7 n1 n2 n3 n4 n5 n6 (.inr (.inl ⟨by omega, (by first | assumption | exact Decidable.of_not_not (by assumption))⟩))).symm, hS32.fin⟩ | exact ⟨congrArg (Value.int .i64) (rule_7 n1 n2 n3 n4 n5 n6 (.inr (.inr ⟨hdn, by omega⟩))).symm, hS32.fin⟩ | (exfalso; omega)
      refine wl_dec_f (r_neqBool ti4.und rfl rfl) rfl (by decide) ?_
      refine wl_val (r_move (v := .bool _) rfl) rfl ?_
      refine wl_val (r_field fa37_0 rfl) rfl ?_
      refine wl_val (r_loadB1 ti4.und rfl rfl (hS32.heap (.head _)) (by first | exact rule_dn_t hdn | exact rule_dn_f hdn)) rfl ?_
      refine wl_val (r_move (v := .bool _) rfl) rfl ?_
      refine wl_not rfl ?_
      refine wl_not rfl ?_
      refine wl_not rfl ?_
      refine wl_val (r_pick_f rfl (v := .bool false) rfl) rfl ?_
      refine wl_val (r_pick_f rfl (v := .bool _) rfl) rfl ?_
      refine wl_val (r_assign (v := .bool _) rfl) rfl ?_
      refine wl_nil ?_
      refine c_then ?_
      refine c_false rfl ?_
      refine wp_skip ?_
      refine c_inN ?_
      refine c_then ?_
      refine c_seq ?_
      refine c_region ?_
      refine wl_val (r_assign (v := .int .i64 0) rfl) rfl ?_
      refine wl_nil ?_
      refine c_then ?_
      refine wp_ret ?_
      refine ret1 Try.results46 ?_
      first | exact ⟨congrArg (Value.int .i64) (rule_8 n1 n2 n3 n4 n5 n6 (.inl ⟨by omega, (by first | assumption | exact Decidable.of_not_not (by assumption))⟩)).symm, hS32.fin⟩ | exact ⟨congrArg (Value.int .i64) (rule_8 n1 n2 n3 n4 n5 n6 (.inr ⟨by omega, (by first | assumption | exact Decidable.of_not_not (by assumption)), hdn⟩)).symm, hS32.fin⟩ | (exfalso; omega)
    refine wl_val (r_move (v := .bool _) rfl) rfl ?_
    refine wl_not rfl ?_
    refine wl_not rfl ?_
    refine wl_not rfl ?_
    refine wl_val (r_pick_f rfl (v := .bool false) rfl) rfl ?_
    refine wl_val (r_pick_f rfl (v := .bool _) rfl) rfl ?_
    refine wl_val (r_move (v := .bool _) rfl) rfl ?_
    refine wl_val (r_field fa37_6 rfl) rfl ?_
    refine wl_val (r_loadB1 ti3.und rfl rfl (hS29.heap (.head _)) rfl) rfl ?_
    refine wl_call (r_call fn43 rfl rfl) rfl (poutside_ok r.nd 0 16 _) ?_
    rintro _ w33 (⟨ho3, rfl, hx34⟩ | ⟨ho3, rfl, hx34⟩)
    · have hS35 := hS29.ext hx34
      refine wl_val (r_pick_f rfl (v := .bool _) rfl) rfl ?_
      refine wl_val (r_assign (v := .bool _) rfl) rfl ?_
      refine wl_nil ?_
      refine c_then ?_
      refine c_true rfl ?_
      refine c_seq ?_
      refine c_region ?_
      refine wl_val (r_assign (v := .int .i64 4) rfl) rfl ?_
      refine wl_nil ?_
      refine c_then ?_
      refine wp_ret ?_
      refine c_inR ?_
      refine c_thenR ?_
      refine ret1 Try.results46 ?_
      first | exact ⟨congrArg (Value.int .i64) (rule_6 n1 n2 n3 n4 n5 (by omega)).symm, hS35.fin⟩ | (exfalso; omega)
    have hS35 := hS29.ext hx34
    refine wl_val (r_pick_f rfl (v := .bool _) rfl) rfl ?_
    refine wl_val (r_assign (v := .bool _) rfl) rfl ?_
    refine wl_nil ?_
    refine c_then ?_
    refine c_false rfl ?_
    refine c_seq ?_
    rcases bool_cases r.dn with hdn | hdn
    · have n6 : ¬ (r.fr < 0 ∨ 24 < r.fr ∨ r.to < 0 ∨ 24 < r.to ∨ (r.fr = r.to ∧ ¬ r.fr = 0) ∨ r.nd < 0 ∨ 16 < r.nd) := by omega
      refine c_region ?_
      refine wl_val (r_field fa37_6 rfl) rfl ?_
      refine wl_val (r_loadB1 ti3.und rfl rfl (hS35.heap (.head _)) rfl) rfl ?_
      refine wl_dec (r_eql rfl rfl) rfl (fun h13_2 => ?_) (fun h13_2 => ?_)
      · refine wl_val (r_field fa37_7 rfl) rfl ?_
        refine wl_val (r_loadB1 ti9.und rfl rfl (hS35.heap (.head _)) rfl) rfl ?_
        refine wl_dec (r_eqlStrL rfl rfl) rfl (fun h13_5 => ?_) (fun h13_5 => ?_)
        · refine wl_dec_f (r_neqBool ti4.und rfl rfl) rfl (by decide) ?_
          refine wl_val (r_move (v := .bool _) rfl) rfl ?_
          refine wl_val (r_field fa37_0 rfl) rfl ?_
          refine wl_val (r_loadB1 ti4.und rfl rfl (hS35.heap (.head _)) (by first | exact rule_dn_t hdn | exact rule_dn_f hdn)) rfl ?_
          refine wl_val (r_move (v := .bool _) rfl) rfl ?_
          refine wl_val (r_field fa37_6 rfl) rfl ?_
          refine wl_val (r_loadB1 ti3.und rfl rfl (hS35.heap (.head _)) rfl) rfl ?_
          refine wl_dec (r_gtr rfl rfl) rfl (fun h13_13 => ?_) (fun h13_13 => ?_)
          · refine wl_val (r_pick_t rfl (v := .bool _) rfl) rfl ?_
            refine wl_val (r_pick_f rfl (v := .bool _) rfl) rfl ?_
            refine wl_val (r_assign (v := .bool _) rfl) rfl ?_
            refine wl_nil ?_
            refine c_then ?_
            refine c_true rfl ?_
            refine c_seq ?_
            refine c_region ?_
            refine wl_val (r_assign (v := .int .i64 17) rfl) rfl ?_
            refine wl_nil ?_
            refine c_then ?_
            refine wp_ret ?_
            refine c_inR ?_
            refine c_thenR ?_
            refine ret1 Try.results46 ?_
            first | exact ⟨congrArg (Value.int .i64) (rule_7 n1 n2 n3 n4 n5 n6 (.inl ⟨by omega, (by first | assumption | exact Decidable.of_not_not (by assumption))⟩)).symm, hS35.fin⟩ | exact ⟨congrArg (Value.int .i64) (rule_7 n1 n2 n3 n4 n5 n6 (.inr (.inl ⟨by omega, (by first | assumption | exact Decidable.of_not_not (by assumption))⟩))).symm, hS35.fin⟩ | exact ⟨congrArg (Value.int .i64) (rule_7 n1 n2 n3 n4 n5 n6 (.inr (.inr ⟨hdn, by omega⟩))).symm, hS35.fin⟩ | (exfalso; omega)
          refine wl_val (r_pick_t rfl (v := .bool _) rfl) rfl ?_
          refine wl_val (r_pick_f rfl (v := .bool _) rfl) rfl ?_
          refine wl_val (r_assign (v := .bool _) rfl) rfl ?_
          refine wl_nil ?_
          refine c_then ?_
          refine c_false rfl ?_
          refine wp_skip ?_
          refine c_inN ?_
          refine c_then ?_
          refine c_seq ?_
          refine c_region ?_
          refine wl_val (r_assign (v := .int .i64 0) rfl) rfl ?_
          refine wl_nil ?_
          refine c_then ?_
          refine wp_ret ?_
          refine ret1 Try.results46 ?_
          first | exact ⟨congrArg (Value.int .i64) (rule_8 n1 n2 n3 n4 n5 n6 (.inl ⟨by omega, (by first | assumption | exact Decidable.of_not_not (by assumption))⟩)).symm, hS35.fin⟩ | exact ⟨congrArg (Value.int .i64) (rule_8 n1 n2 n3 n4 n5 n6 (.inr ⟨by omega, (by first | assumption | exact Decidable.of_not_not (by assumption)), hdn⟩)).symm, hS35.fin⟩ | (exfalso; omega)
        refine wl_dec_t (r_neqBool ti4.und rfl rfl) rfl (by decide) ?_
        refine wl_val (r_move (v := .bool _) rfl) rfl ?_
        refine wl_not rfl ?_
        refine wl_not rfl ?_
        refine wl_not rfl ?_
        refine wl_not rfl ?_
        refine wl_not rfl ?_
        refine wl_not rfl ?_
        refine wl_not rfl ?_
        refine wl_val (r_pick_t rfl (v := .bool true) rfl) rfl ?_
        refine wl_val (r_assign (v := .bool _) rfl) rfl ?_
        refine wl_nil ?_
        refine c_then ?_
        refine c_true rfl ?_
        refine c_seq ?_
        refine c_region ?_
        refine wl_val (r_assign (v := .int .i64 17) rfl) rfl ?_
        refine wl_nil ?_
        refine c_then ?_
        refine wp_ret ?_
        refine c_inR ?_
        refine c_thenR ?_
        refine ret1 Try.results46 ?_
        first | exact ⟨congrArg (Value.int .i64) (rule_7 n1 n2 n3 n4 n5 n6 (.inl ⟨by omega, (by first | assumption | exact Decidable.of_not_not (by assumption))⟩)).symm, hS35.fin⟩ | exact ⟨congrArg (Value.int .i64) (rule_7 n1 n2 n3 n4 n5 n6 (.inr (.inl ⟨by omega, (by first | assumption | exact Decidable.of_not_not (by assumption))⟩))).symm, hS35.fin⟩ | exact ⟨congrArg (Value.int .i64) (rule_7 n1 n2 n3 n4 n5 n6 (.inr (.inr ⟨hdn, by omega⟩))).symm, hS35.fin⟩ | (exfalso; omega)
      refine wl_val (r_field fa37_7 rfl) rfl ?_
      refine wl_val (r_loadB1 ti9.und rfl rfl (hS35.heap (.head _)) rfl) rfl ?_
      refine wl_dec (r_eqlStrL rfl rfl) rfl (fun h13_5 => ?_) (fun h13_5 => ?_)
      · refine wl_dec_t (r_neqBool ti4.und rfl rfl) rfl (by decide) ?_
        refine wl_val (r_move (v := .bool _) rfl) rfl ?_
        refine wl_not rfl ?_
        refine wl_not rfl ?_
        refine wl_not rfl ?_
        refine wl_not rfl ?_
        refine wl_not rfl ?_
        refine wl_not rfl ?_
        refine wl_not rfl ?_
        refine wl_val (r_pick_t rfl (v := .bool true) rfl) rfl ?_
        refine wl_val (r_assign (v := .bool _) rfl) rfl ?_
        refine wl_nil ?_
        refine c_then ?_
        refine c_true rfl ?_
        refine c_seq ?_
        refine c_region ?_
        refine wl_val (r_assign (v := .int .i64 17) rfl) rfl ?_
        refine wl_nil ?_
        refine c_then ?_
        refine wp_ret ?_
        refine c_inR ?_
        refine c_thenR ?_
        refine ret1 Try.results46 ?_
        first | exact ⟨congrArg (Value.int .i64) (rule_7 n1 n2 n3 n4 n5 n6 (.inl ⟨by omega, (by first | assumption | exact Decidable.of_not_not (by assumption))⟩)).symm, hS35.fin⟩ | exact ⟨congrArg (Value.int .i64) (rule_7 n1 n2 n3 n4 n5 n6 (.inr (.inl ⟨by omega, (by first | assumption | exact Decidable.of_not_not (by assumption))⟩))).symm, hS35.fin⟩ | exact ⟨congrArg (Value.int .i64) (rule_7 n1 n2 n3 n4 n5 n6 (.inr (.inr ⟨hdn, by omega⟩))).symm, hS35.fin⟩ | (exfalso; omega)
      refine wl_dec_f (r_neqBool ti4.und rfl rfl) rfl (by decide) ?_
      refine wl_val (r_move (v := .bool _) rfl) rfl ?_
      refine wl_val (r_field fa37_0 rfl) rfl ?_
      refine wl_val (r_loadB1 ti4.und rfl rfl (hS35.heap (.head _)) (by first | exact rule_dn_t hdn | exact rule_dn_f hdn)) rfl ?_
      refine wl_val (r_move (v := .bool _) rfl) rfl ?_
      refine wl_val (r_field fa37_6 rfl) rfl ?_
      refine wl_val (r_loadB1 ti3.und rfl rfl (hS35.heap (.head _)) rfl) rfl ?_
      refine wl_dec (r_gtr rfl rfl) rfl (fun h13_13 => ?_) (fun h13_13 => ?_)
      · refine wl_val (r_pick_t rfl (v := .bool _) rfl) rfl ?_
        refine wl_val (r_pick_f rfl (v := .bool _) rfl) rfl ?_
        refine wl_val (r_assign (v := .bool _) rfl) rfl ?_
        refine wl_nil ?_
        refine c_then ?_
        refine c_true rfl ?_
        refine c_seq ?_
        refine c_region ?_
        refine wl_val (r_assign (v := .int .i64 17) rfl) rfl ?_
        refine wl_nil ?_
        refine c_then ?_
        refine wp_ret ?_
        refine c_inR ?_
        refine c_thenR ?_
        refine ret1 Try.results46 ?_
        first | exact ⟨congrArg (Value.int .i64) (rule_7 n1 n2 n3 n4 n5 n6 (.inl ⟨by omega, (by first | assumption | exact Decidable.of_not_not (by assumption))⟩)).symm, hS35.fin⟩ | exact ⟨congrArg (Value.int .i64) (rule_7 n1 n2 n3 n4 n5 n6 (.inr (.inl ⟨by omega, (by first | assumption | exact Decidable.of_not_not (by assumption))⟩))).symm, hS35.fin⟩ | exact ⟨congrArg (Value.int .i64) (rule_7 n1 n2 n3 n4 n5 n6 (.inr (.inr ⟨hdn, by omega⟩))).symm, hS35.fin⟩ | (exfalso; omega)
      refine wl_val (r_pick_t rfl (v := .bool _) rfl) rfl ?_
      refine wl_val (r_pick_f rfl (v := .bool _) rfl) rfl ?_
      refine wl_val (r_assign (v := .bool _) rfl) rfl ?_
      refine wl_nil ?_
      refine c_then ?_
      refine c_false rfl ?_
      refine wp_skip ?_
      refine c_inN ?_
      refine c_then ?_
      refine c_seq ?_
      refine c_region ?_
      refine wl_val (r_assign (v := .int .i64 0) rfl) rfl ?_
      refine wl_nil ?_
      refine c_then ?_
      refine wp_ret ?_
      refine ret1 Try.results46 ?_
      first | exact ⟨congrArg (Value.int .i64) (rule_8 n1 n2 n3 n4 n5 n6 (.inl ⟨by omega, (by first | assumption | exact Decidable.of_not_not (by assumption))⟩)).symm, hS35.fin⟩ | exact ⟨congrArg (Value.int .i64) (rule_8 n1 n2 n3 n4 n5 n6 (.inr ⟨by omega, (by first | assumption | exact Decidable.of_not_not (by assumption)), hdn⟩)).symm, hS35.fin⟩ | (exfalso; omega)
    have n6 : ¬ (r.fr < 0 ∨ 24 < r.fr ∨ r.to < 0 ∨ 24 < r.to ∨ (r.fr = r.to ∧ ¬ r.fr = 0) ∨ r.nd < 0 ∨ 16 < r.nd) := by omega
    refine c_region ?_
    refine wl_val (r_field fa37_6 rfl) rfl ?_
    refine wl_val (r_loadB1 ti3.und rfl rfl (hS35.heap (.head _)) rfl) rfl ?_
    refine wl_dec (r_eql rfl rfl) rfl (fun h13_2 => ?_) (fun h13_2 => ?_)
    · refine wl_val (r_field fa37_7 rfl) rfl ?_
      refine wl_val (r_loadB1 ti9.und rfl rfl (hS35.heap (.head _)) rfl) rfl ?_
      refine wl_dec (r_eqlStrL rfl rfl) rfl (fun h13_5 => ?_) (fun h13_5 => ?_)
      · refine wl_dec_f (r_neqBool ti4.und rfl rfl) rfl (by decide) ?_
        refine wl_val (r_move (v := .bool _) rfl) rfl ?_
        refine wl_val (r_field fa37_0 rfl) rfl ?_
        refine wl_val (r_loadB1 ti4.und rfl rfl (hS35.heap (.head _)) (by first | exact rule_dn_t hdn | exact rule_dn_f hdn)) rfl ?_
        refine wl_val (r_move (v := .bool _) rfl) rfl ?_
        refine wl_not rfl ?_
        refine wl_not rfl ?_
        refine wl_not rfl ?_
        refine wl_val (r_pick_f rfl (v := .bool false) rfl) rfl ?_
        refine wl_val (r_pick_f rfl (v := .bool _) rfl) rfl ?_
        refine wl_val (r_assign (v := .bool _) rfl) rfl ?_
        refine wl_nil ?_
        refine c_then ?_
        refine c_false rfl ?_
        refine wp_skip ?_
        refine c_inN ?_
        refine c_then ?_
        refine c_seq ?_
        refine c_region ?_
        refine wl_val (r_assign (v := .int .i64 0) rfl) rfl ?_
        refine wl_nil ?_
        refine c_then ?_
        refine wp_ret ?_
        refine ret1 Try.results46 ?_
        first | exact ⟨congrArg (Value.int .i64) (rule_8 n1 n2 n3 n4 n5 n6 (.inl ⟨by omega, (by first | assumption | exact Decidable.of_not_not (by assumption))⟩)).symm, hS35.fin⟩ | exact ⟨congrArg (Value.int .i64) (rule_8 n1 n2 n3 n4 n5 n6 (.inr ⟨by omega, (by first | assumption | exact Decidable.of_not_not (by assumption)), hdn⟩)).symm, hS35.fin⟩ | (exfalso; omega)
      refine wl_dec_t (r_neqBool ti4.und rfl rfl) rfl (by decide) ?_
      refine wl_val (r_move (v := .bool _) rfl) rfl ?_
      refine wl_not rfl ?_
      refine wl_not rfl ?_
      refine wl_not rfl ?_
      refine wl_not rfl ?_
      refine wl_not rfl ?_
      refine wl_not rfl ?_
      refine wl_not rfl ?_
      refine wl_val (r_pick_t rfl (v := .bool true) rfl) rfl ?_
      refine wl_val (r_assign (v := .bool _) rfl) rfl ?_
      refine wl_nil ?_
      refine c_then ?_
      refine c_true rfl ?_
      refine c_seq ?_
      refine c_region ?_
      refine wl_val (r_assign (v := .int .i64 17) rfl) rfl ?_
      refine wl_nil ?_
      refine c_then ?_
      refine wp_ret ?_
      refine c_inR ?_
      refine c_thenR ?_
      refine ret1 Try.results46 ?_
      first | exact ⟨congrArg (Value.int .i64) (rule_7 n1 n2 n3 n4 n5 n6 (.inl ⟨by omega, (by first | assumption | exact Decidable.of_not_not (by assumption))⟩)).symm, hS35.fin⟩ | exact ⟨congrArg (Value.int .i64) (rule_7 n1 n2 n3 n4 n5 n6 (.inr (.inl ⟨by omega, (by first | assumption | exact Decidable.of_not_not (by assumption))⟩))).symm, hS35.fin⟩ | exact ⟨congrArg (Value.int .i64) (rule_7 n1 n2 n3 n4 n5 n6 (.inr (.inr ⟨hdn, by omega⟩))).symm, hS35.fin⟩ | (exfalso; omega)
    refine wl_val (r_field fa37_7 rfl) rfl ?_
    refine wl_val (r_loadB1 ti9.und rfl rfl (hS35.heap (.head _)) rfl) rfl ?_
    refine wl_dec (r_eqlStrL rfl rfl) rfl (fun h13_5 => ?_) (fun h13_5 => ?_)
    · refine wl_dec_t (r_neqBool ti4.und rfl rfl) rfl (by decide) ?_
      refine wl_val (r_move (v := .bool _) rfl) rfl ?_
      refine wl_not rfl ?_
      refine wl_not rfl ?_
      refine wl_not rfl ?_
      refine wl_not rfl ?_
      refine wl_not rfl ?_
      refine wl_not rfl ?_
      refine wl_not rfl ?_
      refine wl_val (r_pick_t rfl (v := .bool true) rfl) rfl ?_
      refine wl_val (r_assign (v := .bool _) rfl) rfl ?_
      refine wl_nil ?_
      refine c_then ?_
      refine c_true rfl ?_
      refine c_seq ?_
      refine c_region ?_
      refine wl_val (r_assign (v := .int .i64 17) rfl) rfl ?_
      refine wl_nil ?_
      refine c_then ?_
      refine wp_ret ?_
      refine c_inR ?_
      refine c_thenR ?_
      refine ret1 Try.results46 ?_
      first | exact ⟨congrArg (Value.int .i64) (rule_7 n1 n2 n3 n4 n5 n6 (.inl ⟨by omega, (by first | assumption | exact Decidable.of_not_not (by assumption))⟩)).symm, hS35.fin⟩ | exact ⟨congrArg (Value.int .i64) (rule_7 n1 n2 n3 n4 n5 n6 (.inr (.inl ⟨by omega, (by first | assumption | exact Decidable.of_not_not (by assumption))⟩))).symm, hS35.fin⟩ | exact ⟨congrArg (Value.int .i64) (rule_7 n1 n2 n3 n4 n5 n6 (.inr (.inr ⟨hdn, by omega⟩))).symm, hS35.fin⟩ | (exfalso; omega)
    refine wl_dec_f (r_neqBool ti4.und rfl rfl) rfl (by decide) ?_
    refine wl_val (r_move (v := .bool _) rfl) rfl ?_
    refine wl_val (r_field fa37_0 rfl) rfl ?_
    refine wl_val (r_loadB1 ti4.und rfl rfl (hS35.heap (.head _)) (by first | exact rule_dn_t hdn | exact rule_dn_f hdn)) rfl ?_
    refine wl_val (r_move (v := .bool _) rfl) rfl ?_
    refine wl_not rfl ?_
    refine wl_not rfl ?_
    refine wl_not rfl ?_
    refine wl_val (r_pick_f rfl (v := .bool false) rfl) rfl ?_
    refine wl_val (r_pick_f rfl (v := .bool _) rfl) rfl ?_
    refine wl_val (r_assign (v := .bool _) rfl) rfl ?_
    refine wl_nil ?_
    refine c_then ?_
    refine c_false rfl ?_
    refine wp_skip ?_
    refine c_inN ?_
    refine c_then ?_
    refine c_seq ?_
    refine c_region ?_
    refine wl_val (r_assign (v := .int .i64 0) rfl) rfl ?_
    refine wl_nil ?_
    refine c_then ?_
    refine wp_ret ?_
    refine ret1 Try.results46 ?_
    first | exact ⟨congrArg (Value.int .i64) (rule_8 n1 n2 n3 n4 n5 n6 (.inl ⟨by omega, (by first | assumption | exact Decidable.of_not_not (by assumption))⟩)).symm, hS35.fin⟩ | exact ⟨congrArg (Value.int .i64) (rule_8 n1 n2 n3 n4 n5 n6 (.inr ⟨by omega, (by first | assumption | exact Decidable.of_not_not (by assumption)), hdn⟩)).symm, hS35.fin⟩ | (exfalso; omega)
  refine wl_val (r_move (v := .bool _) rfl) rfl ?_
  refine wl_not rfl ?_
  refine wl_not rfl ?_
  refine wl_not rfl ?_
  refine wl_val (r_pick_f rfl (v := .bool false) rfl) rfl ?_
  refine wl_val (r_pick_f rfl (v := .bool _) rfl) rfl ?_
  refine wl_val (r_assign (v := .bool _) rfl) rfl ?_
  refine wl_nil ?_
  refine c_then ?_
  refine c_false rfl ?_
  refine c_seq ?_
  have n2 : ¬ (r.ro.any (fun s => !nameE s) = true ∨ (¬ r.ofr = [] ∧ nameE r.ofr = false)) := by rintro (h | ⟨h, h'⟩); (rw [hcf] at h; cases h); first | exact h3_6 h | (rw [hnn] at h'; cases h')
  refine c_region ?_
  refine wl_val (r_field fa37_2 rfl) rfl ?_
  refine wl_val (r_loadB1 ti35.und rfl rfl (hS5.heap (.head _)) rfl) rfl ?_
  refine wl_call (r_call fn49 rfl rfl) rfl (containsFuncI_ok r.acs r.aa r.acs.length r.ak 77 [] actOut _ (h2.st hS5) rfl hk.an fn77 (fun x w' hx h => anot_ok x w')) ?_
  rintro _ w36 (⟨hcf, rfl, hx37⟩ | ⟨hcf, rfl, hx37⟩)
  · have hS38 := hS5.ext hx37
    refine wl_val (r_assign (v := .bool _) rfl) rfl ?_
    refine wl_nil ?_
    refine c_then ?_
    refine c_true rfl ?_
    refine c_seq ?_
    refine c_region ?_
    refine wl_val (r_assign (v := .int .i64 3) rfl) rfl ?_
    refine wl_nil ?_
    refine c_then ?_
    refine wp_ret ?_
    refine c_inR ?_
    refine c_thenR ?_
    refine ret1 Try.results46 ?_
    first | exact ⟨congrArg (Value.int .i64) (rule_3 n1 n2 hcf).symm, hS38.fin⟩ | (exfalso; omega)
  have hS38 := hS5.ext hx37
  refine wl_val (r_assign (v := .bool _) rfl) rfl ?_
  refine wl_nil ?_
  refine c_then ?_
  refine c_false rfl ?_
  refine c_seq ?_
  have n3 : ¬ (r.acs.any actOut = true) := by rw [hcf]; exact Bool.noConfusion
  refine c_region ?_
  refine wl_val (r_field fa37_3 rfl) rfl ?_
  refine wl_val (r_loadB1 ti30.und rfl rfl (hS38.heap (.head _)) rfl) rfl ?_
  refine wl_call (r_call fn37 rfl rfl) rfl (containsFuncS_ok r.las r.la r.las.length r.lc 78 [] (fun s => !patE s) _ (h3.st hS38) rfl hk.ln fn78 (fun x w' hx h => pnot_ok x w' (hk.ll x hx))) ?_
  rintro _ w39 (⟨hcf, rfl, hx40⟩ | ⟨hcf, rfl, hx40⟩)
  · have hS41 := hS38.ext hx40
    refine wl_val (r_assign (v := .bool _) rfl) rfl ?_
    refine wl_nil ?_
    refine c_then ?_
    refine c_true rfl ?_
    refine c_seq ?_
    refine c_region ?_
    refine wl_val (r_assign (v := .int .i64 6) rfl) rfl ?_
    refine wl_nil ?_
    refine c_then ?_
    refine wp_ret ?_
    refine c_inR ?_
    refine c_thenR ?_
    refine ret1 Try.results46 ?_
    first | exact ⟨congrArg (Value.int .i64) (rule_4 n1 n2 n3 hcf).symm, hS41.fin⟩ | exact ⟨congrArg (Value.int .i64) (rule_2 n1 (.inl hcf)).symm, hS41.fin⟩ | exact ⟨congrArg (Value.int .i64) (rule_2 n1 (.inr ⟨by assumption, hnn⟩)).symm, hS41.fin⟩ | (exfalso; omega)
  have hS41 := hS38.ext hx40
  refine wl_val (r_assign (v := .bool _) rfl) rfl ?_
  refine wl_nil ?_
  refine c_then ?_
  refine c_false rfl ?_
  refine c_seq ?_
  have n4 : ¬ (r.las.any (fun s => !patE s) = true) := by rw [hcf]; exact Bool.noConfusion
  refine c_region ?_
  refine wl_val (r_field fa37_1 rfl) rfl ?_
  refine wl_val (r_loadB1 ti30.und rfl rfl (hS41.heap (.head _)) rfl) rfl ?_
  refine wl_call (r_call fn79 rfl rfl) rfl (twiceS_ok r.ro r.ra r.ro.length r.rc _ (h1.st hS41) rfl hk.rn hk.rc) ?_
  rintro _ w42 (⟨htwro, rfl, hx43⟩ | ⟨htwro, rfl, hx43⟩)
  · have hS44 := hS41.ext hx43
    refine wl_val (r_move (v := .bool _) rfl) rfl ?_
    refine wl_not rfl ?_
    refine wl_not rfl ?_
    refine wl_not rfl ?_
    refine wl_val (r_pick_t rfl (v := .bool true) rfl) rfl ?_
    refine wl_val (r_move (v := .bool _) rfl) rfl ?_
    refine wl_not rfl ?_
    refine wl_not rfl ?_
    refine wl_not rfl ?_
    refine wl_val (r_pick_t rfl (v := .bool true) rfl) rfl ?_
    refine wl_val (r_assign (v := .bool _) rfl) rfl ?_
    refine wl_nil ?_
    refine c_then ?_
    refine c_true rfl ?_
    refine c_seq ?_
    refine c_region ?_
    refine wl_val (r_assign (v := .int .i64 8) rfl) rfl ?_
    refine wl_nil ?_
    refine c_then ?_
    refine wp_ret ?_
    refine c_inR ?_
    refine c_thenR ?_
    refine ret1 Try.results46 ?_
    first | exact ⟨congrArg (Value.int .i64) (rule_5 n1 n2 n3 n4 (by first | exact .inl (by assumption) | exact .inr (.inl (by assumption)) | exact .inr (.inr (by assumption)))).symm, hS44.fin⟩ | (exfalso; omega)
  have hS44 := hS41.ext hx43
  refine wl_val (r_move (v := .bool _) rfl) rfl ?_
  refine wl_val (r_field fa37_2 rfl) rfl ?_
  refine wl_val (r_loadB1 ti35.und rfl rfl (hS44.heap (.head _)) rfl) rfl ?_
  refine wl_call (r_call fn80 rfl rfl) rfl (twiceI_ok r.acs r.aa r.acs.length r.ak _ (h2.st hS44) rfl hk.an hk.ac) ?_
  rintro _ w45 (⟨htwacs, rfl, hx46⟩ | ⟨htwacs, rfl, hx46⟩)
  · have hS47 := hS44.ext hx46
    refine wl_val (r_pick_f rfl (v := .bool _) rfl) rfl ?_
    refine wl_val (r_move (v := .bool _) rfl) rfl ?_
    refine wl_not rfl ?_
    refine wl_not rfl ?_
    refine wl_not rfl ?_
    refine wl_val (r_pick_t rfl (v := .bool true) rfl) rfl ?_
    refine wl_val (r_assign (v := .bool _) rfl) rfl ?_
    refine wl_nil ?_
    refine c_then ?_
    refine c_true rfl ?_
    refine c_seq ?_
    refine c_region ?_
    refine wl_val (r_assign (v := .int .i64 8) rfl) rfl ?_
    refine wl_nil ?_
    refine c_then ?_
    refine wp_ret ?_
    refine c_inR ?_
    refine c_thenR ?_
    refine ret1 Try.results46 ?_
    first | exact ⟨congrArg (Value.int .i64) (rule_5 n1 n2 n3 n4 (by first | exact .inl (by assumption) | exact .inr (.inl (by assumption)) | exact .inr (.inr (by assumption)))).symm, hS47.fin⟩ | (exfalso; omega)
  have hS47 := hS44.ext hx46
  refine wl_val (r_pick_f rfl (v := .bool _) rfl) rfl ?_
  refine wl_val (r_move (v := .bool _) rfl) rfl ?_
  refine wl_val (r_field fa37_3 rfl) rfl ?_
  refine wl_val (r_loadB1 ti30.und rfl rfl (hS47.heap (.head _)) rfl) rfl ?_
  refine wl_call (r_call fn79 rfl rfl) rfl (twiceS_ok r.las r.la r.las.length r.lc _ (h3.st hS47) rfl hk.ln hk.lc) ?_
  rintro _ w48 (⟨htwlas, rfl, hx49⟩ | ⟨htwlas, rfl, hx49⟩)
  · have hS50 := hS47.ext hx49
    refine wl_val (r_pick_f rfl (v := .bool _) rfl) rfl ?_
    refine wl_val (r_assign (v := .bool _) rfl) rfl ?_
    refine wl_nil ?_
    refine c_then ?_
    refine c_true rfl ?_
    refine c_seq ?_
    refine c_region ?_
    refine wl_val (r_assign (v := .int .i64 8) rfl) rfl ?_
    refine wl_nil ?_
    refine c_then ?_
    refine wp_ret ?_
    refine c_inR ?_
    refine c_thenR ?_
    refine ret1 Try.results46 ?_
    first | exact ⟨congrArg (Value.int .i64) (rule_5 n1 n2 n3 n4 (by first | exact .inl (by assumption) | exact .inr (.inl (by assumption)) | exact .inr (.inr (by assumption)))).symm, hS50.fin⟩ | (exfalso; omega)
  have hS50 := hS47.ext hx49
  refine wl_val (r_pick_f rfl (v := .bool _) rfl) rfl ?_
  refine wl_val (r_assign (v := .bool _) rfl) rfl ?_
  refine wl_nil ?_
  refine c_then ?_
  refine c_false rfl ?_
  refine c_seq ?_
  have n5 : ¬ (¬ r.ro.Nodup ∨ ¬ r.acs.Nodup ∨ ¬ r.las.Nodup) := by rintro (h | h | h) <;> exact h (by assumption)
  refine c_region ?_
  refine wl_val (r_field fa37_4 rfl) rfl ?_
  refine wl_val (r_loadB1 ti3.und rfl rfl (hS50.heap (.head _)) rfl) rfl ?_
  refine wl_call (r_call fn43 rfl rfl) rfl (poutside_ok r.fr 0 24 _) ?_
  rintro _ w51 (⟨ho1, rfl, hx52⟩ | ⟨ho1, rfl, hx52⟩)
  · have hS53 := hS50.ext hx52
    refine wl_val (r_move (v := .bool _) rfl) rfl ?_
    refine wl_not rfl ?_
    refine wl_not rfl ?_
    refine wl_not rfl ?_
    refine wl_val (r_pick_t rfl (v := .bool true) rfl) rfl ?_
    refine wl_val (r_move (v := .bool _) rfl) rfl ?_
    refine wl_not rfl ?_
    refine wl_not rfl ?_
    refine wl_not rfl ?_
    refine wl_not rfl ?_
    refine wl_not rfl ?_
    refine wl_not rfl ?_
    refine wl_not rfl ?_
    refine wl_not rfl ?_
    refine wl_not rfl ?_
    refine wl_not rfl ?_
    refine wl_val (r_pick_t rfl (v := .bool true) rfl) rfl ?_
    refine wl_val (r_move (v := .bool _) rfl) rfl ?_
    refine wl_not rfl ?_
    refine wl_not rfl ?_
    refine wl_not rfl ?_
    refine wl_val (r_pick_t rfl (v := .bool true) rfl) rfl ?_
    refine wl_val (r_assign (v := .bool _) rfl) rfl ?_
    refine wl_nil ?_
    refine c_then ?_
    refine c_true rfl ?_
    refine c_seq ?_
    refine c_region ?_
    refine wl_val (r_assign (v := .int .i64 4) rfl) rfl ?_
    refine wl_nil ?_
    refine c_then ?_
    refine wp_ret ?_
    refine c_inR ?_
    refine c_thenR ?_
    refine ret1 Try.results46 ?_
    first | exact ⟨congrArg (Value.int .i64) (rule_6 n1 n2 n3 n4 n5 (by omega)).symm, hS53.fin⟩ | (exfalso; omega)
  have hS53 := hS50.ext hx52
  refine wl_val (r_move (v := .bool _) rfl) rfl ?_
  refine wl_val (r_field fa37_5 rfl) rfl ?_
  refine wl_val (r_loadB1 ti3.und rfl rfl (hS53.heap (.head _)) rfl) rfl ?_
  refine wl_call (r_call fn43 rfl rfl) rfl (poutside_ok r.to 0 24 _) ?_
  rintro _ w54 (⟨ho2, rfl, hx55⟩ | ⟨ho2, rfl, hx55⟩)
  · have hS56 := hS53.ext hx55
    refine wl_val (r_pick_f rfl (v := .bool _) rfl) rfl ?_
    refine wl_val (r_move (v := .bool _) rfl) rfl ?_
    refine wl_not rfl ?_
    refine wl_not rfl ?_
    refine wl_not rfl ?_
    refine wl_not rfl ?_
    refine wl_not rfl ?_
    refine wl_not rfl ?_
    refine wl_not rfl ?_
    refine wl_not rfl ?_
    refine wl_not rfl ?_
    refine wl_not rfl ?_
    refine wl_val (r_pick_t rfl (v := .bool true) rfl) rfl ?_
    refine wl_val (r_move (v := .bool _) rfl) rfl ?_
    refine wl_not rfl ?_
    refine wl_not rfl ?_
    refine wl_not rfl ?_
    refine wl_val (r_pick_t rfl (v := .bool true) rfl) rfl ?_
    refine wl_val (r_assign (v := .bool _) rfl) rfl ?_
    refine wl_nil ?_
    refine c_then ?_
    refine c_true rfl ?_
    refine c_seq ?_
    refine c_region ?_
    refine wl_val (r_assign (v := .int .i64 4) rfl) rfl ?_
    refine wl_nil ?_
    refine c_then ?_
    refine wp_ret ?_
    refine c_inR ?_
    refine c_thenR ?_
    refine ret1 Try.results46 ?_
    first | exact ⟨congrArg (Value.int .i64) (rule_6 n1 n2 n3 n4 n5 (by omega)).symm, hS56.fin⟩ | (exfalso; omega)
  have hS56 := hS53.ext hx55
  refine wl_val (r_pick_f rfl (v := .bool _) rfl) rfl ?_
  refine wl_val (r_move (v := .bool _) rfl) rfl ?_
  refine wl_val (r_field fa37_4 rfl) rfl ?_
  refine wl_val (r_loadB1 ti3.und rfl rfl (hS56.heap (.head _)) rfl) rfl ?_
  refine wl_val (r_field fa37_5 rfl) rfl ?_
  refine wl_val (r_loadB1 ti3.und rfl rfl (hS56.heap (.head _)) rfl) rfl ?_
  refine wl_dec (r_eql rfl rfl) rfl (fun h11_13 => ?_) (fun h11_13 => ?_)
  · refine wl_val (r_move (v := .bool _) rfl) rfl ?_
    refine wl_val (r_field fa37_4 rfl) rfl ?_
    refine wl_val (r_loadB1 ti3.und rfl rfl (hS56.heap (.head _)) rfl) rfl ?_
    refine wl_dec (r_neq rfl rfl) rfl (fun h11_17 => ?_) (fun h11_17 => ?_)
    · refine wl_val (r_pick_t rfl (v := .bool _) rfl) rfl ?_
      refine wl_val (r_pick_f rfl (v := .bool _) rfl) rfl ?_
      refine wl_val (r_move (v := .bool _) rfl) rfl ?_
      refine wl_not rfl ?_
      refine wl_not rfl ?_
      refine wl_not rfl ?_
      refine wl_val (r_pick_t rfl (v := .bool true) rfl) rfl ?_
      refine wl_val (r_assign (v := .bool _) rfl) rfl ?_
      refine wl_nil ?_
      refine c_then ?_
      refine c_true rfl ?_
      refine c_seq ?_
      refine c_region ?_
      refine wl_val (r_assign (v := .int .i64 4) rfl) rfl ?_
      refine wl_nil ?_
      refine c_then ?_
      refine wp_ret ?_
      refine c_inR ?_
      refine c_thenR ?_
      refine ret1 Try.results46 ?_
      first | exact ⟨congrArg (Value.int .i64) (rule_6 n1 n2 n3 n4 n5 (by omega)).symm, hS56.fin⟩ | (exfalso; omega)
    refine wl_val (r_pick_t rfl (v := .bool _) rfl) rfl ?_
    refine wl_val (r_pick_f rfl (v := .bool _) rfl) rfl ?_
    refine wl_val (r_move (v := .bool _) rfl) rfl ?_
    refine wl_val (r_field fa37_6 rfl) rfl ?_
    refine wl_val (r_loadB1 ti3.und rfl rfl (hS56.heap (.head _)) rfl) rfl ?_
    refine wl_call (r_call fn43 rfl rfl) rfl (poutside_ok r.nd 0 16 _) ?_
    rintro _ w57 (⟨ho3, rfl, hx58⟩ | ⟨ho3, rfl, hx58⟩)
    · have hS59 := hS56.ext hx58
      refine wl_val (r_pick_f rfl (v := .bool _) rfl) rfl ?_
      refine wl_val (r_assign (v := .bool _) rfl) rfl ?_
      refine wl_nil ?_
      refine c_then ?_
      refine c_true rfl ?_
      refine c_seq ?_
      refine c_region ?_
      refine wl_val (r_assign (v := .int .i64 4) rfl) rfl ?_
      refine wl_nil ?_
      refine c_then ?_
      refine wp_ret ?_
      refine c_inR ?_
      refine c_thenR ?_
      refine ret1 Try.results46 ?_
      first | exact ⟨congrArg (Value.int .i64) (rule_6 n1 n2 n3 n4 n5 (by omega)).symm, hS59.fin⟩ | (exfalso; omega)
    have hS59 := hS56.ext hx58
    refine wl_val (r_pick_f rfl (v := .bool _) rfl) rfl ?_
    refine wl_val (r_assign (v := .bool _) rfl) rfl ?_
    refine wl_nil ?_
    refine c_then ?_
    refine c_false rfl ?_
    refine c_seq ?_
    rcases bool_cases r.dn with hdn | hdn
    · have n6 : ¬ (r.fr < 0 ∨ 24 < r.fr ∨ r.to < 0 ∨ 24 < r.to ∨ (r.fr = r.to ∧ ¬ r.fr = 0) ∨ r.nd < 0 ∨ 16 < r.nd) := by omega
      refine c_region ?_
      refine wl_val (r_field fa37_6 rfl) rfl ?_
      refine wl_val (r_loadB1 ti3.und rfl rfl (hS59.heap (.head _)) rfl) rfl ?_
      refine wl_dec (r_eql rfl rfl) rfl (fun h13_2 => ?_) (fun h13_2 => ?_)
      · refine wl_val (r_field fa37_7 rfl) rfl ?_
        refine wl_val (r_loadB1 ti9.und rfl rfl (hS59.heap (.head _)) rfl) rfl ?_
        refine wl_dec (r_eqlStrL rfl rfl) rfl (fun h13_5 => ?_) (fun h13_5 => ?_)
        · refine wl_dec_f (r_neqBool ti4.und rfl rfl) rfl (by decide) ?_
          refine wl_val (r_move (v := .bool _) rfl) rfl ?_
          refine wl_val (r_field fa37_0 rfl) rfl ?_
          refine wl_val (r_loadB1 ti4.und rfl rfl (hS59.heap (.head _)) (by first | exact rule_dn_t hdn | exact rule_dn_f hdn)) rfl ?_
          refine wl_val (r_move (v := .bool _) rfl) rfl ?_
          refine wl_val (r_field fa37_6 rfl) rfl ?_
          refine wl_val (r_loadB1 ti3.und rfl rfl (hS59.heap (.head _)) rfl) rfl ?_
          refine wl_dec (r_gtr rfl rfl) rfl (fun h13_13 => ?_) (fun h13_13 => ?_)
          · refine wl_val (r_pick_t rfl (v := .bool _) rfl) rfl ?_
            refine wl_val (r_pick_f rfl (v := .bool _) rfl) rfl ?_
            refine wl_val (r_assign (v := .bool _) rfl) rfl ?_
            refine wl_nil ?_
            refine c_then ?_
            refine c_true rfl ?_
            refine c_seq ?_
            refine c_region ?_
            refine wl_val (r_assign (v := .int .i64 17) rfl) rfl ?_
            refine wl_nil ?_
            refine c_then ?_
            refine wp_ret ?_
            refine c_inR ?_
            refine c_thenR ?_
            refine ret1 Try.results46 ?_
            first | exact ⟨congrArg (Value.int .i64) (rule_7 n1 n2 n3 n4 n5 n6 (.inl ⟨by omega, (by first | assumption | exact Decidable.of_not_not (by assumption))⟩)).symm, hS59.fin⟩ | exact ⟨congrArg (Value.int .i64) (rule_7 n1 n2 n3 n4 n5 n6 (.inr (.inl ⟨by omega, (by first | assumption | exact Decidable.of_not_not (by assumption))⟩))).symm, hS59.fin⟩ | exact ⟨congrArg (Value.int .i64) (rule_7 n1 n2 n3 n4 n5 n6 (.inr (.inr ⟨hdn, by omega⟩))).symm, hS59.fin⟩ | (exfalso; omega)
          refine wl_val (r_pick_t rfl (v := .bool _) rfl) rfl ?_
          refine wl_val (r_pick_f rfl (v := .bool _) rfl) rfl ?_
          refine wl_val (r_assign (v := .bool _) rfl) rfl ?_
          refine wl_nil ?_
          refine c_then ?_
          refine c_false rfl ?_
          refine wp_skip ?_
          refine c_inN ?_
          refine c_then ?_
          refine c_seq ?_
          refine c_region ?_
          refine wl_val (r_assign (v := .int .i64 0) rfl) rfl ?_
          refine wl_nil ?_
          refine c_then ?_
          refine wp_ret ?_
          refine ret1 Try.results46 ?_
          first | exact ⟨congrArg (Value.int .i64) (rule_8 n1 n2 n3 n4 n5 n6 (.inl ⟨by omega, (by first | assumption | exact Decidable.of_not_not (by assumption))⟩)).symm, hS59.fin⟩ | exact ⟨congrArg (Value.int .i64) (rule_8 n1 n2 n3 n4 n5 n6 (.inr ⟨by omega, (by first | assumption | exact Decidable.of_not_not (by assumption)), hdn⟩)).symm, hS59.fin⟩ | (exfalso; omega)
        refine wl_dec_t (r_neqBool ti4.und rfl rfl) rfl (by decide) ?_
        refine wl_val (r_move (v := .bool _) rfl) rfl ?_
        refine wl_not rfl ?_
        refine wl_not rfl ?_
        refine wl_not rfl ?_
        refine wl_not rfl ?_
        refine wl_not rfl ?_
        refine wl_not rfl ?_
        refine wl_not rfl ?_
        refine wl_val (r_pick_t rfl (v := .bool true) rfl) rfl ?_
        refine wl_val (r_assign (v := .bool _) rfl) rfl ?_
        refine wl_nil ?_
        refine c_then ?_
        refine c_true rfl ?_
        refine c_seq ?_
        refine c_region ?_
        refine wl_val (r_assign (v := .int .i64 17) rfl) rfl ?_
        refine wl_nil ?_
        refine c_then ?_
        refine wp_ret ?_
        refine c_inR ?_
        refine c_thenR ?_
        refine ret1 Try.results46 ?_
        first | exact ⟨congrArg (Value.int .i64) (rule_7 n1 n2 n3 n4 n5 n6 (.inl ⟨by omega, (by first | assumption | exact Decidable.of_not_not (by assumption))⟩)).symm, hS59.fin⟩ | exact ⟨congrArg (Value.int .i64) (rule_7 n1 n2 n3 n4 n5 n6 (.inr (.inl ⟨by omega, (by first | assumption | exact Decidable.of_not_not (by assumption))⟩))).symm, hS59.fin⟩ | exact ⟨congrArg (Value.int .i64) (rule_7 n1 n2 n3 n4 n5 n6 (.inr (.inr ⟨hdn, by omega⟩))).symm, hS59.fin⟩ | (exfalso; omega)
      refine wl_val (r_field fa37_7 rfl) rfl ?_
      refine wl_val (r_loadB1 ti9.und rfl rfl (hS59.heap (.head _)) rfl) rfl ?_
      refine wl_dec (r_eqlStrL rfl rfl) rfl (fun h13_5 => ?_) (fun h13_5 => ?_)
      · refine wl_dec_t (r_neqBool ti4.und rfl rfl) rfl (by decide) ?_
        refine wl_val (r_move (v := .bool _) rfl) rfl ?_
        refine wl_not rfl ?_
        refine wl_not rfl ?_
        refine wl_not rfl ?_
        refine wl_not rfl ?_
        refine wl_not rfl ?_
        refine wl_not rfl ?_
        refine wl_not rfl ?_
        refine wl_val (r_pick_t rfl (v := .bool true) rfl) rfl ?_
        refine wl_val (r_assign (v := .bool _) rfl) rfl ?_
        refine wl_nil ?_
        refine c_then ?_
        refine c_true rfl ?_
        refine c_seq ?_
        refine c_region ?_
        refine wl_val (r_assign (v := .int .i64 17) rfl) rfl ?_
        refine wl_nil ?_
        refine c_then ?_
        refine wp_ret ?_
        refine c_inR ?_
        refine c_thenR ?_
        refine ret1 Try.results46 ?_
        first | exact ⟨congrArg (Value.int .i64) (rule_7 n1 n2 n3 n4 n5 n6 (.inl ⟨by omega, (by first | assumption | exact Decidable.of_not_not (by assumption))⟩)).symm, hS59.fin⟩ | exact ⟨congrArg (Value.int .i64) (rule_7 n1 n2 n3 n4 n5 n6 (.inr (.inl ⟨by omega, (by first | assumption | exact Decidable.of_not_not (by assumption))⟩))).symm, hS59.fin⟩ | exact ⟨congrArg (Value.int .i64) (rule_7 n1 n2 n3 n4 n5 n6 (.inr (.inr ⟨hdn, by omega⟩))).symm, hS59.fin⟩ | (exfalso; omega)
      refine wl_dec_f (r_neqBool ti4.und rfl rfl) rfl (by decide) ?_
      refine wl_val (r_move (v := .bool _) rfl) rfl ?_
      refine wl_val (r_field fa37_0 rfl) rfl ?_
      refine wl_val (r_loadB1 ti4.und rfl rfl (hS59.heap (.head _)) (by first | exact rule_dn_t hdn | exact rule_dn_f hdn)) rfl ?_
      refine wl_val (r_move (v := .bool _) rfl) rfl ?_
      refine wl_val (r_field fa37_6 rfl) rfl ?_
      refine wl_val (r_loadB1 ti3.und rfl rfl (hS59.heap (.head _)) rfl) rfl ?_
      refine wl_dec (r_gtr rfl rfl) rfl (fun h13_13 => ?_) (fun h13_13 => ?_)
      · refine wl_val (r_pick_t rfl (v := .bool _) rfl) rfl ?_
        refine wl_val (r_pick_f rfl (v := .bool _) rfl) rfl ?_
        refine wl_val (r_assign (v := .bool _) rfl) rfl ?_
        refine wl_nil ?_
        refine c_then ?_
        refine c_true rfl ?_
        refine c_seq ?_
        refine c_region ?_
        refine wl_val (r_assign (v := .int .i64 17) rfl) rfl ?_
        refine wl_nil ?_
        refine c_then ?_
        refine wp_ret ?_
        refine c_inR ?_
        refine c_thenR ?_
        refine ret1 Try.results46 ?_
        first | exact ⟨congrArg (Value.int .i64) (rule_7 n1 n2 n3 n4 n5 n6 (.inl ⟨by omega, (by first | assumption | exact Decidable.of_not_not (by assumption))⟩)).symm, hS59.fin⟩ | exact ⟨congrArg (Value.int .i64) (rule_7 n1 n2 n3 n4 n5 n6 (.inr (.inl ⟨by omega, (by first | assumption | exact Decidable.of_not_not (by assumption))⟩))).symm, hS59.fin⟩ | exact ⟨congrArg (Value.int .i64) (rule_7 n1 n2 n3 n4 n5 n6 (.inr (.inr ⟨hdn, by omega⟩))).symm, hS59.fin⟩ | (exfalso; omega)
      refine wl_val (r_pick_t rfl (v := .bool _) rfl) rfl ?_
      refine wl_val (r_pick_f rfl (v := .bool _) rfl) rfl ?_
      refine wl_val (r_assign (v := .bool _) rfl) rfl ?_
      refine wl_nil ?_
      refine c_then ?_
      refine c_false rfl ?_
      refine wp_skip ?_
      refine c_inN ?_
      refine c_then ?_
      refine c_seq ?_
      refine c_region ?_
      refine wl_val (r_assign (v := .int .i64 0) rfl) rfl ?_
      refine wl_nil ?_
      refine c_then ?_
      refine wp_ret ?_
      refine ret1 Try.results46 ?_
      first | exact ⟨congrArg (Value.int .i64) (rule_8 n1 n2 n3 n4 n5 n6 (.inl ⟨by omega, (by first | assumption | exact Decidable.of_not_not (by assumption))⟩)).symm, hS59.fin⟩ | exact ⟨congrArg (Value.int .i64) (rule_8 n1 n2 n3 n4 n5 n6 (.inr ⟨by omega, (by first | assumption | exact Decidable.of_not_not (by assumption)), hdn⟩)).symm, hS59.fin⟩ | (exfalso; omega)
    have n6 : ¬ (r.fr < 0 ∨ 24 < r.fr ∨ r.to < 0 ∨ 24 < r.to ∨ (r.fr = r.to ∧ ¬ r.fr = 0) ∨ r.nd < 0 ∨ 16 < r.nd) := by omega
    refine c_region ?_
    refine wl_val (r_field fa37_6 rfl) rfl ?_
    refine wl_val (r_loadB1 ti3.und rfl rfl (hS59.heap (.head _)) rfl) rfl ?_
    refine wl_dec (r_eql rfl rfl) rfl (fun h13_2 => ?_) (fun h13_2 => ?_)
    · refine wl_val (r_field fa37_7 rfl) rfl ?_
      refine wl_val (r_loadB1 ti9.und rfl rfl (hS59.heap (.head _)) rfl) rfl ?_
      refine wl_dec (r_eqlStrL rfl rfl) rfl (fun h13_5 => ?_) (fun h13_5 => ?_)
      · refine wl_dec_f (r_neqBool ti4.und rfl rfl) rfl (by decide) ?_
        refine wl_val (r_move (v := .bool _) rfl) rfl ?_
        refine wl_val (r_field fa37_0 rfl) rfl ?_
        refine wl_val (r_loadB1 ti4.und rfl rfl (hS59.heap (.head _)) (by first | exact rule_dn_t hdn | exact rule_dn_f hdn)) rfl ?_
        refine wl_val (r_move (v := .bool _) rfl) rfl ?_
        refine wl_not rfl ?_
        refine wl_not rfl ?_
        refine wl_not rfl ?_
        refine wl_val (r_pick_f rfl (v := .bool false) rfl) rfl ?_
        refine wl_val (r_pick_f rfl (v := .bool _) rfl) rfl ?_
        refine wl_val (r_assign (v := .bool _) rfl) rfl ?_
        refine wl_nil ?_
        refine c_then ?_
        refine c_false rfl ?_
        refine wp_skip ?_
        refine c_inN ?_
        refine c_then ?_
        refine c_seq ?_
        refine c_region ?_
        refine wl_val (r_assign (v := .int .i64 0) rfl) rfl ?_
        refine wl_nil ?_
        refine c_then ?_
        refine wp_ret ?_
        refine ret1 Try.results46 ?_
        first | exact ⟨congrArg (Value.int .i64) (rule_8 n1 n2 n3 n4 n5 n6 (.inl ⟨by omega, (by first | assumption | exact Decidable.of_not_not (by assumption))⟩)).symm, hS59.fin⟩ | exact ⟨congrArg (Value.int .i64) (rule_8 n1 n2 n3 n4 n5 n6 (.inr ⟨by omega, (by first | assumption | exact Decidable.of_not_not (by assumption)), hdn⟩)).symm, hS59.fin⟩ | (exfalso; omega)
      refine wl_dec_t (r_neqBool ti4.und rfl rfl) rfl (by decide) ?_
      refine wl_val (r_move (v := .bool _) rfl) rfl ?_
      refine wl_not rfl ?_
      refine wl_not rfl ?_
      refine wl_not rfl ?_
      refine wl_not rfl ?_
      refine wl_not rfl ?_
      refine wl_not rfl ?_
      refine wl_not rfl ?_
      refine wl_val (r_pick_t rfl (v := .bool true) rfl) rfl ?_
      refine wl_val (r_assign (v := .bool _) rfl) rfl ?_
      refine wl_nil ?_
      refine c_then ?_
      refine c_true rfl ?_
      refine c_seq ?_
      refine c_region ?_
      refine wl_val (r_assign (v := .int .i64 17) rfl) rfl ?_
      refine wl_nil ?_
      refine c_then ?_
      refine wp_ret ?_
      refine c_inR ?_
      refine c_thenR ?_
      refine ret1 Try.results46 ?_
      first | exact ⟨congrArg (Value.int .i64) (rule_7 n1 n2 n3 n4 n5 n6 (.inl ⟨by omega, (by first | assumption | exact Decidable.of_not_not (by assumption))⟩)).symm, hS59.fin⟩ | exact ⟨congrArg (Value.int .i64) (rule_7 n1 n2 n3 n4 n5 n6 (.inr (.inl ⟨by omega, (by first | assumption | exact Decidable.of_not_not (by assumption))⟩))).symm, hS59.fin⟩ | exact ⟨congrArg (Value.int .i64) (rule_7 n1 n2 n3 n4 n5 n6 (.inr (.inr ⟨hdn, by omega⟩))).symm, hS59.fin⟩ | (exfalso; omega)
    refine wl_val (r_field fa37_7 rfl) rfl ?_
    refine wl_val (r_loadB1 ti9.und rfl rfl (hS59.heap (.head _)) rfl) rfl ?_
    refine wl_dec (r_eqlStrL rfl rfl) rfl (fun h13_5 => ?_) (fun h13_5 => ?_)
    · refine wl_dec_t (r_neqBool ti4.und rfl rfl) rfl (by decide) ?_
      refine wl_val (r_move (v := .bool _) rfl) rfl ?_
      refine wl_not rfl ?_
      refine wl_not rfl ?_
      refine wl_not rfl ?_
      refine wl_not rfl ?_
      refine wl_not rfl ?_
      refine wl_not rfl ?_
      refine wl_not rfl ?_
      refine wl_val (r_pick_t rfl (v := .bool true) rfl) rfl ?_
      refine wl_val (r_assign (v := .bool _) rfl) rfl ?_
      refine wl_nil ?_
      refine c_then ?_
      refine c_true rfl ?_
      refine c_seq ?_
      refine c_region ?_
      refine wl_val (r_assign (v := .int .i64 17) rfl) rfl ?_
      refine wl_nil ?_
      refine c_then ?_
      refine wp_ret ?_
      refine c_inR ?_
      refine c_thenR ?_
      refine ret1 Try.results46 ?_
      first | exact ⟨congrArg (Value.int .i64) (rule_7 n1 n2 n3 n4 n5 n6 (.inl ⟨by omega, (by first | assumption | exact Decidable.of_not_not (by assumption))⟩)).symm, hS59.fin⟩ | exact ⟨congrArg (Value.int .i64) (rule_7 n1 n2 n3 n4 n5 n6 (.inr (.inl ⟨by omega, (by first | assumption | exact Decidable.of_not_not (by assumption))⟩))).symm, hS59.fin⟩ | exact ⟨congrArg (Value.int .i64) (rule_7 n1 n2 n3 n4 n5 n6 (.inr (.inr ⟨hdn, by omega⟩))).symm, hS59.fin⟩ | (exfalso; omega)
    refine wl_dec_f (r_neqBool ti4.und rfl rfl) rfl (by decide) ?_
    refine wl_val (r_move (v := .bool _) rfl) rfl ?_
    refine wl_val (r_field fa37_0 rfl) rfl ?_
    refine wl_val (r_loadB1 ti4.und rfl rfl (hS59.heap (.head _)) (by first | exact rule_dn_t hdn | exact rule_dn_f hdn)) rfl ?_
    refine wl_val (r_move (v := .bool _) rfl) rfl ?_
    refine wl_not rfl ?_
    refine wl_not rfl ?_
    refine wl_not rfl ?_
    refine wl_val (r_pick_f rfl (v := .bool false) rfl) rfl ?_
    refine wl_val (r_pick_f rfl (v := .bool _) rfl) rfl ?_
    refine wl_val (r_assign (v := .bool _) rfl) rfl ?_
    refine wl_nil ?_
    refine c_then ?_
    refine c_false rfl ?_
    refine wp_skip ?_
    refine c_inN ?_
    refine c_then ?_
    refine c_seq ?_
    refine c_region ?_
    refine wl_val (r_assign (v := .int .i64 0) rfl) rfl ?_
    refine wl_nil ?_
    refine c_then ?_
    refine wp_ret ?_
    refine ret1 Try.results46 ?_
    first | exact ⟨congrArg (Value.int .i64) (rule_8 n1 n2 n3 n4 n5 n6 (.inl ⟨by omega, (by first | assumption | exact Decidable.of_not_not (by assumption))⟩)).symm, hS59.fin⟩ | exact ⟨congrArg (Value.int .i64) (rule_8 n1 n2 n3 n4 n5 n6 (.inr ⟨by omega, (by first | assumption | exact Decidable.of_not_not (by assumption)), hdn⟩)).symm, hS59.fin⟩ | (exfalso; omega)
  refine wl_val (r_move (v := .bool _) rfl) rfl ?_
  refine wl_not rfl ?_
  refine wl_not rfl ?_
  refine wl_not rfl ?_
  refine wl_val (r_pick_f rfl (v := .bool false) rfl) rfl ?_
  refine wl_val (r_pick_f rfl (v := .bool _) rfl) rfl ?_
  refine wl_val (r_move (v := .bool _) rfl) rfl ?_
  refine wl_val (r_field fa37_6 rfl) rfl ?_
  refine wl_val (r_loadB1 ti3.und rfl rfl (hS56.heap (.head _)) rfl) rfl ?_
  refine wl_call (r_call fn43 rfl rfl) rfl (poutside_ok r.nd 0 16 _) ?_
  rintro _ w60 (⟨ho3, rfl, hx61⟩ | ⟨ho3, rfl, hx61⟩)
  · have hS62 := hS56.ext hx61
    refine wl_val (r_pick_f rfl (v := .bool _) rfl) rfl ?_
    refine wl_val (r_assign (v := .bool _) rfl) rfl ?_
    refine wl_nil ?_
    refine c_then ?_
    refine c_true rfl ?_
    refine c_seq ?_
    refine c_region ?_
    refine wl_val (r_assign (v := .int .i64 4) rfl) rfl ?_
    refine wl_nil ?_
    refine c_then ?_
    refine wp_ret ?_
    refine c_inR ?_
    refine c_thenR ?_
    refine ret1 Try.results46 ?_
    first | exact ⟨congrArg (Value.int .i64) (rule_6 n1 n2 n3 n4 n5 (by omega)).symm, hS62.fin⟩ | (exfalso; omega)
  have hS62 := hS56.ext hx61
  refine wl_val (r_pick_f rfl (v := .bool _) rfl) rfl ?_
  refine wl_val (r_assign (v := .bool _) rfl) rfl ?_
  refine wl_nil ?_
  refine c_then ?_
  refine c_false rfl ?_
  refine c_seq ?_
  rcases bool_cases r.dn with hdn | hdn
  · have n6 : ¬ (r.fr < 0 ∨ 24 < r.fr ∨ r.to < 0 ∨ 24 < r.to ∨ (r.fr = r.to ∧ ¬ r.fr = 0) ∨ r.nd < 0 ∨ 16 < r.nd) := by omega
    refine c_region ?_
    refine wl_val (r_field fa37_6 rfl) rfl ?_
    refine wl_val (r_loadB1 ti3.und rfl rfl (hS62.heap (.head _)) rfl) rfl ?_
    refine wl_dec (r_eql rfl rfl) rfl (fun h13_2 => ?_) (fun h13_2 => ?_)
    · refine wl_val (r_field fa37_7 rfl) rfl ?_
      refine wl_val (r_loadB1 ti9.und rfl rfl (hS62.heap (.head _)) rfl) rfl ?_
      refine wl_dec (r_eqlStrL rfl rfl) rfl (fun h13_5 => ?_) (fun h13_5 => ?_)
      · refine wl_dec_f (r_neqBool ti4.und rfl rfl) rfl (by decide) ?_
        refine wl_val (r_move (v := .bool _) rfl) rfl ?_
        refine wl_val (r_field fa37_0 rfl) rfl ?_
        refine wl_val (r_loadB1 ti4.und rfl rfl (hS62.heap (.head _)) (by first | exact rule_dn_t hdn | exact rule_dn_f hdn)) rfl ?_
        refine wl_val (r_move (v := .bool _) rfl) rfl ?_
        refine wl_val (r_field fa37_6 rfl) rfl ?_
        refine wl_val (r_loadB1 ti3.und rfl rfl (hS62.heap (.head _)) rfl) rfl ?_
        refine wl_dec (r_gtr rfl rfl) rfl (fun h13_13 => ?_) (fun h13_13 => ?_)
        · refine wl_val (r_pick_t rfl (v := .bool _) rfl) rfl ?_
          refine wl_val (r_pick_f rfl (v := .bool _) rfl) rfl ?_
          refine wl_val (r_assign (v := .bool _) rfl) rfl ?_
          refine wl_nil ?_
          refine c_then ?_
          refine c_true rfl ?_
          refine c_seq ?_
          refine c_region ?_
          refine wl_val (r_assign (v := .int .i64 17) rfl) rfl ?_
          refine wl_nil ?_
          refine c_then ?_
          refine wp_ret ?_
          refine c_inR ?_
          refine c_thenR ?_
          refine ret1 Try.results46 ?_
          first | exact ⟨congrArg (Value.int .i64) (rule_7 n1 n2 n3 n4 n5 n6 (.inl ⟨by omega, (by first | assumption | exact Decidable.of_not_not (by assumption))⟩)).symm, hS62.fin⟩ | exact ⟨congrArg (Value.int .i64) (rule_7 n1 n2 n3 n4 n5 n6 (.inr (.inl ⟨by omega, (by first | assumption | exact Decidable.of_not_not (by assumption))⟩))).symm, hS62.fin⟩ | exact ⟨congrArg (Value.int .i64) (rule_7 n1 n2 n3 n4 n5 n6 (.inr (.inr ⟨hdn, by omega⟩))).symm, hS62.fin⟩ | (exfalso; omega)
        refine wl_val (r_pick_t rfl (v := .bool _) rfl) rfl ?_
        refine wl_val (r_pick_f rfl (v := .bool _) rfl) rfl ?_
        refine wl_val (r_assign (v := .bool _) rfl) rfl ?_
        refine wl_nil ?_
        refine c_then ?_
        refine c_false rfl ?_
        refine wp_skip ?_
        refine c_inN ?_
        refine c_then ?_
        refine c_seq ?_
        refine c_region ?_
        refine wl_val (r_assign (v := .int .i64 0) rfl) rfl ?_
        refine wl_nil ?_
        refine c_then ?_
        refine wp_ret ?_
        refine ret1 Try.results46 ?_
        first | exact ⟨congrArg (Value.int .i64) (rule_8 n1 n2 n3 n4 n5 n6 (.inl ⟨by omega, (by first | assumption | exact Decidable.of_not_not (by assumption))⟩)).symm, hS62.fin⟩ | exact ⟨congrArg (Value.int .i64) (rule_8 n1 n2 n3 n4 n5 n6 (.inr ⟨by omega, (by first | assumption | exact Decidable.of_not_not (by assumption)), hdn⟩)).symm, hS62.fin⟩ | (exfalso; omega)
      refine wl_dec_t (r_neqBool ti4.und rfl rfl) rfl (by decide) ?_
      refine wl_val (r_move (v := .bool _) rfl) rfl ?_
      refine wl_not rfl ?_
      refine wl_not rfl ?_
      refine wl_not rfl ?_
      refine wl_not rfl ?_
      refine wl_not rfl ?_
      refine wl_not rfl ?_
      refine wl_not rfl ?_
      refine wl_val (r_pick_t rfl (v := .bool true) rfl) rfl ?_
      refine wl_val (r_assign (v := .bool _) rfl) rfl ?_
      refine wl_nil ?_
      refine c_then ?_
      refine c_true rfl ?_
      refine c_seq ?_
      refine c_region ?_
      refine wl_val (r_assign (v := .int .i64 17) rfl) rfl ?_
      refine wl_nil ?_
      refine c_then ?_
      refine wp_ret ?_
      refine c_inR ?_
      refine c_thenR ?_
      refine ret1 Try.results46 ?_
      first | exact ⟨congrArg (Value.int .i64) (rule_7 n1 n2 n3 n4 n5 n6 (.inl ⟨by omega, (by first | assumption | exact Decidable.of_not_not (by assumption))⟩)).symm, hS62.fin⟩ | exact ⟨congrArg (Value.int .i64) (rule_7 n1 n2 n3 n4 n5 n6 (.inr (.inl ⟨by omega, (by first | assumption | exact Decidable.of_not_not (by assumption))⟩))).symm, hS62.fin⟩ | exact ⟨congrArg (Value.int .i64) (rule_7 n1 n2 n3 n4 n5 n6 (.inr (.inr ⟨hdn, by omega⟩))).symm, hS62.fin⟩ | (exfalso; omega)
    refine wl_val (r_field fa37_7 rfl) rfl ?_
    refine wl_val (r_loadB1 ti9.und rfl rfl (hS62.heap (.head _)) rfl) rfl ?_
    refine wl_dec (r_eqlStrL rfl rfl) rfl (fun h13_5 => ?_) (fun h13_5 => ?_)
    · refine wl_dec_t (r_neqBool ti4.und rfl rfl) rfl (by decide) ?_
      refine wl_val (r_move (v := .bool _) rfl) rfl ?_
      refine wl_not rfl ?_
      refine wl_not rfl ?_
      refine wl_not rfl ?_
      refine wl_not rfl ?_
      refine wl_not rfl ?_
      refine wl_not rfl ?_
      refine wl_not rfl ?_
      refine wl_val (r_pick_t rfl (v := .bool true) rfl) rfl ?_
      refine wl_val (r_assign (v := .bool _) rfl) rfl ?_
      refine wl_nil ?_
      refine c_then ?_
      refine c_true rfl ?_
      refine c_seq ?_
      refine c_region ?_
      refine wl_val (r_assign (v := .int .i64 17) rfl) rfl ?_
      refine wl_nil ?_
      refine c_then ?_
      refine wp_ret ?_
      refine c_inR ?_
      refine c_thenR ?_
      refine ret1 Try.results46 ?_
      first | exact ⟨congrArg (Value.int .i64) (rule_7 n1 n2 n3 n4 n5 n6 (.inl ⟨by omega, (by first | assumption | exact Decidable.of_not_not (by assumption))⟩)).symm, hS62.fin⟩ | exact ⟨congrArg (Value.int .i64) (rule_7 n1 n2 n3 n4 n5 n6 (.inr (.inl ⟨by omega, (by first | assumption | exact Decidable.of_not_not (by assumption))⟩))).symm, hS62.fin⟩ | exact ⟨congrArg (Value.int .i64) (rule_7 n1 n2 n3 n4 n5 n6 (.inr (.inr ⟨hdn, by omega⟩))).symm, hS62.fin⟩ | (exfalso; omega)
    refine wl_dec_f (r_neqBool ti4.und rfl rfl) rfl (by decide) ?_
    refine wl_val (r_move (v := .bool _) rfl) rfl ?_
    refine wl_val (r_field fa37_0 rfl) rfl ?_
    refine wl_val (r_loadB1 ti4.und rfl rfl (hS62.heap (.head _)) (by first | exact rule_dn_t hdn | exact rule_dn_f hdn)) rfl ?_
    refine wl_val (r_move (v := .bool _) rfl) rfl ?_
    refine wl_val (r_field fa37_6 rfl) rfl ?_
    refine wl_val (r_loadB1 ti3.und rfl rfl (hS62.heap (.head _)) rfl) rfl ?_
    refine wl_dec (r_gtr rfl rfl) rfl (fun h13_13 => ?_) (fun h13_13 => ?_)
    · refine wl_val (r_pick_t rfl (v := .bool _) rfl) rfl ?_
      refine wl_val (r_pick_f rfl (v := .bool _) rfl) rfl ?_
      refine wl_val (r_assign (v := .bool _) rfl) rfl ?_
      refine wl_nil ?_
      refine c_then ?_
      refine c_true rfl ?_
      refine c_seq ?_
      refine c_region ?_
      refine wl_val (r_assign (v := .int .i64 17) rfl) rfl ?_
      refine wl_nil ?_
      refine c_then ?_
      refine wp_ret ?_
      refine c_inR ?_
      refine c_thenR ?_
      refine ret1 Try.results46 ?_
      first | exact ⟨congrArg (Value.int .i64) (rule_7 n1 n2 n3 n4 n5 n6 (.inl ⟨by omega, (by first | assumption | exact Decidable.of_not_not (by assumption))⟩)).symm, hS62.fin⟩ | exact ⟨congrArg (Value.int .i64) (rule_7 n1 n2 n3 n4 n5 n6 (.inr (.inl ⟨by omega, (by first | assumption | exact Decidable.of_not_not (by assumption))⟩))).symm, hS62.fin⟩ | exact ⟨congrArg (Value.int .i64) (rule_7 n1 n2 n3 n4 n5 n6 (.inr (.inr ⟨hdn, by omega⟩))).symm, hS62.fin⟩ | (exfalso; omega)
    refine wl_val (r_pick_t rfl (v := .bool _) rfl) rfl ?_
    refine wl_val (r_pick_f rfl (v := .bool _) rfl) rfl ?_
    refine wl_val (r_assign (v := .bool _) rfl) rfl ?_
    refine wl_nil ?_
    refine c_then ?_
    refine c_false rfl ?_
    refine wp_skip ?_
    refine c_inN ?_
    refine c_then ?_
    refine c_seq ?_
    refine c_region ?_
    refine wl_val (r_assign (v := .int .i64 0) rfl) rfl ?_
    refine wl_nil ?_
    refine c_then ?_
    refine wp_ret ?_
    refine ret1 Try.results46 ?_
    first | exact ⟨congrArg (Value.int .i64) (rule_8 n1 n2 n3 n4 n5 n6 (.inl ⟨by omega, (by first | assumption | exact Decidable.of_not_not (by assumption))⟩)).symm, hS62.fin⟩ | exact ⟨congrArg (Value.int .i64) (rule_8 n1 n2 n3 n4 n5 n6 (.inr ⟨by omega, (by first | assumption | exact Decidable.of_not_not (by assumption)), hdn⟩)).symm, hS62.fin⟩ | (exfalso; omega)
  have n6 : ¬ (r.fr < 0 ∨ 24 < r.fr ∨ r.to < 0 ∨ 24 < r.to ∨ (r.fr = r.to ∧ ¬ r.fr = 0) ∨ r.nd < 0 ∨ 16 < r.nd) := by omega
  refine c_region ?_
  refine wl_val (r_field fa37_6 rfl) rfl ?_
  refine wl_val (r_loadB1 ti3.und rfl rfl (hS62.heap (.head _)) rfl) rfl ?_
  refine wl_dec (r_eql rfl rfl) rfl (fun h13_2 => ?_) (fun h13_2 => ?_)
  · refine wl_val (r_field fa37_7 rfl) rfl ?_
    refine wl_val (r_loadB1 ti9.und rfl rfl (hS62.heap (.head _)) rfl) rfl ?_
    refine wl_dec (r_eqlStrL rfl rfl) rfl (fun h13_5 => ?_) (fun h13_5 => ?_)
    · refine wl_dec_f (r_neqBool ti4.und rfl rfl) rfl (by decide) ?_
      refine wl_val (r_move (v := .bool _) rfl) rfl ?_
      refine wl_val (r_field fa37_0 rfl) rfl ?_
      refine wl_val (r_loadB1 ti4.und rfl rfl (hS62.heap (.head _)) (by first | exact rule_dn_t hdn | exact rule_dn_f hdn)) rfl ?_
      refine wl_val (r_move (v := .bool _) rfl) rfl ?_
      refine wl_not rfl ?_
      refine wl_not rfl ?_
      refine wl_not rfl ?_
      refine wl_val (r_pick_f rfl (v := .bool false) rfl) rfl ?_
      refine wl_val (r_pick_f rfl (v := .bool _) rfl) rfl ?_
      refine wl_val (r_assign (v := .bool _) rfl) rfl ?_
      refine wl_nil ?_
      refine c_then ?_
      refine c_false rfl ?_
      refine wp_skip ?_
      refine c_inN ?_
      refine c_then ?_
      refine c_seq ?_
      refine c_region ?_
      refine wl_val (r_assign (v := .int .i64 0) rfl) rfl ?_
      refine wl_nil ?_
      refine c_then ?_
      refine wp_ret ?_
      refine ret1 Try.results46 ?_
      first | exact ⟨congrArg (Value.int .i64) (rule_8 n1 n2 n3 n4 n5 n6 (.inl ⟨by omega, (by first | assumption | exact Decidable.of_not_not (by assumption))⟩)).symm, hS62.fin⟩ | exact ⟨congrArg (Value.int .i64) (rule_8 n1 n2 n3 n4 n5 n6 (.inr ⟨by omega, (by first | assumption | exact Decidable.of_not_not (by assumption)), hdn⟩)).symm, hS62.fin⟩ | (exfalso; omega)
    refine wl_dec_t (r_neqBool ti4.und rfl rfl) rfl (by decide) ?_
    refine wl_val (r_move (v := .bool _) rfl) rfl ?_
    refine wl_not rfl ?_
    refine wl_not rfl ?_
    refine wl_not rfl ?_
    refine wl_not rfl ?_
    refine wl_not rfl ?_
    refine wl_not rfl ?_
    refine wl_not rfl ?_
    refine wl_val (r_pick_t rfl (v := .bool true) rfl) rfl ?_
    refine wl_val (r_assign (v := .bool _) rfl) rfl ?_
    refine wl_nil ?_
    refine c_then ?_
    refine c_true rfl ?_
    refine c_seq ?_
    refine c_region ?_
    refine wl_val (r_assign (v := .int .i64 17) rfl) rfl ?_
    refine wl_nil ?_
    refine c_then ?_
    refine wp_ret ?_
    refine c_inR ?_
    refine c_thenR ?_
    refine ret1 Try.results46 ?_
    first | exact ⟨congrArg (Value.int .i64) (rule_7 n1 n2 n3 n4 n5 n6 (.inl ⟨by omega, (by first | assumption | exact Decidable.of_not_not (by assumption))⟩)).symm, hS62.fin⟩ | exact ⟨congrArg (Value.int .i64) (rule_7 n1 n2 n3 n4 n5 n6 (.inr (.inl ⟨by omega, (by first | assumption | exact Decidable.of_not_not (by assumption))⟩))).symm, hS62.fin⟩ | exact ⟨congrArg (Value.int .i64) (rule_7 n1 n2 n3 n4 n5 n6 (.inr (.inr ⟨hdn, by omega⟩))).symm, hS62.fin⟩ | (exfalso; omega)
  refine wl_val (r_field fa37_7 rfl) rfl ?_
  refine wl_val (r_loadB1 ti9.und rfl rfl (hS62.heap (.head _)) rfl) rfl ?_
  refine wl_dec (r_eqlStrL rfl rfl) rfl (fun h13_5 => ?_) (fun h13_5 => ?_)
  · refine wl_dec_t (r_neqBool ti4.und rfl rfl) rfl (by decide) ?_
    refine wl_val (r_move (v := .bool _) rfl) rfl ?_
    refine wl_not rfl ?_
    refine wl_not rfl ?_
    refine wl_not rfl ?_
    refine wl_not rfl ?_
    refine wl_not rfl ?_
    refine wl_not rfl ?_
    refine wl_not rfl ?_
    refine wl_val (r_pick_t rfl (v := .bool true) rfl) rfl ?_
    refine wl_val (r_assign (v := .bool _) rfl) rfl ?_
    refine wl_nil ?_
    refine c_then ?_
    refine c_true rfl ?_
    refine c_seq ?_
    refine c_region ?_
    refine wl_val (r_assign (v := .int .i64 17) rfl) rfl ?_
    refine wl_nil ?_
    refine c_then ?_
    refine wp_ret ?_
    refine c_inR ?_
    refine c_thenR ?_
    refine ret1 Try.results46 ?_
    first | exact ⟨congrArg (Value.int .i64) (rule_7 n1 n2 n3 n4 n5 n6 (.inl ⟨by omega, (by first | assumption | exact Decidable.of_not_not (by assumption))⟩)).symm, hS62.fin⟩ | exact ⟨congrArg (Value.int .i64) (rule_7 n1 n2 n3 n4 n5 n6 (.inr (.inl ⟨by omega, (by first | assumption | exact Decidable.of_not_not (by assumption))⟩))).symm, hS62.fin⟩ | exact ⟨congrArg (Value.int .i64) (rule_7 n1 n2 n3 n4 n5 n6 (.inr (.inr ⟨hdn, by omega⟩))).symm, hS62.fin⟩ | (exfalso; omega)
  refine wl_dec_f (r_neqBool ti4.und rfl rfl) rfl (by decide) ?_
  refine wl_val (r_move (v := .bool _) rfl) rfl ?_
  refine wl_val (r_field fa37_0 rfl) rfl ?_
  refine wl_val (r_loadB1 ti4.und rfl rfl (hS62.heap (.head _)) (by first | exact rule_dn_t hdn | exact rule_dn_f hdn)) rfl ?_
  refine wl_val (r_move (v := .bool _) rfl) rfl ?_
  refine wl_not rfl ?_
  refine wl_not rfl ?_
  refine wl_not rfl ?_
  refine wl_val (r_pick_f rfl (v := .bool false) rfl) rfl ?_
  refine wl_val (r_pick_f rfl (v := .bool _) rfl) rfl ?_
  refine wl_val (r_assign (v := .bool _) rfl) rfl ?_
  refine wl_nil ?_
  refine c_then ?_
  refine c_false rfl ?_
  refine wp_skip ?_
  refine c_inN ?_
  refine c_then ?_
  refine c_seq ?_
  refine c_region ?_
  refine wl_val (r_assign (v := .int .i64 0) rfl) rfl ?_
  refine wl_nil ?_
  refine c_then ?_
  refine wp_ret ?_
  refine ret1 Try.results46 ?_
  first | exact ⟨congrArg (Value.int .i64) (rule_8 n1 n2 n3 n4 n5 n6 (.inl ⟨by omega, (by first | assumption | exact Decidable.of_not_not (by assumption))⟩)).symm, hS62.fin⟩ | exact ⟨congrArg (Value.int .i64) (rule_8 n1 n2 n3 n4 n5 n6 (.inr ⟨by omega, (by first | assumption | exact Decidable.of_not_not (by assumption)), hdn⟩)).symm, hS62.fin⟩ | (exfalso; omega)

set_option maxHeartbeats 4000000 in
theorem ruleError_ok (r : RuleD) (w : World) (hk : RuleOk r) (h1 : Row w r.ra (r.ro.map sv)) (h2 : Row w r.aa (r.acs.map iv)) (h3 : Row w r.la (r.las.map sv)) :
    Ret Try.prog 17 [.agg r.v.toArray] w (fun v w' => v = .int .i64 (ruleE r) ∧ St w [] w' []) := by
  refine enter Try.func17 rfl Try.ntmps17 rfl ?_
  have hS := St.refl w []
  refine c_seq ?_
  refine c_region ?_
  refine wl_exv (x_box hS (v := .agg _) rfl rfl) rfl ?_
  rintro _ w1 ⟨b1, rfl, hS2⟩
  refine wl_val (r_assign (v := .int .i64 0) rfl) rfl ?_
  refine wl_nil ?_
  refine c_then ?_
  refine c_seq ?_
  refine c_seq ?_
  refine c_region ?_
  refine wl_val (r_field fa37_1 rfl) rfl ?_
  refine wl_val (r_loadB1 ti30.und rfl rfl (hS2.heap (.head _)) rfl) rfl ?_
  refine wl_val (r_len (T := 30) rfl ti30.und rfl _ rfl) rfl ?_
  refine wl_val (r_field fa37_2 rfl) rfl ?_
  refine wl_val (r_loadB1 ti35.und rfl rfl (hS2.heap (.head _)) rfl) rfl ?_
  refine wl_val (r_len (T := 35) rfl ti35.und rfl _ rfl) rfl ?_
  refine wl_val (r_field fa37_3 rfl) rfl ?_
  refine wl_val (r_loadB1 ti30.und rfl rfl (hS2.heap (.head _)) rfl) rfl ?_
  refine wl_val (r_len (T := 30) rfl ti30.und rfl _ rfl) rfl ?_
  refine wl_val (r_max3n rfl rfl rfl _ rfl) rfl ?_
  refine wl_dec (r_gtr rfl rfl) rfl (fun h1_10 => ?_) (fun h1_10 => ?_)
  · refine wl_nil ?_
    refine c_then ?_
    refine c_true rfl ?_
    refine c_seq ?_
    refine c_region ?_
    refine wl_val (r_assign (v := .int .i64 5) rfl) rfl ?_
    refine wl_nil ?_
    refine c_then ?_
    refine wp_ret ?_
    refine c_thenR ?_
    refine ret1 Try.results17 ?_
    first | exact ⟨congrArg (Value.int .i64) (rule_1 (by omega)).symm, hS2.fin⟩ | (exfalso; omega)
  refine wl_nil ?_
  refine c_then ?_
  refine c_false rfl ?_
  refine wp_skip ?_
  refine c_then ?_
  refine c_seq ?_
  refine c_seq ?_
  have n1 : ¬ (16 < r.ro.length ∨ 16 < r.acs.length ∨ 16 < r.las.length) := by omega
  refine c_region ?_
  refine wl_val (r_field fa37_1 rfl) rfl ?_
  refine wl_val (r_loadB1 ti30.und rfl rfl (hS2.heap (.head _)) rfl) rfl ?_
  refine wl_call (r_call fn37 rfl rfl) rfl (containsFuncS_ok r.ro r.ra r.ro.length r.rc 48 [] (fun s => !nameE s) _ (h1.st hS2) rfl hk.rn fn48 (fun x w' hx h => rnot2_ok x w' (hk.rl x hx))) ?_
  rintro _ w3 (⟨hcf, rfl, hx4⟩ | ⟨hcf, rfl, hx4⟩)
  · have hS5 := hS2.ext hx4
    refine wl_val (r_move (v := .bool _) rfl) rfl ?_
    refine wl_not rfl ?_
    refine wl_not rfl ?_
    refine wl_not rfl ?_
    refine wl_not rfl ?_
    refine wl_not rfl ?_
    refine wl_not rfl ?_
    refine wl_not rfl ?_
    refine wl_not rfl ?_
    refine wl_not rfl ?_
    refine wl_val (r_pick_t rfl (v := .bool true) rfl) rfl ?_
    refine wl_nil ?_
    refine c_then ?_
    refine c_true rfl ?_
    refine c_seq ?_
    refine c_region ?_
    refine wl_val (r_assign (v := .int .i64 6) rfl) rfl ?_
    refine wl_nil ?_
    refine c_then ?_
    refine wp_ret ?_
    refine c_thenR ?_
    refine ret1 Try.results17 ?_
    first | exact ⟨congrArg (Value.int .i64) (rule_4 n1 n2 n3 hcf).symm, hS5.fin⟩ | exact ⟨congrArg (Value.int .i64) (rule_2 n1 (.inl hcf)).symm, hS5.fin⟩ | exact ⟨congrArg (Value.int .i64) (rule_2 n1 (.inr ⟨by assumption, hnn⟩)).symm, hS5.fin⟩ | (exfalso; omega)
  have hS5 := hS2.ext hx4
  refine wl_val (r_move (v := .bool _) rfl) rfl ?_
  refine wl_val (r_field fa37_7 rfl) rfl ?_
  refine wl_val (r_loadB1 ti9.und rfl rfl (hS5.heap (.head _)) rfl) rfl ?_
  refine wl_dec (r_neqStrL rfl rfl) rfl (fun h3_6 => ?_) (fun h3_6 => ?_)
  · refine wl_val (r_move (v := .bool _) rfl) rfl ?_
    refine wl_val (r_field fa37_7 rfl) rfl ?_
    refine wl_val (r_loadB1 ti9.und rfl rfl (hS5.heap (.head _)) rfl) rfl ?_
    refine wl_call (r_call fn10 rfl rfl) rfl (risName_br r.ofr _ hk.ol) ?_
    rintro _ w6 (⟨hnn, rfl, hx7⟩ | ⟨hnn, rfl, hx7⟩)
    · have hS8 := hS5.ext hx7
      refine wl_val (r_not rfl) rfl ?_
      refine wl_val (r_pick_t rfl (v := .bool _) rfl) rfl ?_
      refine wl_val (r_pick_f rfl (v := .bool _) rfl) rfl ?_
      refine wl_nil ?_
      refine c_then ?_
      refine c_false rfl ?_
      refine wp_skip ?_
      refine c_then ?_
      refine c_seq ?_
      refine c_seq ?_
      have n2 : ¬ (r.ro.any (fun s => !nameE s) = true ∨ (¬ r.ofr = [] ∧ nameE r.ofr = false)) := by rintro (h | ⟨h, h'⟩); (rw [hcf] at h; cases h); first | exact h3_6 h | (rw [hnn] at h'; cases h')
      refine c_region ?_
      refine wl_val (r_field fa37_2 rfl) rfl ?_
      refine wl_val (r_loadB1 ti35.und rfl rfl (hS8.heap (.head _)) rfl) rfl ?_
      refine wl_call (r_call fn49 rfl rfl) rfl (containsFuncI_ok r.acs r.aa r.acs.length r.ak 50 [] actOut _ (h2.st hS8) rfl hk.an fn50 (fun x w' hx h => ranot_ok x w')) ?_
      rintro _ w9 (⟨hcf, rfl, hx10⟩ | ⟨hcf, rfl, hx10⟩)
      · have hS11 := hS8.ext hx10
        refine wl_nil ?_
        refine c_then ?_
        refine c_true rfl ?_
        refine c_seq ?_
        refine c_region ?_
        refine wl_val (r_assign (v := .int .i64 3) rfl) rfl ?_
        refine wl_nil ?_
        refine c_then ?_
        refine wp_ret ?_
        refine c_thenR ?_
        refine ret1 Try.results17 ?_
        first | exact ⟨congrArg (Value.int .i64) (rule_3 n1 n2 hcf).symm, hS11.fin⟩ | (exfalso; omega)
      have hS11 := hS8.ext hx10
      refine wl_nil ?_
      refine c_then ?_
      refine c_false rfl ?_
      refine wp_skip ?_
      refine c_then ?_
      refine c_seq ?_
      refine c_seq ?_
      have n3 : ¬ (r.acs.any actOut = true) := by rw [hcf]; exact Bool.noConfusion
      refine c_region ?_
      refine wl_val (r_field fa37_3 rfl) rfl ?_
      refine wl_val (r_loadB1 ti30.und rfl rfl (hS11.heap (.head _)) rfl) rfl ?_
      refine wl_call (r_call fn37 rfl rfl) rfl (containsFuncS_ok r.las r.la r.las.length r.lc 51 [] (fun s => !patE s) _ (h3.st hS11) rfl hk.ln fn51 (fun x w' hx h => rpnot_ok x w' (hk.ll x hx))) ?_
      rintro _ w12 (⟨hcf, rfl, hx13⟩ | ⟨hcf, rfl, hx13⟩)
      · have hS14 := hS11.ext hx13
        refine wl_nil ?_
        refine c_then ?_
        refine c_true rfl ?_
        refine c_seq ?_
        refine c_region ?_
        refine wl_val (r_assign (v := .int .i64 6) rfl) rfl ?_
        refine wl_nil ?_
        refine c_then ?_
        refine wp_ret ?_
        refine c_thenR ?_
        refine ret1 Try.results17 ?_
        first | exact ⟨congrArg (Value.int .i64) (rule_4 n1 n2 n3 hcf).symm, hS14.fin⟩ | exact ⟨congrArg (Value.int .i64) (rule_2 n1 (.inl hcf)).symm, hS14.fin⟩ | exact ⟨congrArg (Value.int .i64) (rule_2 n1 (.inr ⟨by assumption, hnn⟩)).symm, hS14.fin⟩ | (exfalso; omega)
      have hS14 := hS11.ext hx13
      refine wl_nil ?_
      refine c_then ?_
      refine c_false rfl ?_
      refine wp_skip ?_
      refine c_then ?_
      refine c_seq ?_
      refine c_block ?_
      refine c_seq ?_
      have n4 : ¬ (r.las.any (fun s => !patE s) = true) := by rw [hcf]; exact Bool.noConfusion
      refine c_region ?_
      refine wl_val (r_field fa37_1 rfl) rfl ?_
      refine wl_val (r_loadB1 ti30.und rfl rfl (hS14.heap (.head _)) rfl) rfl ?_
      refine wl_call (r_call fn53 rfl rfl) rfl (rtwiceS_ok r.ro r.ra r.ro.length r.rc _ (h1.st hS14) rfl hk.rn hk.rc) ?_
      rintro _ w15 (⟨htwro, rfl, hx16⟩ | ⟨htwro, rfl, hx16⟩)
      · have hS17 := hS14.ext hx16
        refine wl_val (r_move (v := .bool _) rfl) rfl ?_
        refine wl_not rfl ?_
        refine wl_not rfl ?_
        refine wl_not rfl ?_
        refine wl_val (r_pick_t rfl (v := .bool true) rfl) rfl ?_
        refine wl_val (r_move (v := .bool _) rfl) rfl ?_
        refine wl_not rfl ?_
        refine wl_not rfl ?_
        refine wl_not rfl ?_
        refine wl_val (r_pick_t rfl (v := .bool true) rfl) rfl ?_
        refine wl_val (r_assign (v := .bool _) rfl) rfl ?_
        refine wl_nil ?_
        refine c_then ?_
        refine c_true rfl ?_
        refine c_seq ?_
        refine c_region ?_
        refine wl_val (r_assign (v := .int .i64 8) rfl) rfl ?_
        refine wl_nil ?_
        refine c_then ?_
        refine wp_ret ?_
        refine c_inR ?_
        refine c_thenR ?_
        refine ret1 Try.results17 ?_
        first | exact ⟨congrArg (Value.int .i64) (rule_5 n1 n2 n3 n4 (by first | exact .inl (by assumption) | exact .inr (.inl (by assumption)) | exact .inr (.inr (by assumption)))).symm, hS17.fin⟩ | (exfalso; omega)
      have hS17 := hS14.ext hx16
      refine wl_val (r_move (v := .bool _) rfl) rfl ?_
      refine wl_val (r_field fa37_2 rfl) rfl ?_
      refine wl_val (r_loadB1 ti35.und rfl rfl (hS17.heap (.head _)) rfl) rfl ?_
      refine wl_call (r_call fn54 rfl rfl) rfl (rtwiceI_ok r.acs r.aa r.acs.length r.ak _ (h2.st hS17) rfl hk.an hk.ac) ?_
      rintro _ w18 (⟨htwacs, rfl, hx19⟩ | ⟨htwacs, rfl, hx19⟩)
      · have hS20 := hS17.ext hx19
        refine wl_val (r_pick_f rfl (v := .bool _) rfl) rfl ?_
        refine wl_val (r_move (v := .bool _) rfl) rfl ?_
        refine wl_not rfl ?_
        refine wl_not rfl ?_
        refine wl_not rfl ?_
        refine wl_val (r_pick_t rfl (v := .bool true) rfl) rfl ?_
        refine wl_val (r_assign (v := .bool _) rfl) rfl ?_
        refine wl_nil ?_
        refine c_then ?_
        refine c_true rfl ?_
        refine c_seq ?_
        refine c_region ?_
        refine wl_val (r_assign (v := .int .i64 8) rfl) rfl ?_
        refine wl_nil ?_
        refine c_then ?_
        refine wp_ret ?_
        refine c_inR ?_
        refine c_thenR ?_
        refine ret1 Try.results17 ?_
        first | exact ⟨congrArg (Value.int .i64) (rule_5 n1 n2 n3 n4 (by first | exact .inl (by assumption) | exact .inr (.inl (by assumption)) | exact .inr (.inr (by assumption)))).symm, hS20.fin⟩ | (exfalso; omega)
      have hS20 := hS17.ext hx19
      refine wl_val (r_pick_f rfl (v := .bool _) rfl) rfl ?_
      refine wl_val (r_move (v := .bool _) rfl) rfl ?_
      refine wl_val (r_field fa37_3 rfl) rfl ?_
      refine wl_val (r_loadB1 ti30.und rfl rfl (hS20.heap (.head _)) rfl) rfl ?_
      refine wl_call (r_call fn53 rfl rfl) rfl (rtwiceS_ok r.las r.la r.las.length r.lc _ (h3.st hS20) rfl hk.ln hk.lc) ?_
      rintro _ w21 (⟨htwlas, rfl, hx22⟩ | ⟨htwlas, rfl, hx22⟩)
      · have hS23 := hS20.ext hx22
        refine wl_val (r_pick_f rfl (v := .bool _) rfl) rfl ?_
        refine wl_val (r_assign (v := .bool _) rfl) rfl ?_
        refine wl_nil ?_
        refine c_then ?_
        refine c_true rfl ?_
        refine c_seq ?_
        refine c_region ?_
        refine wl_val (r_assign (v := .int .i64 8) rfl) rfl ?_
        refine wl_nil ?_
        refine c_then ?_
        refine wp_ret ?_
        refine c_inR ?_
        refine c_thenR ?_
        refine ret1 Try.results17 ?_
        first | exact ⟨congrArg (Value.int .i64) (rule_5 n1 n2 n3 n4 (by first | exact .inl (by assumption) | exact .inr (.inl (by assumption)) | exact .inr (.inr (by assumption)))).symm, hS23.fin⟩ | (exfalso; omega)
      have hS23 := hS20.ext hx22
      refine wl_val (r_pick_f rfl (v := .bool _) rfl) rfl ?_
      refine wl_val (r_assign (v := .bool _) rfl) rfl ?_
      refine wl_nil ?_
      refine c_then ?_
      refine c_false rfl ?_
      refine c_seq ?_
      have n5 : ¬ (¬ r.ro.Nodup ∨ ¬ r.acs.Nodup ∨ ¬ r.las.Nodup) := by rintro (h | h | h) <;> exact h (by assumption)
      refine c_region ?_
      refine wl_val (r_field fa37_4 rfl) rfl ?_
      refine wl_val (r_loadB1 ti3.und rfl rfl (hS23.heap (.head _)) rfl) rfl ?_
      refine wl_dec (r_lss rfl rfl) rfl (fun h11_2 => ?_) (fun h11_2 => ?_)
      · refine wl_val (r_move (v := .bool _) rfl) rfl ?_
        refine wl_not rfl ?_
        refine wl_not rfl ?_
        refine wl_not rfl ?_
        refine wl_val (r_pick_t rfl (v := .bool true) rfl) rfl ?_
        refine wl_val (r_move (v := .bool _) rfl) rfl ?_
        refine wl_not rfl ?_
        refine wl_not rfl ?_
        refine wl_not rfl ?_
        refine wl_val (r_pick_t rfl (v := .bool true) rfl) rfl ?_
        refine wl_val (r_move (v := .bool _) rfl) rfl ?_
        refine wl_not rfl ?_
        refine wl_not rfl ?_
        refine wl_not rfl ?_
        refine wl_val (r_pick_t rfl (v := .bool true) rfl) rfl ?_
        refine wl_val (r_move (v := .bool _) rfl) rfl ?_
        refine wl_not rfl ?_
        refine wl_not rfl ?_
        refine wl_not rfl ?_
        refine wl_not rfl ?_
        refine wl_not rfl ?_
        refine wl_not rfl ?_
        refine wl_not rfl ?_
        refine wl_not rfl ?_
        refine wl_not rfl ?_
        refine wl_not rfl ?_
        refine wl_val (r_pick_t rfl (v := .bool true) rfl) rfl ?_
        refine wl_val (r_move (v := .bool _) rfl) rfl ?_
        refine wl_not rfl ?_
        refine wl_not rfl ?_
        refine wl_not rfl ?_
        refine wl_val (r_pick_t rfl (v := .bool true) rfl) rfl ?_
        refine wl_val (r_move (v := .bool _) rfl) rfl ?_
        refine wl_not rfl ?_
        refine wl_not rfl ?_
        refine wl_not rfl ?_
        refine wl_val (r_pick_t rfl (v := .bool true) rfl) rfl ?_
        refine wl_val (r_assign (v := .bool _) rfl) rfl ?_
        refine wl_nil ?_
        refine c_then ?_
        refine c_true rfl ?_
        refine c_seq ?_
        refine c_region ?_
        refine wl_val (r_assign (v := .int .i64 4) rfl) rfl ?_
        refine wl_nil ?_
        refine c_then ?_
        refine wp_ret ?_
        refine c_inR ?_
        refine c_thenR ?_
        refine ret1 Try.results17 ?_
        first | exact ⟨congrArg (Value.int .i64) (rule_6 n1 n2 n3 n4 n5 (by omega)).symm, hS23.fin⟩ | (exfalso; omega)
      refine wl_val (r_move (v := .bool _) rfl) rfl ?_
      refine wl_val (r_field fa37_4 rfl) rfl ?_
      refine wl_val (r_loadB1 ti3.und rfl rfl (hS23.heap (.head _)) rfl) rfl ?_
      refine wl_dec (r_gtr rfl rfl) rfl (fun h11_6 => ?_) (fun h11_6 => ?_)
      · refine wl_val (r_pick_f rfl (v := .bool _) rfl) rfl ?_
        refine wl_val (r_move (v := .bool _) rfl) rfl ?_
        refine wl_not rfl ?_
        refine wl_not rfl ?_
        refine wl_not rfl ?_
        refine wl_val (r_pick_t rfl (v := .bool true) rfl) rfl ?_
        refine wl_val (r_move (v := .bool _) rfl) rfl ?_
        refine wl_not rfl ?_
        refine wl_not rfl ?_
        refine wl_not rfl ?_
        refine wl_val (r_pick_t rfl (v := .bool true) rfl) rfl ?_
        refine wl_val (r_move (v := .bool _) rfl) rfl ?_
        refine wl_not rfl ?_
        refine wl_not rfl ?_
        refine wl_not rfl ?_
        refine wl_not rfl ?_
        refine wl_not rfl ?_
        refine wl_not rfl ?_
        refine wl_not rfl ?_
        refine wl_not rfl ?_
        refine wl_not rfl ?_
        refine wl_not rfl ?_
        refine wl_val (r_pick_t rfl (v := .bool true) rfl) rfl ?_
        refine wl_val (r_move (v := .bool _) rfl) rfl ?_
        refine wl_not rfl ?_
        refine wl_not rfl ?_
        refine wl_not rfl ?_
        refine wl_val (r_pick_t rfl (v := .bool true) rfl) rfl ?_
        refine wl_val (r_move (v := .bool _) rfl) rfl ?_
        refine wl_not rfl ?_
        refine wl_not rfl ?_
        refine wl_not rfl ?_
        refine wl_val (r_pick_t rfl (v := .bool true) rfl) rfl ?_
        refine wl_val (r_assign (v := .bool _) rfl) rfl ?_
        refine wl_nil ?_
        refine c_then ?_
        refine c_true rfl ?_
        refine c_seq ?_
        refine c_region ?_
        refine wl_val (r_assign (v := .int .i64 4) rfl) rfl ?_
        refine wl_nil ?_
        refine c_then ?_
        refine wp_ret ?_
        refine c_inR ?_
        refine c_thenR ?_
        refine ret1 Try.results17 ?_
        first | exact ⟨congrArg (Value.int .i64) (rule_6 n1 n2 n3 n4 n5 (by omega)).symm, hS23.fin⟩ | (exfalso; omega)
      refine wl_val (r_pick_f rfl (v := .bool _) rfl) rfl ?_
      refine wl_val (r_move (v := .bool _) rfl) rfl ?_
      refine wl_val (r_field fa37_5 rfl) rfl ?_
      refine wl_val (r_loadB1 ti3.und rfl rfl (hS23.heap (.head _)) rfl) rfl ?_
      refine wl_dec (r_lss rfl rfl) rfl (fun h11_11 => ?_) (fun h11_11 => ?_)
      · refine wl_val (r_pick_f rfl (v := .bool _) rfl) rfl ?_
        refine wl_val (r_move (v := .bool _) rfl) rfl ?_
        refine wl_not rfl ?_
        refine wl_not rfl ?_
        refine wl_not rfl ?_
        refine wl_val (r_pick_t rfl (v := .bool true) rfl) rfl ?_
        refine wl_val (r_move (v := .bool _) rfl) rfl ?_
        refine wl_not rfl ?_
        refine wl_not rfl ?_
        refine wl_not rfl ?_
        refine wl_not rfl ?_
        refine wl_not rfl ?_
        refine wl_not rfl ?_
        refine wl_not rfl ?_
        refine wl_not rfl ?_
        refine wl_not rfl ?_
        refine wl_not rfl ?_
        refine wl_val (r_pick_t rfl (v := .bool true) rfl) rfl ?_
        refine wl_val (r_move (v := .bool _) rfl) rfl ?_
        refine wl_not rfl ?_
        refine wl_not rfl ?_
        refine wl_not rfl ?_
        refine wl_val (r_pick_t rfl (v := .bool true) rfl) rfl ?_
        refine wl_val (r_move (v := .bool _) rfl) rfl ?_
        refine wl_not rfl ?_
        refine wl_not rfl ?_
        refine wl_not rfl ?_
        refine wl_val (r_pick_t rfl (v := .bool true) rfl) rfl ?_
        refine wl_val (r_assign (v := .bool _) rfl) rfl ?_
        refine wl_nil ?_
        refine c_then ?_
        refine c_true rfl ?_
        refine c_seq ?_
        refine c_region ?_
        refine wl_val (r_assign (v := .int .i64 4) rfl) rfl ?_
        refine wl_nil ?_
        refine c_then ?_
        refine wp_ret ?_
        refine c_inR ?_
        refine c_thenR ?_
        refine ret1 Try.results17 ?_
        first | exact ⟨congrArg (Value.int .i64) (rule_6 n1 n2 n3 n4 n5 (by omega)).symm, hS23.fin⟩ | (exfalso; omega)
      refine wl_val (r_pick_f rfl (v := .bool _) rfl) rfl ?_
      refine wl_val (r_move (v := .bool _) rfl) rfl ?_
      refine wl_val (r_field fa37_5 rfl) rfl ?_
      refine wl_val (r_loadB1 ti3.und rfl rfl (hS23.heap (.head _)) rfl) rfl ?_
      refine wl_dec (r_gtr rfl rfl) rfl (fun h11_16 => ?_) (fun h11_16 => ?_)
      · refine wl_val (r_pick_f rfl (v := .bool _) rfl) rfl ?_
        refine wl_val (r_move (v := .bool _) rfl) rfl ?_
        refine wl_not rfl ?_
        refine wl_not rfl ?_
        refine wl_not rfl ?_
        refine wl_not rfl ?_
        refine wl_not rfl ?_
        refine wl_not rfl ?_
        refine wl_not rfl ?_
        refine wl_not rfl ?_
        refine wl_not rfl ?_
        refine wl_not rfl ?_
        refine wl_val (r_pick_t rfl (v := .bool true) rfl) rfl ?_
        refine wl_val (r_move (v := .bool _) rfl) rfl ?_
        refine wl_not rfl ?_
        refine wl_not rfl ?_
        refine wl_not rfl ?_
        refine wl_val (r_pick_t rfl (v := .bool true) rfl) rfl ?_
        refine wl_val (r_move (v := .bool _) rfl) rfl ?_
        refine wl_not rfl ?_
        refine wl_not rfl ?_
        refine wl_not rfl ?_
        refine wl_val (r_pick_t rfl (v := .bool true) rfl) rfl ?_
        refine wl_val (r_assign (v := .bool _) rfl) rfl ?_
        refine wl_nil ?_
        refine c_then ?_
        refine c_true rfl ?_
        refine c_seq ?_
        refine c_region ?_
        refine wl_val (r_assign (v := .int .i64 4) rfl) rfl ?_
        refine wl_nil ?_
        refine c_then ?_
        refine wp_ret ?_
        refine c_inR ?_
        refine c_thenR ?_
        refine ret1 Try.results17 ?_
        first | exact ⟨congrArg (Value.int .i64) (rule_6 n1 n2 n3 n4 n5 (by omega)).symm, hS23.fin⟩ | (exfalso; omega)
      refine wl_val (r_pick_f rfl (v := .bool _) rfl) rfl ?_
      refine wl_val (r_move (v := .bool _) rfl) rfl ?_
      refine wl_val (r_field fa37_4 rfl) rfl ?_
      refine wl_val (r_loadB1 ti3.und rfl rfl (hS23.heap (.head _)) rfl) rfl ?_
      refine wl_val (r_field fa37_5 rfl) rfl ?_
      refine wl_val (r_loadB1 ti3.und rfl rfl (hS23.heap (.head _)) rfl) rfl ?_
      refine wl_dec (r_eql rfl rfl) rfl (fun h11_23 => ?_) (fun h11_23 => ?_)
      · refine wl_val (r_move (v := .bool _) rfl) rfl ?_
        refine wl_val (r_field fa37_4 rfl) rfl ?_
        refine wl_val (r_loadB1 ti3.und rfl rfl (hS23.heap (.head _)) rfl) rfl ?_
        refine wl_dec (r_neq rfl rfl) rfl (fun h11_27 => ?_) (fun h11_27 => ?_)
        · refine wl_val (r_pick_t rfl (v := .bool _) rfl) rfl ?_
          refine wl_val (r_pick_f rfl (v := .bool _) rfl) rfl ?_
          refine wl_val (r_move (v := .bool _) rfl) rfl ?_
          refine wl_not rfl ?_
          refine wl_not rfl ?_
          refine wl_not rfl ?_
          refine wl_val (r_pick_t rfl (v := .bool true) rfl) rfl ?_
          refine wl_val (r_move (v := .bool _) rfl) rfl ?_
          refine wl_not rfl ?_
          refine wl_not rfl ?_
          refine wl_not rfl ?_
          refine wl_val (r_pick_t rfl (v := .bool true) rfl) rfl ?_
          refine wl_val (r_assign (v := .bool _) rfl) rfl ?_
          refine wl_nil ?_
          refine c_then ?_
          refine c_true rfl ?_
          refine c_seq ?_
          refine c_region ?_
          refine wl_val (r_assign (v := .int .i64 4) rfl) rfl ?_
          refine wl_nil ?_
          refine c_then ?_
          refine wp_ret ?_
          refine c_inR ?_
          refine c_thenR ?_
          refine ret1 Try.results17 ?_
          first | exact ⟨congrArg (Value.int .i64) (rule_6 n1 n2 n3 n4 n5 (by omega)).symm, hS23.fin⟩ | (exfalso; omega)
        refine wl_val (r_pick_t rfl (v := .bool _) rfl) rfl ?_
        refine wl_val (r_pick_f rfl (v := .bool _) rfl) rfl ?_
        refine wl_val (r_move (v := .bool _) rfl) rfl ?_
        refine wl_val (r_field fa37_6 rfl) rfl ?_
        refine wl_val (r_loadB1 ti3.und rfl rfl (hS23.heap (.head _)) rfl) rfl ?_
        refine wl_dec (r_lss rfl rfl) rfl (fun h11_33 => ?_) (fun h11_33 => ?_)
        · refine wl_val (r_pick_f rfl (v := .bool _) rfl) rfl ?_
          refine wl_val (r_move (v := .bool _) rfl) rfl ?_
          refine wl_not rfl ?_
          refine wl_not rfl ?_
          refine wl_not rfl ?_
          refine wl_val (r_pick_t rfl (v := .bool true) rfl) rfl ?_
          refine wl_val (r_assign (v := .bool _) rfl) rfl ?_
          refine wl_nil ?_
          refine c_then ?_
          refine c_true rfl ?_
          refine c_seq ?_
          refine c_region ?_
          refine wl_val (r_assign (v := .int .i64 4) rfl) rfl ?_
          refine wl_nil ?_
          refine c_then ?_
          refine wp_ret ?_
          refine c_inR ?_
          refine c_thenR ?_
          refine ret1 Try.results17 ?_
          first | exact ⟨congrArg (Value.int .i64) (rule_6 n1 n2 n3 n4 n5 (by omega)).symm, hS23.fin⟩ | (exfalso; omega)
        refine wl_val (r_pick_f rfl (v := .bool _) rfl) rfl ?_
        refine wl_val (r_move (v := .bool _) rfl) rfl ?_
        refine wl_val (r_field fa37_6 rfl) rfl ?_
        refine wl_val (r_loadB1 ti3.und rfl rfl (hS23.heap (.head _)) rfl) rfl ?_
        refine wl_dec (r_gtr rfl rfl) rfl (fun h11_38 => ?_) (fun h11_38 => ?_)
        · refine wl_val (r_pick_f rfl (v := .bool _) rfl) rfl ?_
          refine wl_val (r_assign (v := .bool _) rfl) rfl ?_
          refine wl_nil ?_
          refine c_then ?_
          refine c_true rfl ?_
          refine c_seq ?_
          refine c_region ?_
          refine wl_val (r_assign (v := .int .i64 4) rfl) rfl ?_
          refine wl_nil ?_
          refine c_then ?_
          refine wp_ret ?_
          refine c_inR ?_
          refine c_thenR ?_
          refine ret1 Try.results17 ?_
          first | exact ⟨congrArg (Value.int .i64) (rule_6 n1 n2 n3 n4 n5 (by omega)).symm, hS23.fin⟩ | (exfalso; omega)
        refine wl_val (r_pick_f rfl (v := .bool _) rfl) rfl ?_
        refine wl_val (r_assign (v := .bool _) rfl) rfl ?_
        refine wl_nil ?_
        refine c_then ?_
        refine c_false rfl ?_
        refine c_seq ?_
        rcases bool_cases r.dn with hdn | hdn
        · have n6 : ¬ (r.fr < 0 ∨ 24 < r.fr ∨ r.to < 0 ∨ 24 < r.to ∨ (r.fr = r.to ∧ ¬ r.fr = 0) ∨ r.nd < 0 ∨ 16 < r.nd) := by omega
          refine c_region ?_
          refine wl_val (r_field fa37_6 rfl) rfl ?_
          refine wl_val (r_loadB1 ti3.und rfl rfl (hS23.heap (.head _)) rfl) rfl ?_
          refine wl_dec (r_gtr rfl rfl) rfl (fun h13_2 => ?_) (fun h13_2 => ?_)
          · refine wl_val (r_field fa37_7 rfl) rfl ?_
            refine wl_val (r_loadB1 ti9.und rfl rfl (hS23.heap (.head _)) rfl) rfl ?_
            refine wl_dec (r_neqStrL rfl rfl) rfl (fun h13_5 => ?_) (fun h13_5 => ?_)
            · refine wl_dec_f (r_neqBool ti4.und rfl rfl) rfl (by decide) ?_
              refine wl_val (r_move (v := .bool _) rfl) rfl ?_
              refine wl_val (r_field fa37_0 rfl) rfl ?_
              refine wl_val (r_loadB1 ti4.und rfl rfl (hS23.heap (.head _)) (by first | exact rule_dn_t hdn | exact rule_dn_f hdn)) rfl ?_
              refine wl_val (r_move (v := .bool _) rfl) rfl ?_
              refine wl_val (r_field fa37_6 rfl) rfl ?_
              refine wl_val (r_loadB1 ti3.und rfl rfl (hS23.heap (.head _)) rfl) rfl ?_
              refine wl_dec (r_gtr rfl rfl) rfl (fun h13_13 => ?_) (fun h13_13 => ?_)
              · refine wl_val (r_pick_t rfl (v := .bool _) rfl) rfl ?_
                refine wl_val (r_pick_f rfl (v := .bool _) rfl) rfl ?_
                refine wl_val (r_assign (v := .bool _) rfl) rfl ?_
                refine wl_nil ?_
                refine c_then ?_
                refine c_true rfl ?_
                refine c_seq ?_
                refine c_region ?_
                refine wl_val (r_assign (v := .int .i64 17) rfl) rfl ?_
                refine wl_nil ?_
                refine c_then ?_
                refine wp_ret ?_
                refine c_inR ?_
                refine c_thenR ?_
                refine ret1 Try.results17 ?_
                first | exact ⟨congrArg (Value.int .i64) (rule_7 n1 n2 n3 n4 n5 n6 (.inl ⟨by omega, (by first | assumption | exact Decidable.of_not_not (by assumption))⟩)).symm, hS23.fin⟩ | exact ⟨congrArg (Value.int .i64) (rule_7 n1 n2 n3 n4 n5 n6 (.inr (.inl ⟨by omega, (by first | assumption | exact Decidable.of_not_not (by assumption))⟩))).symm, hS23.fin⟩ | exact ⟨congrArg (Value.int .i64) (rule_7 n1 n2 n3 n4 n5 n6 (.inr (.inr ⟨hdn, by omega⟩))).symm, hS23.fin⟩ | (exfalso; omega)
              refine wl_val (r_pick_t rfl (v := .bool _) rfl) rfl ?_
              refine wl_val (r_pick_f rfl (v := .bool _) rfl) rfl ?_
              refine wl_val (r_assign (v := .bool _) rfl) rfl ?_
              refine wl_nil ?_
              refine c_then ?_
              refine c_false rfl ?_
              refine wp_skip ?_
              refine c_inN ?_
              refine c_then ?_
              refine c_seq ?_
              refine c_region ?_
              refine wl_val (r_assign (v := .int .i64 0) rfl) rfl ?_
              refine wl_nil ?_
              refine c_then ?_
              refine wp_ret ?_
              refine ret1 Try.results17 ?_
              first | exact ⟨congrArg (Value.int .i64) (rule_8 n1 n2 n3 n4 n5 n6 (.inl ⟨by omega, (by first | assumption | exact Decidable.of_not_not (by assumption))⟩)).symm, hS23.fin⟩ | exact ⟨congrArg (Value.int .i64) (rule_8 n1 n2 n3 n4 n5 n6 (.inr ⟨by omega, (by first | assumption | exact Decidable.of_not_not (by assumption)), hdn⟩)).symm, hS23.fin⟩ | (exfalso; omega)
            refine wl_dec_t (r_neqBool ti4.und rfl rfl) rfl (by decide) ?_
            refine wl_val (r_move (v := .bool _) rfl) rfl ?_
            refine wl_not rfl ?_
            refine wl_not rfl ?_
            refine wl_not rfl ?_
            refine wl_not rfl ?_
            refine wl_not rfl ?_
            refine wl_not rfl ?_
            refine wl_not rfl ?_
            refine wl_val (r_pick_t rfl (v := .bool true) rfl) rfl ?_
            refine wl_val (r_assign (v := .bool _) rfl) rfl ?_
            refine wl_nil ?_
            refine c_then ?_
            refine c_true rfl ?_
            refine c_seq ?_
            refine c_region ?_
            refine wl_val (r_assign (v := .int .i64 17) rfl) rfl ?_
            refine wl_nil ?_
            refine c_then ?_
            refine wp_ret ?_
            refine c_inR ?_
            refine c_thenR ?_
            refine ret1 Try.results17 ?_
            first | exact ⟨congrArg (Value.int .i64) (rule_7 n1 n2 n3 n4 n5 n6 (.inl ⟨by omega, (by first | assumption | exact Decidable.of_not_not (by assumption))⟩)).symm, hS23.fin⟩ | exact ⟨congrArg (Value.int .i64) (rule_7 n1 n2 n3 n4 n5 n6 (.inr (.inl ⟨by omega, (by first | assumption | exact Decidable.of_not_not (by assumption))⟩))).symm, hS23.fin⟩ | exact ⟨congrArg (Value.int .i64) (rule_7 n1 n2 n3 n4 n5 n6 (.inr (.inr ⟨hdn, by omega⟩))).symm, hS23.fin⟩ | (exfalso; omega)
          refine wl_val (r_field fa37_7 rfl) rfl ?_
          refine wl_val (r_loadB1 ti9.und rfl rfl (hS23.heap (.head _)) rfl) rfl ?_
          refine wl_dec (r_neqStrL rfl rfl) rfl (fun h13_5 => ?_) (fun h13_5 => ?_)
          · refine wl_dec_t (r_neqBool ti4.und rfl rfl) rfl (by decide) ?_
            refine wl_val (r_move (v := .bool _) rfl) rfl ?_
            refine wl_not rfl ?_
            refine wl_not rfl ?_
            refine wl_not rfl ?_
            refine wl_not rfl ?_
            refine wl_not rfl ?_
            refine wl_not rfl ?_
            refine wl_not rfl ?_
            refine wl_val (r_pick_t rfl (v := .bool true) rfl) rfl ?_
            refine wl_val (r_assign (v := .bool _) rfl) rfl ?_
            refine wl_nil ?_
            refine c_then ?_
            refine c_true rfl ?_
            refine c_seq ?_
            refine c_region ?_
            refine wl_val (r_assign (v := .int .i64 17) rfl) rfl ?_
            refine wl_nil ?_
            refine c_then ?_
            refine wp_ret ?_
            refine c_inR ?_
            refine c_thenR ?_
            refine ret1 Try.results17 ?_
            first | exact ⟨congrArg (Value.int .i64) (rule_7 n1 n2 n3 n4 n5 n6 (.inl ⟨by omega, (by first | assumption | exact Decidable.of_not_not (by assumption))⟩)).symm, hS23.fin⟩ | exact ⟨congrArg (Value.int .i64) (rule_7 n1 n2 n3 n4 n5 n6 (.inr (.inl ⟨by omega, (by first | assumption | exact Decidable.of_not_not (by assumption))⟩))).symm, hS23.fin⟩ | exact ⟨congrArg (Value.int .i64) (rule_7 n1 n2 n3 n4 n5 n6 (.inr (.inr ⟨hdn, by omega⟩))).symm, hS23.fin⟩ | (exfalso; omega)
          refine wl_dec_f (r_neqBool ti4.und rfl rfl) rfl (by decide) ?_
          refine wl_val (r_move (v := .bool _) rfl) rfl ?_
          refine wl_val (r_field fa37_0 rfl) rfl ?_
          refine wl_val (r_loadB1 ti4.und rfl rfl (hS23.heap (.head _)) (by first | exact rule_dn_t hdn | exact rule_dn_f hdn)) rfl ?_
          refine wl_val (r_move (v := .bool _) rfl) rfl ?_
          refine wl_val (r_field fa37_6 rfl) rfl ?_
          refine wl_val (r_loadB1 ti3.und rfl rfl (hS23.heap (.head _)) rfl) rfl ?_
          refine wl_dec (r_gtr rfl rfl) rfl (fun h13_13 => ?_) (fun h13_13 => ?_)
          · refine wl_val (r_pick_t rfl (v := .bool _) rfl) rfl ?_
            refine wl_val (r_pick_f rfl (v := .bool _) rfl) rfl ?_
            refine wl_val (r_assign (v := .bool _) rfl) rfl ?_
            refine wl_nil ?_
            refine c_then ?_
            refine c_true rfl ?_
            refine c_seq ?_
            refine c_region ?_
            refine wl_val (r_assign (v := .int .i64 17) rfl) rfl ?_
            refine wl_nil ?_
            refine c_then ?_
            refine wp_ret ?_
            refine c_inR ?_
            refine c_thenR ?_
            refine ret1 Try.results17 ?_
            first | exact ⟨congrArg (Value.int .i64) (rule_7 n1 n2 n3 n4 n5 n6 (.inl ⟨by omega, (by first | assumption | exact Decidable.of_not_not (by assumption))⟩)).symm, hS23.fin⟩ | exact ⟨congrArg (Value.int .i64) (rule_7 n1 n2 n3 n4 n5 n6 (.inr (.inl ⟨by omega, (by first | assumption | exact Decidable.of_not_not (by assumption))⟩))).symm, hS23.fin⟩ | exact ⟨congrArg (Value.int .i64) (rule_7 n1 n2 n3 n4 n5 n6 (.inr (.inr ⟨hdn, by omega⟩))).symm, hS23.fin⟩ | (exfalso; omega)
          refine wl_val (r_pick_t rfl (v := .bool _) rfl) rfl ?_
          refine wl_val (r_pick_f rfl (v := .bool _) rfl) rfl ?_
          refine wl_val (r_assign (v := .bool _) rfl) rfl ?_
          refine wl_nil ?_
          refine c_then ?_
          refine c_false rfl ?_
          refine wp_skip ?_
          refine c_inN ?_
          refine c_then ?_
          refine c_seq ?_
          refine c_region ?_
          refine wl_val (r_assign (v := .int .i64 0) rfl) rfl ?_
          refine wl_nil ?_
          refine c_then ?_
          refine wp_ret ?_
          refine ret1 Try.results17 ?_
          first | exact ⟨congrArg (Value.int .i64) (rule_8 n1 n2 n3 n4 n5 n6 (.inl ⟨by omega, (by first | assumption | exact Decidable.of_not_not (by assumption))⟩)).symm, hS23.fin⟩ | exact ⟨congrArg (Value.int .i64) (rule_8 n1 n2 n3 n4 n5 n6 (.inr ⟨by omega, (by first | assumption | exact Decidable.of_not_not (by assumption)), hdn⟩)).symm, hS23.fin⟩ | (exfalso; omega)
        have n6 : ¬ (r.fr < 0 ∨ 24 < r.fr ∨ r.to < 0 ∨ 24 < r.to ∨ (r.fr = r.to ∧ ¬ r.fr = 0) ∨ r.nd < 0 ∨ 16 < r.nd) := by omega
        refine c_region ?_
        refine wl_val (r_field fa37_6 rfl) rfl ?_
        refine wl_val (r_loadB1 ti3.und rfl rfl (hS23.heap (.head _)) rfl) rfl ?_
        refine wl_dec (r_gtr rfl rfl) rfl (fun h13_2 => ?_) (fun h13_2 => ?_)
        · refine wl_val (r_field fa37_7 rfl) rfl ?_
          refine wl_val (r_loadB1 ti9.und rfl rfl (hS23.heap (.head _)) rfl) rfl ?_
          refine wl_dec (r_neqStrL rfl rfl) rfl (fun h13_5 => ?_) (fun h13_5 => ?_)
          · refine wl_dec_f (r_neqBool ti4.und rfl rfl) rfl (by decide) ?_
            refine wl_val (r_move (v := .bool _) rfl) rfl ?_
            refine wl_val (r_field fa37_0 rfl) rfl ?_
            refine wl_val (r_loadB1 ti4.und rfl rfl (hS23.heap (.head _)) (by first | exact rule_dn_t hdn | exact rule_dn_f hdn)) rfl ?_
            refine wl_val (r_move (v := .bool _) rfl) rfl ?_
            refine wl_not rfl ?_
            refine wl_not rfl ?_
            refine wl_not rfl ?_
            refine wl_val (r_pick_f rfl (v := .bool false) rfl) rfl ?_
            refine wl_val (r_pick_f rfl (v := .bool _) rfl) rfl ?_
            refine wl_val (r_assign (v := .bool _) rfl) rfl ?_
            refine wl_nil ?_
            refine c_then ?_
            refine c_false rfl ?_
            refine wp_skip ?_
            refine c_inN ?_
            refine c_then ?_
            refine c_seq ?_
            refine c_region ?_
            refine wl_val (r_assign (v := .int .i64 0) rfl) rfl ?_
            refine wl_nil ?_
            refine c_then ?_
            refine wp_ret ?_
            refine ret1 Try.results17 ?_
            first | exact ⟨congrArg (Value.int .i64) (rule_8 n1 n2 n3 n4 n5 n6 (.inl ⟨by omega, (by first | assumption | exact Decidable.of_not_not (by assumption))⟩)).symm, hS23.fin⟩ | exact ⟨congrArg (Value.int .i64) (rule_8 n1 n2 n3 n4 n5 n6 (.inr ⟨by omega, (by first | assumption | exact Decidable.of_not_not (by assumption)), hdn⟩)).symm, hS23.fin⟩ | (exfalso; omega)
          refine wl_dec_t (r_neqBool ti4.und rfl rfl) rfl (by decide) ?_
          refine wl_val (r_move (v := .bool _) rfl) rfl ?_
          refine wl_not rfl ?_
          refine wl_not rfl ?_
          refine wl_not rfl ?_
          refine wl_not rfl ?_
          refine wl_not rfl ?_
          refine wl_not rfl ?_
          refine wl_not rfl ?_
          refine wl_val (r_pick_t rfl (v := .bool true) rfl) rfl ?_
          refine wl_val (r_assign (v := .bool _) rfl) rfl ?_
          refine wl_nil ?_
          refine c_then ?_
          refine c_true rfl ?_
          refine c_seq ?_
          refine c_region ?_
          refine wl_val (r_assign (v := .int .i64 17) rfl) rfl ?_
          refine wl_nil ?_
          refine c_then ?_
          refine wp_ret ?_
          refine c_inR ?_
          refine c_thenR ?_
          refine ret1 Try.results17 ?_
          first | exact ⟨congrArg (Value.int .i64) (rule_7 n1 n2 n3 n4 n5 n6 (.inl ⟨by omega, (by first | assumption | exact Decidable.of_not_not (by assumption))⟩)).symm, hS23.fin⟩ | exact ⟨congrArg (Value.int .i64) (rule_7 n1 n2 n3 n4 n5 n6 (.inr (.inl ⟨by omega, (by first | assumption | exact Decidable.of_not_not (by assumption))⟩))).symm, hS23.fin⟩ | exact ⟨congrArg (Value.int .i64) (rule_7 n1 n2 n3 n4 n5 n6 (.inr (.inr ⟨hdn, by omega⟩))).symm, hS23.fin⟩ | (exfalso; omega)
        refine wl_val (r_field fa37_7 rfl) rfl ?_
        refine wl_val (r_loadB1 ti9.und rfl rfl (hS23.heap (.head _)) rfl) rfl ?_
        refine wl_dec (r_neqStrL rfl rfl) rfl (fun h13_5 => ?_) (fun h13_5 => ?_)
        · refine wl_dec_t (r_neqBool ti4.und rfl rfl) rfl (by decide) ?_
          refine wl_val (r_move (v := .bool _) rfl) rfl ?_
          refine wl_not rfl ?_
          refine wl_not rfl ?_
          refine wl_not rfl ?_
          refine wl_not rfl ?_
          refine wl_not rfl ?_
          refine wl_not rfl ?_
          refine wl_not rfl ?_
          refine wl_val (r_pick_t rfl (v := .bool true) rfl) rfl ?_
          refine wl_val (r_assign (v := .bool _) rfl) rfl ?_
          refine wl_nil ?_
          refine c_then ?_
          refine c_true rfl ?_
          refine c_seq ?_
          refine c_region ?_
          refine wl_val (r_assign (v := .int .i64 17) rfl) rfl ?_
          refine wl_nil ?_
          refine c_then ?_
          refine wp_ret ?_
          refine c_inR ?_
          refine c_thenR ?_
          refine ret1 Try.results17 ?_
          first | exact ⟨congrArg (Value.int .i64) (rule_7 n1 n2 n3 n4 n5 n6 (.inl ⟨by omega, (by first | assumption | exact Decidable.of_not_not (by assumption))⟩)).symm, hS23.fin⟩ | exact ⟨congrArg (Value.int .i64) (rule_7 n1 n2 n3 n4 n5 n6 (.inr (.inl ⟨by omega, (by first | assumption | exact Decidable.of_not_not (by assumption))⟩))).symm, hS23.fin⟩ | exact ⟨congrArg (Value.int .i64) (rule_7 n1 n2 n3 n4 n5 n6 (.inr (.inr ⟨hdn, by omega⟩))).symm, hS23.fin⟩ | (exfalso; omega)
        refine wl_dec_f (r_neqBool ti4.und rfl rfl) rfl (by decide) ?_
        refine wl_val (r_move (v := .bool _) rfl) rfl ?_
        refine wl_val (r_field fa37_0 rfl) rfl ?_
        refine wl_val (r_loadB1 ti4.und rfl rfl (hS23.heap (.head _)) (by first | exact rule_dn_t hdn | exact rule_dn_f hdn)) rfl ?_
        refine wl_val (r_move (v := .bool _) rfl) rfl ?_
        refine wl_not rfl ?_
        refine wl_not rfl ?_
        refine wl_not rfl ?_
        refine wl_val (r_pick_f rfl (v := .bool false) rfl) rfl ?_
        refine wl_val (r_pick_f rfl (v := .bool _) rfl) rfl ?_
        refine wl_val (r_assign (v := .bool _) rfl) rfl ?_
        refine wl_nil ?_
        refine c_then ?_
        refine c_false rfl ?_
        refine wp_skip ?_
        refine c_inN ?_
        refine c_then ?_
        refine c_seq ?_
        refine c_region ?_
        refine wl_val (r_assign (v := .int .i64 0) rfl) rfl ?_
        refine wl_nil ?_
        refine c_then ?_
        refine wp_ret ?_
        refine ret1 Try.results17 ?_
        first | exact ⟨congrArg (Value.int .i64) (rule_8 n1 n2 n3 n4 n5 n6 (.inl ⟨by omega, (by first | assumption | exact Decidable.of_not_not (by assumption))⟩)).symm, hS23.fin⟩ | exact ⟨congrArg (Value.int .i64) (rule_8 n1 n2 n3 n4 n5 n6 (.inr ⟨by omega, (by first | assumption | exact Decidable.of_not_not (by assumption)), hdn⟩)).symm, hS23.fin⟩ | (exfalso; omega)
      refine wl_val (r_move (v := .bool _) rfl) rfl ?_
      refine wl_not rfl ?_
      refine wl_not rfl ?_
      refine wl_not rfl ?_
      refine wl_val (r_pick_f rfl (v := .bool false) rfl) rfl ?_
      refine wl_val (r_pick_f rfl (v := .bool _) rfl) rfl ?_
      refine wl_val (r_move (v := .bool _) rfl) rfl ?_
      refine wl_val (r_field fa37_6 rfl) rfl ?_
      refine wl_val (r_loadB1 ti3.und rfl rfl (hS23.heap (.head _)) rfl) rfl ?_
      refine wl_dec (r_lss rfl rfl) rfl (fun h11_33 => ?_) (fun h11_33 => ?_)
      · refine wl_val (r_pick_f rfl (v := .bool _) rfl) rfl ?_
        refine wl_val (r_move (v := .bool _) rfl) rfl ?_
        refine wl_not rfl ?_
        refine wl_not rfl ?_
        refine wl_not rfl ?_
        refine wl_val (r_pick_t rfl (v := .bool true) rfl) rfl ?_
        refine wl_val (r_assign (v := .bool _) rfl) rfl ?_
        refine wl_nil ?_
        refine c_then ?_
        refine c_true rfl ?_
        refine c_seq ?_
        refine c_region ?_
        refine wl_val (r_assign (v := .int .i64 4) rfl) rfl ?_
        refine wl_nil ?_
        refine c_then ?_
        refine wp_ret ?_
        refine c_inR ?_
        refine c_thenR ?_
        refine ret1 Try.results17 ?_
        first | exact ⟨congrArg (Value.int .i64) (rule_6 n1 n2 n3 n4 n5 (by omega)).symm, hS23.fin⟩ | (exfalso; omega)
      refine wl_val (r_pick_f rfl (v := .bool _) rfl) rfl ?_
      refine wl_val (r_move (v := .bool _) rfl) rfl ?_
      refine wl_val (r_field fa37_6 rfl) rfl ?_
      refine wl_val (r_loadB1 ti3.und rfl rfl (hS23.heap (.head _)) rfl) rfl ?_
      refine wl_dec (r_gtr rfl rfl) rfl (fun h11_38 => ?_) (fun h11_38 => ?_)
      · refine wl_val (r_pick_f rfl (v := .bool _) rfl) rfl ?_
        refine wl_val (r_assign (v := .bool _) rfl) rfl ?_
        refine wl_nil ?_
        refine c_then ?_
        refine c_true rfl ?_
        refine c_seq ?_
        refine c_region ?_
        refine wl_val (r_assign (v := .int .i64 4) rfl) rfl ?_
        refine wl_nil ?_
        refine c_then ?_
        refine wp_ret ?_
        refine c_inR ?_
        refine c_thenR ?_
        refine ret1 Try.results17 ?_
        first | exact ⟨congrArg (Value.int .i64) (rule_6 n1 n2 n3 n4 n5 (by omega)).symm, hS23.fin⟩ | (exfalso; omega)
      refine wl_val (r_pick_f rfl (v := .bool _) rfl) rfl ?_
      refine wl_val (r_assign (v := .bool _) rfl) rfl ?_
      refine wl_nil ?_
      refine c_then ?_
      refine c_false rfl ?_
      refine c_seq ?_
      rcases bool_cases r.dn with hdn | hdn
      · have n6 : ¬ (r.fr < 0 ∨ 24 < r.fr ∨ r.to < 0 ∨ 24 < r.to ∨ (r.fr = r.to ∧ ¬ r.fr = 0) ∨ r.nd < 0 ∨ 16 < r.nd) := by omega
        refine c_region ?_
        refine wl_val (r_field fa37_6 rfl) rfl ?_
        refine wl_val (r_loadB1 ti3.und rfl rfl (hS23.heap (.head _)) rfl) rfl ?_
        refine wl_dec (r_gtr rfl rfl) rfl (fun h13_2 => ?_) (fun h13_2 => ?_)
        · refine wl_val (r_field fa37_7 rfl) rfl ?_
          refine wl_val (r_loadB1 ti9.und rfl rfl (hS23.heap (.head _)) rfl) rfl ?_
          refine wl_dec (r_neqStrL rfl rfl) rfl (fun h13_5 => ?_) (fun h13_5 => ?_)
          · refine wl_dec_f (r_neqBool ti4.und rfl rfl) rfl (by decide) ?_
            refine wl_val (r_move (v := .bool _) rfl) rfl ?_
            refine wl_val (r_field fa37_0 rfl) rfl ?_
            refine wl_val (r_loadB1 ti4.und rfl rfl (hS23.heap (.head _)) (by first | exact rule_dn_t hdn | exact rule_dn_f hdn)) rfl ?_
            refine wl_val (r_move (v := .bool _) rfl) rfl ?_
            refine wl_val (r_field fa37_6 rfl) rfl ?_
            refine wl_val (r_loadB1 ti3.und rfl rfl (hS23.heap (.head _)) rfl) rfl ?_
            refine wl_dec (r_gtr rfl rfl) rfl (fun h13_13 => ?_) (fun h13_13 => ?_)
            · refine wl_val (r_pick_t rfl (v := .bool _) rfl) rfl ?_
              refine wl_val (r_pick_f rfl (v := .bool _) rfl) rfl ?_
              refine wl_val (r_assign (v := .bool _) rfl) rfl ?_
              refine wl_nil ?_
              refine c_then ?_
              refine c_true rfl ?_
              refine c_seq ?_
              refine c_region ?_
              refine wl_val (r_assign (v := .int .i64 17) rfl) rfl ?_
              refine wl_nil ?_
              refine c_then ?_
              refine wp_ret ?_
              refine c_inR ?_
              refine c_thenR ?_
              refine ret1 Try.results17 ?_
              first | exact ⟨congrArg (Value.int .i64) (rule_7 n1 n2 n3 n4 n5 n6 (.inl ⟨by omega, (by first | assumption | exact Decidable.of_not_not (by assumption))⟩)).symm, hS23.fin⟩ | exact ⟨congrArg (Value.int .i64) (rule_7 n1 n2 n3 n4 n5 n6 (.inr (.inl ⟨by omega, (by first | assumption | exact Decidable.of_not_not (by assumption))⟩))).symm, hS23.fin⟩ | exact ⟨congrArg (Value.int .i64) (rule_7 n1 n2 n3 n4 n5 n6 (.inr (.inr ⟨hdn, by omega⟩))).symm, hS23.fin⟩ | (exfalso; omega)
            refine wl_val (r_pick_t rfl (v := .bool _) rfl) rfl ?_
            refine wl_val (r_pick_f rfl (v := .bool _) rfl) rfl ?_
            refine wl_val (r_assign (v := .bool _) rfl) rfl ?_
            refine wl_nil ?_
            refine c_then ?_
            refine c_false rfl ?_
            refine wp_skip ?_
            refine c_inN ?_
            refine c_then ?_
            refine c_seq ?_
            refine c_region ?_
            refine wl_val (r_assign (v := .int .i64 0) rfl) rfl ?_
            refine wl_nil ?_
            refine c_then ?_
            refine wp_ret ?_
            refine ret1 Try.results17 ?_
            first | exact ⟨congrArg (Value.int .i64) (rule_8 n1 n2 n3 n4 n5 n6 (.inl ⟨by omega, (by first | assumption | exact Decidable.of_not_not (by assumption))⟩)).symm, hS23.fin⟩ | exact ⟨congrArg (Value.int .i64) (rule_8 n1 n2 n3 n4 n5 n6 (.inr ⟨by omega, (by first | assumption | exact Decidable.of_not_not (by assumption)), hdn⟩)).symm, hS23.fin⟩ | (exfalso; omega)
          refine wl_dec_t (r_neqBool ti4.und rfl rfl) rfl (by decide) ?_
          refine wl_val (r_move (v := .bool _) rfl) rfl ?_
          refine wl_not rfl ?_
          refine wl_not rfl ?_
          refine wl_not rfl ?_
          refine wl_not rfl ?_
          refine wl_not rfl ?_
          refine wl_not rfl ?_
          refine wl_not rfl ?_
          refine wl_val (r_pick_t rfl (v := .bool true) rfl) rfl ?_
          refine wl_val (r_assign (v := .bool _) rfl) rfl ?_
          refine wl_nil ?_
          refine c_then ?_
          refine c_true rfl ?_
          refine c_seq ?_
          refine c_region ?_
          refine wl_val (r_assign (v := .int .i64 17) rfl) rfl ?_
          refine wl_nil ?_
          refine c_then ?_
          refine wp_ret ?_
          refine c_inR ?_
          refine c_thenR ?_
          refine ret1 Try.results17 ?_
          first | exact ⟨congrArg (Value.int .i64) (rule_7 n1 n2 n3 n4 n5 n6 (.inl ⟨by omega, (by first | assumption | exact Decidable.of_not_not (by assumption))⟩)).symm, hS23.fin⟩ | exact ⟨congrArg (Value.int .i64) (rule_7 n1 n2 n3 n4 n5 n6 (.inr (.inl ⟨by omega, (by first | assumption | exact Decidable.of_not_not (by assumption))⟩))).symm, hS23.fin⟩ | exact ⟨congrArg (Value.int .i64) (rule_7 n1 n2 n3 n4 n5 n6 (.inr (.inr ⟨hdn, by omega⟩))).symm, hS23.fin⟩ | (exfalso; omega)
        refine wl_val (r_field fa37_7 rfl) rfl ?_
        refine wl_val (r_loadB1 ti9.und rfl rfl (hS23.heap (.head _)) rfl) rfl ?_
        refine wl_dec (r_neqStrL rfl rfl) rfl (fun h13_5 => ?_) (fun h13_5 => ?_)
        · refine wl_dec_t (r_neqBool ti4.und rfl rfl) rfl (by decide) ?_
          refine wl_val (r_move (v := .bool _) rfl) rfl ?_
          refine wl_not rfl ?_
          refine wl_not rfl ?_
          refine wl_not rfl ?_
          refine wl_not rfl ?_
          refine wl_not rfl ?_
          refine wl_not rfl ?_
          refine wl_not rfl ?_
          refine wl_val (r_pick_t rfl (v := .bool true) rfl) rfl ?_
          refine wl_val (r_assign (v := .bool _) rfl) rfl ?_
          refine wl_nil ?_
          refine c_then ?_
          refine c_true rfl ?_
          refine c_seq ?_
          refine c_region ?_
          refine wl_val (r_assign (v := .int .i64 17) rfl) rfl ?_
          refine wl_nil ?_
          refine c_then ?_
          refine wp_ret ?_
          refine c_inR ?_
          refine c_thenR ?_
          refine ret1 Try.results17 ?_
          first | exact ⟨congrArg (Value.int .i64) (rule_7 n1 n2 n3 n4 n5 n6 (.inl ⟨by omega, (by first | assumption | exact Decidable.of_not_not (by assumption))⟩)).symm, hS23.fin⟩ | exact ⟨congrArg (Value.int .i64) (rule_7 n1 n2 n3 n4 n5 n6 (.inr (.inl ⟨by omega, (by first | assumption | exact Decidable.of_not_not (by assumption))⟩))).symm, hS23.fin⟩ | exact ⟨congrArg (Value.int .i64) (rule_7 n1 n2 n3 n4 n5 n6 (.inr (.inr ⟨hdn, by omega⟩))).symm, hS23.fin⟩ | (exfalso; omega)
        refine wl_dec_f (r_neqBool ti4.und rfl rfl) rfl (by decide) ?_
        refine wl_val (r_move (v := .bool _) rfl) rfl ?_
        refine wl_val (r_field fa37_0 rfl) rfl ?_
        refine wl_val (r_loadB1 ti4.und rfl rfl (hS23.heap (.head _)) (by first | exact rule_dn_t hdn | exact rule_dn_f hdn)) rfl ?_
        refine wl_val (r_move (v := .bool _) rfl) rfl ?_
        refine wl_val (r_field fa37_6 rfl) rfl ?_
        refine wl_val (r_loadB1 ti3.und rfl rfl (hS23.heap (.head _)) rfl) rfl ?_
        refine wl_dec (r_gtr rfl rfl) rfl (fun h13_13 => ?_) (fun h13_13 => ?_)
        · refine wl_val (r_pick_t rfl (v := .bool _) rfl) rfl ?_
          refine wl_val (r_pick_f rfl (v := .bool _) rfl) rfl ?_
          refine wl_val (r_assign (v := .bool _) rfl) rfl ?_
          refine wl_nil ?_
          refine c_then ?_
          refine c_true rfl ?_
          refine c_seq ?_
          refine c_region ?_
          refine wl_val (r_assign (v := .int .i64 17) rfl) rfl ?_
          refine wl_nil ?_
          refine c_then ?_
          refine wp_ret ?_
          refine c_inR ?_
          refine c_thenR ?_
          refine ret1 Try.results17 ?_
          first | exact ⟨congrArg (Value.int .i64) (rule_7 n1 n2 n3 n4 n5 n6 (.inl ⟨by omega, (by first | assumption | exact Decidable.of_not_not (by assumption))⟩)).symm, hS23.fin⟩ | exact ⟨congrArg (Value.int .i64) (rule_7 n1 n2 n3 n4 n5 n6 (.inr (.inl ⟨by omega, (by first | assumption | exact Decidable.of_not_not (by assumption))⟩))).symm, hS23.fin⟩ | exact ⟨congrArg (Value.int .i64) (rule_7 n1 n2 n3 n4 n5 n6 (.inr (.inr ⟨hdn, by omega⟩))).symm, hS23.fin⟩ | (exfalso; omega)
        refine wl_val (r_pick_t rfl (v := .bool _) rfl) rfl ?_
        refine wl_val (r_pick_f rfl (v := .bool _) rfl) rfl ?_
        refine wl_val (r_assign (v := .bool _) rfl) rfl ?_
        refine wl_nil ?_
        refine c_then ?_
        refine c_false rfl ?_
        refine wp_skip ?_
        refine c_inN ?_
        refine c_then ?_
        refine c_seq ?_
        refine c_region ?_
        refine wl_val (r_assign (v := .int .i64 0) rfl) rfl ?_
        refine wl_nil ?_
        refine c_then ?_
        refine wp_ret ?_
        refine ret1 Try.results17 ?_
        first | exact ⟨congrArg (Value.int .i64) (rule_8 n1 n2 n3 n4 n5 n6 (.inl ⟨by omega, (by first | assumption | exact Decidable.of_not_not (by assumption))⟩)).symm, hS23.fin⟩ | exact ⟨congrArg (Value.int .i64) (rule_8 n1 n2 n3 n4 n5 n6 (.inr ⟨by omega, (by first | assumption | exact Decidable.of_not_not (by assumption)), hdn⟩)).symm, hS23.fin⟩ | (exfalso; omega)
      have n6 : ¬ (r.fr < 0 ∨ 24 < r.fr ∨ r.to < 0 ∨ 24 < r.to ∨ (r.fr = r.to ∧ ¬ r.fr = 0) ∨ r.nd < 0 ∨ 16 < r.nd) := by omega
      refine c_region ?_
      refine wl_val (r_field fa37_6 rfl) rfl ?_
      refine wl_val (r_loadB1 ti3.und rfl rfl (hS23.heap (.head _)) rfl) rfl ?_
      refine wl_dec (r_gtr rfl rfl) rfl (fun h13_2 => ?_) (fun h13_2 => ?_)
      · refine wl_val (r_field fa37_7 rfl) rfl ?_
        refine wl_val (r_loadB1 ti9.und rfl rfl (hS23.heap (.head _)) rfl) rfl ?_
        refine wl_dec (r_neqStrL rfl rfl) rfl (fun h13_5 => ?_) (fun h13_5 => ?_)
        · refine wl_dec_f (r_neqBool ti4.und rfl rfl) rfl (by decide) ?_
          refine wl_val (r_move (v := .bool _) rfl) rfl ?_
          refine wl_val (r_field fa37_0 rfl) rfl ?_
          refine wl_val (r_loadB1 ti4.und rfl rfl (hS23.heap (.head _)) (by first | exact rule_dn_t hdn | exact rule_dn_f hdn)) rfl ?_
          refine wl_val (r_move (v := .bool _) rfl) rfl ?_
          refine wl_not rfl ?_
          refine wl_not rfl ?_
          refine wl_not rfl ?_
          refine wl_val (r_pick_f rfl (v := .bool false) rfl) rfl ?_
          refine wl_val (r_pick_f rfl (v := .bool _) rfl) rfl ?_
          refine wl_val (r_assign (v := .bool _) rfl) rfl ?_
          refine wl_nil ?_
          refine c_then ?_
          refine c_false rfl ?_
          refine wp_skip ?_
          refine c_inN ?_
          refine c_then ?_
          refine c_seq ?_
          refine c_region ?_
          refine wl_val (r_assign (v := .int .i64 0) rfl) rfl ?_
          refine wl_nil ?_
          refine c_then ?_
          refine wp_ret ?_
          refine ret1 Try.results17 ?_
          first | exact ⟨congrArg (Value.int .i64) (rule_8 n1 n2 n3 n4 n5 n6 (.inl ⟨by omega, (by first | assumption | exact Decidable.of_not_not (by assumption))⟩)).symm, hS23.fin⟩ | exact ⟨congrArg (Value.int .i64) (rule_8 n1 n2 n3 n4 n5 n6 (.inr ⟨by omega, (by first | assumption | exact Decidable.of_not_not (by assumption)), hdn⟩)).symm, hS23.fin⟩ | (exfalso; omega)
        refine wl_dec_t (r_neqBool ti4.und rfl rfl) rfl (by decide) ?_
        refine wl_val (r_move (v := .bool _) rfl) rfl ?_
        refine wl_not rfl ?_
        refine wl_not rfl ?_
        refine wl_not rfl ?_
        refine wl_not rfl ?_
        refine wl_not rfl ?_
        refine wl_not rfl ?_
        refine wl_not rfl ?_
        refine wl_val (r_pick_t rfl (v := .bool true) rfl) rfl ?_
        refine wl_val (r_assign (v := .bool _) rfl) rfl ?_
        refine wl_nil ?_
        refine c_then ?_
        refine c_true rfl ?_
        refine c_seq ?_
        refine c_region ?_
        refine wl_val (r_assign (v := .int .i64 17) rfl) rfl ?_
        refine wl_nil ?_
        refine c_then ?_
        refine wp_ret ?_
        refine c_inR ?_
        refine c_thenR ?_
        refine ret1 Try.results17 ?_
        first | exact ⟨congrArg (Value.int .i64) (rule_7 n1 n2 n3 n4 n5 n6 (.inl ⟨by omega, (by first | assumption | exact Decidable.of_not_not (by assumption))⟩)).symm, hS23.fin⟩ | exact ⟨congrArg (Value.int .i64) (rule_7 n1 n2 n3 n4 n5 n6 (.inr (.inl ⟨by omega, (by first | assumption | exact Decidable.of_not_not (by assumption))⟩))).symm, hS23.fin⟩ | exact ⟨congrArg (Value.int .i64) (rule_7 n1 n2 n3 n4 n5 n6 (.inr (.inr ⟨hdn, by omega⟩))).symm, hS23.fin⟩ | (exfalso; omega)
      refine wl_val (r_field fa37_7 rfl) rfl ?_
      refine wl_val (r_loadB1 ti9.und rfl rfl (hS23.heap (.head _)) rfl) rfl ?_
      refine wl_dec (r_neqStrL rfl rfl) rfl (fun h13_5 => ?_) (fun h13_5 => ?_)
      · refine wl_dec_t (r_neqBool ti4.und rfl rfl) rfl (by decide) ?_
        refine wl_val (r_move (v := .bool _) rfl) rfl ?_
        refine wl_not rfl ?_
        refine wl_not rfl ?_
        refine wl_not rfl ?_
        refine wl_not rfl ?_
        refine wl_not rfl ?_
        refine wl_not rfl ?_
        refine wl_not rfl ?_
        refine wl_val (r_pick_t rfl (v := .bool true) rfl) rfl ?_
        refine wl_val (r_assign (v := .bool _) rfl) rfl ?_
        refine wl_nil ?_
        refine c_then ?_
        refine c_true rfl ?_
        refine c_seq ?_
        refine c_region ?_
        refine wl_val (r_assign (v := .int .i64 17) rfl) rfl ?_
        refine wl_nil ?_
        refine c_then ?_
        refine wp_ret ?_
        refine c_inR ?_
        refine c_thenR ?_
        refine ret1 Try.results17 ?_
        first | exact ⟨congrArg (Value.int .i64) (rule_7 n1 n2 n3 n4 n5 n6 (.inl ⟨by omega, (by first | assumption | exact Decidable.of_not_not (by assumption))⟩)).symm, hS23.fin⟩ | exact ⟨congrArg (Value.int .i64) (rule_7 n1 n2 n3 n4 n5 n6 (.inr (.inl ⟨by omega, (by first | assumption | exact Decidable.of_not_not (by assumption))⟩))).symm, hS23.fin⟩ | exact ⟨congrArg (Value.int .i64) (rule_7 n1 n2 n3 n4 n5 n6 (.inr (.inr ⟨hdn, by omega⟩))).symm, hS23.fin⟩ | (exfalso; omega)
      refine wl_dec_f (r_neqBool ti4.und rfl rfl) rfl (by decide) ?_
      refine wl_val (r_move (v := .bool _) rfl) rfl ?_
      refine wl_val (r_field fa37_0 rfl) rfl ?_
      refine wl_val (r_loadB1 ti4.und rfl rfl (hS23.heap (.head _)) (by first | exact rule_dn_t hdn | exact rule_dn_f hdn)) rfl ?_
      refine wl_val (r_move (v := .bool _) rfl) rfl ?_
      refine wl_not rfl ?_
      refine wl_not rfl ?_
      refine wl_not rfl ?_
      refine wl_val (r_pick_f rfl (v := .bool false) rfl) rfl ?_
      refine wl_val (r_pick_f rfl (v := .bool _) rfl) rfl ?_
      refine wl_val (r_assign (v := .bool _) rfl) rfl ?_
      refine wl_nil ?_
      refine c_then ?_
      refine c_false rfl ?_
      refine wp_skip ?_
      refine c_inN ?_
      refine c_then ?_
      refine c_seq ?_
      refine c_region ?_
      refine wl_val (r_assign (v := .int .i64 0) rfl) rfl ?_
      refine wl_nil ?_
      refine c_then ?_
      refine wp_ret ?_
      refine ret1 Try.results17 ?_
      first | exact ⟨congrArg (Value.int .i64) (rule_8 n1 n2 n3 n4 n5 n6 (.inl ⟨by omega, (by first | assumption | exact Decidable.of_not_not (by assumption))⟩)).symm, hS23.fin⟩ | exact ⟨congrArg (Value.int .i64) (rule_8 n1 n2 n3 n4 n5 n6 (.inr ⟨by omega, (by first | assumption | exact Decidable.of_not_not (by assumption)), hdn⟩)).symm, hS23.fin⟩ | (exfalso; omega)
    have hS8 := hS5.ext hx7
    refine wl_val (r_not rfl) rfl ?_
    refine wl_val (r_pick_t rfl (v := .bool _) rfl) rfl ?_
    refine wl_val (r_pick_f rfl (v := .bool _) rfl) rfl ?_
    refine wl_nil ?_
    refine c_then ?_
    refine c_true rfl ?_
    refine c_seq ?_
    refine c_region ?_
    refine wl_val (r_assign (v := .int .i64 6) rfl) rfl ?_
    refine wl_nil ?_
    refine c_then ?_
    refine wp_ret ?_
    refine c_thenR ?_
    refine ret1 Try.results17 ?_
    first | exact ⟨congrArg (Value.int .i64) (rule_4 n1 n2 n3 hcf).symm, hS8.fin⟩ | exact ⟨congrArg (Value.int .i64) (rule_2 n1 (.inl hcf)).symm, hS8.fin⟩ | exact ⟨congrArg (Value.int .i64) (rule_2 n1 (.inr ⟨by assumption, hnn⟩)).symm, hS8.fin⟩ | (exfalso; omega)
  refine wl_val (r_move (v := .bool _) rfl) rfl ?_
  refine wl_not rfl ?_
  refine wl_not rfl ?_
  refine wl_not rfl ?_
  refine wl_not rfl ?_
  refine wl_val (r_pick_f rfl (v := .bool false) rfl) rfl ?_
  refine wl_val (r_pick_f rfl (v := .bool _) rfl) rfl ?_
  refine wl_nil ?_
  refine c_then ?_
  refine c_false rfl ?_
  refine wp_skip ?_
  refine c_then ?_
  refine c_seq ?_
  refine c_seq ?_
  have n2 : ¬ (r.ro.any (fun s => !nameE s) = true ∨ (¬ r.ofr = [] ∧ nameE r.ofr = false)) := by rintro (h | ⟨h, h'⟩); (rw [hcf] at h; cases h); first | exact h3_6 h | (rw [hnn] at h'; cases h')
  refine c_region ?_
  refine wl_val (r_field fa37_2 rfl) rfl ?_
  refine wl_val (r_loadB1 ti35.und rfl rfl (hS5.heap (.head _)) rfl) rfl ?_
  refine wl_call (r_call fn49 rfl rfl) rfl (containsFuncI_ok r.acs r.aa r.acs.length r.ak 50 [] actOut _ (h2.st hS5) rfl hk.an fn50 (fun x w' hx h => ranot_ok x w')) ?_
  rintro _ w24 (⟨hcf, rfl, hx25⟩ | ⟨hcf, rfl, hx25⟩)
  · have hS26 := hS5.ext hx25
    refine wl_nil ?_
    refine c_then ?_
    refine c_true rfl ?_
    refine c_seq ?_
    refine c_region ?_
    refine wl_val (r_assign (v := .int .i64 3) rfl) rfl ?_
    refine wl_nil ?_
    refine c_then ?_
    refine wp_ret ?_
    refine c_thenR ?_
    refine ret1 Try.results17 ?_
    first | exact ⟨congrArg (Value.int .i64) (rule_3 n1 n2 hcf).symm, hS26.fin⟩ | (exfalso; omega)
  have hS26 := hS5.ext hx25
  refine wl_nil ?_
  refine c_then ?_
  refine c_false rfl ?_
  refine wp_skip ?_
  refine c_then ?_
  refine c_seq ?_
  refine c_seq ?_
  have n3 : ¬ (r.acs.any actOut = true) := by rw [hcf]; exact Bool.noConfusion
  refine c_region ?_
  refine wl_val (r_field fa37_3 rfl) rfl ?_
  refine wl_val (r_loadB1 ti30.und rfl rfl (hS26.heap (.head _)) rfl) rfl ?_
  refine wl_call (r_call fn37 rfl rfl) rfl (containsFuncS_ok r.las r.la r.las.length r.lc 51 [] (fun s => !patE s) _ (h3.st hS26) rfl hk.ln fn51 (fun x w' hx h => rpnot_ok x w' (hk.ll x hx))) ?_
  rintro _ w27 (⟨hcf, rfl, hx28⟩ | ⟨hcf, rfl, hx28⟩)
  · have hS29 := hS26.ext hx28
    refine wl_nil ?_
    refine c_then ?_
    refine c_true rfl ?_
    refine c_seq ?_
    refine c_region ?_
    refine wl_val (r_assign (v := .int .i64 6) rfl) rfl ?_
    refine wl_nil ?_
    refine c_then ?_
    refine wp_ret ?_
    refine c_thenR ?_
    refine ret1 Try.results17 ?_
    first | exact ⟨congrArg (Value.int .i64) (rule_4 n1 n2 n3 hcf).symm, hS29.fin⟩ | exact ⟨congrArg (Value.int .i64) (rule_2 n1 (.inl hcf)).symm, hS29.fin⟩ | exact ⟨congrArg (Value.int .i64) (rule_2 n1 (.inr ⟨by assumption, hnn⟩)).symm, hS29.fin⟩ | (exfalso; omega)
  have hS29 := hS26.ext hx28
  refine wl_nil ?_
  refine c_then ?_
  refine c_false rfl ?_
  refine wp_skip ?_
  refine c_then ?_
  refine c_seq ?_
  refine c_block ?_
  refine c_seq ?_
  have n4 : ¬ (r.las.any (fun s => !patE s) = true) := by rw [hcf]; exact Bool.noConfusion
  refine c_region ?_
  refine wl_val (r_field fa37_1 rfl) rfl ?_
  refine wl_val (r_loadB1 ti30.und rfl rfl (hS29.heap (.head _)) rfl) rfl ?_
  refine wl_call (r_call fn53 rfl rfl) rfl (rtwiceS_ok r.ro r.ra r.ro.length r.rc _ (h1.st hS29) rfl hk.rn hk.rc) ?_
  rintro _ w30 (⟨htwro, rfl, hx31⟩ | ⟨htwro, rfl, hx31⟩)
  · have hS32 := hS29.ext hx31
    refine wl_val (r_move (v := .bool _) rfl) rfl ?_
    refine wl_not rfl ?_
    refine wl_not rfl ?_
    refine wl_not rfl ?_
    refine wl_val (r_pick_t rfl (v := .bool true) rfl) rfl ?_
    refine wl_val (r_move (v := .bool _) rfl) rfl ?_
    refine wl_not rfl ?_
    refine wl_not rfl ?_
    refine wl_not rfl ?_
    refine wl_val (r_pick_t rfl (v := .bool true) rfl) rfl ?_
    refine wl_val (r_assign (v := .bool _) rfl) rfl ?_
    refine wl_nil ?_
    refine c_then ?_
    refine c_true rfl ?_
    refine c_seq ?_
    refine c_region ?_
    refine wl_val (r_assign (v := .int .i64 8) rfl) rfl ?_
    refine wl_nil ?_
    refine c_then ?_
    refine wp_ret ?_
    refine c_inR ?_
    refine c_thenR ?_
    refine ret1 Try.results17 ?_
    first | exact ⟨congrArg (Value.int .i64) (rule_5 n1 n2 n3 n4 (by first | exact .inl (by assumption) | exact .inr (.inl (by assumption)) | exact .inr (.inr (by assumption)))).symm, hS32.fin⟩ | (exfalso; omega)
  have hS32 := hS29.ext hx31
  refine wl_val (r_move (v := .bool _) rfl) rfl ?_
  refine wl_val (r_field fa37_2 rfl) rfl ?_
  refine wl_val (r_loadB1 ti35.und rfl rfl (hS32.heap (.head _)) rfl) rfl ?_
  refine wl_call (r_call fn54 rfl rfl) rfl (rtwiceI_ok r.acs r.aa r.acs.length r.ak _ (h2.st hS32) rfl hk.an hk.ac) ?_
  rintro _ w33 (⟨htwacs, rfl, hx34⟩ | ⟨htwacs, rfl, hx34⟩)
  · have hS35 := hS32.ext hx34
    refine wl_val (r_pick_f rfl (v := .bool _) rfl) rfl ?_
    refine wl_val (r_move (v := .bool _) rfl) rfl ?_
    refine wl_not rfl ?_
    refine wl_not rfl ?_
    refine wl_not rfl ?_
    refine wl_val (r_pick_t rfl (v := .bool true) rfl) rfl ?_
    refine wl_val (r_assign (v := .bool _) rfl) rfl ?_
    refine wl_nil ?_
    refine c_then ?_
    refine c_true rfl ?_
    refine c_seq ?_
    refine c_region ?_
    refine wl_val (r_assign (v := .int .i64 8) rfl) rfl ?_
    refine wl_nil ?_
    refine c_then ?_
    refine wp_ret ?_
    refine c_inR ?_
    refine c_thenR ?_
    refine ret1 Try.results17 ?_
    first | exact ⟨congrArg (Value.int .i64) (rule_5 n1 n2 n3 n4 (by first | exact .inl (by assumption) | exact .inr (.inl (by assumption)) | exact .inr (.inr (by assumption)))).symm, hS35.fin⟩ | (exfalso; omega)
  have hS35 := hS32.ext hx34
  refine wl_val (r_pick_f rfl (v := .bool _) rfl) rfl ?_
  refine wl_val (r_move (v := .bool _) rfl) rfl ?_
  refine wl_val (r_field fa37_3 rfl) rfl ?_
  refine wl_val (r_loadB1 ti30.und rfl rfl (hS35.heap (.head _)) rfl) rfl ?_
  refine wl_call (r_call fn53 rfl rfl) rfl (rtwiceS_ok r.las r.la r.las.length r.lc _ (h3.st hS35) rfl hk.ln hk.lc) ?_
  rintro _ w36 (⟨htwlas, rfl, hx37⟩ | ⟨htwlas, rfl, hx37⟩)
  · have hS38 := hS35.ext hx37
    refine wl_val (r_pick_f rfl (v := .bool _) rfl) rfl ?_
    refine wl_val (r_assign (v := .bool _) rfl) rfl ?_
    refine wl_nil ?_
    refine c_then ?_
    refine c_true rfl ?_
    refine c_seq ?_
    refine c_region ?_
    refine wl_val (r_assign (v := .int .i64 8) rfl) rfl ?_
    refine wl_nil ?_
    refine c_then ?_
    refine wp_ret ?_
    refine c_inR ?_
    refine c_thenR ?_
    refine ret1 Try.results17 ?_
    first | exact ⟨congrArg (Value.int .i64) (rule_5 n1 n2 n3 n4 (by first | exact .inl (by assumption) | exact .inr (.inl (by assumption)) | exact .inr (.inr (by assumption)))).symm, hS38.fin⟩ | (exfalso; omega)
  have hS38 := hS35.ext hx37
  refine wl_val (r_pick_f rfl (v := .bool _) rfl) rfl ?_
  refine wl_val (r_assign (v := .bool _) rfl) rfl ?_
  refine wl_nil ?_
  refine c_then ?_
  refine c_false rfl ?_
  refine c_seq ?_
  have n5 : ¬ (¬ r.ro.Nodup ∨ ¬ r.acs.Nodup ∨ ¬ r.las.Nodup) := by rintro (h | h | h) <;> exact h (by assumption)
  refine c_region ?_
  refine wl_val (r_field fa37_4 rfl) rfl ?_
  refine wl_val (r_loadB1 ti3.und rfl rfl (hS38.heap (.head _)) rfl) rfl ?_
  refine wl_dec (r_lss rfl rfl) rfl (fun h11_2 => ?_) (fun h11_2 => ?_)
  · refine wl_val (r_move (v := .bool _) rfl) rfl ?_
    refine wl_not rfl ?_
    refine wl_not rfl ?_
    refine wl_not rfl ?_
    refine wl_val (r_pick_t rfl (v := .bool true) rfl) rfl ?_
    refine wl_val (r_move (v := .bool _) rfl) rfl ?_
    refine wl_not rfl ?_
    refine wl_not rfl ?_
    refine wl_not rfl ?_
    refine wl_val (r_pick_t rfl (v := .bool true) rfl) rfl ?_
    refine wl_val (r_move (v := .bool _) rfl) rfl ?_
    refine wl_not rfl ?_
    refine wl_not rfl ?_
    refine wl_not rfl ?_
    refine wl_val (r_pick_t rfl (v := .bool true) rfl) rfl ?_
    refine wl_val (r_move (v := .bool _) rfl) rfl ?_
    refine wl_not rfl ?_
    refine wl_not rfl ?_
    refine wl_not rfl ?_
    refine wl_not rfl ?_
    refine wl_not rfl ?_
    refine wl_not rfl ?_
    refine wl_not rfl ?_
    refine wl_not rfl ?_
    refine wl_not rfl ?_
    refine wl_not rfl ?_
    refine wl_val (r_pick_t rfl (v := .bool true) rfl) rfl ?_
    refine wl_val (r_move (v := .bool _) rfl) rfl ?_
    refine wl_not rfl ?_
    refine wl_not rfl ?_
    refine wl_not rfl ?_
    refine wl_val (r_pick_t rfl (v := .bool true) rfl) rfl ?_
    refine wl_val (r_move (v := .bool _) rfl) rfl ?_
    refine wl_not rfl ?_
    refine wl_not rfl ?_
    refine wl_not rfl ?_
    refine wl_val (r_pick_t rfl (v := .bool true) rfl) rfl ?_
    refine wl_val (r_assign (v := .bool _) rfl) rfl ?_
    refine wl_nil ?_
    refine c_then ?_
    refine c_true rfl ?_
    refine c_seq ?_
    refine c_region ?_
    refine wl_val (r_assign (v := .int .i64 4) rfl) rfl ?_
    refine wl_nil ?_
    refine c_then ?_
    refine wp_ret ?_
    refine c_inR ?_
    refine c_thenR ?_
    refine ret1 Try.results17 ?_
    first | exact ⟨congrArg (Value.int .i64) (rule_6 n1 n2 n3 n4 n5 (by omega)).symm, hS38.fin⟩ | (exfalso; omega)
  refine wl_val (r_move (v := .bool _) rfl) rfl ?_
  refine wl_val (r_field fa37_4 rfl) rfl ?_
  refine wl_val (r_loadB1 ti3.und rfl rfl (hS38.heap (.head _)) rfl) rfl ?_
  refine wl_dec (r_gtr rfl rfl) rfl (fun h11_6 => ?_) (fun h11_6 => ?_)
  · refine wl_val (r_pick_f rfl (v := .bool _) rfl) rfl ?_
    refine wl_val (r_move (v := .bool _) rfl) rfl ?_
    refine wl_not rfl ?_
    refine wl_not rfl ?_
    refine wl_not rfl ?_
    refine wl_val (r_pick_t rfl (v := .bool true) rfl) rfl ?_
    refine wl_val (r_move (v := .bool _) rfl) rfl ?_
    refine wl_not rfl ?_
    refine wl_not rfl ?_
    refine wl_not rfl ?_
    refine wl_val (r_pick_t rfl (v := .bool true) rfl) rfl ?_
    refine wl_val (r_move (v := .bool _) rfl) rfl ?_
    refine wl_not rfl ?_
    refine wl_not rfl ?_
    refine wl_not rfl ?_
    refine wl_not rfl ?_
    refine wl_not rfl ?_
    refine wl_not rfl ?_
    refine wl_not rfl ?_
    refine wl_not rfl ?_
    refine wl_not rfl ?_
    refine wl_not rfl ?_
    refine wl_val (r_pick_t rfl (v := .bool true) rfl) rfl ?_
    refine wl_val (r_move (v := .bool _) rfl) rfl ?_
    refine wl_not rfl ?_
    refine wl_not rfl ?_
    refine wl_not rfl ?_
    refine wl_val (r_pick_t rfl (v := .bool true) rfl) rfl ?_
    refine wl_val (r_move (v := .bool _) rfl) rfl ?_
    refine wl_not rfl ?_
    refine wl_not rfl ?_
    refine wl_not rfl ?_
    refine wl_val (r_pick_t rfl (v := .bool true) rfl) rfl ?_
    refine wl_val (r_assign (v := .bool _) rfl) rfl ?_
    refine wl_nil ?_
    refine c_then ?_
    refine c_true rfl ?_
    refine c_seq ?_
    refine c_region ?_
    refine wl_val (r_assign (v := .int .i64 4) rfl) rfl ?_
    refine wl_nil ?_
    refine c_then ?_
    refine wp_ret ?_
    refine c_inR ?_
    refine c_thenR ?_
    refine ret1 Try.results17 ?_
    first | exact ⟨congrArg (Value.int .i64) (rule_6 n1 n2 n3 n4 n5 (by omega)).symm, hS38.fin⟩ | (exfalso; omega)
  refine wl_val (r_pick_f rfl (v := .bool _) rfl) rfl ?_
  refine wl_val (r_move (v := .bool _) rfl) rfl ?_
  refine wl_val (r_field fa37_5 rfl) rfl ?_
  refine wl_val (r_loadB1 ti3.und rfl rfl (hS38.heap (.head _)) rfl) rfl ?_
  refine wl_dec (r_lss rfl rfl) rfl (fun h11_11 => ?_) (fun h11_11 => ?_)
  · refine wl_val (r_pick_f rfl (v := .bool _) rfl) rfl ?_
    refine wl_val (r_move (v := .bool _) rfl) rfl ?_
    refine wl_not rfl ?_
    refine wl_not rfl ?_
    refine wl_not rfl ?_
    refine wl_val (r_pick_t rfl (v := .bool true) rfl) rfl ?_
    refine wl_val (r_move (v := .bool _) rfl) rfl ?_
    refine wl_not rfl ?_
    refine wl_not rfl ?_
    refine wl_not rfl ?_
    refine wl_not rfl ?_
    refine wl_not rfl ?_
    refine wl_not rfl ?_
    refine wl_not rfl ?_
    refine wl_not rfl ?_
    refine wl_not rfl ?_
    refine wl_not rfl ?_
    refine wl_val (r_pick_t rfl (v := .bool true) rfl) rfl ?_
    refine wl_val (r_move (v := .bool _) rfl) rfl ?_
    refine wl_not rfl ?_
    refine wl_not rfl ?_
    refine wl_not rfl ?_
    refine wl_val (r_pick_t rfl (v := .bool true) rfl) rfl ?_
    refine wl_val (r_move (v := .bool _) rfl) rfl ?_
    refine wl_not rfl ?_
    refine wl_not rfl ?_
    refine wl_not rfl ?_
    refine wl_val (r_pick_t rfl (v := .bool true) rfl) rfl ?_
    refine wl_val (r_assign (v := .bool _) rfl) rfl ?_
    refine wl_nil ?_
    refine c_then ?_
    refine c_true rfl ?_
    refine c_seq ?_
    refine c_region ?_
    refine wl_val (r_assign (v := .int .i64 4) rfl) rfl ?_
    refine wl_nil ?_
    refine c_then ?_
    refine wp_ret ?_
    refine c_inR ?_
    refine c_thenR ?_
    refine ret1 Try.results17 ?_
    first | exact ⟨congrArg (Value.int .i64) (rule_6 n1 n2 n3 n4 n5 (by omega)).symm, hS38.fin⟩ | (exfalso; omega)
  refine wl_val (r_pick_f rfl (v := .bool _) rfl) rfl ?_
  refine wl_val (r_move (v := .bool _) rfl) rfl ?_
  refine wl_val (r_field fa37_5 rfl) rfl ?_
  refine wl_val (r_loadB1 ti3.und rfl rfl (hS38.heap (.head _)) rfl) rfl ?_
  refine wl_dec (r_gtr rfl rfl) rfl (fun h11_16 => ?_) (fun h11_16 => ?_)
  · refine wl_val (r_pick_f rfl (v := .bool _) rfl) rfl ?_
    refine wl_val (r_move (v := .bool _) rfl) rfl ?_
    refine wl_not rfl ?_
    refine wl_not rfl ?_
    refine wl_not rfl ?_
    refine wl_not rfl ?_
    refine wl_not rfl ?_
    refine wl_not rfl ?_
    refine wl_not rfl ?_
    refine wl_not rfl ?_
    refine wl_not rfl ?_
    refine wl_not rfl ?_
    refine wl_val (r_pick_t rfl (v := .bool true) rfl) rfl ?_
    refine wl_val (r_move (v := .bool _) rfl) rfl ?_
    refine wl_not rfl ?_
    refine wl_not rfl ?_
    refine wl_not rfl ?_
    refine wl_val (r_pick_t rfl (v := .bool true) rfl) rfl ?_
    refine wl_val (r_move (v := .bool _) rfl) rfl ?_
    refine wl_not rfl ?_
    refine wl_not rfl ?_
    refine wl_not rfl ?_
    refine wl_val (r_pick_t rfl (v := .bool true) rfl) rfl ?_
    refine wl_val (r_assign (v := .bool _) rfl) rfl ?_
    refine wl_nil ?_
    refine c_then ?_
    refine c_true rfl ?_
    refine c_seq ?_
    refine c_region ?_
    refine wl_val (r_assign (v := .int .i64 4) rfl) rfl ?_
    refine wl_nil ?_
    refine c_then ?_
    refine wp_ret ?_
    refine c_inR ?_
    refine c_thenR ?_
    refine ret1 Try.results17 ?_
    first | exact ⟨congrArg (Value.int .i64) (rule_6 n1 n2 n3 n4 n5 (by omega)).symm, hS38.fin⟩ | (exfalso; omega)
  refine wl_val (r_pick_f rfl (v := .bool _) rfl) rfl ?_
  refine wl_val (r_move (v := .bool _) rfl) rfl ?_
  refine wl_val (r_field fa37_4 rfl) rfl ?_
  refine wl_val (r_loadB1 ti3.und rfl rfl (hS38.heap (.head _)) rfl) rfl ?_
  refine wl_val (r_field fa37_5 rfl) rfl ?_
  refine wl_val (r_loadB1 ti3.und rfl rfl (hS38.heap (.head _)) rfl) rfl ?_
  refine wl_dec (r_eql rfl rfl) rfl (fun h11_23 => ?_) (fun h11_23 => ?_)
  · refine wl_val (r_move (v := .bool _) rfl) rfl ?_
    refine wl_val (r_field fa37_4 rfl) rfl ?_
    refine wl_val (r_loadB1 ti3.und rfl rfl (hS38.heap (.head _)) rfl) rfl ?_
    refine wl_dec (r_neq rfl rfl) rfl (fun h11_27 => ?_) (fun h11_27 => ?_)
    · refine wl_val (r_pick_t rfl (v := .bool _) rfl) rfl ?_
      refine wl_val (r_pick_f rfl (v := .bool _) rfl) rfl ?_
      refine wl_val (r_move (v := .bool _) rfl) rfl ?_
      refine wl_not rfl ?_
      refine wl_not rfl ?_
      refine wl_not rfl ?_
      refine wl_val (r_pick_t rfl (v := .bool true) rfl) rfl ?_
      refine wl_val (r_move (v := .bool _) rfl) rfl ?_
      refine wl_not rfl ?_
      refine wl_not rfl ?_
      refine wl_not rfl ?_
      refine wl_val (r_pick_t rfl (v := .bool true) rfl) rfl ?_
      refine wl_val (r_assign (v := .bool _) rfl) rfl ?_
      refine wl_nil ?_
      refine c_then ?_
      refine c_true rfl ?_
      refine c_seq ?_
      refine c_region ?_
      refine wl_val (r_assign (v := .int .i64 4) rfl) rfl ?_
      refine wl_nil ?_
      refine c_then ?_
      refine wp_ret ?_
      refine c_inR ?_
      refine c_thenR ?_
      refine ret1 Try.results17 ?_
      first | exact ⟨congrArg (Value.int .i64) (rule_6 n1 n2 n3 n4 n5 (by omega)).symm, hS38.fin⟩ | (exfalso; omega)
    refine wl_val (r_pick_t rfl (v := .bool _) rfl) rfl ?_
    refine wl_val (r_pick_f rfl (v := .bool _) rfl) rfl ?_
    refine wl_val (r_move (v := .bool _) rfl) rfl ?_
    refine wl_val (r_field fa37_6 rfl) rfl ?_
    refine wl_val (r_loadB1 ti3.und rfl rfl (hS38.heap (.head _)) rfl) rfl ?_
    refine wl_dec (r_lss rfl rfl) rfl (fun h11_33 => ?_) (fun h11_33 => ?_)
    · refine wl_val (r_pick_f rfl (v := .bool _) rfl) rfl ?_
      refine wl_val (r_move (v := .bool _) rfl) rfl ?_
      refine wl_not rfl ?_
      refine wl_not rfl ?_
      refine wl_not rfl ?_
      refine wl_val (r_pick_t rfl (v := .bool true) rfl) rfl ?_
      refine wl_val (r_assign (v := .bool _) rfl) rfl ?_
      refine wl_nil ?_
      refine c_then ?_
      refine c_true rfl ?_
      refine c_seq ?_
      refine c_region ?_
      refine wl_val (r_assign (v := .int .i64 4) rfl) rfl ?_
      refine wl_nil ?_
      refine c_then ?_
      refine wp_ret ?_
      refine c_inR ?_
      refine c_thenR ?_
      refine ret1 Try.results17 ?_
      first | exact ⟨congrArg (Value.int .i64) (rule_6 n1 n2 n3 n4 n5 (by omega)).symm, hS38.fin⟩ | (exfalso; omega)
    refine wl_val (r_pick_f rfl (v := .bool _) rfl) rfl ?_
    refine wl_val (r_move (v := .bool _) rfl) rfl ?_
    refine wl_val (r_field fa37_6 rfl) rfl ?_
    refine wl_val (r_loadB1 ti3.und rfl rfl (hS38.heap (.head _)) rfl) rfl ?_
    refine wl_dec (r_gtr rfl rfl) rfl (fun h11_38 => ?_) (fun h11_38 => ?_)
    · refine wl_val (r_pick_f rfl (v := .bool _) rfl) rfl ?_
      refine wl_val (r_assign (v := .bool _) rfl) rfl ?_
      refine wl_nil ?_
      refine c_then ?_
      refine c_true rfl ?_
      refine c_seq ?_
      refine c_region ?_
      refine wl_val (r_assign (v := .int .i64 4) rfl) rfl ?_
      refine wl_nil ?_
      refine c_then ?_
      refine wp_ret ?_
      refine c_inR ?_
      refine c_thenR ?_
      refine ret1 Try.results17 ?_
      first | exact ⟨congrArg (Value.int .i64) (rule_6 n1 n2 n3 n4 n5 (by omega)).symm, hS38.fin⟩ | (exfalso; omega)
    refine wl_val (r_pick_f rfl (v := .bool _) rfl) rfl ?_
    refine wl_val (r_assign (v := .bool _) rfl) rfl ?_
    refine wl_nil ?_
    refine c_then ?_
    refine c_false rfl ?_
    refine c_seq ?_
    rcases bool_cases r.dn with hdn | hdn
    · have n6 : ¬ (r.fr < 0 ∨ 24 < r.fr ∨ r.to < 0 ∨ 24 < r.to ∨ (r.fr = r.to ∧ ¬ r.fr = 0) ∨ r.nd < 0 ∨ 16 < r.nd) := by omega
      refine c_region ?_
      refine wl_val (r_field fa37_6 rfl) rfl ?_
      refine wl_val (r_loadB1 ti3.und rfl rfl (hS38.heap (.head _)) rfl) rfl ?_
      refine wl_dec (r_gtr rfl rfl) rfl (fun h13_2 => ?_) (fun h13_2 => ?_)
      · refine wl_val (r_field fa37_7 rfl) rfl ?_
        refine wl_val (r_loadB1 ti9.und rfl rfl (hS38.heap (.head _)) rfl) rfl ?_
        refine wl_dec (r_neqStrL rfl rfl) rfl (fun h13_5 => ?_) (fun h13_5 => ?_)
        · refine wl_dec_f (r_neqBool ti4.und rfl rfl) rfl (by decide) ?_
          refine wl_val (r_move (v := .bool _) rfl) rfl ?_
          refine wl_val (r_field fa37_0 rfl) rfl ?_
          refine wl_val (r_loadB1 ti4.und rfl rfl (hS38.heap (.head _)) (by first | exact rule_dn_t hdn | exact rule_dn_f hdn)) rfl ?_
          refine wl_val (r_move (v := .bool _) rfl) rfl ?_
          refine wl_val (r_field fa37_6 rfl) rfl ?_
          refine wl_val (r_loadB1 ti3.und rfl rfl (hS38.heap (.head _)) rfl) rfl ?_
          refine wl_dec (r_gtr rfl rfl) rfl (fun h13_13 => ?_) (fun h13_13 => ?_)
          · refine wl_val (r_pick_t rfl (v := .bool _) rfl) rfl ?_
            refine wl_val (r_pick_f rfl (v := .bool _) rfl) rfl ?_
            refine wl_val (r_assign (v := .bool _) rfl) rfl ?_
            refine wl_nil ?_
            refine c_then ?_
            refine c_true rfl ?_
            refine c_seq ?_
            refine c_region ?_
            refine wl_val (r_assign (v := .int .i64 17) rfl) rfl ?_
            refine wl_nil ?_
            refine c_then ?_
            refine wp_ret ?_
            refine c_inR ?_
            refine c_thenR ?_
            refine ret1 Try.results17 ?_
            first | exact ⟨congrArg (Value.int .i64) (rule_7 n1 n2 n3 n4 n5 n6 (.inl ⟨by omega, (by first | assumption | exact Decidable.of_not_not (by assumption))⟩)).symm, hS38.fin⟩ | exact ⟨congrArg (Value.int .i64) (rule_7 n1 n2 n3 n4 n5 n6 (.inr (.inl ⟨by omega, (by first | assumption | exact Decidable.of_not_not (by assumption))⟩))).symm, hS38.fin⟩ | exact ⟨congrArg (Value.int .i64) (rule_7 n1 n2 n3 n4 n5 n6 (.inr (.inr ⟨hdn, by omega⟩))).symm, hS38.fin⟩ | (exfalso; omega)
          refine wl_val (r_pick_t rfl (v := .bool _) rfl) rfl ?_
          refine wl_val (r_pick_f rfl (v := .bool _) rfl) rfl ?_
          refine wl_val (r_assign (v := .bool _) rfl) rfl ?_
          refine wl_nil ?_
          refine c_then ?_
          refine c_false rfl ?_
          refine wp_skip ?_
          refine c_inN ?_
          refine c_then ?_
          refine c_seq ?_
          refine c_region ?_
          refine wl_val (r_assign (v := .int .i64 0) rfl) rfl ?_
          refine wl_nil ?_
          refine c_then ?_
          refine wp_ret ?_
          refine ret1 Try.results17 ?_
          first | exact ⟨congrArg (Value.int .i64) (rule_8 n1 n2 n3 n4 n5 n6 (.inl ⟨by omega, (by first | assumption | exact Decidable.of_not_not (by assumption))⟩)).symm, hS38.fin⟩ | exact ⟨congrArg (Value.int .i64) (rule_8 n1 n2 n3 n4 n5 n6 (.inr ⟨by omega, (by first | assumption | exact Decidable.of_not_not (by assumption)), hdn⟩)).symm, hS38.fin⟩ | (exfalso; omega)
        refine wl_dec_t (r_neqBool ti4.und rfl rfl) rfl (by decide) ?_
        refine wl_val (r_move (v := .bool _) rfl) rfl ?_
        refine wl_not rfl ?_
        refine wl_not rfl ?_
        refine wl_not rfl ?_
        refine wl_not rfl ?_
        refine wl_not rfl ?_
        refine wl_not rfl ?_
        refine wl_not rfl ?_
        refine wl_val (r_pick_t rfl (v := .bool true) rfl) rfl ?_
        refine wl_val (r_assign (v := .bool _) rfl) rfl ?_
        refine wl_nil ?_
        refine c_then ?_
        refine c_true rfl ?_
        refine c_seq ?_
        refine c_region ?_
        refine wl_val (r_assign (v := .int .i64 17) rfl) rfl ?_
        refine wl_nil ?_
        refine c_then ?_
        refine wp_ret ?_
        refine c_inR ?_
        refine c_thenR ?_
        refine ret1 Try.results17 ?_
        first | exact ⟨congrArg (Value.int .i64) (rule_7 n1 n2 n3 n4 n5 n6 (.inl ⟨by omega, (by first | assumption | exact Decidable.of_not_not (by assumption))⟩)).symm, hS38.fin⟩ | exact ⟨congrArg (Value.int .i64) (rule_7 n1 n2 n3 n4 n5 n6 (.inr (.inl ⟨by omega, (by first | assumption | exact Decidable.of_not_not (by assumption))⟩))).symm, hS38.fin⟩ | exact ⟨congrArg (Value.int .i64) (rule_7 n1 n2 n3 n4 n5 n6 (.inr (.inr ⟨hdn, by omega⟩))).symm, hS38.fin⟩ | (exfalso; omega)
      refine wl_val (r_field fa37_7 rfl) rfl ?_
      refine wl_val (r_loadB1 ti9.und rfl rfl (hS38.heap (.head _)) rfl) rfl ?_
      refine wl_dec (r_neqStrL rfl rfl) rfl (fun h13_5 => ?_) (fun h13_5 => ?_)
      · refine wl_dec_t (r_neqBool ti4.und rfl rfl) rfl (by decide) ?_
        refine wl_val (r_move (v := .bool _) rfl) rfl ?_
        refine wl_not rfl ?_
        refine wl_not rfl ?_
        refine wl_not rfl ?_
        refine wl_not rfl ?_
        refine wl_not rfl ?_
        refine wl_not rfl ?_
        refine wl_not rfl ?_
        refine wl_val (r_pick_t rfl (v := .bool true) rfl) rfl ?_
        refine wl_val (r_assign (v := .bool _) rfl) rfl ?_
        refine wl_nil ?_
        refine c_then ?_
        refine c_true rfl ?_
        refine c_seq ?_
        refine c_region ?_
        refine wl_val (r_assign (v := .int .i64 17) rfl) rfl ?_
        refine wl_nil ?_
        refine c_then ?_
        refine wp_ret ?_
        refine c_inR ?_
        refine c_thenR ?_
        refine ret1 Try.results17 ?_
        first | exact ⟨congrArg (Value.int .i64) (rule_7 n1 n2 n3 n4 n5 n6 (.inl ⟨by omega, (by first | assumption | exact Decidable.of_not_not (by assumption))⟩)).symm, hS38.fin⟩ | exact ⟨congrArg (Value.int .i64) (rule_7 n1 n2 n3 n4 n5 n6 (.inr (.inl ⟨by omega, (by first | assumption | exact Decidable.of_not_not (by assumption))⟩))).symm, hS38.fin⟩ | exact ⟨congrArg (Value.int .i64) (rule_7 n1 n2 n3 n4 n5 n6 (.inr (.inr ⟨hdn, by omega⟩))).symm, hS38.fin⟩ | (exfalso; omega)
      refine wl_dec_f (r_neqBool ti4.und rfl rfl) rfl (by decide) ?_
      refine wl_val (r_move (v := .bool _) rfl) rfl ?_
      refine wl_val (r_field fa37_0 rfl) rfl ?_
      refine wl_val (r_loadB1 ti4.und rfl rfl (hS38.heap (.head _)) (by first | exact rule_dn_t hdn | exact rule_dn_f hdn)) rfl ?_
      refine wl_val (r_move (v := .bool _) rfl) rfl ?_
      refine wl_val (r_field fa37_6 rfl) rfl ?_
      refine wl_val (r_loadB1 ti3.und rfl rfl (hS38.heap (.head _)) rfl) rfl ?_
      refine wl_dec (r_gtr rfl rfl) rfl (fun h13_13 => ?_) (fun h13_13 => ?_)
      · refine wl_val (r_pick_t rfl (v := .bool _) rfl) rfl ?_
        refine wl_val (r_pick_f rfl (v := .bool _) rfl) rfl ?_
        refine wl_val (r_assign (v := .bool _) rfl) rfl ?_
        refine wl_nil ?_
        refine c_then ?_
        refine c_true rfl ?_
        refine c_seq ?_
        refine c_region ?_
        refine wl_val (r_assign (v := .int .i64 17) rfl) rfl ?_
        refine wl_nil ?_
        refine c_then ?_
        refine wp_ret ?_
        refine c_inR ?_
        refine c_thenR ?_
        refine ret1 Try.results17 ?_
        first | exact ⟨congrArg (Value.int .i64) (rule_7 n1 n2 n3 n4 n5 n6 (.inl ⟨by omega, (by first | assumption | exact Decidable.of_not_not (by assumption))⟩)).symm, hS38.fin⟩ | exact ⟨congrArg (Value.int .i64) (rule_7 n1 n2 n3 n4 n5 n6 (.inr (.inl ⟨by omega, (by first | assumption | exact Decidable.of_not_not (by assumption))⟩))).symm, hS38.fin⟩ | exact ⟨congrArg (Value.int .i64) (rule_7 n1 n2 n3 n4 n5 n6 (.inr (.inr ⟨hdn, by omega⟩))).symm, hS38.fin⟩ | (exfalso; omega)
      refine wl_val (r_pick_t rfl (v := .bool _) rfl) rfl ?_
      refine wl_val (r_pick_f rfl (v := .bool _) rfl) rfl ?_
      refine wl_val (r_assign (v := .bool _) rfl) rfl ?_
      refine wl_nil ?_
      refine c_then ?_
      refine c_false rfl ?_
      refine wp_skip ?_
      refine c_inN ?_
      refine c_then ?_
      refine c_seq ?_
      refine c_region ?_
      refine wl_val (r_assign (v := .int .i64 0) rfl) rfl ?_
      refine wl_nil ?_
      refine c_then ?_
      refine wp_ret ?_
      refine ret1 Try.results17 ?_
      first | exact ⟨congrArg (Value.int .i64) (rule_8 n1 n2 n3 n4 n5 n6 (.inl ⟨by omega, (by first | assumption | exact Decidable.of_not_not (by assumption))⟩)).symm, hS38.fin⟩ | exact ⟨congrArg (Value.int .i64) (rule_8 n1 n2 n3 n4 n5 n6 (.inr ⟨by omega, (by first | assumption | exact Decidable.of_not_not (by assumption)), hdn⟩)).symm, hS38.fin⟩ | (exfalso; omega)
    have n6 : ¬ (r.fr < 0 ∨ 24 < r.fr ∨ r.to < 0 ∨ 24 < r.to ∨ (r.fr = r.to ∧ ¬ r.fr = 0) ∨ r.nd < 0 ∨ 16 < r.nd) := by omega
    refine c_region ?_
    refine wl_val (r_field fa37_6 rfl) rfl ?_
    refine wl_val (r_loadB1 ti3.und rfl rfl (hS38.heap (.head _)) rfl) rfl ?_
    refine wl_dec (r_gtr rfl rfl) rfl (fun h13_2 => ?_) (fun h13_2 => ?_)
    · refine wl_val (r_field fa37_7 rfl) rfl ?_
      refine wl_val (r_loadB1 ti9.und rfl rfl (hS38.heap (.head _)) rfl) rfl ?_
      refine wl_dec (r_neqStrL rfl rfl) rfl (fun h13_5 => ?_) (fun h13_5 => ?_)
      · refine wl_dec_f (r_neqBool ti4.und rfl rfl) rfl (by decide) ?_
        refine wl_val (r_move (v := .bool _) rfl) rfl ?_
        refine wl_val (r_field fa37_0 rfl) rfl ?_
        refine wl_val (r_loadB1 ti4.und rfl rfl (hS38.heap (.head _)) (by first | exact rule_dn_t hdn | exact rule_dn_f hdn)) rfl ?_
        refine wl_val (r_move (v := .bool _) rfl) rfl ?_
        refine wl_not rfl ?_
        refine wl_not rfl ?_
        refine wl_not rfl ?_
        refine wl_val (r_pick_f rfl (v := .bool false) rfl) rfl ?_
        refine wl_val (r_pick_f rfl (v := .bool _) rfl) rfl ?_
        refine wl_val (r_assign (v := .bool _) rfl) rfl ?_
        refine wl_nil ?_
        refine c_then ?_
        refine c_false rfl ?_
        refine wp_skip ?_
        refine c_inN ?_
        refine c_then ?_
        refine c_seq ?_
        refine c_region ?_
        refine wl_val (r_assign (v := .int .i64 0) rfl) rfl ?_
        refine wl_nil ?_
        refine c_then ?_
        refine wp_ret ?_
        refine ret1 Try.results17 ?_
        first | exact ⟨congrArg (Value.int .i64) (rule_8 n1 n2 n3 n4 n5 n6 (.inl ⟨by omega, (by first | assumption | exact Decidable.of_not_not (by assumption))⟩)).symm, hS38.fin⟩ | exact ⟨congrArg (Value.int .i64) (rule_8 n1 n2 n3 n4 n5 n6 (.inr ⟨by omega, (by first | assumption | exact Decidable.of_not_not (by assumption)), hdn⟩)).symm, hS38.fin⟩ | (exfalso; omega)
      refine wl_dec_t (r_neqBool ti4.und rfl rfl) rfl (by decide) ?_
      refine wl_val (r_move (v := .bool _) rfl) rfl ?_
      refine wl_not rfl ?_
      refine wl_not rfl ?_
      refine wl_not rfl ?_
      refine wl_not rfl ?_
      refine wl_not rfl ?_
      refine wl_not rfl ?_
      refine wl_not rfl ?_
      refine wl_val (r_pick_t rfl (v := .bool true) rfl) rfl ?_
      refine wl_val (r_assign (v := .bool _) rfl) rfl ?_
      refine wl_nil ?_
      refine c_then ?_
      refine c_true rfl ?_
      refine c_seq ?_
      refine c_region ?_
      refine wl_val (r_assign (v := .int .i64 17) rfl) rfl ?_
      refine wl_nil ?_
      refine c_then ?_
      refine wp_ret ?_
      refine c_inR ?_
      refine c_thenR ?_
      refine ret1 Try.results17 ?_
      first | exact ⟨congrArg (Value.int .i64) (rule_7 n1 n2 n3 n4 n5 n6 (.inl ⟨by omega, (by first | assumption | exact Decidable.of_not_not (by assumption))⟩)).symm, hS38.fin⟩ | exact ⟨congrArg (Value.int .i64) (rule_7 n1 n2 n3 n4 n5 n6 (.inr (.inl ⟨by omega, (by first | assumption | exact Decidable.of_not_not (by assumption))⟩))).symm, hS38.fin⟩ | exact ⟨congrArg (Value.int .i64) (rule_7 n1 n2 n3 n4 n5 n6 (.inr (.inr ⟨hdn, by omega⟩))).symm, hS38.fin⟩ | (exfalso; omega)
    refine wl_val (r_field fa37_7 rfl) rfl ?_
    refine wl_val (r_loadB1 ti9.und rfl rfl (hS38.heap (.head _)) rfl) rfl ?_
    refine wl_dec (r_neqStrL rfl rfl) rfl (fun h13_5 => ?_) (fun h13_5 => ?_)
    · refine wl_dec_t (r_neqBool ti4.und rfl rfl) rfl (by decide) ?_
      refine wl_val (r_move (v := .bool _) rfl) rfl ?_
      refine wl_not rfl ?_
      refine wl_not rfl ?_
      refine wl_not rfl ?_
      refine wl_not rfl ?_
      refine wl_not rfl ?_
      refine wl_not rfl ?_
      refine wl_not rfl ?_
      refine wl_val (r_pick_t rfl (v := .bool true) rfl) rfl ?_
      refine wl_val (r_assign (v := .bool _) rfl) rfl ?_
      refine wl_nil ?_
      refine c_then ?_
      refine c_true rfl ?_
      refine c_seq ?_
      refine c_region ?_
      refine wl_val (r_assign (v := .int .i64 17) rfl) rfl ?_
      refine wl_nil ?_
      refine c_then ?_
      refine wp_ret ?_
      refine c_inR ?_
      refine c_thenR ?_
      refine ret1 Try.results17 ?_
      first | exact ⟨congrArg (Value.int .i64) (rule_7 n1 n2 n3 n4 n5 n6 (.inl ⟨by omega, (by first | assumption | exact Decidable.of_not_not (by assumption))⟩)).symm, hS38.fin⟩ | exact ⟨congrArg (Value.int .i64) (rule_7 n1 n2 n3 n4 n5 n6 (.inr (.inl ⟨by omega, (by first | assumption | exact Decidable.of_not_not (by assumption))⟩))).symm, hS38.fin⟩ | exact ⟨congrArg (Value.int .i64) (rule_7 n1 n2 n3 n4 n5 n6 (.inr (.inr ⟨hdn, by omega⟩))).symm, hS38.fin⟩ | (exfalso; omega)
    refine wl_dec_f (r_neqBool ti4.und rfl rfl) rfl (by decide) ?_
    refine wl_val (r_move (v := .bool _) rfl) rfl ?_
    refine wl_val (r_field fa37_0 rfl) rfl ?_
    refine wl_val (r_loadB1 ti4.und rfl rfl (hS38.heap (.head _)) (by first | exact rule_dn_t hdn | exact rule_dn_f hdn)) rfl ?_
    refine wl_val (r_move (v := .bool _) rfl) rfl ?_
    refine wl_not rfl ?_
    refine wl_not rfl ?_
    refine wl_not rfl ?_
    refine wl_val (r_pick_f rfl (v := .bool false) rfl) rfl ?_
    refine wl_val (r_pick_f rfl (v := .bool _) rfl) rfl ?_
    refine wl_val (r_assign (v := .bool _) rfl) rfl ?_
    refine wl_nil ?_
    refine c_then ?_
    refine c_false rfl ?_
    refine wp_skip ?_
    refine c_inN ?_
    refine c_then ?_
    refine c_seq ?_
    refine c_region ?_
    refine wl_val (r_assign (v := .int .i64 0) rfl) rfl ?_
    refine wl_nil ?_
    refine c_then ?_
    refine wp_ret ?_
    refine ret1 Try.results17 ?_
    first | exact ⟨congrArg (Value.int .i64) (rule_8 n1 n2 n3 n4 n5 n6 (.inl ⟨by omega, (by first | assumption | exact Decidable.of_not_not (by assumption))⟩)).symm, hS38.fin⟩ | exact ⟨congrArg (Value.int .i64) (rule_8 n1 n2 n3 n4 n5 n6 (.inr ⟨by omega, (by first | assumption | exact Decidable.of_not_not (by assumption)), hdn⟩)).symm, hS38.fin⟩ | (exfalso; omega)
  refine wl_val (r_move (v := .bool _) rfl) rfl ?_
  refine wl_not rfl ?_
  refine wl_not rfl ?_
  refine wl_not rfl ?_
  refine wl_val (r_pick_f rfl (v := .bool false) rfl) rfl ?_
  refine wl_val (r_pick_f rfl (v := .bool _) rfl) rfl ?_
  refine wl_val (r_move (v := .bool _) rfl) rfl ?_
  refine wl_val (r_field fa37_6 rfl) rfl ?_
  refine wl_val (r_loadB1 ti3.und rfl rfl (hS38.heap (.head _)) rfl) rfl ?_
  refine wl_dec (r_lss rfl rfl) rfl (fun h11_33 => ?_) (fun h11_33 => ?_)
  · refine wl_val (r_pick_f rfl (v := .bool _) rfl) rfl ?_
    refine wl_val (r_move (v := .bool _) rfl) rfl ?_
    refine wl_not rfl ?_
    refine wl_not rfl ?_
    refine wl_not rfl ?_
    refine wl_val (r_pick_t rfl (v := .bool true) rfl) rfl ?_
    refine wl_val (r_assign (v := .bool _) rfl) rfl ?_
    refine wl_nil ?_
    refine c_then ?_
    refine c_true rfl ?_
    refine c_seq ?_
    refine c_region ?_
    refine wl_val (r_assign (v := .int .i64 4) rfl) rfl ?_
    refine wl_nil ?_
    refine c_then ?_
    refine wp_ret ?_
    refine c_inR ?_
    refine c_thenR ?_
    refine ret1 Try.results17 ?_
    first | exact ⟨congrArg (Value.int .i64) (rule_6 n1 n2 n3 n4 n5 (by omega)).symm, hS38.fin⟩ | (exfalso; omega)
  refine wl_val (r_pick_f rfl (v := .bool _) rfl) rfl ?_
  refine wl_val (r_move (v := .bool _) rfl) rfl ?_
  refine wl_val (r_field fa37_6 rfl) rfl ?_
  refine wl_val (r_loadB1 ti3.und rfl rfl (hS38.heap (.head _)) rfl) rfl ?_
  refine wl_dec (r_gtr rfl rfl) rfl (fun h11_38 => ?_) (fun h11_38 => ?_)
  · refine wl_val (r_pick_f rfl (v := .bool _) rfl) rfl ?_
    refine wl_val (r_assign (v := .bool _) rfl) rfl ?_
    refine wl_nil ?_
    refine c_then ?_
    refine c_true rfl ?_
    refine c_seq ?_
    refine c_region ?_
    refine wl_val (r_assign (v := .int .i64 4) rfl) rfl ?_
    refine wl_nil ?_
    refine c_then ?_
    refine wp_ret ?_
    refine c_inR ?_
    refine c_thenR ?_
    refine ret1 Try.results17 ?_
    first | exact ⟨congrArg (Value.int .i64) (rule_6 n1 n2 n3 n4 n5 (by omega)).symm, hS38.fin⟩ | (exfalso; omega)
  refine wl_val (r_pick_f rfl (v := .bool _) rfl) rfl ?_
  refine wl_val (r_assign (v := .bool _) rfl) rfl ?_
  refine wl_nil ?_
  refine c_then ?_
  refine c_false rfl ?_
  refine c_seq ?_
  rcases bool_cases r.dn with hdn | hdn
  · have n6 : ¬ (r.fr < 0 ∨ 24 < r.fr ∨ r.to < 0 ∨ 24 < r.to ∨ (r.fr = r.to ∧ ¬ r.fr = 0) ∨ r.nd < 0 ∨ 16 < r.nd) := by omega
    refine c_region ?_
    refine wl_val (r_field fa37_6 rfl) rfl ?_
    refine wl_val (r_loadB1 ti3.und rfl rfl (hS38.heap (.head _)) rfl) rfl ?_
    refine wl_dec (r_gtr rfl rfl) rfl (fun h13_2 => ?_) (fun h13_2 => ?_)
    · refine wl_val (r_field fa37_7 rfl) rfl ?_
      refine wl_val (r_loadB1 ti9.und rfl rfl (hS38.heap (.head _)) rfl) rfl ?_
      refine wl_dec (r_neqStrL rfl rfl) rfl (fun h13_5 => ?_) (fun h13_5 => ?_)
      · refine wl_dec_f (r_neqBool ti4.und rfl rfl) rfl (by decide) ?_
        refine wl_val (r_move (v := .bool _) rfl) rfl ?_
        refine wl_val (r_field fa37_0 rfl) rfl ?_
        refine wl_val (r_loadB1 ti4.und rfl rfl (hS38.heap (.head _)) (by first | exact rule_dn_t hdn | exact rule_dn_f hdn)) rfl ?_
        refine wl_val (r_move (v := .bool _) rfl) rfl ?_
        refine wl_val (r_field fa37_6 rfl) rfl ?_
        refine wl_val (r_loadB1 ti3.und rfl rfl (hS38.heap (.head _)) rfl) rfl ?_
        refine wl_dec (r_gtr rfl rfl) rfl (fun h13_13 => ?_) (fun h13_13 => ?_)
        · refine wl_val (r_pick_t rfl (v := .bool _) rfl) rfl ?_
          refine wl_val (r_pick_f rfl (v := .bool _) rfl) rfl ?_
          refine wl_val (r_assign (v := .bool _) rfl) rfl ?_
          refine wl_nil ?_
          refine c_then ?_
          refine c_true rfl ?_
          refine c_seq ?_
          refine c_region ?_
          refine wl_val (r_assign (v := .int .i64 17) rfl) rfl ?_
          refine wl_nil ?_
          refine c_then ?_
          refine wp_ret ?_
          refine c_inR ?_
          refine c_thenR ?_
          refine ret1 Try.results17 ?_
          first | exact ⟨congrArg (Value.int .i64) (rule_7 n1 n2 n3 n4 n5 n6 (.inl ⟨by omega, (by first | assumption | exact Decidable.of_not_not (by assumption))⟩)).symm, hS38.fin⟩ | exact ⟨congrArg (Value.int .i64) (rule_7 n1 n2 n3 n4 n5 n6 (.inr (.inl ⟨by omega, (by first | assumption | exact Decidable.of_not_not (by assumption))⟩))).symm, hS38.fin⟩ | exact ⟨congrArg (Value.int .i64) (rule_7 n1 n2 n3 n4 n5 n6 (.inr (.inr ⟨hdn, by omega⟩))).symm, hS38.fin⟩ | (exfalso; omega)
        refine wl_val (r_pick_t rfl (v := .bool _) rfl) rfl ?_
        refine wl_val (r_pick_f rfl (v := .bool _) rfl) rfl ?_
        refine wl_val (r_assign (v := .bool _) rfl) rfl ?_
        refine wl_nil ?_
        refine c_then ?_
        refine c_false rfl ?_
        refine wp_skip ?_
        refine c_inN ?_
        refine c_then ?_
        refine c_seq ?_
        refine c_region ?_
        refine wl_val (r_assign (v := .int .i64 0) rfl) rfl ?_
        refine wl_nil ?_
        refine c_then ?_
        refine wp_ret ?_
        refine ret1 Try.results17 ?_
        first | exact ⟨congrArg (Value.int .i64) (rule_8 n1 n2 n3 n4 n5 n6 (.inl ⟨by omega, (by first | assumption | exact Decidable.of_not_not (by assumption))⟩)).symm, hS38.fin⟩ | exact ⟨congrArg (Value.int .i64) (rule_8 n1 n2 n3 n4 n5 n6 (.inr ⟨by omega, (by first | assumption | exact Decidable.of_not_not (by assumption)), hdn⟩)).symm, hS38.fin⟩ | (exfalso; omega)
      refine wl_dec_t (r_neqBool ti4.und rfl rfl) rfl (by decide) ?_
      refine wl_val (r_move (v := .bool _) rfl) rfl ?_
      refine wl_not rfl ?_
      refine wl_not rfl ?_
      refine wl_not rfl ?_
      refine wl_not rfl ?_
      refine wl_not rfl ?_
      refine wl_not rfl ?_
      refine wl_not rfl ?_
      refine wl_val (r_pick_t rfl (v := .bool true) rfl) rfl ?_
      refine wl_val (r_assign (v := .bool _) rfl) rfl ?_
      refine wl_nil ?_
      refine c_then ?_
      refine c_true rfl ?_
      refine c_seq ?_
      refine c_region ?_
      refine wl_val (r_assign (v := .int .i64 17) rfl) rfl ?_
      refine wl_nil ?_
      refine c_then ?_
      refine wp_ret ?_
      refine c_inR ?_
      refine c_thenR ?_
      refine ret1 Try.results17 ?_
      first | exact ⟨congrArg (Value.int .i64) (rule_7 n1 n2 n3 n4 n5 n6 (.inl ⟨by omega, (by first | assumption | exact Decidable.of_not_not (by assumption))⟩)).symm, hS38.fin⟩ | exact ⟨congrArg (Value.int .i64) (rule_7 n1 n2 n3 n4 n5 n6 (.inr (.inl ⟨by omega, (by first | assumption | exact Decidable.of_not_not (by assumption))⟩))).symm, hS38.fin⟩ | exact ⟨congrArg (Value.int .i64) (rule_7 n1 n2 n3 n4 n5 n6 (.inr (.inr ⟨hdn, by omega⟩))).symm, hS38.fin⟩ | (exfalso; omega)
    refine wl_val (r_field fa37_7 rfl) rfl ?_
    refine wl_val (r_loadB1 ti9.und rfl rfl (hS38.heap (.head _)) rfl) rfl ?_
    refine wl_dec (r_neqStrL rfl rfl) rfl (fun h13_5 => ?_) (fun h13_5 => ?_)
    · refine wl_dec_t (r_neqBool ti4.und rfl rfl) rfl (by decide) ?_
      refine wl_val (r_move (v := .bool _) rfl) rfl ?_
      refine wl_not rfl ?_
      refine wl_not rfl ?_
      refine wl_not rfl ?_
      refine wl_not rfl ?_
      refine wl_not rfl ?_
      refine wl_not rfl ?_
      refine wl_not rfl ?_
      refine wl_val (r_pick_t rfl (v := .bool true) rfl) rfl ?_
      refine wl_val (r_assign (v := .bool _) rfl) rfl ?_
      refine wl_nil ?_
      refine c_then ?_
      refine c_true rfl ?_
      refine c_seq ?_
      refine c_region ?_
      refine wl_val (r_assign (v := .int .i64 17) rfl) rfl ?_
      refine wl_nil ?_
      refine c_then ?_
      refine wp_ret ?_
      refine c_inR ?_
      refine c_thenR ?_
      refine ret1 Try.results17 ?_
      first | exact ⟨congrArg (Value.int .i64) (rule_7 n1 n2 n3 n4 n5 n6 (.inl ⟨by omega, (by first | assumption | exact Decidable.of_not_not (by assumption))⟩)).symm, hS38.fin⟩ | exact ⟨congrArg (Value.int .i64) (rule_7 n1 n2 n3 n4 n5 n6 (.inr (.inl ⟨by omega, (by first | assumption | exact Decidable.of_not_not (by assumption))⟩))).symm, hS38.fin⟩ | exact ⟨congrArg (Value.int .i64) (rule_7 n1 n2 n3 n4 n5 n6 (.inr (.inr ⟨hdn, by omega⟩))).symm, hS38.fin⟩ | (exfalso; omega)
    refine wl_dec_f (r_neqBool ti4.und rfl rfl) rfl (by decide) ?_
    refine wl_val (r_move (v := .bool _) rfl) rfl ?_
    refine wl_val (r_field fa37_0 rfl) rfl ?_
    refine wl_val (r_loadB1 ti4.und rfl rfl (hS38.heap (.head _)) (by first | exact rule_dn_t hdn | exact rule_dn_f hdn)) rfl ?_
    refine wl_val (r_move (v := .bool _) rfl) rfl ?_
    refine wl_val (r_field fa37_6 rfl) rfl ?_
    refine wl_val (r_loadB1 ti3.und rfl rfl (hS38.heap (.head _)) rfl) rfl ?_
    refine wl_dec (r_gtr rfl rfl) rfl (fun h13_13 => ?_) (fun h13_13 => ?_)
    · refine wl_val (r_pick_t rfl (v := .bool _) rfl) rfl ?_
      refine wl_val (r_pick_f rfl (v := .bool _) rfl) rfl ?_
      refine wl_val (r_assign (v := .bool _) rfl) rfl ?_
      refine wl_nil ?_
      refine c_then ?_
      refine c_true rfl ?_
      refine c_seq ?_
      refine c_region ?_
      refine wl_val (r_assign (v := .int .i64 17) rfl) rfl ?_
      refine wl_nil ?_
      refine c_then ?_
      refine wp_ret ?_
      refine c_inR ?_
      refine c_thenR ?_
      refine ret1 Try.results17 ?_
      first | exact ⟨congrArg (Value.int .i64) (rule_7 n1 n2 n3 n4 n5 n6 (.inl ⟨by omega, (by first | assumption | exact Decidable.of_not_not (by assumption))⟩)).symm, hS38.fin⟩ | exact ⟨congrArg (Value.int .i64) (rule_7 n1 n2 n3 n4 n5 n6 (.inr (.inl ⟨by omega, (by first | assumption | exact Decidable.of_not_not (by assumption))⟩))).symm, hS38.fin⟩ | exact ⟨congrArg (Value.int .i64) (rule_7 n1 n2 n3 n4 n5 n6 (.inr (.inr ⟨hdn, by omega⟩))).symm, hS38.fin⟩ | (exfalso; omega)
    refine wl_val (r_pick_t rfl (v := .bool _) rfl) rfl ?_
    refine wl_val (r_pick_f rfl (v := .bool _) rfl) rfl ?_
    refine wl_val (r_assign (v := .bool _) rfl) rfl ?_
    refine wl_nil ?_
    refine c_then ?_
    refine c_false rfl ?_
    refine wp_skip ?_
    refine c_inN ?_
    refine c_then ?_
    refine c_seq ?_
    refine c_region ?_
    refine wl_val (r_assign (v := .int .i64 0) rfl) rfl ?_
    refine wl_nil ?_
    refine c_then ?_
    refine wp_ret ?_
    refine ret1 Try.results17 ?_
    first | exact ⟨congrArg (Value.int .i64) (rule_8 n1 n2 n3 n4 n5 n6 (.inl ⟨by omega, (by first | assumption | exact Decidable.of_not_not (by assumption))⟩)).symm, hS38.fin⟩ | exact ⟨congrArg (Value.int .i64) (rule_8 n1 n2 n3 n4 n5 n6 (.inr ⟨by omega, (by first | assumption | exact Decidable.of_not_not (by assumption)), hdn⟩)).symm, hS38.fin⟩ | (exfalso; omega)
  have n6 : ¬ (r.fr < 0 ∨ 24 < r.fr ∨ r.to < 0 ∨ 24 < r.to ∨ (r.fr = r.to ∧ ¬ r.fr = 0) ∨ r.nd < 0 ∨ 16 < r.nd) := by omega
  refine c_region ?_
  refine wl_val (r_field fa37_6 rfl) rfl ?_
  refine wl_val (r_loadB1 ti3.und rfl rfl (hS38.heap (.head _)) rfl) rfl ?_
  refine wl_dec (r_gtr rfl rfl) rfl (fun h13_2 => ?_) (fun h13_2 => ?_)
  · refine wl_val (r_field fa37_7 rfl) rfl ?_
    refine wl_val (r_loadB1 ti9.und rfl rfl (hS38.heap (.head _)) rfl) rfl ?_
    refine wl_dec (r_neqStrL rfl rfl) rfl (fun h13_5 => ?_) (fun h13_5 => ?_)
    · refine wl_dec_f (r_neqBool ti4.und rfl rfl) rfl (by decide) ?_
      refine wl_val (r_move (v := .bool _) rfl) rfl ?_
      refine wl_val (r_field fa37_0 rfl) rfl ?_
      refine wl_val (r_loadB1 ti4.und rfl rfl (hS38.heap (.head _)) (by first | exact rule_dn_t hdn | exact rule_dn_f hdn)) rfl ?_
      refine wl_val (r_move (v := .bool _) rfl) rfl ?_
      refine wl_not rfl ?_
      refine wl_not rfl ?_
      refine wl_not rfl ?_
      refine wl_val (r_pick_f rfl (v := .bool false) rfl) rfl ?_
      refine wl_val (r_pick_f rfl (v := .bool _) rfl) rfl ?_
      refine wl_val (r_assign (v := .bool _) rfl) rfl ?_
      refine wl_nil ?_
      refine c_then ?_
      refine c_false rfl ?_
      refine wp_skip ?_
      refine c_inN ?_
      refine c_then ?_
      refine c_seq ?_
      refine c_region ?_
      refine wl_val (r_assign (v := .int .i64 0) rfl) rfl ?_
      refine wl_nil ?_
      refine c_then ?_
      refine wp_ret ?_
      refine ret1 Try.results17 ?_
      first | exact ⟨congrArg (Value.int .i64) (rule_8 n1 n2 n3 n4 n5 n6 (.inl ⟨by omega, (by first | assumption | exact Decidable.of_not_not (by assumption))⟩)).symm, hS38.fin⟩ | exact ⟨congrArg (Value.int .i64) (rule_8 n1 n2 n3 n4 n5 n6 (.inr ⟨by omega, (by first | assumption | exact Decidable.of_not_not (by assumption)), hdn⟩)).symm, hS38.fin⟩ | (exfalso; omega)
    refine wl_dec_t (r_neqBool ti4.und rfl rfl) rfl (by decide) ?_
    refine wl_val (r_move (v := .bool _) rfl) rfl ?_
    refine wl_not rfl ?_
    refine wl_not rfl ?_
    refine wl_not rfl ?_
    refine wl_not rfl ?_
    refine wl_not rfl ?_
    refine wl_not rfl ?_
    refine wl_not rfl ?_
    refine wl_val (r_pick_t rfl (v := .bool true) rfl) rfl ?_
    refine wl_val (r_assign (v := .bool _) rfl) rfl ?_
    refine wl_nil ?_
    refine c_then ?_
    refine c_true rfl ?_
    refine c_seq ?_
    refine c_region ?_
    refine wl_val (r_assign (v := .int .i64 17) rfl) rfl ?_
    refine wl_nil ?_
    refine c_then ?_
    refine wp_ret ?_
    refine c_inR ?_
    refine c_thenR ?_
    refine ret1 Try.results17 ?_
    first | exact ⟨congrArg (Value.int .i64) (rule_7 n1 n2 n3 n4 n5 n6 (.inl ⟨by omega, (by first | assumption | exact Decidable.of_not_not (by assumption))⟩)).symm, hS38.fin⟩ | exact ⟨congrArg (Value.int .i64) (rule_7 n1 n2 n3 n4 n5 n6 (.inr (.inl ⟨by omega, (by first | assumption | exact Decidable.of_not_not (by assumption))⟩))).symm, hS38.fin⟩ | exact ⟨congrArg (Value.int .i64) (rule_7 n1 n2 n3 n4 n5 n6 (.inr (.inr ⟨hdn, by omega⟩))).symm, hS38.fin⟩ | (exfalso; omega)
  refine wl_val (r_field fa37_7 rfl) rfl ?_
  refine wl_val (r_loadB1 ti9.und rfl rfl (hS38.heap (.head _)) rfl) rfl ?_
  refine wl_dec (r_neqStrL rfl rfl) rfl (fun h13_5 => ?_) (fun h13_5 => ?_)
  · refine wl_dec_t (r_neqBool ti4.und rfl rfl) rfl (by decide) ?_
    refine wl_val (r_move (v := .bool _) rfl) rfl ?_
    refine wl_not rfl ?_
    refine wl_not rfl ?_
    refine wl_not rfl ?_
    refine wl_not rfl ?_
    refine wl_not rfl ?_
    refine wl_not rfl ?_
    refine wl_not rfl ?_
    refine wl_val (r_pick_t rfl (v := .bool true) rfl) rfl ?_
    refine wl_val (r_assign (v := .bool _) rfl) rfl ?_
    refine wl_nil ?_
    refine c_then ?_
    refine c_true rfl ?_
    refine c_seq ?_
    refine c_region ?_
    refine wl_val (r_assign (v := .int .i64 17) rfl) rfl ?_
    refine wl_nil ?_
    refine c_then ?_
    refine wp_ret ?_
    refine c_inR ?_
    refine c_thenR ?_
    refine ret1 Try.results17 ?_
    first | exact ⟨congrArg (Value.int .i64) (rule_7 n1 n2 n3 n4 n5 n6 (.inl ⟨by omega, (by first | assumption | exact Decidable.of_not_not (by assumption))⟩)).symm, hS38.fin⟩ | exact ⟨congrArg (Value.int .i64) (rule_7 n1 n2 n3 n4 n5 n6 (.inr (.inl ⟨by omega, (by first | assumption | exact Decidable.of_not_not (by assumption))⟩))).symm, hS38.fin⟩ | exact ⟨congrArg (Value.int .i64) (rule_7 n1 n2 n3 n4 n5 n6 (.inr (.inr ⟨hdn, by omega⟩))).symm, hS38.fin⟩ | (exfalso; omega)
  refine wl_dec_f (r_neqBool ti4.und rfl rfl) rfl (by decide) ?_
  refine wl_val (r_move (v := .bool _) rfl) rfl ?_
  refine wl_val (r_field fa37_0 rfl) rfl ?_
  refine wl_val (r_loadB1 ti4.und rfl rfl (hS38.heap (.head _)) (by first | exact rule_dn_t hdn | exact rule_dn_f hdn)) rfl ?_
  refine wl_val (r_move (v := .bool _) rfl) rfl ?_
  refine wl_not rfl ?_
  refine wl_not rfl ?_
  refine wl_not rfl ?_
  refine wl_val (r_pick_f rfl (v := .bool false) rfl) rfl ?_
  refine wl_val (r_pick_f rfl (v := .bool _) rfl) rfl ?_
  refine wl_val (r_assign (v := .bool _) rfl) rfl ?_
  refine wl_nil ?_
  refine c_then ?_
  refine c_false rfl ?_
  refine wp_skip ?_
  refine c_inN ?_
  refine c_then ?_
  refine c_seq ?_
  refine c_region ?_
  refine wl_val (r_assign (v := .int .i64 0) rfl) rfl ?_
  refine wl_nil ?_
  refine c_then ?_
  refine wp_ret ?_
  refine ret1 Try.results17 ?_
  first | exact ⟨congrArg (Value.int .i64) (rule_8 n1 n2 n3 n4 n5 n6 (.inl ⟨by omega, (by first | assumption | exact Decidable.of_not_not (by assumption))⟩)).symm, hS38.fin⟩ | exact ⟨congrArg (Value.int .i64) (rule_8 n1 n2 n3 n4 n5 n6 (.inr ⟨by omega, (by first | assumption | exact Decidable.of_not_not (by assumption)), hdn⟩)).symm, hS38.fin⟩ | (exfalso; omega)

end Go.Proofs.Ytafdmlpfgpaicaa
