/- Rules that meet asks. No condition. -/
import Derived.Test.YtafdmlpfgpaicaaFacts
import Derived.Test.YtafdmlpfgpaicaaRuleA
namespace Go.Proofs.Ytafdmlpfgpaicaa
open Go.Kw
set_option linter.unusedVariables false
set_option linter.unusedSimpArgs false
set_option maxRecDepth 100000
theorem meets1_ok (x : List UInt8) (q : AskD) (b : Nat) (w : World) (hb : At w b 0 q.v) (hac : q.ac.length = 16) (hr : Row w q.ra (q.ro.map sv)) (hn : q.ro.length ≤ 140737488351232) :
    Ret Try.prog 81 [.string ⟨(x).toArray⟩, pt b 0] w (fun v w' => v = .bool (decide (x ∈ q.ro)) ∧ St w [] w' []) := by
  refine enter Try.func81 rfl Try.ntmps81 rfl ?_
  have hS := St.refl w []
  refine c_seq ?_
  refine c_region ?_
  refine wl_val (r_assign (v := .bool false) rfl) rfl ?_
  refine wl_nil ?_
  refine c_then ?_
  refine c_seq ?_
  refine c_region ?_
  refine wl_val (r_field fa34_1 rfl) rfl ?_
  refine wl_val (r_loadAt1 (j := 16) ti30.und rfl rfl (hb.st hS) (ask_ro hac) rfl) rfl ?_
  refine wl_val (r_move (v := .string _) rfl) rfl ?_
  refine wl_call (r_call fn56 rfl rfl) rfl (containsS_ok q.ro q.ra q.ro.length q.rc x _ (hr.st hS) rfl hn) ?_
  rintro _ w1 (⟨hin, rfl, hx2⟩ | ⟨hin, rfl, hx2⟩)
  · have hS3 := hS.ext hx2
    refine wl_val (r_assign (v := .bool _) rfl) rfl ?_
    refine wl_nil ?_
    refine c_then ?_
    refine wp_ret ?_
    refine ret1 Try.results81 ?_
    first | exact ⟨congrArg Value.bool (decide_eq_true hin).symm, hS3.fin⟩ | exact ⟨congrArg Value.bool (decide_eq_false hin).symm, hS3.fin⟩
  have hS3 := hS.ext hx2
  refine wl_val (r_assign (v := .bool _) rfl) rfl ?_
  refine wl_nil ?_
  refine c_then ?_
  refine wp_ret ?_
  refine ret1 Try.results81 ?_
  first | exact ⟨congrArg Value.bool (decide_eq_true hin).symm, hS3.fin⟩ | exact ⟨congrArg Value.bool (decide_eq_false hin).symm, hS3.fin⟩

theorem rmeets1_ok (x : List UInt8) (q : AskD) (b : Nat) (w : World) (hb : At w b 0 q.v) (hac : q.ac.length = 16) (hr : Row w q.ra (q.ro.map sv)) (hn : q.ro.length ≤ 140737488351232) :
    Ret Try.prog 55 [.string ⟨(x).toArray⟩, pt b 0] w (fun v w' => v = .bool (decide (x ∈ q.ro)) ∧ St w [] w' []) := by
  refine enter Try.func55 rfl Try.ntmps55 rfl ?_
  have hS := St.refl w []
  refine c_seq ?_
  refine c_region ?_
  refine wl_val (r_assign (v := .bool false) rfl) rfl ?_
  refine wl_nil ?_
  refine c_then ?_
  refine c_seq ?_
  refine c_region ?_
  refine wl_val (r_field fa34_1 rfl) rfl ?_
  refine wl_val (r_loadAt1 (j := 16) ti30.und rfl rfl (hb.st hS) (ask_ro hac) rfl) rfl ?_
  refine wl_val (r_move (v := .string _) rfl) rfl ?_
  refine wl_call (r_call fn56 rfl rfl) rfl (containsS_ok q.ro q.ra q.ro.length q.rc x _ (hr.st hS) rfl hn) ?_
  rintro _ w1 (⟨hin, rfl, hx2⟩ | ⟨hin, rfl, hx2⟩)
  · have hS3 := hS.ext hx2
    refine wl_val (r_assign (v := .bool _) rfl) rfl ?_
    refine wl_nil ?_
    refine c_then ?_
    refine wp_ret ?_
    refine ret1 Try.results55 ?_
    first | exact ⟨congrArg Value.bool (decide_eq_true hin).symm, hS3.fin⟩ | exact ⟨congrArg Value.bool (decide_eq_false hin).symm, hS3.fin⟩
  have hS3 := hS.ext hx2
  refine wl_val (r_assign (v := .bool _) rfl) rfl ?_
  refine wl_nil ?_
  refine c_then ?_
  refine wp_ret ?_
  refine ret1 Try.results55 ?_
  first | exact ⟨congrArg Value.bool (decide_eq_true hin).symm, hS3.fin⟩ | exact ⟨congrArg Value.bool (decide_eq_false hin).symm, hS3.fin⟩

theorem meets2_ok (x : List UInt8) (q : AskD) (b : Nat) (w : World) (hb : At w b 0 q.v) (hac : q.ac.length = 16) (hx : x.length ≤ 9223372036854775807) (hl : q.lab.length ≤ 9223372036854775807) :
    Ret Try.prog 82 [.string ⟨(x).toArray⟩, pt b 0] w (fun v w' => v = .bool (fitsE x q.lab) ∧ St w [] w' []) := by
  refine enter Try.func82 rfl Try.ntmps82 rfl ?_
  have hS := St.refl w []
  refine c_seq ?_
  refine c_region ?_
  refine wl_val (r_assign (v := .bool false) rfl) rfl ?_
  refine wl_nil ?_
  refine c_then ?_
  refine c_seq ?_
  refine c_region ?_
  refine wl_val (r_move (v := .string _) rfl) rfl ?_
  refine wl_val (r_field fa34_3 rfl) rfl ?_
  refine wl_val (r_loadAt1 (j := 18) ti9.und rfl rfl (hb.st hS) (ask_lab hac) rfl) rfl ?_
  refine wl_call (r_call fn29 rfl rfl) rfl (fits_ok x q.lab _ hx hl) ?_
  rintro _ w1 ⟨rfl, hx2⟩
  have hS3 := hS.ext hx2
  refine wl_val (r_assign (v := .bool _) rfl) rfl ?_
  refine wl_nil ?_
  refine c_then ?_
  refine wp_ret ?_
  refine ret1 Try.results82 ?_
  exact ⟨rfl, hS3.fin⟩

theorem rmeets2_ok (x : List UInt8) (q : AskD) (b : Nat) (w : World) (hb : At w b 0 q.v) (hac : q.ac.length = 16) (hx : x.length ≤ 9223372036854775807) (hl : q.lab.length ≤ 9223372036854775807) :
    Ret Try.prog 58 [.string ⟨(x).toArray⟩, pt b 0] w (fun v w' => v = .bool ((decide (¬ q.lab = []) || decide (x = [42])) && fitsE x q.lab) ∧ St w [] w' []) := by
  refine enter Try.func58 rfl Try.ntmps58 rfl ?_
  have hS := St.refl w []
  refine c_seq ?_
  refine c_region ?_
  refine wl_val (r_assign (v := .bool false) rfl) rfl ?_
  refine wl_nil ?_
  refine c_then ?_
  refine c_seq ?_
  refine c_region ?_
  refine wl_val (r_field fa34_3 rfl) rfl ?_
  refine wl_val (r_loadAt1 (j := 18) ti9.und rfl rfl (hb.st hS) (ask_lab hac) rfl) rfl ?_
  refine wl_dec (r_neqStrL rfl rfl) rfl (fun h1_2 => ?_) (fun h1_2 => ?_)
  · refine wl_val (r_move (v := .bool _) rfl) rfl ?_
    refine wl_not rfl ?_
    refine wl_not rfl ?_
    refine wl_val (r_pick_t rfl (v := .bool true) rfl) rfl ?_
    refine wl_val (r_move (v := .bool _) rfl) rfl ?_
    refine wl_val (r_move (v := .string _) rfl) rfl ?_
    refine wl_val (r_field fa34_3 rfl) rfl ?_
    refine wl_val (r_loadAt1 (j := 18) ti9.und rfl rfl (hb.st hS) (ask_lab hac) rfl) rfl ?_
    refine wl_call (r_call fn11 rfl rfl) rfl (rfits_ok x q.lab _ hx hl) ?_
    rintro _ w1 ⟨rfl, hx2⟩
    have hS3 := hS.ext hx2
    refine wl_val (r_pick_t rfl (v := .bool _) rfl) rfl ?_
    refine wl_val (r_assign (v := .bool _) rfl) rfl ?_
    refine wl_nil ?_
    refine c_then ?_
    refine wp_ret ?_
    refine ret1 Try.results58 ?_
    first | exact ⟨congrArg Value.bool (by rw [decide_eq_true h1_2, Bool.true_or, Bool.true_and]), hS3.fin⟩ | exact ⟨congrArg Value.bool (by rw [decide_eq_true h1_5, Bool.or_true, Bool.true_and]), hS3.fin⟩ | exact ⟨congrArg Value.bool (by rw [decide_eq_false h1_2, decide_eq_false h1_5]; rfl), hS3.fin⟩
  refine wl_val (r_move (v := .bool _) rfl) rfl ?_
  refine wl_val (r_move (v := .string _) rfl) rfl ?_
  refine wl_dec (r_eqlStrL rfl rfl) rfl (fun h1_5 => ?_) (fun h1_5 => ?_)
  · refine wl_val (r_pick_f rfl (v := .bool _) rfl) rfl ?_
    refine wl_val (r_move (v := .bool _) rfl) rfl ?_
    refine wl_val (r_move (v := .string _) rfl) rfl ?_
    refine wl_val (r_field fa34_3 rfl) rfl ?_
    refine wl_val (r_loadAt1 (j := 18) ti9.und rfl rfl (hb.st hS) (ask_lab hac) rfl) rfl ?_
    refine wl_call (r_call fn11 rfl rfl) rfl (rfits_ok x q.lab _ hx hl) ?_
    rintro _ w4 ⟨rfl, hx5⟩
    have hS6 := hS.ext hx5
    refine wl_val (r_pick_t rfl (v := .bool _) rfl) rfl ?_
    refine wl_val (r_assign (v := .bool _) rfl) rfl ?_
    refine wl_nil ?_
    refine c_then ?_
    refine wp_ret ?_
    refine ret1 Try.results58 ?_
    first | exact ⟨congrArg Value.bool (by rw [decide_eq_true h1_2, Bool.true_or, Bool.true_and]), hS6.fin⟩ | exact ⟨congrArg Value.bool (by rw [decide_eq_true h1_5, Bool.or_true, Bool.true_and]), hS6.fin⟩ | exact ⟨congrArg Value.bool (by rw [decide_eq_false h1_2, decide_eq_false h1_5]; rfl), hS6.fin⟩
  refine wl_val (r_pick_f rfl (v := .bool _) rfl) rfl ?_
  refine wl_val (r_move (v := .bool _) rfl) rfl ?_
  refine wl_not rfl ?_
  refine wl_not rfl ?_
  refine wl_not rfl ?_
  refine wl_not rfl ?_
  refine wl_val (r_pick_f rfl (v := .bool false) rfl) rfl ?_
  refine wl_val (r_assign (v := .bool _) rfl) rfl ?_
  refine wl_nil ?_
  refine c_then ?_
  refine wp_ret ?_
  refine ret1 Try.results58 ?_
  first | exact ⟨congrArg Value.bool (by rw [decide_eq_true h1_2, Bool.true_or, Bool.true_and]), hS.fin⟩ | exact ⟨congrArg Value.bool (by rw [decide_eq_true h1_5, Bool.or_true, Bool.true_and]), hS.fin⟩ | exact ⟨congrArg Value.bool (by rw [decide_eq_false h1_2, decide_eq_false h1_5]; rfl), hS.fin⟩

theorem inHours_ok (r : RuleD) (h : Int) (w : World) :
    Ret Try.prog 83 [.agg r.v.toArray, .int .i64 h] w (fun v w' => v = .bool (hourE r h) ∧ St w [] w' []) := by
  refine enter Try.func83 rfl Try.ntmps83 rfl ?_
  have hS := St.refl w []
  refine c_seq ?_
  refine c_region ?_
  refine wl_exv (x_box hS (v := .agg _) rfl rfl) rfl ?_
  rintro _ w1 ⟨b2, rfl, hS2⟩
  refine wl_val (r_assign (v := .bool false) rfl) rfl ?_
  refine wl_nil ?_
  refine c_then ?_
  refine c_seq ?_
  refine c_block ?_
  refine c_seq ?_
  refine c_region ?_
  refine wl_val (r_field fa37_4 rfl) rfl ?_
  refine wl_val (r_loadB1 ti3.und rfl rfl (hS2.heap (.head _)) rfl) rfl ?_
  refine wl_val (r_field fa37_5 rfl) rfl ?_
  refine wl_val (r_loadB1 ti3.und rfl rfl (hS2.heap (.head _)) rfl) rfl ?_
  refine wl_dec (r_eql rfl rfl) rfl (fun h1_4 => ?_) (fun h1_4 => ?_)
  · refine wl_val (r_assign (v := .bool _) rfl) rfl ?_
    refine wl_nil ?_
    refine c_then ?_
    refine c_true rfl ?_
    refine c_seq ?_
    refine c_region ?_
    refine wl_val (r_assign (v := .bool true) rfl) rfl ?_
    refine wl_nil ?_
    refine c_then ?_
    refine wp_ret ?_
    refine c_inR ?_
    refine c_thenR ?_
    refine ret1 Try.results83 ?_
    refine ⟨congrArg Value.bool ?_, hS2.fin⟩
    unfold hourE
    first | (rw [if_pos h1_4]; done) | (rw [if_neg h1_4, if_pos h3_4]; (first | exact (decide_eq_true (by omega)).symm | exact (decide_eq_false (by omega)).symm)) | (rw [if_neg h1_4, if_neg h3_4]; (first | exact (decide_eq_true (by omega)).symm | exact (decide_eq_false (by omega)).symm))
  refine wl_val (r_assign (v := .bool _) rfl) rfl ?_
  refine wl_nil ?_
  refine c_then ?_
  refine c_false rfl ?_
  refine c_seq ?_
  refine c_region ?_
  refine wl_val (r_field fa37_4 rfl) rfl ?_
  refine wl_val (r_loadB1 ti3.und rfl rfl (hS2.heap (.head _)) rfl) rfl ?_
  refine wl_val (r_field fa37_5 rfl) rfl ?_
  refine wl_val (r_loadB1 ti3.und rfl rfl (hS2.heap (.head _)) rfl) rfl ?_
  refine wl_dec (r_lss rfl rfl) rfl (fun h3_4 => ?_) (fun h3_4 => ?_)
  · refine wl_val (r_assign (v := .bool _) rfl) rfl ?_
    refine wl_nil ?_
    refine c_then ?_
    refine c_true rfl ?_
    refine c_seq ?_
    refine c_region ?_
    refine wl_val (r_field fa37_4 rfl) rfl ?_
    refine wl_val (r_loadB1 ti3.und rfl rfl (hS2.heap (.head _)) rfl) rfl ?_
    refine wl_val (r_move (v := .int .i64 _) rfl) rfl ?_
    refine wl_dec (r_leq rfl rfl) rfl (fun h4_3 => ?_) (fun h4_3 => ?_)
    · refine wl_val (r_move (v := .bool _) rfl) rfl ?_
      refine wl_val (r_move (v := .int .i64 _) rfl) rfl ?_
      refine wl_val (r_field fa37_5 rfl) rfl ?_
      refine wl_val (r_loadB1 ti3.und rfl rfl (hS2.heap (.head _)) rfl) rfl ?_
      refine wl_dec (r_lss rfl rfl) rfl (fun h4_8 => ?_) (fun h4_8 => ?_)
      · refine wl_val (r_pick_t rfl (v := .bool _) rfl) rfl ?_
        refine wl_val (r_assign (v := .bool _) rfl) rfl ?_
        refine wl_nil ?_
        refine c_then ?_
        refine wp_ret ?_
        refine c_inR ?_
        refine c_thenR ?_
        refine ret1 Try.results83 ?_
        refine ⟨congrArg Value.bool ?_, hS2.fin⟩
        unfold hourE
        first | (rw [if_pos h1_4]; done) | (rw [if_neg h1_4, if_pos h3_4]; (first | exact (decide_eq_true (by omega)).symm | exact (decide_eq_false (by omega)).symm)) | (rw [if_neg h1_4, if_neg h3_4]; (first | exact (decide_eq_true (by omega)).symm | exact (decide_eq_false (by omega)).symm))
      refine wl_val (r_pick_t rfl (v := .bool _) rfl) rfl ?_
      refine wl_val (r_assign (v := .bool _) rfl) rfl ?_
      refine wl_nil ?_
      refine c_then ?_
      refine wp_ret ?_
      refine c_inR ?_
      refine c_thenR ?_
      refine ret1 Try.results83 ?_
      refine ⟨congrArg Value.bool ?_, hS2.fin⟩
      unfold hourE
      first | (rw [if_pos h1_4]; done) | (rw [if_neg h1_4, if_pos h3_4]; (first | exact (decide_eq_true (by omega)).symm | exact (decide_eq_false (by omega)).symm)) | (rw [if_neg h1_4, if_neg h3_4]; (first | exact (decide_eq_true (by omega)).symm | exact (decide_eq_false (by omega)).symm))
    refine wl_val (r_move (v := .bool _) rfl) rfl ?_
    refine wl_not rfl ?_
    refine wl_not rfl ?_
    refine wl_not rfl ?_
    refine wl_not rfl ?_
    refine wl_val (r_pick_f rfl (v := .bool false) rfl) rfl ?_
    refine wl_val (r_assign (v := .bool _) rfl) rfl ?_
    refine wl_nil ?_
    refine c_then ?_
    refine wp_ret ?_
    refine c_inR ?_
    refine c_thenR ?_
    refine ret1 Try.results83 ?_
    refine ⟨congrArg Value.bool ?_, hS2.fin⟩
    unfold hourE
    first | (rw [if_pos h1_4]; done) | (rw [if_neg h1_4, if_pos h3_4]; (first | exact (decide_eq_true (by omega)).symm | exact (decide_eq_false (by omega)).symm)) | (rw [if_neg h1_4, if_neg h3_4]; (first | exact (decide_eq_true (by omega)).symm | exact (decide_eq_false (by omega)).symm))
  refine wl_val (r_assign (v := .bool _) rfl) rfl ?_
  refine wl_nil ?_
  refine c_then ?_
  refine c_false rfl ?_
  refine wp_skip ?_
  refine c_inN ?_
  refine c_then ?_
  refine c_seq ?_
  refine c_region ?_
  refine wl_val (r_move (v := .int .i64 _) rfl) rfl ?_
  refine wl_val (r_field fa37_4 rfl) rfl ?_
  refine wl_val (r_loadB1 ti3.und rfl rfl (hS2.heap (.head _)) rfl) rfl ?_
  refine wl_dec (r_geq rfl rfl) rfl (fun h5_3 => ?_) (fun h5_3 => ?_)
  · refine wl_val (r_move (v := .bool _) rfl) rfl ?_
    refine wl_not rfl ?_
    refine wl_not rfl ?_
    refine wl_not rfl ?_
    refine wl_not rfl ?_
    refine wl_val (r_pick_t rfl (v := .bool true) rfl) rfl ?_
    refine wl_val (r_assign (v := .bool _) rfl) rfl ?_
    refine wl_nil ?_
    refine c_then ?_
    refine wp_ret ?_
    refine ret1 Try.results83 ?_
    refine ⟨congrArg Value.bool ?_, hS2.fin⟩
    unfold hourE
    first | (rw [if_pos h1_4]; done) | (rw [if_neg h1_4, if_pos h3_4]; (first | exact (decide_eq_true (by omega)).symm | exact (decide_eq_false (by omega)).symm)) | (rw [if_neg h1_4, if_neg h3_4]; (first | exact (decide_eq_true (by omega)).symm | exact (decide_eq_false (by omega)).symm))
  refine wl_val (r_move (v := .bool _) rfl) rfl ?_
  refine wl_val (r_move (v := .int .i64 _) rfl) rfl ?_
  refine wl_val (r_field fa37_5 rfl) rfl ?_
  refine wl_val (r_loadB1 ti3.und rfl rfl (hS2.heap (.head _)) rfl) rfl ?_
  refine wl_dec (r_lss rfl rfl) rfl (fun h5_8 => ?_) (fun h5_8 => ?_)
  · refine wl_val (r_pick_f rfl (v := .bool _) rfl) rfl ?_
    refine wl_val (r_assign (v := .bool _) rfl) rfl ?_
    refine wl_nil ?_
    refine c_then ?_
    refine wp_ret ?_
    refine ret1 Try.results83 ?_
    refine ⟨congrArg Value.bool ?_, hS2.fin⟩
    unfold hourE
    first | (rw [if_pos h1_4]; done) | (rw [if_neg h1_4, if_pos h3_4]; (first | exact (decide_eq_true (by omega)).symm | exact (decide_eq_false (by omega)).symm)) | (rw [if_neg h1_4, if_neg h3_4]; (first | exact (decide_eq_true (by omega)).symm | exact (decide_eq_false (by omega)).symm))
  refine wl_val (r_pick_f rfl (v := .bool _) rfl) rfl ?_
  refine wl_val (r_assign (v := .bool _) rfl) rfl ?_
  refine wl_nil ?_
  refine c_then ?_
  refine wp_ret ?_
  refine ret1 Try.results83 ?_
  refine ⟨congrArg Value.bool ?_, hS2.fin⟩
  unfold hourE
  first | (rw [if_pos h1_4]; done) | (rw [if_neg h1_4, if_pos h3_4]; (first | exact (decide_eq_true (by omega)).symm | exact (decide_eq_false (by omega)).symm)) | (rw [if_neg h1_4, if_neg h3_4]; (first | exact (decide_eq_true (by omega)).symm | exact (decide_eq_false (by omega)).symm))

set_option maxHeartbeats 4000000 in
theorem meets_ok (r : RuleD) (q : AskD) (w : World) (hk : RuleOk r) (h1 : Row w r.ra (r.ro.map sv)) (h2 : Row w r.aa (r.acs.map iv)) (h3 : Row w r.la (r.las.map sv)) (hq : AskOk q) (hr : Row w q.ra (q.ro.map sv)) (ht0 : 0 ≤ q.tm) (ht1 : q.tm ≤ 1099511627776) :
    Ret Try.prog 47 [.agg r.v.toArray, .agg q.v.toArray] w (fun v w' => v = .bool (meetE r q) ∧ St w [] w' []) := by
  have hac := hq.ac
  have hkey := hq.key
  have hdet := hq.det
  refine enter Try.func47 rfl Try.ntmps47 rfl ?_
  have hS := St.refl w []
  refine c_seq ?_
  refine c_region ?_
  refine wl_exv (x_box hS (v := .agg _) rfl rfl) rfl ?_
  rintro _ w1 ⟨b2, rfl, hS2⟩
  refine wl_exv (x_box hS2 (v := .agg _) rfl rfl) rfl ?_
  rintro _ w3 ⟨b3, rfl, hS4⟩
  refine wl_val (r_assign (v := .bool false) rfl) rfl ?_
  refine wl_nil ?_
  refine c_then ?_
  refine c_seq ?_
  refine c_region ?_
  refine wl_val (r_field fa37_1 rfl) rfl ?_
  refine wl_val (r_loadB1 ti30.und rfl rfl (hS4.heap (.tail _ (.head _))) rfl) rfl ?_
  refine wl_val (r_len (T := 30) rfl ti30.und rfl _ rfl) rfl ?_
  refine wl_dec (r_eql rfl rfl) rfl (fun h1_3 => ?_) (fun h1_3 => ?_)
  · refine wl_val (r_move (v := .bool _) rfl) rfl ?_
    refine wl_not rfl ?_
    refine wl_not rfl ?_
    refine wl_not rfl ?_
    refine wl_not rfl ?_
    refine wl_val (r_pick_t rfl (v := .bool true) rfl) rfl ?_
    refine wl_val (r_assign (v := .bool _) rfl) rfl ?_
    refine wl_nil ?_
    refine c_then ?_
    refine c_seq ?_
    refine c_region ?_
    refine wl_val (r_field fa37_2 rfl) rfl ?_
    refine wl_val (r_loadB1 ti35.und rfl rfl (hS4.heap (.tail _ (.head _))) rfl) rfl ?_
    refine wl_val (r_len (T := 35) rfl ti35.und rfl _ rfl) rfl ?_
    refine wl_dec (r_eql rfl rfl) rfl (fun h2_3 => ?_) (fun h2_3 => ?_)
    · refine wl_val (r_move (v := .bool _) rfl) rfl ?_
      refine wl_not rfl ?_
      refine wl_not rfl ?_
      refine wl_not rfl ?_
      refine wl_not rfl ?_
      refine wl_not rfl ?_
      refine wl_val (r_pick_t rfl (v := .bool true) rfl) rfl ?_
      refine wl_val (r_assign (v := .bool _) rfl) rfl ?_
      refine wl_nil ?_
      refine c_then ?_
      refine c_seq ?_
      refine c_region ?_
      refine wl_val (r_field fa37_3 rfl) rfl ?_
      refine wl_val (r_loadB1 ti30.und rfl rfl (hS4.heap (.tail _ (.head _))) rfl) rfl ?_
      refine wl_val (r_len (T := 30) rfl ti30.und rfl _ rfl) rfl ?_
      refine wl_dec (r_eql rfl rfl) rfl (fun h3_3 => ?_) (fun h3_3 => ?_)
      · refine wl_val (r_move (v := .bool _) rfl) rfl ?_
        refine wl_not rfl ?_
        refine wl_not rfl ?_
        refine wl_not rfl ?_
        refine wl_not rfl ?_
        refine wl_val (r_pick_t rfl (v := .bool true) rfl) rfl ?_
        refine wl_val (r_assign (v := .bool _) rfl) rfl ?_
        refine wl_nil ?_
        refine c_then ?_
        refine c_seq ?_
        refine c_region ?_
        refine wl_val (r_move (v := .bool _) rfl) rfl ?_
        refine wl_val (r_move (v := .bool _) rfl) rfl ?_
        refine wl_val (r_move (v := .bool _) rfl) rfl ?_
        refine wl_val (r_pick_t rfl (v := .bool _) rfl) rfl ?_
        refine wl_val (r_move (v := .bool _) rfl) rfl ?_
        refine wl_val (r_move (v := .bool _) rfl) rfl ?_
        refine wl_val (r_pick_t rfl (v := .bool _) rfl) rfl ?_
        refine wl_val (r_move (v := .bool _) rfl) rfl ?_
        refine wl_val (r_loadB ti37 ag37 rfl (hS4.heap (.tail _ (.head _))) (by first | (simp [*]; done) | (simp [*] <;> omega) | omega)) rfl ?_
        refine wl_val (r_field fa34_5 rfl) rfl ?_
        refine wl_val (r_loadB1 ti3.und rfl rfl (hS4.heap (.head _)) (ask_tmN hac hkey ht0)) rfl ?_
        refine wl_val (r_remn (b := 86400) rfl rfl (by omega)) rfl ?_
        refine wl_val (r_quon (b := 3600) rfl rfl (by omega) (by omega)) rfl ?_
        refine wl_call (r_call fn83 rfl rfl) rfl (inHours_ok r _ _) ?_
        rintro _ w5 ⟨rfl, hx6⟩
        have hS7 := hS4.ext hx6
        refine wl_val (r_pick_t rfl (v := .bool _) rfl) rfl ?_
        refine wl_val (r_assign (v := .bool _) rfl) rfl ?_
        refine wl_nil ?_
        refine c_then ?_
        refine wp_ret ?_
        refine ret1 Try.results47 ?_
        first | exact ⟨congrArg Value.bool (meet_y (by first | exact .inl (by omega) | exact .inr hc1) (by first | exact .inl (by omega) | exact .inr hc2) (by first | exact .inl (by omega) | exact .inr hc3) (h := ((q.tm.toNat % 86400 / 3600 : Nat) : Int)) (by omega)).symm, hS7.fin⟩ | exact ⟨congrArg Value.bool (meet_n1 (by omega) hc1).symm, hS7.fin⟩ | exact ⟨congrArg Value.bool (meet_n2 (by omega) hc2).symm, hS7.fin⟩ | exact ⟨congrArg Value.bool (meet_n3 (by omega) hc3).symm, hS7.fin⟩
      refine wl_val (r_move (v := .bool _) rfl) rfl ?_
      refine wl_val (r_field fa37_3 rfl) rfl ?_
      refine wl_val (r_loadB1 ti30.und rfl rfl (hS4.heap (.tail _ (.head _))) rfl) rfl ?_
      refine wl_val (r_makeFunc rfl) rfl ?_
      refine wl_call (r_call fn37 rfl rfl) rfl (containsFuncS_ok r.las r.la r.las.length r.lc 82 [pt b3 0] (fun s => fitsE s q.lab) _ (h3.st hS4) rfl hk.ln fn82 (fun x w' hx h => meets2_ok x q b3 w' ((at_all (hS4.heap (.head _))).st h) hac (hk.ll x hx) hq.ll)) ?_
      rintro _ w8 (⟨hc3, rfl, hx9⟩ | ⟨hc3, rfl, hx9⟩)
      · have hS10 := hS4.ext hx9
        refine wl_val (r_pick_f rfl (v := .bool _) rfl) rfl ?_
        refine wl_val (r_assign (v := .bool _) rfl) rfl ?_
        refine wl_nil ?_
        refine c_then ?_
        refine c_seq ?_
        refine c_region ?_
        refine wl_val (r_move (v := .bool _) rfl) rfl ?_
        refine wl_val (r_move (v := .bool _) rfl) rfl ?_
        refine wl_val (r_move (v := .bool _) rfl) rfl ?_
        refine wl_val (r_pick_t rfl (v := .bool _) rfl) rfl ?_
        refine wl_val (r_move (v := .bool _) rfl) rfl ?_
        refine wl_val (r_move (v := .bool _) rfl) rfl ?_
        refine wl_val (r_pick_t rfl (v := .bool _) rfl) rfl ?_
        refine wl_val (r_move (v := .bool _) rfl) rfl ?_
        refine wl_val (r_loadB ti37 ag37 rfl (hS10.heap (.tail _ (.head _))) (by first | (simp [*]; done) | (simp [*] <;> omega) | omega)) rfl ?_
        refine wl_val (r_field fa34_5 rfl) rfl ?_
        refine wl_val (r_loadB1 ti3.und rfl rfl (hS10.heap (.head _)) (ask_tmN hac hkey ht0)) rfl ?_
        refine wl_val (r_remn (b := 86400) rfl rfl (by omega)) rfl ?_
        refine wl_val (r_quon (b := 3600) rfl rfl (by omega) (by omega)) rfl ?_
        refine wl_call (r_call fn83 rfl rfl) rfl (inHours_ok r _ _) ?_
        rintro _ w11 ⟨rfl, hx12⟩
        have hS13 := hS10.ext hx12
        refine wl_val (r_pick_t rfl (v := .bool _) rfl) rfl ?_
        refine wl_val (r_assign (v := .bool _) rfl) rfl ?_
        refine wl_nil ?_
        refine c_then ?_
        refine wp_ret ?_
        refine ret1 Try.results47 ?_
        first | exact ⟨congrArg Value.bool (meet_y (by first | exact .inl (by omega) | exact .inr hc1) (by first | exact .inl (by omega) | exact .inr hc2) (by first | exact .inl (by omega) | exact .inr hc3) (h := ((q.tm.toNat % 86400 / 3600 : Nat) : Int)) (by omega)).symm, hS13.fin⟩ | exact ⟨congrArg Value.bool (meet_n1 (by omega) hc1).symm, hS13.fin⟩ | exact ⟨congrArg Value.bool (meet_n2 (by omega) hc2).symm, hS13.fin⟩ | exact ⟨congrArg Value.bool (meet_n3 (by omega) hc3).symm, hS13.fin⟩
      have hS10 := hS4.ext hx9
      refine wl_val (r_pick_f rfl (v := .bool _) rfl) rfl ?_
      refine wl_val (r_assign (v := .bool _) rfl) rfl ?_
      refine wl_nil ?_
      refine c_then ?_
      refine c_seq ?_
      refine c_region ?_
      refine wl_val (r_move (v := .bool _) rfl) rfl ?_
      refine wl_val (r_move (v := .bool _) rfl) rfl ?_
      refine wl_val (r_move (v := .bool _) rfl) rfl ?_
      refine wl_val (r_pick_t rfl (v := .bool _) rfl) rfl ?_
      refine wl_val (r_move (v := .bool _) rfl) rfl ?_
      refine wl_val (r_move (v := .bool _) rfl) rfl ?_
      refine wl_val (r_pick_t rfl (v := .bool _) rfl) rfl ?_
      refine wl_val (r_move (v := .bool _) rfl) rfl ?_
      refine wl_not rfl ?_
      refine wl_not rfl ?_
      refine wl_not rfl ?_
      refine wl_not rfl ?_
      refine wl_not rfl ?_
      refine wl_not rfl ?_
      refine wl_val (r_pick_f rfl (v := .bool false) rfl) rfl ?_
      refine wl_val (r_assign (v := .bool _) rfl) rfl ?_
      refine wl_nil ?_
      refine c_then ?_
      refine wp_ret ?_
      refine ret1 Try.results47 ?_
      first | exact ⟨congrArg Value.bool (meet_y (by first | exact .inl (by omega) | exact .inr hc1) (by first | exact .inl (by omega) | exact .inr hc2) (by first | exact .inl (by omega) | exact .inr hc3) (h := ((q.tm.toNat % 86400 / 3600 : Nat) : Int)) (by omega)).symm, hS10.fin⟩ | exact ⟨congrArg Value.bool (meet_n1 (by omega) hc1).symm, hS10.fin⟩ | exact ⟨congrArg Value.bool (meet_n2 (by omega) hc2).symm, hS10.fin⟩ | exact ⟨congrArg Value.bool (meet_n3 (by omega) hc3).symm, hS10.fin⟩
    refine wl_val (r_move (v := .bool _) rfl) rfl ?_
    refine wl_val (r_field fa37_2 rfl) rfl ?_
    refine wl_val (r_loadB1 ti35.und rfl rfl (hS4.heap (.tail _ (.head _))) rfl) rfl ?_
    refine wl_val (r_field fa34_2 rfl) rfl ?_
    refine wl_val (r_loadB1 ti3.und rfl rfl (hS4.heap (.head _)) (ask_act hac)) rfl ?_
    refine wl_call (r_call fn57 rfl rfl) rfl (containsI_ok r.acs r.aa r.acs.length r.ak q.act _ (h2.st hS4) rfl hk.an) ?_
    rintro _ w14 (⟨hc2, rfl, hx15⟩ | ⟨hc2, rfl, hx15⟩)
    · have hS16 := hS4.ext hx15
      refine wl_val (r_pick_f rfl (v := .bool _) rfl) rfl ?_
      refine wl_val (r_assign (v := .bool _) rfl) rfl ?_
      refine wl_nil ?_
      refine c_then ?_
      refine c_seq ?_
      refine c_region ?_
      refine wl_val (r_field fa37_3 rfl) rfl ?_
      refine wl_val (r_loadB1 ti30.und rfl rfl (hS16.heap (.tail _ (.head _))) rfl) rfl ?_
      refine wl_val (r_len (T := 30) rfl ti30.und rfl _ rfl) rfl ?_
      refine wl_dec (r_eql rfl rfl) rfl (fun h3_3 => ?_) (fun h3_3 => ?_)
      · refine wl_val (r_move (v := .bool _) rfl) rfl ?_
        refine wl_not rfl ?_
        refine wl_not rfl ?_
        refine wl_not rfl ?_
        refine wl_not rfl ?_
        refine wl_val (r_pick_t rfl (v := .bool true) rfl) rfl ?_
        refine wl_val (r_assign (v := .bool _) rfl) rfl ?_
        refine wl_nil ?_
        refine c_then ?_
        refine c_seq ?_
        refine c_region ?_
        refine wl_val (r_move (v := .bool _) rfl) rfl ?_
        refine wl_val (r_move (v := .bool _) rfl) rfl ?_
        refine wl_val (r_move (v := .bool _) rfl) rfl ?_
        refine wl_val (r_pick_t rfl (v := .bool _) rfl) rfl ?_
        refine wl_val (r_move (v := .bool _) rfl) rfl ?_
        refine wl_val (r_move (v := .bool _) rfl) rfl ?_
        refine wl_val (r_pick_t rfl (v := .bool _) rfl) rfl ?_
        refine wl_val (r_move (v := .bool _) rfl) rfl ?_
        refine wl_val (r_loadB ti37 ag37 rfl (hS16.heap (.tail _ (.head _))) (by first | (simp [*]; done) | (simp [*] <;> omega) | omega)) rfl ?_
        refine wl_val (r_field fa34_5 rfl) rfl ?_
        refine wl_val (r_loadB1 ti3.und rfl rfl (hS16.heap (.head _)) (ask_tmN hac hkey ht0)) rfl ?_
        refine wl_val (r_remn (b := 86400) rfl rfl (by omega)) rfl ?_
        refine wl_val (r_quon (b := 3600) rfl rfl (by omega) (by omega)) rfl ?_
        refine wl_call (r_call fn83 rfl rfl) rfl (inHours_ok r _ _) ?_
        rintro _ w17 ⟨rfl, hx18⟩
        have hS19 := hS16.ext hx18
        refine wl_val (r_pick_t rfl (v := .bool _) rfl) rfl ?_
        refine wl_val (r_assign (v := .bool _) rfl) rfl ?_
        refine wl_nil ?_
        refine c_then ?_
        refine wp_ret ?_
        refine ret1 Try.results47 ?_
        first | exact ⟨congrArg Value.bool (meet_y (by first | exact .inl (by omega) | exact .inr hc1) (by first | exact .inl (by omega) | exact .inr hc2) (by first | exact .inl (by omega) | exact .inr hc3) (h := ((q.tm.toNat % 86400 / 3600 : Nat) : Int)) (by omega)).symm, hS19.fin⟩ | exact ⟨congrArg Value.bool (meet_n1 (by omega) hc1).symm, hS19.fin⟩ | exact ⟨congrArg Value.bool (meet_n2 (by omega) hc2).symm, hS19.fin⟩ | exact ⟨congrArg Value.bool (meet_n3 (by omega) hc3).symm, hS19.fin⟩
      refine wl_val (r_move (v := .bool _) rfl) rfl ?_
      refine wl_val (r_field fa37_3 rfl) rfl ?_
      refine wl_val (r_loadB1 ti30.und rfl rfl (hS16.heap (.tail _ (.head _))) rfl) rfl ?_
      refine wl_val (r_makeFunc rfl) rfl ?_
      refine wl_call (r_call fn37 rfl rfl) rfl (containsFuncS_ok r.las r.la r.las.length r.lc 82 [pt b3 0] (fun s => fitsE s q.lab) _ (h3.st hS16) rfl hk.ln fn82 (fun x w' hx h => meets2_ok x q b3 w' ((at_all (hS16.heap (.head _))).st h) hac (hk.ll x hx) hq.ll)) ?_
      rintro _ w20 (⟨hc3, rfl, hx21⟩ | ⟨hc3, rfl, hx21⟩)
      · have hS22 := hS16.ext hx21
        refine wl_val (r_pick_f rfl (v := .bool _) rfl) rfl ?_
        refine wl_val (r_assign (v := .bool _) rfl) rfl ?_
        refine wl_nil ?_
        refine c_then ?_
        refine c_seq ?_
        refine c_region ?_
        refine wl_val (r_move (v := .bool _) rfl) rfl ?_
        refine wl_val (r_move (v := .bool _) rfl) rfl ?_
        refine wl_val (r_move (v := .bool _) rfl) rfl ?_
        refine wl_val (r_pick_t rfl (v := .bool _) rfl) rfl ?_
        refine wl_val (r_move (v := .bool _) rfl) rfl ?_
        refine wl_val (r_move (v := .bool _) rfl) rfl ?_
        refine wl_val (r_pick_t rfl (v := .bool _) rfl) rfl ?_
        refine wl_val (r_move (v := .bool _) rfl) rfl ?_
        refine wl_val (r_loadB ti37 ag37 rfl (hS22.heap (.tail _ (.head _))) (by first | (simp [*]; done) | (simp [*] <;> omega) | omega)) rfl ?_
        refine wl_val (r_field fa34_5 rfl) rfl ?_
        refine wl_val (r_loadB1 ti3.und rfl rfl (hS22.heap (.head _)) (ask_tmN hac hkey ht0)) rfl ?_
        refine wl_val (r_remn (b := 86400) rfl rfl (by omega)) rfl ?_
        refine wl_val (r_quon (b := 3600) rfl rfl (by omega) (by omega)) rfl ?_
        refine wl_call (r_call fn83 rfl rfl) rfl (inHours_ok r _ _) ?_
        rintro _ w23 ⟨rfl, hx24⟩
        have hS25 := hS22.ext hx24
        refine wl_val (r_pick_t rfl (v := .bool _) rfl) rfl ?_
        refine wl_val (r_assign (v := .bool _) rfl) rfl ?_
        refine wl_nil ?_
        refine c_then ?_
        refine wp_ret ?_
        refine ret1 Try.results47 ?_
        first | exact ⟨congrArg Value.bool (meet_y (by first | exact .inl (by omega) | exact .inr hc1) (by first | exact .inl (by omega) | exact .inr hc2) (by first | exact .inl (by omega) | exact .inr hc3) (h := ((q.tm.toNat % 86400 / 3600 : Nat) : Int)) (by omega)).symm, hS25.fin⟩ | exact ⟨congrArg Value.bool (meet_n1 (by omega) hc1).symm, hS25.fin⟩ | exact ⟨congrArg Value.bool (meet_n2 (by omega) hc2).symm, hS25.fin⟩ | exact ⟨congrArg Value.bool (meet_n3 (by omega) hc3).symm, hS25.fin⟩
      have hS22 := hS16.ext hx21
      refine wl_val (r_pick_f rfl (v := .bool _) rfl) rfl ?_
      refine wl_val (r_assign (v := .bool _) rfl) rfl ?_
      refine wl_nil ?_
      refine c_then ?_
      refine c_seq ?_
      refine c_region ?_
      refine wl_val (r_move (v := .bool _) rfl) rfl ?_
      refine wl_val (r_move (v := .bool _) rfl) rfl ?_
      refine wl_val (r_move (v := .bool _) rfl) rfl ?_
      refine wl_val (r_pick_t rfl (v := .bool _) rfl) rfl ?_
      refine wl_val (r_move (v := .bool _) rfl) rfl ?_
      refine wl_val (r_move (v := .bool _) rfl) rfl ?_
      refine wl_val (r_pick_t rfl (v := .bool _) rfl) rfl ?_
      refine wl_val (r_move (v := .bool _) rfl) rfl ?_
      refine wl_not rfl ?_
      refine wl_not rfl ?_
      refine wl_not rfl ?_
      refine wl_not rfl ?_
      refine wl_not rfl ?_
      refine wl_not rfl ?_
      refine wl_val (r_pick_f rfl (v := .bool false) rfl) rfl ?_
      refine wl_val (r_assign (v := .bool _) rfl) rfl ?_
      refine wl_nil ?_
      refine c_then ?_
      refine wp_ret ?_
      refine ret1 Try.results47 ?_
      first | exact ⟨congrArg Value.bool (meet_y (by first | exact .inl (by omega) | exact .inr hc1) (by first | exact .inl (by omega) | exact .inr hc2) (by first | exact .inl (by omega) | exact .inr hc3) (h := ((q.tm.toNat % 86400 / 3600 : Nat) : Int)) (by omega)).symm, hS22.fin⟩ | exact ⟨congrArg Value.bool (meet_n1 (by omega) hc1).symm, hS22.fin⟩ | exact ⟨congrArg Value.bool (meet_n2 (by omega) hc2).symm, hS22.fin⟩ | exact ⟨congrArg Value.bool (meet_n3 (by omega) hc3).symm, hS22.fin⟩
    have hS16 := hS4.ext hx15
    refine wl_val (r_pick_f rfl (v := .bool _) rfl) rfl ?_
    refine wl_val (r_assign (v := .bool _) rfl) rfl ?_
    refine wl_nil ?_
    refine c_then ?_
    refine c_seq ?_
    refine c_region ?_
    refine wl_val (r_field fa37_3 rfl) rfl ?_
    refine wl_val (r_loadB1 ti30.und rfl rfl (hS16.heap (.tail _ (.head _))) rfl) rfl ?_
    refine wl_val (r_len (T := 30) rfl ti30.und rfl _ rfl) rfl ?_
    refine wl_dec (r_eql rfl rfl) rfl (fun h3_3 => ?_) (fun h3_3 => ?_)
    · refine wl_val (r_move (v := .bool _) rfl) rfl ?_
      refine wl_not rfl ?_
      refine wl_not rfl ?_
      refine wl_not rfl ?_
      refine wl_not rfl ?_
      refine wl_val (r_pick_t rfl (v := .bool true) rfl) rfl ?_
      refine wl_val (r_assign (v := .bool _) rfl) rfl ?_
      refine wl_nil ?_
      refine c_then ?_
      refine c_seq ?_
      refine c_region ?_
      refine wl_val (r_move (v := .bool _) rfl) rfl ?_
      refine wl_val (r_move (v := .bool _) rfl) rfl ?_
      refine wl_val (r_move (v := .bool _) rfl) rfl ?_
      refine wl_val (r_pick_t rfl (v := .bool _) rfl) rfl ?_
      refine wl_val (r_move (v := .bool _) rfl) rfl ?_
      refine wl_not rfl ?_
      refine wl_val (r_pick_f rfl (v := .bool false) rfl) rfl ?_
      refine wl_val (r_move (v := .bool _) rfl) rfl ?_
      refine wl_not rfl ?_
      refine wl_not rfl ?_
      refine wl_not rfl ?_
      refine wl_not rfl ?_
      refine wl_not rfl ?_
      refine wl_not rfl ?_
      refine wl_val (r_pick_f rfl (v := .bool false) rfl) rfl ?_
      refine wl_val (r_assign (v := .bool _) rfl) rfl ?_
      refine wl_nil ?_
      refine c_then ?_
      refine wp_ret ?_
      refine ret1 Try.results47 ?_
      first | exact ⟨congrArg Value.bool (meet_y (by first | exact .inl (by omega) | exact .inr hc1) (by first | exact .inl (by omega) | exact .inr hc2) (by first | exact .inl (by omega) | exact .inr hc3) (h := ((q.tm.toNat % 86400 / 3600 : Nat) : Int)) (by omega)).symm, hS16.fin⟩ | exact ⟨congrArg Value.bool (meet_n1 (by omega) hc1).symm, hS16.fin⟩ | exact ⟨congrArg Value.bool (meet_n2 (by omega) hc2).symm, hS16.fin⟩ | exact ⟨congrArg Value.bool (meet_n3 (by omega) hc3).symm, hS16.fin⟩
    refine wl_val (r_move (v := .bool _) rfl) rfl ?_
    refine wl_val (r_field fa37_3 rfl) rfl ?_
    refine wl_val (r_loadB1 ti30.und rfl rfl (hS16.heap (.tail _ (.head _))) rfl) rfl ?_
    refine wl_val (r_makeFunc rfl) rfl ?_
    refine wl_call (r_call fn37 rfl rfl) rfl (containsFuncS_ok r.las r.la r.las.length r.lc 82 [pt b3 0] (fun s => fitsE s q.lab) _ (h3.st hS16) rfl hk.ln fn82 (fun x w' hx h => meets2_ok x q b3 w' ((at_all (hS16.heap (.head _))).st h) hac (hk.ll x hx) hq.ll)) ?_
    rintro _ w26 (⟨hc3, rfl, hx27⟩ | ⟨hc3, rfl, hx27⟩)
    · have hS28 := hS16.ext hx27
      refine wl_val (r_pick_f rfl (v := .bool _) rfl) rfl ?_
      refine wl_val (r_assign (v := .bool _) rfl) rfl ?_
      refine wl_nil ?_
      refine c_then ?_
      refine c_seq ?_
      refine c_region ?_
      refine wl_val (r_move (v := .bool _) rfl) rfl ?_
      refine wl_val (r_move (v := .bool _) rfl) rfl ?_
      refine wl_val (r_move (v := .bool _) rfl) rfl ?_
      refine wl_val (r_pick_t rfl (v := .bool _) rfl) rfl ?_
      refine wl_val (r_move (v := .bool _) rfl) rfl ?_
      refine wl_not rfl ?_
      refine wl_val (r_pick_f rfl (v := .bool false) rfl) rfl ?_
      refine wl_val (r_move (v := .bool _) rfl) rfl ?_
      refine wl_not rfl ?_
      refine wl_not rfl ?_
      refine wl_not rfl ?_
      refine wl_not rfl ?_
      refine wl_not rfl ?_
      refine wl_not rfl ?_
      refine wl_val (r_pick_f rfl (v := .bool false) rfl) rfl ?_
      refine wl_val (r_assign (v := .bool _) rfl) rfl ?_
      refine wl_nil ?_
      refine c_then ?_
      refine wp_ret ?_
      refine ret1 Try.results47 ?_
      first | exact ⟨congrArg Value.bool (meet_y (by first | exact .inl (by omega) | exact .inr hc1) (by first | exact .inl (by omega) | exact .inr hc2) (by first | exact .inl (by omega) | exact .inr hc3) (h := ((q.tm.toNat % 86400 / 3600 : Nat) : Int)) (by omega)).symm, hS28.fin⟩ | exact ⟨congrArg Value.bool (meet_n1 (by omega) hc1).symm, hS28.fin⟩ | exact ⟨congrArg Value.bool (meet_n2 (by omega) hc2).symm, hS28.fin⟩ | exact ⟨congrArg Value.bool (meet_n3 (by omega) hc3).symm, hS28.fin⟩
    have hS28 := hS16.ext hx27
    refine wl_val (r_pick_f rfl (v := .bool _) rfl) rfl ?_
    refine wl_val (r_assign (v := .bool _) rfl) rfl ?_
    refine wl_nil ?_
    refine c_then ?_
    refine c_seq ?_
    refine c_region ?_
    refine wl_val (r_move (v := .bool _) rfl) rfl ?_
    refine wl_val (r_move (v := .bool _) rfl) rfl ?_
    refine wl_val (r_move (v := .bool _) rfl) rfl ?_
    refine wl_val (r_pick_t rfl (v := .bool _) rfl) rfl ?_
    refine wl_val (r_move (v := .bool _) rfl) rfl ?_
    refine wl_not rfl ?_
    refine wl_val (r_pick_f rfl (v := .bool false) rfl) rfl ?_
    refine wl_val (r_move (v := .bool _) rfl) rfl ?_
    refine wl_not rfl ?_
    refine wl_not rfl ?_
    refine wl_not rfl ?_
    refine wl_not rfl ?_
    refine wl_not rfl ?_
    refine wl_not rfl ?_
    refine wl_val (r_pick_f rfl (v := .bool false) rfl) rfl ?_
    refine wl_val (r_assign (v := .bool _) rfl) rfl ?_
    refine wl_nil ?_
    refine c_then ?_
    refine wp_ret ?_
    refine ret1 Try.results47 ?_
    first | exact ⟨congrArg Value.bool (meet_y (by first | exact .inl (by omega) | exact .inr hc1) (by first | exact .inl (by omega) | exact .inr hc2) (by first | exact .inl (by omega) | exact .inr hc3) (h := ((q.tm.toNat % 86400 / 3600 : Nat) : Int)) (by omega)).symm, hS28.fin⟩ | exact ⟨congrArg Value.bool (meet_n1 (by omega) hc1).symm, hS28.fin⟩ | exact ⟨congrArg Value.bool (meet_n2 (by omega) hc2).symm, hS28.fin⟩ | exact ⟨congrArg Value.bool (meet_n3 (by omega) hc3).symm, hS28.fin⟩
  refine wl_val (r_move (v := .bool _) rfl) rfl ?_
  refine wl_val (r_field fa37_1 rfl) rfl ?_
  refine wl_val (r_loadB1 ti30.und rfl rfl (hS4.heap (.tail _ (.head _))) rfl) rfl ?_
  refine wl_val (r_makeFunc rfl) rfl ?_
  refine wl_call (r_call fn37 rfl rfl) rfl (containsFuncS_ok r.ro r.ra r.ro.length r.rc 81 [pt b3 0] (fun s => decide (s ∈ q.ro)) _ (h1.st hS4) rfl hk.rn fn81 (fun x w' hx h => meets1_ok x q b3 w' ((at_all (hS4.heap (.head _))).st h) hac ((hr.st hS4).st h) hq.rn)) ?_
  rintro _ w29 (⟨hc1, rfl, hx30⟩ | ⟨hc1, rfl, hx30⟩)
  · have hS31 := hS4.ext hx30
    refine wl_val (r_pick_f rfl (v := .bool _) rfl) rfl ?_
    refine wl_val (r_assign (v := .bool _) rfl) rfl ?_
    refine wl_nil ?_
    refine c_then ?_
    refine c_seq ?_
    refine c_region ?_
    refine wl_val (r_field fa37_2 rfl) rfl ?_
    refine wl_val (r_loadB1 ti35.und rfl rfl (hS31.heap (.tail _ (.head _))) rfl) rfl ?_
    refine wl_val (r_len (T := 35) rfl ti35.und rfl _ rfl) rfl ?_
    refine wl_dec (r_eql rfl rfl) rfl (fun h2_3 => ?_) (fun h2_3 => ?_)
    · refine wl_val (r_move (v := .bool _) rfl) rfl ?_
      refine wl_not rfl ?_
      refine wl_not rfl ?_
      refine wl_not rfl ?_
      refine wl_not rfl ?_
      refine wl_not rfl ?_
      refine wl_val (r_pick_t rfl (v := .bool true) rfl) rfl ?_
      refine wl_val (r_assign (v := .bool _) rfl) rfl ?_
      refine wl_nil ?_
      refine c_then ?_
      refine c_seq ?_
      refine c_region ?_
      refine wl_val (r_field fa37_3 rfl) rfl ?_
      refine wl_val (r_loadB1 ti30.und rfl rfl (hS31.heap (.tail _ (.head _))) rfl) rfl ?_
      refine wl_val (r_len (T := 30) rfl ti30.und rfl _ rfl) rfl ?_
      refine wl_dec (r_eql rfl rfl) rfl (fun h3_3 => ?_) (fun h3_3 => ?_)
      · refine wl_val (r_move (v := .bool _) rfl) rfl ?_
        refine wl_not rfl ?_
        refine wl_not rfl ?_
        refine wl_not rfl ?_
        refine wl_not rfl ?_
        refine wl_val (r_pick_t rfl (v := .bool true) rfl) rfl ?_
        refine wl_val (r_assign (v := .bool _) rfl) rfl ?_
        refine wl_nil ?_
        refine c_then ?_
        refine c_seq ?_
        refine c_region ?_
        refine wl_val (r_move (v := .bool _) rfl) rfl ?_
        refine wl_val (r_move (v := .bool _) rfl) rfl ?_
        refine wl_val (r_move (v := .bool _) rfl) rfl ?_
        refine wl_val (r_pick_t rfl (v := .bool _) rfl) rfl ?_
        refine wl_val (r_move (v := .bool _) rfl) rfl ?_
        refine wl_val (r_move (v := .bool _) rfl) rfl ?_
        refine wl_val (r_pick_t rfl (v := .bool _) rfl) rfl ?_
        refine wl_val (r_move (v := .bool _) rfl) rfl ?_
        refine wl_val (r_loadB ti37 ag37 rfl (hS31.heap (.tail _ (.head _))) (by first | (simp [*]; done) | (simp [*] <;> omega) | omega)) rfl ?_
        refine wl_val (r_field fa34_5 rfl) rfl ?_
        refine wl_val (r_loadB1 ti3.und rfl rfl (hS31.heap (.head _)) (ask_tmN hac hkey ht0)) rfl ?_
        refine wl_val (r_remn (b := 86400) rfl rfl (by omega)) rfl ?_
        refine wl_val (r_quon (b := 3600) rfl rfl (by omega) (by omega)) rfl ?_
        refine wl_call (r_call fn83 rfl rfl) rfl (inHours_ok r _ _) ?_
        rintro _ w32 ⟨rfl, hx33⟩
        have hS34 := hS31.ext hx33
        refine wl_val (r_pick_t rfl (v := .bool _) rfl) rfl ?_
        refine wl_val (r_assign (v := .bool _) rfl) rfl ?_
        refine wl_nil ?_
        refine c_then ?_
        refine wp_ret ?_
        refine ret1 Try.results47 ?_
        first | exact ⟨congrArg Value.bool (meet_y (by first | exact .inl (by omega) | exact .inr hc1) (by first | exact .inl (by omega) | exact .inr hc2) (by first | exact .inl (by omega) | exact .inr hc3) (h := ((q.tm.toNat % 86400 / 3600 : Nat) : Int)) (by omega)).symm, hS34.fin⟩ | exact ⟨congrArg Value.bool (meet_n1 (by omega) hc1).symm, hS34.fin⟩ | exact ⟨congrArg Value.bool (meet_n2 (by omega) hc2).symm, hS34.fin⟩ | exact ⟨congrArg Value.bool (meet_n3 (by omega) hc3).symm, hS34.fin⟩
      refine wl_val (r_move (v := .bool _) rfl) rfl ?_
      refine wl_val (r_field fa37_3 rfl) rfl ?_
      refine wl_val (r_loadB1 ti30.und rfl rfl (hS31.heap (.tail _ (.head _))) rfl) rfl ?_
      refine wl_val (r_makeFunc rfl) rfl ?_
      refine wl_call (r_call fn37 rfl rfl) rfl (containsFuncS_ok r.las r.la r.las.length r.lc 82 [pt b3 0] (fun s => fitsE s q.lab) _ (h3.st hS31) rfl hk.ln fn82 (fun x w' hx h => meets2_ok x q b3 w' ((at_all (hS31.heap (.head _))).st h) hac (hk.ll x hx) hq.ll)) ?_
      rintro _ w35 (⟨hc3, rfl, hx36⟩ | ⟨hc3, rfl, hx36⟩)
      · have hS37 := hS31.ext hx36
        refine wl_val (r_pick_f rfl (v := .bool _) rfl) rfl ?_
        refine wl_val (r_assign (v := .bool _) rfl) rfl ?_
        refine wl_nil ?_
        refine c_then ?_
        refine c_seq ?_
        refine c_region ?_
        refine wl_val (r_move (v := .bool _) rfl) rfl ?_
        refine wl_val (r_move (v := .bool _) rfl) rfl ?_
        refine wl_val (r_move (v := .bool _) rfl) rfl ?_
        refine wl_val (r_pick_t rfl (v := .bool _) rfl) rfl ?_
        refine wl_val (r_move (v := .bool _) rfl) rfl ?_
        refine wl_val (r_move (v := .bool _) rfl) rfl ?_
        refine wl_val (r_pick_t rfl (v := .bool _) rfl) rfl ?_
        refine wl_val (r_move (v := .bool _) rfl) rfl ?_
        refine wl_val (r_loadB ti37 ag37 rfl (hS37.heap (.tail _ (.head _))) (by first | (simp [*]; done) | (simp [*] <;> omega) | omega)) rfl ?_
        refine wl_val (r_field fa34_5 rfl) rfl ?_
        refine wl_val (r_loadB1 ti3.und rfl rfl (hS37.heap (.head _)) (ask_tmN hac hkey ht0)) rfl ?_
        refine wl_val (r_remn (b := 86400) rfl rfl (by omega)) rfl ?_
        refine wl_val (r_quon (b := 3600) rfl rfl (by omega) (by omega)) rfl ?_
        refine wl_call (r_call fn83 rfl rfl) rfl (inHours_ok r _ _) ?_
        rintro _ w38 ⟨rfl, hx39⟩
        have hS40 := hS37.ext hx39
        refine wl_val (r_pick_t rfl (v := .bool _) rfl) rfl ?_
        refine wl_val (r_assign (v := .bool _) rfl) rfl ?_
        refine wl_nil ?_
        refine c_then ?_
        refine wp_ret ?_
        refine ret1 Try.results47 ?_
        first | exact ⟨congrArg Value.bool (meet_y (by first | exact .inl (by omega) | exact .inr hc1) (by first | exact .inl (by omega) | exact .inr hc2) (by first | exact .inl (by omega) | exact .inr hc3) (h := ((q.tm.toNat % 86400 / 3600 : Nat) : Int)) (by omega)).symm, hS40.fin⟩ | exact ⟨congrArg Value.bool (meet_n1 (by omega) hc1).symm, hS40.fin⟩ | exact ⟨congrArg Value.bool (meet_n2 (by omega) hc2).symm, hS40.fin⟩ | exact ⟨congrArg Value.bool (meet_n3 (by omega) hc3).symm, hS40.fin⟩
      have hS37 := hS31.ext hx36
      refine wl_val (r_pick_f rfl (v := .bool _) rfl) rfl ?_
      refine wl_val (r_assign (v := .bool _) rfl) rfl ?_
      refine wl_nil ?_
      refine c_then ?_
      refine c_seq ?_
      refine c_region ?_
      refine wl_val (r_move (v := .bool _) rfl) rfl ?_
      refine wl_val (r_move (v := .bool _) rfl) rfl ?_
      refine wl_val (r_move (v := .bool _) rfl) rfl ?_
      refine wl_val (r_pick_t rfl (v := .bool _) rfl) rfl ?_
      refine wl_val (r_move (v := .bool _) rfl) rfl ?_
      refine wl_val (r_move (v := .bool _) rfl) rfl ?_
      refine wl_val (r_pick_t rfl (v := .bool _) rfl) rfl ?_
      refine wl_val (r_move (v := .bool _) rfl) rfl ?_
      refine wl_not rfl ?_
      refine wl_not rfl ?_
      refine wl_not rfl ?_
      refine wl_not rfl ?_
      refine wl_not rfl ?_
      refine wl_not rfl ?_
      refine wl_val (r_pick_f rfl (v := .bool false) rfl) rfl ?_
      refine wl_val (r_assign (v := .bool _) rfl) rfl ?_
      refine wl_nil ?_
      refine c_then ?_
      refine wp_ret ?_
      refine ret1 Try.results47 ?_
      first | exact ⟨congrArg Value.bool (meet_y (by first | exact .inl (by omega) | exact .inr hc1) (by first | exact .inl (by omega) | exact .inr hc2) (by first | exact .inl (by omega) | exact .inr hc3) (h := ((q.tm.toNat % 86400 / 3600 : Nat) : Int)) (by omega)).symm, hS37.fin⟩ | exact ⟨congrArg Value.bool (meet_n1 (by omega) hc1).symm, hS37.fin⟩ | exact ⟨congrArg Value.bool (meet_n2 (by omega) hc2).symm, hS37.fin⟩ | exact ⟨congrArg Value.bool (meet_n3 (by omega) hc3).symm, hS37.fin⟩
    refine wl_val (r_move (v := .bool _) rfl) rfl ?_
    refine wl_val (r_field fa37_2 rfl) rfl ?_
    refine wl_val (r_loadB1 ti35.und rfl rfl (hS31.heap (.tail _ (.head _))) rfl) rfl ?_
    refine wl_val (r_field fa34_2 rfl) rfl ?_
    refine wl_val (r_loadB1 ti3.und rfl rfl (hS31.heap (.head _)) (ask_act hac)) rfl ?_
    refine wl_call (r_call fn57 rfl rfl) rfl (containsI_ok r.acs r.aa r.acs.length r.ak q.act _ (h2.st hS31) rfl hk.an) ?_
    rintro _ w41 (⟨hc2, rfl, hx42⟩ | ⟨hc2, rfl, hx42⟩)
    · have hS43 := hS31.ext hx42
      refine wl_val (r_pick_f rfl (v := .bool _) rfl) rfl ?_
      refine wl_val (r_assign (v := .bool _) rfl) rfl ?_
      refine wl_nil ?_
      refine c_then ?_
      refine c_seq ?_
      refine c_region ?_
      refine wl_val (r_field fa37_3 rfl) rfl ?_
      refine wl_val (r_loadB1 ti30.und rfl rfl (hS43.heap (.tail _ (.head _))) rfl) rfl ?_
      refine wl_val (r_len (T := 30) rfl ti30.und rfl _ rfl) rfl ?_
      refine wl_dec (r_eql rfl rfl) rfl (fun h3_3 => ?_) (fun h3_3 => ?_)
      · refine wl_val (r_move (v := .bool _) rfl) rfl ?_
        refine wl_not rfl ?_
        refine wl_not rfl ?_
        refine wl_not rfl ?_
        refine wl_not rfl ?_
        refine wl_val (r_pick_t rfl (v := .bool true) rfl) rfl ?_
        refine wl_val (r_assign (v := .bool _) rfl) rfl ?_
        refine wl_nil ?_
        refine c_then ?_
        refine c_seq ?_
        refine c_region ?_
        refine wl_val (r_move (v := .bool _) rfl) rfl ?_
        refine wl_val (r_move (v := .bool _) rfl) rfl ?_
        refine wl_val (r_move (v := .bool _) rfl) rfl ?_
        refine wl_val (r_pick_t rfl (v := .bool _) rfl) rfl ?_
        refine wl_val (r_move (v := .bool _) rfl) rfl ?_
        refine wl_val (r_move (v := .bool _) rfl) rfl ?_
        refine wl_val (r_pick_t rfl (v := .bool _) rfl) rfl ?_
        refine wl_val (r_move (v := .bool _) rfl) rfl ?_
        refine wl_val (r_loadB ti37 ag37 rfl (hS43.heap (.tail _ (.head _))) (by first | (simp [*]; done) | (simp [*] <;> omega) | omega)) rfl ?_
        refine wl_val (r_field fa34_5 rfl) rfl ?_
        refine wl_val (r_loadB1 ti3.und rfl rfl (hS43.heap (.head _)) (ask_tmN hac hkey ht0)) rfl ?_
        refine wl_val (r_remn (b := 86400) rfl rfl (by omega)) rfl ?_
        refine wl_val (r_quon (b := 3600) rfl rfl (by omega) (by omega)) rfl ?_
        refine wl_call (r_call fn83 rfl rfl) rfl (inHours_ok r _ _) ?_
        rintro _ w44 ⟨rfl, hx45⟩
        have hS46 := hS43.ext hx45
        refine wl_val (r_pick_t rfl (v := .bool _) rfl) rfl ?_
        refine wl_val (r_assign (v := .bool _) rfl) rfl ?_
        refine wl_nil ?_
        refine c_then ?_
        refine wp_ret ?_
        refine ret1 Try.results47 ?_
        first | exact ⟨congrArg Value.bool (meet_y (by first | exact .inl (by omega) | exact .inr hc1) (by first | exact .inl (by omega) | exact .inr hc2) (by first | exact .inl (by omega) | exact .inr hc3) (h := ((q.tm.toNat % 86400 / 3600 : Nat) : Int)) (by omega)).symm, hS46.fin⟩ | exact ⟨congrArg Value.bool (meet_n1 (by omega) hc1).symm, hS46.fin⟩ | exact ⟨congrArg Value.bool (meet_n2 (by omega) hc2).symm, hS46.fin⟩ | exact ⟨congrArg Value.bool (meet_n3 (by omega) hc3).symm, hS46.fin⟩
      refine wl_val (r_move (v := .bool _) rfl) rfl ?_
      refine wl_val (r_field fa37_3 rfl) rfl ?_
      refine wl_val (r_loadB1 ti30.und rfl rfl (hS43.heap (.tail _ (.head _))) rfl) rfl ?_
      refine wl_val (r_makeFunc rfl) rfl ?_
      refine wl_call (r_call fn37 rfl rfl) rfl (containsFuncS_ok r.las r.la r.las.length r.lc 82 [pt b3 0] (fun s => fitsE s q.lab) _ (h3.st hS43) rfl hk.ln fn82 (fun x w' hx h => meets2_ok x q b3 w' ((at_all (hS43.heap (.head _))).st h) hac (hk.ll x hx) hq.ll)) ?_
      rintro _ w47 (⟨hc3, rfl, hx48⟩ | ⟨hc3, rfl, hx48⟩)
      · have hS49 := hS43.ext hx48
        refine wl_val (r_pick_f rfl (v := .bool _) rfl) rfl ?_
        refine wl_val (r_assign (v := .bool _) rfl) rfl ?_
        refine wl_nil ?_
        refine c_then ?_
        refine c_seq ?_
        refine c_region ?_
        refine wl_val (r_move (v := .bool _) rfl) rfl ?_
        refine wl_val (r_move (v := .bool _) rfl) rfl ?_
        refine wl_val (r_move (v := .bool _) rfl) rfl ?_
        refine wl_val (r_pick_t rfl (v := .bool _) rfl) rfl ?_
        refine wl_val (r_move (v := .bool _) rfl) rfl ?_
        refine wl_val (r_move (v := .bool _) rfl) rfl ?_
        refine wl_val (r_pick_t rfl (v := .bool _) rfl) rfl ?_
        refine wl_val (r_move (v := .bool _) rfl) rfl ?_
        refine wl_val (r_loadB ti37 ag37 rfl (hS49.heap (.tail _ (.head _))) (by first | (simp [*]; done) | (simp [*] <;> omega) | omega)) rfl ?_
        refine wl_val (r_field fa34_5 rfl) rfl ?_
        refine wl_val (r_loadB1 ti3.und rfl rfl (hS49.heap (.head _)) (ask_tmN hac hkey ht0)) rfl ?_
        refine wl_val (r_remn (b := 86400) rfl rfl (by omega)) rfl ?_
        refine wl_val (r_quon (b := 3600) rfl rfl (by omega) (by omega)) rfl ?_
        refine wl_call (r_call fn83 rfl rfl) rfl (inHours_ok r _ _) ?_
        rintro _ w50 ⟨rfl, hx51⟩
        have hS52 := hS49.ext hx51
        refine wl_val (r_pick_t rfl (v := .bool _) rfl) rfl ?_
        refine wl_val (r_assign (v := .bool _) rfl) rfl ?_
        refine wl_nil ?_
        refine c_then ?_
        refine wp_ret ?_
        refine ret1 Try.results47 ?_
        first | exact ⟨congrArg Value.bool (meet_y (by first | exact .inl (by omega) | exact .inr hc1) (by first | exact .inl (by omega) | exact .inr hc2) (by first | exact .inl (by omega) | exact .inr hc3) (h := ((q.tm.toNat % 86400 / 3600 : Nat) : Int)) (by omega)).symm, hS52.fin⟩ | exact ⟨congrArg Value.bool (meet_n1 (by omega) hc1).symm, hS52.fin⟩ | exact ⟨congrArg Value.bool (meet_n2 (by omega) hc2).symm, hS52.fin⟩ | exact ⟨congrArg Value.bool (meet_n3 (by omega) hc3).symm, hS52.fin⟩
      have hS49 := hS43.ext hx48
      refine wl_val (r_pick_f rfl (v := .bool _) rfl) rfl ?_
      refine wl_val (r_assign (v := .bool _) rfl) rfl ?_
      refine wl_nil ?_
      refine c_then ?_
      refine c_seq ?_
      refine c_region ?_
      refine wl_val (r_move (v := .bool _) rfl) rfl ?_
      refine wl_val (r_move (v := .bool _) rfl) rfl ?_
      refine wl_val (r_move (v := .bool _) rfl) rfl ?_
      refine wl_val (r_pick_t rfl (v := .bool _) rfl) rfl ?_
      refine wl_val (r_move (v := .bool _) rfl) rfl ?_
      refine wl_val (r_move (v := .bool _) rfl) rfl ?_
      refine wl_val (r_pick_t rfl (v := .bool _) rfl) rfl ?_
      refine wl_val (r_move (v := .bool _) rfl) rfl ?_
      refine wl_not rfl ?_
      refine wl_not rfl ?_
      refine wl_not rfl ?_
      refine wl_not rfl ?_
      refine wl_not rfl ?_
      refine wl_not rfl ?_
      refine wl_val (r_pick_f rfl (v := .bool false) rfl) rfl ?_
      refine wl_val (r_assign (v := .bool _) rfl) rfl ?_
      refine wl_nil ?_
      refine c_then ?_
      refine wp_ret ?_
      refine ret1 Try.results47 ?_
      first | exact ⟨congrArg Value.bool (meet_y (by first | exact .inl (by omega) | exact .inr hc1) (by first | exact .inl (by omega) | exact .inr hc2) (by first | exact .inl (by omega) | exact .inr hc3) (h := ((q.tm.toNat % 86400 / 3600 : Nat) : Int)) (by omega)).symm, hS49.fin⟩ | exact ⟨congrArg Value.bool (meet_n1 (by omega) hc1).symm, hS49.fin⟩ | exact ⟨congrArg Value.bool (meet_n2 (by omega) hc2).symm, hS49.fin⟩ | exact ⟨congrArg Value.bool (meet_n3 (by omega) hc3).symm, hS49.fin⟩
    have hS43 := hS31.ext hx42
    refine wl_val (r_pick_f rfl (v := .bool _) rfl) rfl ?_
    refine wl_val (r_assign (v := .bool _) rfl) rfl ?_
    refine wl_nil ?_
    refine c_then ?_
    refine c_seq ?_
    refine c_region ?_
    refine wl_val (r_field fa37_3 rfl) rfl ?_
    refine wl_val (r_loadB1 ti30.und rfl rfl (hS43.heap (.tail _ (.head _))) rfl) rfl ?_
    refine wl_val (r_len (T := 30) rfl ti30.und rfl _ rfl) rfl ?_
    refine wl_dec (r_eql rfl rfl) rfl (fun h3_3 => ?_) (fun h3_3 => ?_)
    · refine wl_val (r_move (v := .bool _) rfl) rfl ?_
      refine wl_not rfl ?_
      refine wl_not rfl ?_
      refine wl_not rfl ?_
      refine wl_not rfl ?_
      refine wl_val (r_pick_t rfl (v := .bool true) rfl) rfl ?_
      refine wl_val (r_assign (v := .bool _) rfl) rfl ?_
      refine wl_nil ?_
      refine c_then ?_
      refine c_seq ?_
      refine c_region ?_
      refine wl_val (r_move (v := .bool _) rfl) rfl ?_
      refine wl_val (r_move (v := .bool _) rfl) rfl ?_
      refine wl_val (r_move (v := .bool _) rfl) rfl ?_
      refine wl_val (r_pick_t rfl (v := .bool _) rfl) rfl ?_
      refine wl_val (r_move (v := .bool _) rfl) rfl ?_
      refine wl_not rfl ?_
      refine wl_val (r_pick_f rfl (v := .bool false) rfl) rfl ?_
      refine wl_val (r_move (v := .bool _) rfl) rfl ?_
      refine wl_not rfl ?_
      refine wl_not rfl ?_
      refine wl_not rfl ?_
      refine wl_not rfl ?_
      refine wl_not rfl ?_
      refine wl_not rfl ?_
      refine wl_val (r_pick_f rfl (v := .bool false) rfl) rfl ?_
      refine wl_val (r_assign (v := .bool _) rfl) rfl ?_
      refine wl_nil ?_
      refine c_then ?_
      refine wp_ret ?_
      refine ret1 Try.results47 ?_
      first | exact ⟨congrArg Value.bool (meet_y (by first | exact .inl (by omega) | exact .inr hc1) (by first | exact .inl (by omega) | exact .inr hc2) (by first | exact .inl (by omega) | exact .inr hc3) (h := ((q.tm.toNat % 86400 / 3600 : Nat) : Int)) (by omega)).symm, hS43.fin⟩ | exact ⟨congrArg Value.bool (meet_n1 (by omega) hc1).symm, hS43.fin⟩ | exact ⟨congrArg Value.bool (meet_n2 (by omega) hc2).symm, hS43.fin⟩ | exact ⟨congrArg Value.bool (meet_n3 (by omega) hc3).symm, hS43.fin⟩
    refine wl_val (r_move (v := .bool _) rfl) rfl ?_
    refine wl_val (r_field fa37_3 rfl) rfl ?_
    refine wl_val (r_loadB1 ti30.und rfl rfl (hS43.heap (.tail _ (.head _))) rfl) rfl ?_
    refine wl_val (r_makeFunc rfl) rfl ?_
    refine wl_call (r_call fn37 rfl rfl) rfl (containsFuncS_ok r.las r.la r.las.length r.lc 82 [pt b3 0] (fun s => fitsE s q.lab) _ (h3.st hS43) rfl hk.ln fn82 (fun x w' hx h => meets2_ok x q b3 w' ((at_all (hS43.heap (.head _))).st h) hac (hk.ll x hx) hq.ll)) ?_
    rintro _ w53 (⟨hc3, rfl, hx54⟩ | ⟨hc3, rfl, hx54⟩)
    · have hS55 := hS43.ext hx54
      refine wl_val (r_pick_f rfl (v := .bool _) rfl) rfl ?_
      refine wl_val (r_assign (v := .bool _) rfl) rfl ?_
      refine wl_nil ?_
      refine c_then ?_
      refine c_seq ?_
      refine c_region ?_
      refine wl_val (r_move (v := .bool _) rfl) rfl ?_
      refine wl_val (r_move (v := .bool _) rfl) rfl ?_
      refine wl_val (r_move (v := .bool _) rfl) rfl ?_
      refine wl_val (r_pick_t rfl (v := .bool _) rfl) rfl ?_
      refine wl_val (r_move (v := .bool _) rfl) rfl ?_
      refine wl_not rfl ?_
      refine wl_val (r_pick_f rfl (v := .bool false) rfl) rfl ?_
      refine wl_val (r_move (v := .bool _) rfl) rfl ?_
      refine wl_not rfl ?_
      refine wl_not rfl ?_
      refine wl_not rfl ?_
      refine wl_not rfl ?_
      refine wl_not rfl ?_
      refine wl_not rfl ?_
      refine wl_val (r_pick_f rfl (v := .bool false) rfl) rfl ?_
      refine wl_val (r_assign (v := .bool _) rfl) rfl ?_
      refine wl_nil ?_
      refine c_then ?_
      refine wp_ret ?_
      refine ret1 Try.results47 ?_
      first | exact ⟨congrArg Value.bool (meet_y (by first | exact .inl (by omega) | exact .inr hc1) (by first | exact .inl (by omega) | exact .inr hc2) (by first | exact .inl (by omega) | exact .inr hc3) (h := ((q.tm.toNat % 86400 / 3600 : Nat) : Int)) (by omega)).symm, hS55.fin⟩ | exact ⟨congrArg Value.bool (meet_n1 (by omega) hc1).symm, hS55.fin⟩ | exact ⟨congrArg Value.bool (meet_n2 (by omega) hc2).symm, hS55.fin⟩ | exact ⟨congrArg Value.bool (meet_n3 (by omega) hc3).symm, hS55.fin⟩
    have hS55 := hS43.ext hx54
    refine wl_val (r_pick_f rfl (v := .bool _) rfl) rfl ?_
    refine wl_val (r_assign (v := .bool _) rfl) rfl ?_
    refine wl_nil ?_
    refine c_then ?_
    refine c_seq ?_
    refine c_region ?_
    refine wl_val (r_move (v := .bool _) rfl) rfl ?_
    refine wl_val (r_move (v := .bool _) rfl) rfl ?_
    refine wl_val (r_move (v := .bool _) rfl) rfl ?_
    refine wl_val (r_pick_t rfl (v := .bool _) rfl) rfl ?_
    refine wl_val (r_move (v := .bool _) rfl) rfl ?_
    refine wl_not rfl ?_
    refine wl_val (r_pick_f rfl (v := .bool false) rfl) rfl ?_
    refine wl_val (r_move (v := .bool _) rfl) rfl ?_
    refine wl_not rfl ?_
    refine wl_not rfl ?_
    refine wl_not rfl ?_
    refine wl_not rfl ?_
    refine wl_not rfl ?_
    refine wl_not rfl ?_
    refine wl_val (r_pick_f rfl (v := .bool false) rfl) rfl ?_
    refine wl_val (r_assign (v := .bool _) rfl) rfl ?_
    refine wl_nil ?_
    refine c_then ?_
    refine wp_ret ?_
    refine ret1 Try.results47 ?_
    first | exact ⟨congrArg Value.bool (meet_y (by first | exact .inl (by omega) | exact .inr hc1) (by first | exact .inl (by omega) | exact .inr hc2) (by first | exact .inl (by omega) | exact .inr hc3) (h := ((q.tm.toNat % 86400 / 3600 : Nat) : Int)) (by omega)).symm, hS55.fin⟩ | exact ⟨congrArg Value.bool (meet_n1 (by omega) hc1).symm, hS55.fin⟩ | exact ⟨congrArg Value.bool (meet_n2 (by omega) hc2).symm, hS55.fin⟩ | exact ⟨congrArg Value.bool (meet_n3 (by omega) hc3).symm, hS55.fin⟩
  have hS31 := hS4.ext hx30
  refine wl_val (r_pick_f rfl (v := .bool _) rfl) rfl ?_
  refine wl_val (r_assign (v := .bool _) rfl) rfl ?_
  refine wl_nil ?_
  refine c_then ?_
  refine c_seq ?_
  refine c_region ?_
  refine wl_val (r_field fa37_2 rfl) rfl ?_
  refine wl_val (r_loadB1 ti35.und rfl rfl (hS31.heap (.tail _ (.head _))) rfl) rfl ?_
  refine wl_val (r_len (T := 35) rfl ti35.und rfl _ rfl) rfl ?_
  refine wl_dec (r_eql rfl rfl) rfl (fun h2_3 => ?_) (fun h2_3 => ?_)
  · refine wl_val (r_move (v := .bool _) rfl) rfl ?_
    refine wl_not rfl ?_
    refine wl_not rfl ?_
    refine wl_not rfl ?_
    refine wl_not rfl ?_
    refine wl_not rfl ?_
    refine wl_val (r_pick_t rfl (v := .bool true) rfl) rfl ?_
    refine wl_val (r_assign (v := .bool _) rfl) rfl ?_
    refine wl_nil ?_
    refine c_then ?_
    refine c_seq ?_
    refine c_region ?_
    refine wl_val (r_field fa37_3 rfl) rfl ?_
    refine wl_val (r_loadB1 ti30.und rfl rfl (hS31.heap (.tail _ (.head _))) rfl) rfl ?_
    refine wl_val (r_len (T := 30) rfl ti30.und rfl _ rfl) rfl ?_
    refine wl_dec (r_eql rfl rfl) rfl (fun h3_3 => ?_) (fun h3_3 => ?_)
    · refine wl_val (r_move (v := .bool _) rfl) rfl ?_
      refine wl_not rfl ?_
      refine wl_not rfl ?_
      refine wl_not rfl ?_
      refine wl_not rfl ?_
      refine wl_val (r_pick_t rfl (v := .bool true) rfl) rfl ?_
      refine wl_val (r_assign (v := .bool _) rfl) rfl ?_
      refine wl_nil ?_
      refine c_then ?_
      refine c_seq ?_
      refine c_region ?_
      refine wl_val (r_move (v := .bool _) rfl) rfl ?_
      refine wl_val (r_move (v := .bool _) rfl) rfl ?_
      refine wl_not rfl ?_
      refine wl_val (r_pick_f rfl (v := .bool false) rfl) rfl ?_
      refine wl_val (r_move (v := .bool _) rfl) rfl ?_
      refine wl_not rfl ?_
      refine wl_val (r_pick_f rfl (v := .bool false) rfl) rfl ?_
      refine wl_val (r_move (v := .bool _) rfl) rfl ?_
      refine wl_not rfl ?_
      refine wl_not rfl ?_
      refine wl_not rfl ?_
      refine wl_not rfl ?_
      refine wl_not rfl ?_
      refine wl_not rfl ?_
      refine wl_val (r_pick_f rfl (v := .bool false) rfl) rfl ?_
      refine wl_val (r_assign (v := .bool _) rfl) rfl ?_
      refine wl_nil ?_
      refine c_then ?_
      refine wp_ret ?_
      refine ret1 Try.results47 ?_
      first | exact ⟨congrArg Value.bool (meet_y (by first | exact .inl (by omega) | exact .inr hc1) (by first | exact .inl (by omega) | exact .inr hc2) (by first | exact .inl (by omega) | exact .inr hc3) (h := ((q.tm.toNat % 86400 / 3600 : Nat) : Int)) (by omega)).symm, hS31.fin⟩ | exact ⟨congrArg Value.bool (meet_n1 (by omega) hc1).symm, hS31.fin⟩ | exact ⟨congrArg Value.bool (meet_n2 (by omega) hc2).symm, hS31.fin⟩ | exact ⟨congrArg Value.bool (meet_n3 (by omega) hc3).symm, hS31.fin⟩
    refine wl_val (r_move (v := .bool _) rfl) rfl ?_
    refine wl_val (r_field fa37_3 rfl) rfl ?_
    refine wl_val (r_loadB1 ti30.und rfl rfl (hS31.heap (.tail _ (.head _))) rfl) rfl ?_
    refine wl_val (r_makeFunc rfl) rfl ?_
    refine wl_call (r_call fn37 rfl rfl) rfl (containsFuncS_ok r.las r.la r.las.length r.lc 82 [pt b3 0] (fun s => fitsE s q.lab) _ (h3.st hS31) rfl hk.ln fn82 (fun x w' hx h => meets2_ok x q b3 w' ((at_all (hS31.heap (.head _))).st h) hac (hk.ll x hx) hq.ll)) ?_
    rintro _ w56 (⟨hc3, rfl, hx57⟩ | ⟨hc3, rfl, hx57⟩)
    · have hS58 := hS31.ext hx57
      refine wl_val (r_pick_f rfl (v := .bool _) rfl) rfl ?_
      refine wl_val (r_assign (v := .bool _) rfl) rfl ?_
      refine wl_nil ?_
      refine c_then ?_
      refine c_seq ?_
      refine c_region ?_
      refine wl_val (r_move (v := .bool _) rfl) rfl ?_
      refine wl_val (r_move (v := .bool _) rfl) rfl ?_
      refine wl_not rfl ?_
      refine wl_val (r_pick_f rfl (v := .bool false) rfl) rfl ?_
      refine wl_val (r_move (v := .bool _) rfl) rfl ?_
      refine wl_not rfl ?_
      refine wl_val (r_pick_f rfl (v := .bool false) rfl) rfl ?_
      refine wl_val (r_move (v := .bool _) rfl) rfl ?_
      refine wl_not rfl ?_
      refine wl_not rfl ?_
      refine wl_not rfl ?_
      refine wl_not rfl ?_
      refine wl_not rfl ?_
      refine wl_not rfl ?_
      refine wl_val (r_pick_f rfl (v := .bool false) rfl) rfl ?_
      refine wl_val (r_assign (v := .bool _) rfl) rfl ?_
      refine wl_nil ?_
      refine c_then ?_
      refine wp_ret ?_
      refine ret1 Try.results47 ?_
      first | exact ⟨congrArg Value.bool (meet_y (by first | exact .inl (by omega) | exact .inr hc1) (by first | exact .inl (by omega) | exact .inr hc2) (by first | exact .inl (by omega) | exact .inr hc3) (h := ((q.tm.toNat % 86400 / 3600 : Nat) : Int)) (by omega)).symm, hS58.fin⟩ | exact ⟨congrArg Value.bool (meet_n1 (by omega) hc1).symm, hS58.fin⟩ | exact ⟨congrArg Value.bool (meet_n2 (by omega) hc2).symm, hS58.fin⟩ | exact ⟨congrArg Value.bool (meet_n3 (by omega) hc3).symm, hS58.fin⟩
    have hS58 := hS31.ext hx57
    refine wl_val (r_pick_f rfl (v := .bool _) rfl) rfl ?_
    refine wl_val (r_assign (v := .bool _) rfl) rfl ?_
    refine wl_nil ?_
    refine c_then ?_
    refine c_seq ?_
    refine c_region ?_
    refine wl_val (r_move (v := .bool _) rfl) rfl ?_
    refine wl_val (r_move (v := .bool _) rfl) rfl ?_
    refine wl_not rfl ?_
    refine wl_val (r_pick_f rfl (v := .bool false) rfl) rfl ?_
    refine wl_val (r_move (v := .bool _) rfl) rfl ?_
    refine wl_not rfl ?_
    refine wl_val (r_pick_f rfl (v := .bool false) rfl) rfl ?_
    refine wl_val (r_move (v := .bool _) rfl) rfl ?_
    refine wl_not rfl ?_
    refine wl_not rfl ?_
    refine wl_not rfl ?_
    refine wl_not rfl ?_
    refine wl_not rfl ?_
    refine wl_not rfl ?_
    refine wl_val (r_pick_f rfl (v := .bool false) rfl) rfl ?_
    refine wl_val (r_assign (v := .bool _) rfl) rfl ?_
    refine wl_nil ?_
    refine c_then ?_
    refine wp_ret ?_
    refine ret1 Try.results47 ?_
    first | exact ⟨congrArg Value.bool (meet_y (by first | exact .inl (by omega) | exact .inr hc1) (by first | exact .inl (by omega) | exact .inr hc2) (by first | exact .inl (by omega) | exact .inr hc3) (h := ((q.tm.toNat % 86400 / 3600 : Nat) : Int)) (by omega)).symm, hS58.fin⟩ | exact ⟨congrArg Value.bool (meet_n1 (by omega) hc1).symm, hS58.fin⟩ | exact ⟨congrArg Value.bool (meet_n2 (by omega) hc2).symm, hS58.fin⟩ | exact ⟨congrArg Value.bool (meet_n3 (by omega) hc3).symm, hS58.fin⟩
  refine wl_val (r_move (v := .bool _) rfl) rfl ?_
  refine wl_val (r_field fa37_2 rfl) rfl ?_
  refine wl_val (r_loadB1 ti35.und rfl rfl (hS31.heap (.tail _ (.head _))) rfl) rfl ?_
  refine wl_val (r_field fa34_2 rfl) rfl ?_
  refine wl_val (r_loadB1 ti3.und rfl rfl (hS31.heap (.head _)) (ask_act hac)) rfl ?_
  refine wl_call (r_call fn57 rfl rfl) rfl (containsI_ok r.acs r.aa r.acs.length r.ak q.act _ (h2.st hS31) rfl hk.an) ?_
  rintro _ w59 (⟨hc2, rfl, hx60⟩ | ⟨hc2, rfl, hx60⟩)
  · have hS61 := hS31.ext hx60
    refine wl_val (r_pick_f rfl (v := .bool _) rfl) rfl ?_
    refine wl_val (r_assign (v := .bool _) rfl) rfl ?_
    refine wl_nil ?_
    refine c_then ?_
    refine c_seq ?_
    refine c_region ?_
    refine wl_val (r_field fa37_3 rfl) rfl ?_
    refine wl_val (r_loadB1 ti30.und rfl rfl (hS61.heap (.tail _ (.head _))) rfl) rfl ?_
    refine wl_val (r_len (T := 30) rfl ti30.und rfl _ rfl) rfl ?_
    refine wl_dec (r_eql rfl rfl) rfl (fun h3_3 => ?_) (fun h3_3 => ?_)
    · refine wl_val (r_move (v := .bool _) rfl) rfl ?_
      refine wl_not rfl ?_
      refine wl_not rfl ?_
      refine wl_not rfl ?_
      refine wl_not rfl ?_
      refine wl_val (r_pick_t rfl (v := .bool true) rfl) rfl ?_
      refine wl_val (r_assign (v := .bool _) rfl) rfl ?_
      refine wl_nil ?_
      refine c_then ?_
      refine c_seq ?_
      refine c_region ?_
      refine wl_val (r_move (v := .bool _) rfl) rfl ?_
      refine wl_val (r_move (v := .bool _) rfl) rfl ?_
      refine wl_not rfl ?_
      refine wl_val (r_pick_f rfl (v := .bool false) rfl) rfl ?_
      refine wl_val (r_move (v := .bool _) rfl) rfl ?_
      refine wl_not rfl ?_
      refine wl_val (r_pick_f rfl (v := .bool false) rfl) rfl ?_
      refine wl_val (r_move (v := .bool _) rfl) rfl ?_
      refine wl_not rfl ?_
      refine wl_not rfl ?_
      refine wl_not rfl ?_
      refine wl_not rfl ?_
      refine wl_not rfl ?_
      refine wl_not rfl ?_
      refine wl_val (r_pick_f rfl (v := .bool false) rfl) rfl ?_
      refine wl_val (r_assign (v := .bool _) rfl) rfl ?_
      refine wl_nil ?_
      refine c_then ?_
      refine wp_ret ?_
      refine ret1 Try.results47 ?_
      first | exact ⟨congrArg Value.bool (meet_y (by first | exact .inl (by omega) | exact .inr hc1) (by first | exact .inl (by omega) | exact .inr hc2) (by first | exact .inl (by omega) | exact .inr hc3) (h := ((q.tm.toNat % 86400 / 3600 : Nat) : Int)) (by omega)).symm, hS61.fin⟩ | exact ⟨congrArg Value.bool (meet_n1 (by omega) hc1).symm, hS61.fin⟩ | exact ⟨congrArg Value.bool (meet_n2 (by omega) hc2).symm, hS61.fin⟩ | exact ⟨congrArg Value.bool (meet_n3 (by omega) hc3).symm, hS61.fin⟩
    refine wl_val (r_move (v := .bool _) rfl) rfl ?_
    refine wl_val (r_field fa37_3 rfl) rfl ?_
    refine wl_val (r_loadB1 ti30.und rfl rfl (hS61.heap (.tail _ (.head _))) rfl) rfl ?_
    refine wl_val (r_makeFunc rfl) rfl ?_
    refine wl_call (r_call fn37 rfl rfl) rfl (containsFuncS_ok r.las r.la r.las.length r.lc 82 [pt b3 0] (fun s => fitsE s q.lab) _ (h3.st hS61) rfl hk.ln fn82 (fun x w' hx h => meets2_ok x q b3 w' ((at_all (hS61.heap (.head _))).st h) hac (hk.ll x hx) hq.ll)) ?_
    rintro _ w62 (⟨hc3, rfl, hx63⟩ | ⟨hc3, rfl, hx63⟩)
    · have hS64 := hS61.ext hx63
      refine wl_val (r_pick_f rfl (v := .bool _) rfl) rfl ?_
      refine wl_val (r_assign (v := .bool _) rfl) rfl ?_
      refine wl_nil ?_
      refine c_then ?_
      refine c_seq ?_
      refine c_region ?_
      refine wl_val (r_move (v := .bool _) rfl) rfl ?_
      refine wl_val (r_move (v := .bool _) rfl) rfl ?_
      refine wl_not rfl ?_
      refine wl_val (r_pick_f rfl (v := .bool false) rfl) rfl ?_
      refine wl_val (r_move (v := .bool _) rfl) rfl ?_
      refine wl_not rfl ?_
      refine wl_val (r_pick_f rfl (v := .bool false) rfl) rfl ?_
      refine wl_val (r_move (v := .bool _) rfl) rfl ?_
      refine wl_not rfl ?_
      refine wl_not rfl ?_
      refine wl_not rfl ?_
      refine wl_not rfl ?_
      refine wl_not rfl ?_
      refine wl_not rfl ?_
      refine wl_val (r_pick_f rfl (v := .bool false) rfl) rfl ?_
      refine wl_val (r_assign (v := .bool _) rfl) rfl ?_
      refine wl_nil ?_
      refine c_then ?_
      refine wp_ret ?_
      refine ret1 Try.results47 ?_
      first | exact ⟨congrArg Value.bool (meet_y (by first | exact .inl (by omega) | exact .inr hc1) (by first | exact .inl (by omega) | exact .inr hc2) (by first | exact .inl (by omega) | exact .inr hc3) (h := ((q.tm.toNat % 86400 / 3600 : Nat) : Int)) (by omega)).symm, hS64.fin⟩ | exact ⟨congrArg Value.bool (meet_n1 (by omega) hc1).symm, hS64.fin⟩ | exact ⟨congrArg Value.bool (meet_n2 (by omega) hc2).symm, hS64.fin⟩ | exact ⟨congrArg Value.bool (meet_n3 (by omega) hc3).symm, hS64.fin⟩
    have hS64 := hS61.ext hx63
    refine wl_val (r_pick_f rfl (v := .bool _) rfl) rfl ?_
    refine wl_val (r_assign (v := .bool _) rfl) rfl ?_
    refine wl_nil ?_
    refine c_then ?_
    refine c_seq ?_
    refine c_region ?_
    refine wl_val (r_move (v := .bool _) rfl) rfl ?_
    refine wl_val (r_move (v := .bool _) rfl) rfl ?_
    refine wl_not rfl ?_
    refine wl_val (r_pick_f rfl (v := .bool false) rfl) rfl ?_
    refine wl_val (r_move (v := .bool _) rfl) rfl ?_
    refine wl_not rfl ?_
    refine wl_val (r_pick_f rfl (v := .bool false) rfl) rfl ?_
    refine wl_val (r_move (v := .bool _) rfl) rfl ?_
    refine wl_not rfl ?_
    refine wl_not rfl ?_
    refine wl_not rfl ?_
    refine wl_not rfl ?_
    refine wl_not rfl ?_
    refine wl_not rfl ?_
    refine wl_val (r_pick_f rfl (v := .bool false) rfl) rfl ?_
    refine wl_val (r_assign (v := .bool _) rfl) rfl ?_
    refine wl_nil ?_
    refine c_then ?_
    refine wp_ret ?_
    refine ret1 Try.results47 ?_
    first | exact ⟨congrArg Value.bool (meet_y (by first | exact .inl (by omega) | exact .inr hc1) (by first | exact .inl (by omega) | exact .inr hc2) (by first | exact .inl (by omega) | exact .inr hc3) (h := ((q.tm.toNat % 86400 / 3600 : Nat) : Int)) (by omega)).symm, hS64.fin⟩ | exact ⟨congrArg Value.bool (meet_n1 (by omega) hc1).symm, hS64.fin⟩ | exact ⟨congrArg Value.bool (meet_n2 (by omega) hc2).symm, hS64.fin⟩ | exact ⟨congrArg Value.bool (meet_n3 (by omega) hc3).symm, hS64.fin⟩
  have hS61 := hS31.ext hx60
  refine wl_val (r_pick_f rfl (v := .bool _) rfl) rfl ?_
  refine wl_val (r_assign (v := .bool _) rfl) rfl ?_
  refine wl_nil ?_
  refine c_then ?_
  refine c_seq ?_
  refine c_region ?_
  refine wl_val (r_field fa37_3 rfl) rfl ?_
  refine wl_val (r_loadB1 ti30.und rfl rfl (hS61.heap (.tail _ (.head _))) rfl) rfl ?_
  refine wl_val (r_len (T := 30) rfl ti30.und rfl _ rfl) rfl ?_
  refine wl_dec (r_eql rfl rfl) rfl (fun h3_3 => ?_) (fun h3_3 => ?_)
  · refine wl_val (r_move (v := .bool _) rfl) rfl ?_
    refine wl_not rfl ?_
    refine wl_not rfl ?_
    refine wl_not rfl ?_
    refine wl_not rfl ?_
    refine wl_val (r_pick_t rfl (v := .bool true) rfl) rfl ?_
    refine wl_val (r_assign (v := .bool _) rfl) rfl ?_
    refine wl_nil ?_
    refine c_then ?_
    refine c_seq ?_
    refine c_region ?_
    refine wl_val (r_move (v := .bool _) rfl) rfl ?_
    refine wl_val (r_move (v := .bool _) rfl) rfl ?_
    refine wl_not rfl ?_
    refine wl_val (r_pick_f rfl (v := .bool false) rfl) rfl ?_
    refine wl_val (r_move (v := .bool _) rfl) rfl ?_
    refine wl_not rfl ?_
    refine wl_val (r_pick_f rfl (v := .bool false) rfl) rfl ?_
    refine wl_val (r_move (v := .bool _) rfl) rfl ?_
    refine wl_not rfl ?_
    refine wl_not rfl ?_
    refine wl_not rfl ?_
    refine wl_not rfl ?_
    refine wl_not rfl ?_
    refine wl_not rfl ?_
    refine wl_val (r_pick_f rfl (v := .bool false) rfl) rfl ?_
    refine wl_val (r_assign (v := .bool _) rfl) rfl ?_
    refine wl_nil ?_
    refine c_then ?_
    refine wp_ret ?_
    refine ret1 Try.results47 ?_
    first | exact ⟨congrArg Value.bool (meet_y (by first | exact .inl (by omega) | exact .inr hc1) (by first | exact .inl (by omega) | exact .inr hc2) (by first | exact .inl (by omega) | exact .inr hc3) (h := ((q.tm.toNat % 86400 / 3600 : Nat) : Int)) (by omega)).symm, hS61.fin⟩ | exact ⟨congrArg Value.bool (meet_n1 (by omega) hc1).symm, hS61.fin⟩ | exact ⟨congrArg Value.bool (meet_n2 (by omega) hc2).symm, hS61.fin⟩ | exact ⟨congrArg Value.bool (meet_n3 (by omega) hc3).symm, hS61.fin⟩
  refine wl_val (r_move (v := .bool _) rfl) rfl ?_
  refine wl_val (r_field fa37_3 rfl) rfl ?_
  refine wl_val (r_loadB1 ti30.und rfl rfl (hS61.heap (.tail _ (.head _))) rfl) rfl ?_
  refine wl_val (r_makeFunc rfl) rfl ?_
  refine wl_call (r_call fn37 rfl rfl) rfl (containsFuncS_ok r.las r.la r.las.length r.lc 82 [pt b3 0] (fun s => fitsE s q.lab) _ (h3.st hS61) rfl hk.ln fn82 (fun x w' hx h => meets2_ok x q b3 w' ((at_all (hS61.heap (.head _))).st h) hac (hk.ll x hx) hq.ll)) ?_
  rintro _ w65 (⟨hc3, rfl, hx66⟩ | ⟨hc3, rfl, hx66⟩)
  · have hS67 := hS61.ext hx66
    refine wl_val (r_pick_f rfl (v := .bool _) rfl) rfl ?_
    refine wl_val (r_assign (v := .bool _) rfl) rfl ?_
    refine wl_nil ?_
    refine c_then ?_
    refine c_seq ?_
    refine c_region ?_
    refine wl_val (r_move (v := .bool _) rfl) rfl ?_
    refine wl_val (r_move (v := .bool _) rfl) rfl ?_
    refine wl_not rfl ?_
    refine wl_val (r_pick_f rfl (v := .bool false) rfl) rfl ?_
    refine wl_val (r_move (v := .bool _) rfl) rfl ?_
    refine wl_not rfl ?_
    refine wl_val (r_pick_f rfl (v := .bool false) rfl) rfl ?_
    refine wl_val (r_move (v := .bool _) rfl) rfl ?_
    refine wl_not rfl ?_
    refine wl_not rfl ?_
    refine wl_not rfl ?_
    refine wl_not rfl ?_
    refine wl_not rfl ?_
    refine wl_not rfl ?_
    refine wl_val (r_pick_f rfl (v := .bool false) rfl) rfl ?_
    refine wl_val (r_assign (v := .bool _) rfl) rfl ?_
    refine wl_nil ?_
    refine c_then ?_
    refine wp_ret ?_
    refine ret1 Try.results47 ?_
    first | exact ⟨congrArg Value.bool (meet_y (by first | exact .inl (by omega) | exact .inr hc1) (by first | exact .inl (by omega) | exact .inr hc2) (by first | exact .inl (by omega) | exact .inr hc3) (h := ((q.tm.toNat % 86400 / 3600 : Nat) : Int)) (by omega)).symm, hS67.fin⟩ | exact ⟨congrArg Value.bool (meet_n1 (by omega) hc1).symm, hS67.fin⟩ | exact ⟨congrArg Value.bool (meet_n2 (by omega) hc2).symm, hS67.fin⟩ | exact ⟨congrArg Value.bool (meet_n3 (by omega) hc3).symm, hS67.fin⟩
  have hS67 := hS61.ext hx66
  refine wl_val (r_pick_f rfl (v := .bool _) rfl) rfl ?_
  refine wl_val (r_assign (v := .bool _) rfl) rfl ?_
  refine wl_nil ?_
  refine c_then ?_
  refine c_seq ?_
  refine c_region ?_
  refine wl_val (r_move (v := .bool _) rfl) rfl ?_
  refine wl_val (r_move (v := .bool _) rfl) rfl ?_
  refine wl_not rfl ?_
  refine wl_val (r_pick_f rfl (v := .bool false) rfl) rfl ?_
  refine wl_val (r_move (v := .bool _) rfl) rfl ?_
  refine wl_not rfl ?_
  refine wl_val (r_pick_f rfl (v := .bool false) rfl) rfl ?_
  refine wl_val (r_move (v := .bool _) rfl) rfl ?_
  refine wl_not rfl ?_
  refine wl_not rfl ?_
  refine wl_not rfl ?_
  refine wl_not rfl ?_
  refine wl_not rfl ?_
  refine wl_not rfl ?_
  refine wl_val (r_pick_f rfl (v := .bool false) rfl) rfl ?_
  refine wl_val (r_assign (v := .bool _) rfl) rfl ?_
  refine wl_nil ?_
  refine c_then ?_
  refine wp_ret ?_
  refine ret1 Try.results47 ?_
  first | exact ⟨congrArg Value.bool (meet_y (by first | exact .inl (by omega) | exact .inr hc1) (by first | exact .inl (by omega) | exact .inr hc2) (by first | exact .inl (by omega) | exact .inr hc3) (h := ((q.tm.toNat % 86400 / 3600 : Nat) : Int)) (by omega)).symm, hS67.fin⟩ | exact ⟨congrArg Value.bool (meet_n1 (by omega) hc1).symm, hS67.fin⟩ | exact ⟨congrArg Value.bool (meet_n2 (by omega) hc2).symm, hS67.fin⟩ | exact ⟨congrArg Value.bool (meet_n3 (by omega) hc3).symm, hS67.fin⟩

set_option maxHeartbeats 4000000 in
theorem rmeets_ok (r : RuleD) (q : AskD) (w : World) (hk : RuleOk r) (h1 : Row w r.ra (r.ro.map sv)) (h2 : Row w r.aa (r.acs.map iv)) (h3 : Row w r.la (r.las.map sv)) (hq : AskOk q) (hr : Row w q.ra (q.ro.map sv)) (ht0 : 0 ≤ q.tm) (ht1 : q.tm ≤ 1099511627776) (he : ruleE r = 0) :
    Ret Try.prog 18 [.agg r.v.toArray, .agg q.v.toArray] w (fun v w' => v = .bool (meetE r q) ∧ St w [] w' []) := by
  have hac := hq.ac
  have hkey := hq.key
  have hdet := hq.det
  refine enter Try.func18 rfl Try.ntmps18 rfl ?_
  have hS := St.refl w []
  refine c_seq ?_
  refine c_region ?_
  refine wl_exv (x_box hS (v := .agg _) rfl rfl) rfl ?_
  rintro _ w1 ⟨b2, rfl, hS2⟩
  refine wl_exv (x_box hS2 (v := .agg _) rfl rfl) rfl ?_
  rintro _ w3 ⟨b3, rfl, hS4⟩
  refine wl_val (r_assign (v := .bool false) rfl) rfl ?_
  refine wl_nil ?_
  refine c_then ?_
  refine c_seq ?_
  refine c_seq ?_
  refine c_region ?_
  refine wl_val (r_field fa37_1 rfl) rfl ?_
  refine wl_val (r_loadB1 ti30.und rfl rfl (hS4.heap (.tail _ (.head _))) rfl) rfl ?_
  refine wl_val (r_len (T := 30) rfl ti30.und rfl _ rfl) rfl ?_
  refine wl_dec (r_gtr rfl rfl) rfl (fun h1_3 => ?_) (fun h1_3 => ?_)
  · refine wl_val (r_move (v := .bool _) rfl) rfl ?_
    refine wl_val (r_field fa37_1 rfl) rfl ?_
    refine wl_val (r_loadB1 ti30.und rfl rfl (hS4.heap (.tail _ (.head _))) rfl) rfl ?_
    refine wl_val (r_makeFunc rfl) rfl ?_
    refine wl_call (r_call fn37 rfl rfl) rfl (containsFuncS_ok r.ro r.ra r.ro.length r.rc 55 [pt b3 0] (fun s => decide (s ∈ q.ro)) _ (h1.st hS4) rfl hk.rn fn55 (fun x w' hx h => rmeets1_ok x q b3 w' ((at_all (hS4.heap (.head _))).st h) hac ((hr.st hS4).st h) hq.rn)) ?_
    rintro _ w5 (⟨hc1, rfl, hx6⟩ | ⟨hc1, rfl, hx6⟩)
    · have hS7 := hS4.ext hx6
      refine wl_val (r_not rfl) rfl ?_
      refine wl_val (r_pick_t rfl (v := .bool _) rfl) rfl ?_
      refine wl_nil ?_
      refine c_then ?_
      refine c_false rfl ?_
      refine wp_skip ?_
      refine c_then ?_
      refine c_seq ?_
      refine c_seq ?_
      refine c_region ?_
      refine wl_val (r_field fa37_2 rfl) rfl ?_
      refine wl_val (r_loadB1 ti35.und rfl rfl (hS7.heap (.tail _ (.head _))) rfl) rfl ?_
      refine wl_val (r_len (T := 35) rfl ti35.und rfl _ rfl) rfl ?_
      refine wl_dec (r_gtr rfl rfl) rfl (fun h3_3 => ?_) (fun h3_3 => ?_)
      · refine wl_val (r_move (v := .bool _) rfl) rfl ?_
        refine wl_val (r_field fa37_2 rfl) rfl ?_
        refine wl_val (r_loadB1 ti35.und rfl rfl (hS7.heap (.tail _ (.head _))) rfl) rfl ?_
        refine wl_val (r_field fa34_2 rfl) rfl ?_
        refine wl_val (r_loadB1 ti3.und rfl rfl (hS7.heap (.head _)) (ask_act hac)) rfl ?_
        refine wl_call (r_call fn57 rfl rfl) rfl (containsI_ok r.acs r.aa r.acs.length r.ak q.act _ (h2.st hS7) rfl hk.an) ?_
        rintro _ w8 (⟨hc2, rfl, hx9⟩ | ⟨hc2, rfl, hx9⟩)
        · have hS10 := hS7.ext hx9
          refine wl_val (r_not rfl) rfl ?_
          refine wl_val (r_pick_t rfl (v := .bool _) rfl) rfl ?_
          refine wl_nil ?_
          refine c_then ?_
          refine c_false rfl ?_
          refine wp_skip ?_
          refine c_then ?_
          refine c_seq ?_
          refine c_seq ?_
          refine c_region ?_
          refine wl_val (r_field fa37_3 rfl) rfl ?_
          refine wl_val (r_loadB1 ti30.und rfl rfl (hS10.heap (.tail _ (.head _))) rfl) rfl ?_
          refine wl_val (r_len (T := 30) rfl ti30.und rfl _ rfl) rfl ?_
          refine wl_dec (r_gtr rfl rfl) rfl (fun h5_3 => ?_) (fun h5_3 => ?_)
          · refine wl_val (r_move (v := .bool _) rfl) rfl ?_
            refine wl_val (r_field fa37_3 rfl) rfl ?_
            refine wl_val (r_loadB1 ti30.und rfl rfl (hS10.heap (.tail _ (.head _))) rfl) rfl ?_
            refine wl_val (r_makeFunc rfl) rfl ?_
            refine wl_call (r_call fn37 rfl rfl) rfl (containsFuncS_ok r.las r.la r.las.length r.lc 58 [pt b3 0] (fun s => (decide (¬ q.lab = []) || decide (s = [42])) && fitsE s q.lab) _ (h3.st hS10) rfl hk.ln fn58 (fun x w' hx h => rmeets2_ok x q b3 w' ((at_all (hS10.heap (.head _))).st h) hac (hk.ll x hx) hq.ll)) ?_
            rintro _ w11 (⟨hc3, rfl, hx12⟩ | ⟨hc3, rfl, hx12⟩)
            · have hS13 := hS10.ext hx12
              rw [any_pat (ruleE_fr he).2] at hc3
              refine wl_val (r_not rfl) rfl ?_
              refine wl_val (r_pick_t rfl (v := .bool _) rfl) rfl ?_
              refine wl_nil ?_
              refine c_then ?_
              refine c_false rfl ?_
              refine wp_skip ?_
              refine c_then ?_
              refine c_seq ?_
              refine c_region ?_
              refine wl_val (r_field fa34_5 rfl) rfl ?_
              refine wl_val (r_loadB1 ti3.und rfl rfl (hS13.heap (.head _)) (ask_tmN hac hkey ht0)) rfl ?_
              refine wl_val (r_remn (b := 86400) rfl rfl (by omega)) rfl ?_
              refine wl_val (r_quon (b := 3600) rfl rfl (by omega) (by omega)) rfl ?_
              refine wl_val (r_assign (v := .int .i64 _) rfl) rfl ?_
              refine wl_nil ?_
              refine c_then ?_
              refine c_seq ?_
              refine c_block ?_
              refine c_seq ?_
              refine c_region ?_
              refine wl_val (r_field fa37_4 rfl) rfl ?_
              refine wl_val (r_loadB1 ti3.und rfl rfl (hS13.heap (.tail _ (.head _))) rfl) rfl ?_
              refine wl_dec (r_eql rfl rfl) rfl (fun h8_2 => ?_) (fun h8_2 => ?_)
              · refine wl_val (r_move (v := .bool _) rfl) rfl ?_
                refine wl_val (r_field fa37_5 rfl) rfl ?_
                refine wl_val (r_loadB1 ti3.und rfl rfl (hS13.heap (.tail _ (.head _))) rfl) rfl ?_
                refine wl_dec (r_eql rfl rfl) rfl (fun h8_6 => ?_) (fun h8_6 => ?_)
                · refine wl_val (r_pick_t rfl (v := .bool _) rfl) rfl ?_
                  refine wl_val (r_assign (v := .bool _) rfl) rfl ?_
                  refine wl_nil ?_
                  refine c_then ?_
                  refine c_true rfl ?_
                  refine c_seq ?_
                  refine c_region ?_
                  refine wl_val (r_assign (v := .bool true) rfl) rfl ?_
                  refine wl_nil ?_
                  refine c_then ?_
                  refine wp_ret ?_
                  refine c_inR ?_
                  refine c_thenR ?_
                  refine ret1 Try.results18 ?_
                  first | exact ⟨congrArg Value.bool (meet_n1 (by omega) hc1).symm, hS13.fin⟩ | exact ⟨congrArg Value.bool (meet_n2 (by omega) hc2).symm, hS13.fin⟩ | exact ⟨congrArg Value.bool (meet_n3 (by omega) hc3).symm, hS13.fin⟩ | skip
                  all_goals (refine ⟨congrArg Value.bool ?_, hS13.fin⟩; rw [(meet_y (by first | exact .inl (by omega) | exact .inr hc1) (by first | exact .inl (by omega) | exact .inr hc2) (by first | exact .inl (by omega) | exact .inr hc3) (h := ((q.tm.toNat % 86400 / 3600 : Nat) : Int)) (by omega)), ← hour_eq he])
                  all_goals first | (rw [if_pos (by omega)]; done) | (rw [if_neg (by omega), if_pos h10_4]; (first | exact (decide_eq_true (by omega)).symm | exact (decide_eq_false (by omega)).symm)) | (rw [if_neg (by omega), if_neg h10_4]; (first | exact (decide_eq_true (by omega)).symm | exact (decide_eq_false (by omega)).symm))
                refine wl_val (r_pick_t rfl (v := .bool _) rfl) rfl ?_
                refine wl_val (r_assign (v := .bool _) rfl) rfl ?_
                refine wl_nil ?_
                refine c_then ?_
                refine c_false rfl ?_
                refine c_seq ?_
                refine c_region ?_
                refine wl_val (r_field fa37_4 rfl) rfl ?_
                refine wl_val (r_loadB1 ti3.und rfl rfl (hS13.heap (.tail _ (.head _))) rfl) rfl ?_
                refine wl_val (r_field fa37_5 rfl) rfl ?_
                refine wl_val (r_loadB1 ti3.und rfl rfl (hS13.heap (.tail _ (.head _))) rfl) rfl ?_
                refine wl_dec (r_lss rfl rfl) rfl (fun h10_4 => ?_) (fun h10_4 => ?_)
                · refine wl_val (r_assign (v := .bool _) rfl) rfl ?_
                  refine wl_nil ?_
                  refine c_then ?_
                  refine c_true rfl ?_
                  refine c_seq ?_
                  refine c_region ?_
                  refine wl_val (r_field fa37_4 rfl) rfl ?_
                  refine wl_val (r_loadB1 ti3.und rfl rfl (hS13.heap (.tail _ (.head _))) rfl) rfl ?_
                  refine wl_val (r_move (v := .int .i64 _) rfl) rfl ?_
                  refine wl_dec (r_leq rfl rfl) rfl (fun h11_3 => ?_) (fun h11_3 => ?_)
                  · refine wl_val (r_move (v := .bool _) rfl) rfl ?_
                    refine wl_val (r_move (v := .int .i64 _) rfl) rfl ?_
                    refine wl_val (r_field fa37_5 rfl) rfl ?_
                    refine wl_val (r_loadB1 ti3.und rfl rfl (hS13.heap (.tail _ (.head _))) rfl) rfl ?_
                    refine wl_dec (r_lss rfl rfl) rfl (fun h11_8 => ?_) (fun h11_8 => ?_)
                    · refine wl_val (r_pick_t rfl (v := .bool _) rfl) rfl ?_
                      refine wl_val (r_assign (v := .bool _) rfl) rfl ?_
                      refine wl_nil ?_
                      refine c_then ?_
                      refine wp_ret ?_
                      refine c_inR ?_
                      refine c_thenR ?_
                      refine ret1 Try.results18 ?_
                      first | exact ⟨congrArg Value.bool (meet_n1 (by omega) hc1).symm, hS13.fin⟩ | exact ⟨congrArg Value.bool (meet_n2 (by omega) hc2).symm, hS13.fin⟩ | exact ⟨congrArg Value.bool (meet_n3 (by omega) hc3).symm, hS13.fin⟩ | skip
                      all_goals (refine ⟨congrArg Value.bool ?_, hS13.fin⟩; rw [(meet_y (by first | exact .inl (by omega) | exact .inr hc1) (by first | exact .inl (by omega) | exact .inr hc2) (by first | exact .inl (by omega) | exact .inr hc3) (h := ((q.tm.toNat % 86400 / 3600 : Nat) : Int)) (by omega)), ← hour_eq he])
                      all_goals first | (rw [if_pos (by omega)]; done) | (rw [if_neg (by omega), if_pos h10_4]; (first | exact (decide_eq_true (by omega)).symm | exact (decide_eq_false (by omega)).symm)) | (rw [if_neg (by omega), if_neg h10_4]; (first | exact (decide_eq_true (by omega)).symm | exact (decide_eq_false (by omega)).symm))
                    refine wl_val (r_pick_t rfl (v := .bool _) rfl) rfl ?_
                    refine wl_val (r_assign (v := .bool _) rfl) rfl ?_
                    refine wl_nil ?_
                    refine c_then ?_
                    refine wp_ret ?_
                    refine c_inR ?_
                    refine c_thenR ?_
                    refine ret1 Try.results18 ?_
                    first | exact ⟨congrArg Value.bool (meet_n1 (by omega) hc1).symm, hS13.fin⟩ | exact ⟨congrArg Value.bool (meet_n2 (by omega) hc2).symm, hS13.fin⟩ | exact ⟨congrArg Value.bool (meet_n3 (by omega) hc3).symm, hS13.fin⟩ | skip
                    all_goals (refine ⟨congrArg Value.bool ?_, hS13.fin⟩; rw [(meet_y (by first | exact .inl (by omega) | exact .inr hc1) (by first | exact .inl (by omega) | exact .inr hc2) (by first | exact .inl (by omega) | exact .inr hc3) (h := ((q.tm.toNat % 86400 / 3600 : Nat) : Int)) (by omega)), ← hour_eq he])
                    all_goals first | (rw [if_pos (by omega)]; done) | (rw [if_neg (by omega), if_pos h10_4]; (first | exact (decide_eq_true (by omega)).symm | exact (decide_eq_false (by omega)).symm)) | (rw [if_neg (by omega), if_neg h10_4]; (first | exact (decide_eq_true (by omega)).symm | exact (decide_eq_false (by omega)).symm))
                  refine wl_val (r_move (v := .bool _) rfl) rfl ?_
                  refine wl_not rfl ?_
                  refine wl_not rfl ?_
                  refine wl_not rfl ?_
                  refine wl_not rfl ?_
                  refine wl_val (r_pick_f rfl (v := .bool false) rfl) rfl ?_
                  refine wl_val (r_assign (v := .bool _) rfl) rfl ?_
                  refine wl_nil ?_
                  refine c_then ?_
                  refine wp_ret ?_
                  refine c_inR ?_
                  refine c_thenR ?_
                  refine ret1 Try.results18 ?_
                  first | exact ⟨congrArg Value.bool (meet_n1 (by omega) hc1).symm, hS13.fin⟩ | exact ⟨congrArg Value.bool (meet_n2 (by omega) hc2).symm, hS13.fin⟩ | exact ⟨congrArg Value.bool (meet_n3 (by omega) hc3).symm, hS13.fin⟩ | skip
                  all_goals (refine ⟨congrArg Value.bool ?_, hS13.fin⟩; rw [(meet_y (by first | exact .inl (by omega) | exact .inr hc1) (by first | exact .inl (by omega) | exact .inr hc2) (by first | exact .inl (by omega) | exact .inr hc3) (h := ((q.tm.toNat % 86400 / 3600 : Nat) : Int)) (by omega)), ← hour_eq he])
                  all_goals first | (rw [if_pos (by omega)]; done) | (rw [if_neg (by omega), if_pos h10_4]; (first | exact (decide_eq_true (by omega)).symm | exact (decide_eq_false (by omega)).symm)) | (rw [if_neg (by omega), if_neg h10_4]; (first | exact (decide_eq_true (by omega)).symm | exact (decide_eq_false (by omega)).symm))
                refine wl_val (r_assign (v := .bool _) rfl) rfl ?_
                refine wl_nil ?_
                refine c_then ?_
                refine c_false rfl ?_
                refine wp_skip ?_
                refine c_inN ?_
                refine c_then ?_
                refine c_seq ?_
                refine c_region ?_
                refine wl_val (r_move (v := .int .i64 _) rfl) rfl ?_
                refine wl_val (r_field fa37_4 rfl) rfl ?_
                refine wl_val (r_loadB1 ti3.und rfl rfl (hS13.heap (.tail _ (.head _))) rfl) rfl ?_
                refine wl_dec (r_geq rfl rfl) rfl (fun h12_3 => ?_) (fun h12_3 => ?_)
                · refine wl_val (r_move (v := .bool _) rfl) rfl ?_
                  refine wl_not rfl ?_
                  refine wl_not rfl ?_
                  refine wl_not rfl ?_
                  refine wl_not rfl ?_
                  refine wl_val (r_pick_t rfl (v := .bool true) rfl) rfl ?_
                  refine wl_val (r_assign (v := .bool _) rfl) rfl ?_
                  refine wl_nil ?_
                  refine c_then ?_
                  refine wp_ret ?_
                  refine ret1 Try.results18 ?_
                  first | exact ⟨congrArg Value.bool (meet_n1 (by omega) hc1).symm, hS13.fin⟩ | exact ⟨congrArg Value.bool (meet_n2 (by omega) hc2).symm, hS13.fin⟩ | exact ⟨congrArg Value.bool (meet_n3 (by omega) hc3).symm, hS13.fin⟩ | skip
                  all_goals (refine ⟨congrArg Value.bool ?_, hS13.fin⟩; rw [(meet_y (by first | exact .inl (by omega) | exact .inr hc1) (by first | exact .inl (by omega) | exact .inr hc2) (by first | exact .inl (by omega) | exact .inr hc3) (h := ((q.tm.toNat % 86400 / 3600 : Nat) : Int)) (by omega)), ← hour_eq he])
                  all_goals first | (rw [if_pos (by omega)]; done) | (rw [if_neg (by omega), if_pos h10_4]; (first | exact (decide_eq_true (by omega)).symm | exact (decide_eq_false (by omega)).symm)) | (rw [if_neg (by omega), if_neg h10_4]; (first | exact (decide_eq_true (by omega)).symm | exact (decide_eq_false (by omega)).symm))
                refine wl_val (r_move (v := .bool _) rfl) rfl ?_
                refine wl_val (r_move (v := .int .i64 _) rfl) rfl ?_
                refine wl_val (r_field fa37_5 rfl) rfl ?_
                refine wl_val (r_loadB1 ti3.und rfl rfl (hS13.heap (.tail _ (.head _))) rfl) rfl ?_
                refine wl_dec (r_lss rfl rfl) rfl (fun h12_8 => ?_) (fun h12_8 => ?_)
                · refine wl_val (r_pick_f rfl (v := .bool _) rfl) rfl ?_
                  refine wl_val (r_assign (v := .bool _) rfl) rfl ?_
                  refine wl_nil ?_
                  refine c_then ?_
                  refine wp_ret ?_
                  refine ret1 Try.results18 ?_
                  first | exact ⟨congrArg Value.bool (meet_n1 (by omega) hc1).symm, hS13.fin⟩ | exact ⟨congrArg Value.bool (meet_n2 (by omega) hc2).symm, hS13.fin⟩ | exact ⟨congrArg Value.bool (meet_n3 (by omega) hc3).symm, hS13.fin⟩ | skip
                  all_goals (refine ⟨congrArg Value.bool ?_, hS13.fin⟩; rw [(meet_y (by first | exact .inl (by omega) | exact .inr hc1) (by first | exact .inl (by omega) | exact .inr hc2) (by first | exact .inl (by omega) | exact .inr hc3) (h := ((q.tm.toNat % 86400 / 3600 : Nat) : Int)) (by omega)), ← hour_eq he])
                  all_goals first | (rw [if_pos (by omega)]; done) | (rw [if_neg (by omega), if_pos h10_4]; (first | exact (decide_eq_true (by omega)).symm | exact (decide_eq_false (by omega)).symm)) | (rw [if_neg (by omega), if_neg h10_4]; (first | exact (decide_eq_true (by omega)).symm | exact (decide_eq_false (by omega)).symm))
                refine wl_val (r_pick_f rfl (v := .bool _) rfl) rfl ?_
                refine wl_val (r_assign (v := .bool _) rfl) rfl ?_
                refine wl_nil ?_
                refine c_then ?_
                refine wp_ret ?_
                refine ret1 Try.results18 ?_
                first | exact ⟨congrArg Value.bool (meet_n1 (by omega) hc1).symm, hS13.fin⟩ | exact ⟨congrArg Value.bool (meet_n2 (by omega) hc2).symm, hS13.fin⟩ | exact ⟨congrArg Value.bool (meet_n3 (by omega) hc3).symm, hS13.fin⟩ | skip
                all_goals (refine ⟨congrArg Value.bool ?_, hS13.fin⟩; rw [(meet_y (by first | exact .inl (by omega) | exact .inr hc1) (by first | exact .inl (by omega) | exact .inr hc2) (by first | exact .inl (by omega) | exact .inr hc3) (h := ((q.tm.toNat % 86400 / 3600 : Nat) : Int)) (by omega)), ← hour_eq he])
                all_goals first | (rw [if_pos (by omega)]; done) | (rw [if_neg (by omega), if_pos h10_4]; (first | exact (decide_eq_true (by omega)).symm | exact (decide_eq_false (by omega)).symm)) | (rw [if_neg (by omega), if_neg h10_4]; (first | exact (decide_eq_true (by omega)).symm | exact (decide_eq_false (by omega)).symm))
              refine wl_val (r_move (v := .bool _) rfl) rfl ?_
              refine wl_not rfl ?_
              refine wl_not rfl ?_
              refine wl_not rfl ?_
              refine wl_val (r_pick_f rfl (v := .bool false) rfl) rfl ?_
              refine wl_val (r_assign (v := .bool _) rfl) rfl ?_
              refine wl_nil ?_
              refine c_then ?_
              refine c_false rfl ?_
              refine c_seq ?_
              refine c_region ?_
              refine wl_val (r_field fa37_4 rfl) rfl ?_
              refine wl_val (r_loadB1 ti3.und rfl rfl (hS13.heap (.tail _ (.head _))) rfl) rfl ?_
              refine wl_val (r_field fa37_5 rfl) rfl ?_
              refine wl_val (r_loadB1 ti3.und rfl rfl (hS13.heap (.tail _ (.head _))) rfl) rfl ?_
              refine wl_dec (r_lss rfl rfl) rfl (fun h10_4 => ?_) (fun h10_4 => ?_)
              · refine wl_val (r_assign (v := .bool _) rfl) rfl ?_
                refine wl_nil ?_
                refine c_then ?_
                refine c_true rfl ?_
                refine c_seq ?_
                refine c_region ?_
                refine wl_val (r_field fa37_4 rfl) rfl ?_
                refine wl_val (r_loadB1 ti3.und rfl rfl (hS13.heap (.tail _ (.head _))) rfl) rfl ?_
                refine wl_val (r_move (v := .int .i64 _) rfl) rfl ?_
                refine wl_dec (r_leq rfl rfl) rfl (fun h11_3 => ?_) (fun h11_3 => ?_)
                · refine wl_val (r_move (v := .bool _) rfl) rfl ?_
                  refine wl_val (r_move (v := .int .i64 _) rfl) rfl ?_
                  refine wl_val (r_field fa37_5 rfl) rfl ?_
                  refine wl_val (r_loadB1 ti3.und rfl rfl (hS13.heap (.tail _ (.head _))) rfl) rfl ?_
                  refine wl_dec (r_lss rfl rfl) rfl (fun h11_8 => ?_) (fun h11_8 => ?_)
                  · refine wl_val (r_pick_t rfl (v := .bool _) rfl) rfl ?_
                    refine wl_val (r_assign (v := .bool _) rfl) rfl ?_
                    refine wl_nil ?_
                    refine c_then ?_
                    refine wp_ret ?_
                    refine c_inR ?_
                    refine c_thenR ?_
                    refine ret1 Try.results18 ?_
                    first | exact ⟨congrArg Value.bool (meet_n1 (by omega) hc1).symm, hS13.fin⟩ | exact ⟨congrArg Value.bool (meet_n2 (by omega) hc2).symm, hS13.fin⟩ | exact ⟨congrArg Value.bool (meet_n3 (by omega) hc3).symm, hS13.fin⟩ | skip
                    all_goals (refine ⟨congrArg Value.bool ?_, hS13.fin⟩; rw [(meet_y (by first | exact .inl (by omega) | exact .inr hc1) (by first | exact .inl (by omega) | exact .inr hc2) (by first | exact .inl (by omega) | exact .inr hc3) (h := ((q.tm.toNat % 86400 / 3600 : Nat) : Int)) (by omega)), ← hour_eq he])
                    all_goals first | (rw [if_pos (by omega)]; done) | (rw [if_neg (by omega), if_pos h10_4]; (first | exact (decide_eq_true (by omega)).symm | exact (decide_eq_false (by omega)).symm)) | (rw [if_neg (by omega), if_neg h10_4]; (first | exact (decide_eq_true (by omega)).symm | exact (decide_eq_false (by omega)).symm))
                  refine wl_val (r_pick_t rfl (v := .bool _) rfl) rfl ?_
                  refine wl_val (r_assign (v := .bool _) rfl) rfl ?_
                  refine wl_nil ?_
                  refine c_then ?_
                  refine wp_ret ?_
                  refine c_inR ?_
                  refine c_thenR ?_
                  refine ret1 Try.results18 ?_
                  first | exact ⟨congrArg Value.bool (meet_n1 (by omega) hc1).symm, hS13.fin⟩ | exact ⟨congrArg Value.bool (meet_n2 (by omega) hc2).symm, hS13.fin⟩ | exact ⟨congrArg Value.bool (meet_n3 (by omega) hc3).symm, hS13.fin⟩ | skip
                  all_goals (refine ⟨congrArg Value.bool ?_, hS13.fin⟩; rw [(meet_y (by first | exact .inl (by omega) | exact .inr hc1) (by first | exact .inl (by omega) | exact .inr hc2) (by first | exact .inl (by omega) | exact .inr hc3) (h := ((q.tm.toNat % 86400 / 3600 : Nat) : Int)) (by omega)), ← hour_eq he])
                  all_goals first | (rw [if_pos (by omega)]; done) | (rw [if_neg (by omega), if_pos h10_4]; (first | exact (decide_eq_true (by omega)).symm | exact (decide_eq_false (by omega)).symm)) | (rw [if_neg (by omega), if_neg h10_4]; (first | exact (decide_eq_true (by omega)).symm | exact (decide_eq_false (by omega)).symm))
                refine wl_val (r_move (v := .bool _) rfl) rfl ?_
                refine wl_not rfl ?_
                refine wl_not rfl ?_
                refine wl_not rfl ?_
                refine wl_not rfl ?_
                refine wl_val (r_pick_f rfl (v := .bool false) rfl) rfl ?_
                refine wl_val (r_assign (v := .bool _) rfl) rfl ?_
                refine wl_nil ?_
                refine c_then ?_
                refine wp_ret ?_
                refine c_inR ?_
                refine c_thenR ?_
                refine ret1 Try.results18 ?_
                first | exact ⟨congrArg Value.bool (meet_n1 (by omega) hc1).symm, hS13.fin⟩ | exact ⟨congrArg Value.bool (meet_n2 (by omega) hc2).symm, hS13.fin⟩ | exact ⟨congrArg Value.bool (meet_n3 (by omega) hc3).symm, hS13.fin⟩ | skip
                all_goals (refine ⟨congrArg Value.bool ?_, hS13.fin⟩; rw [(meet_y (by first | exact .inl (by omega) | exact .inr hc1) (by first | exact .inl (by omega) | exact .inr hc2) (by first | exact .inl (by omega) | exact .inr hc3) (h := ((q.tm.toNat % 86400 / 3600 : Nat) : Int)) (by omega)), ← hour_eq he])
                all_goals first | (rw [if_pos (by omega)]; done) | (rw [if_neg (by omega), if_pos h10_4]; (first | exact (decide_eq_true (by omega)).symm | exact (decide_eq_false (by omega)).symm)) | (rw [if_neg (by omega), if_neg h10_4]; (first | exact (decide_eq_true (by omega)).symm | exact (decide_eq_false (by omega)).symm))
              refine wl_val (r_assign (v := .bool _) rfl) rfl ?_
              refine wl_nil ?_
              refine c_then ?_
              refine c_false rfl ?_
              refine wp_skip ?_
              refine c_inN ?_
              refine c_then ?_
              refine c_seq ?_
              refine c_region ?_
              refine wl_val (r_move (v := .int .i64 _) rfl) rfl ?_
              refine wl_val (r_field fa37_4 rfl) rfl ?_
              refine wl_val (r_loadB1 ti3.und rfl rfl (hS13.heap (.tail _ (.head _))) rfl) rfl ?_
              refine wl_dec (r_geq rfl rfl) rfl (fun h12_3 => ?_) (fun h12_3 => ?_)
              · refine wl_val (r_move (v := .bool _) rfl) rfl ?_
                refine wl_not rfl ?_
                refine wl_not rfl ?_
                refine wl_not rfl ?_
                refine wl_not rfl ?_
                refine wl_val (r_pick_t rfl (v := .bool true) rfl) rfl ?_
                refine wl_val (r_assign (v := .bool _) rfl) rfl ?_
                refine wl_nil ?_
                refine c_then ?_
                refine wp_ret ?_
                refine ret1 Try.results18 ?_
                first | exact ⟨congrArg Value.bool (meet_n1 (by omega) hc1).symm, hS13.fin⟩ | exact ⟨congrArg Value.bool (meet_n2 (by omega) hc2).symm, hS13.fin⟩ | exact ⟨congrArg Value.bool (meet_n3 (by omega) hc3).symm, hS13.fin⟩ | skip
                all_goals (refine ⟨congrArg Value.bool ?_, hS13.fin⟩; rw [(meet_y (by first | exact .inl (by omega) | exact .inr hc1) (by first | exact .inl (by omega) | exact .inr hc2) (by first | exact .inl (by omega) | exact .inr hc3) (h := ((q.tm.toNat % 86400 / 3600 : Nat) : Int)) (by omega)), ← hour_eq he])
                all_goals first | (rw [if_pos (by omega)]; done) | (rw [if_neg (by omega), if_pos h10_4]; (first | exact (decide_eq_true (by omega)).symm | exact (decide_eq_false (by omega)).symm)) | (rw [if_neg (by omega), if_neg h10_4]; (first | exact (decide_eq_true (by omega)).symm | exact (decide_eq_false (by omega)).symm))
              refine wl_val (r_move (v := .bool _) rfl) rfl ?_
              refine wl_val (r_move (v := .int .i64 _) rfl) rfl ?_
              refine wl_val (r_field fa37_5 rfl) rfl ?_
              refine wl_val (r_loadB1 ti3.und rfl rfl (hS13.heap (.tail _ (.head _))) rfl) rfl ?_
              refine wl_dec (r_lss rfl rfl) rfl (fun h12_8 => ?_) (fun h12_8 => ?_)
              · refine wl_val (r_pick_f rfl (v := .bool _) rfl) rfl ?_
                refine wl_val (r_assign (v := .bool _) rfl) rfl ?_
                refine wl_nil ?_
                refine c_then ?_
                refine wp_ret ?_
                refine ret1 Try.results18 ?_
                first | exact ⟨congrArg Value.bool (meet_n1 (by omega) hc1).symm, hS13.fin⟩ | exact ⟨congrArg Value.bool (meet_n2 (by omega) hc2).symm, hS13.fin⟩ | exact ⟨congrArg Value.bool (meet_n3 (by omega) hc3).symm, hS13.fin⟩ | skip
                all_goals (refine ⟨congrArg Value.bool ?_, hS13.fin⟩; rw [(meet_y (by first | exact .inl (by omega) | exact .inr hc1) (by first | exact .inl (by omega) | exact .inr hc2) (by first | exact .inl (by omega) | exact .inr hc3) (h := ((q.tm.toNat % 86400 / 3600 : Nat) : Int)) (by omega)), ← hour_eq he])
                all_goals first | (rw [if_pos (by omega)]; done) | (rw [if_neg (by omega), if_pos h10_4]; (first | exact (decide_eq_true (by omega)).symm | exact (decide_eq_false (by omega)).symm)) | (rw [if_neg (by omega), if_neg h10_4]; (first | exact (decide_eq_true (by omega)).symm | exact (decide_eq_false (by omega)).symm))
              refine wl_val (r_pick_f rfl (v := .bool _) rfl) rfl ?_
              refine wl_val (r_assign (v := .bool _) rfl) rfl ?_
              refine wl_nil ?_
              refine c_then ?_
              refine wp_ret ?_
              refine ret1 Try.results18 ?_
              first | exact ⟨congrArg Value.bool (meet_n1 (by omega) hc1).symm, hS13.fin⟩ | exact ⟨congrArg Value.bool (meet_n2 (by omega) hc2).symm, hS13.fin⟩ | exact ⟨congrArg Value.bool (meet_n3 (by omega) hc3).symm, hS13.fin⟩ | skip
              all_goals (refine ⟨congrArg Value.bool ?_, hS13.fin⟩; rw [(meet_y (by first | exact .inl (by omega) | exact .inr hc1) (by first | exact .inl (by omega) | exact .inr hc2) (by first | exact .inl (by omega) | exact .inr hc3) (h := ((q.tm.toNat % 86400 / 3600 : Nat) : Int)) (by omega)), ← hour_eq he])
              all_goals first | (rw [if_pos (by omega)]; done) | (rw [if_neg (by omega), if_pos h10_4]; (first | exact (decide_eq_true (by omega)).symm | exact (decide_eq_false (by omega)).symm)) | (rw [if_neg (by omega), if_neg h10_4]; (first | exact (decide_eq_true (by omega)).symm | exact (decide_eq_false (by omega)).symm))
            have hS13 := hS10.ext hx12
            rw [any_pat (ruleE_fr he).2] at hc3
            refine wl_val (r_not rfl) rfl ?_
            refine wl_val (r_pick_t rfl (v := .bool _) rfl) rfl ?_
            refine wl_nil ?_
            refine c_then ?_
            refine c_true rfl ?_
            refine c_seq ?_
            refine c_region ?_
            refine wl_val (r_assign (v := .bool false) rfl) rfl ?_
            refine wl_nil ?_
            refine c_then ?_
            refine wp_ret ?_
            refine c_thenR ?_
            refine ret1 Try.results18 ?_
            first | exact ⟨congrArg Value.bool (meet_n1 (by omega) hc1).symm, hS13.fin⟩ | exact ⟨congrArg Value.bool (meet_n2 (by omega) hc2).symm, hS13.fin⟩ | exact ⟨congrArg Value.bool (meet_n3 (by omega) hc3).symm, hS13.fin⟩ | skip
            all_goals (refine ⟨congrArg Value.bool ?_, hS13.fin⟩; rw [(meet_y (by first | exact .inl (by omega) | exact .inr hc1) (by first | exact .inl (by omega) | exact .inr hc2) (by first | exact .inl (by omega) | exact .inr hc3) (h := ((q.tm.toNat % 86400 / 3600 : Nat) : Int)) (by omega)), ← hour_eq he])
            all_goals first | (rw [if_pos (by omega)]; done) | (rw [if_neg (by omega), if_pos h10_4]; (first | exact (decide_eq_true (by omega)).symm | exact (decide_eq_false (by omega)).symm)) | (rw [if_neg (by omega), if_neg h10_4]; (first | exact (decide_eq_true (by omega)).symm | exact (decide_eq_false (by omega)).symm))
          refine wl_val (r_move (v := .bool _) rfl) rfl ?_
          refine wl_not rfl ?_
          refine wl_not rfl ?_
          refine wl_not rfl ?_
          refine wl_not rfl ?_
          refine wl_not rfl ?_
          refine wl_val (r_pick_f rfl (v := .bool false) rfl) rfl ?_
          refine wl_nil ?_
          refine c_then ?_
          refine c_false rfl ?_
          refine wp_skip ?_
          refine c_then ?_
          refine c_seq ?_
          refine c_region ?_
          refine wl_val (r_field fa34_5 rfl) rfl ?_
          refine wl_val (r_loadB1 ti3.und rfl rfl (hS10.heap (.head _)) (ask_tmN hac hkey ht0)) rfl ?_
          refine wl_val (r_remn (b := 86400) rfl rfl (by omega)) rfl ?_
          refine wl_val (r_quon (b := 3600) rfl rfl (by omega) (by omega)) rfl ?_
          refine wl_val (r_assign (v := .int .i64 _) rfl) rfl ?_
          refine wl_nil ?_
          refine c_then ?_
          refine c_seq ?_
          refine c_block ?_
          refine c_seq ?_
          refine c_region ?_
          refine wl_val (r_field fa37_4 rfl) rfl ?_
          refine wl_val (r_loadB1 ti3.und rfl rfl (hS10.heap (.tail _ (.head _))) rfl) rfl ?_
          refine wl_dec (r_eql rfl rfl) rfl (fun h8_2 => ?_) (fun h8_2 => ?_)
          · refine wl_val (r_move (v := .bool _) rfl) rfl ?_
            refine wl_val (r_field fa37_5 rfl) rfl ?_
            refine wl_val (r_loadB1 ti3.und rfl rfl (hS10.heap (.tail _ (.head _))) rfl) rfl ?_
            refine wl_dec (r_eql rfl rfl) rfl (fun h8_6 => ?_) (fun h8_6 => ?_)
            · refine wl_val (r_pick_t rfl (v := .bool _) rfl) rfl ?_
              refine wl_val (r_assign (v := .bool _) rfl) rfl ?_
              refine wl_nil ?_
              refine c_then ?_
              refine c_true rfl ?_
              refine c_seq ?_
              refine c_region ?_
              refine wl_val (r_assign (v := .bool true) rfl) rfl ?_
              refine wl_nil ?_
              refine c_then ?_
              refine wp_ret ?_
              refine c_inR ?_
              refine c_thenR ?_
              refine ret1 Try.results18 ?_
              first | exact ⟨congrArg Value.bool (meet_n1 (by omega) hc1).symm, hS10.fin⟩ | exact ⟨congrArg Value.bool (meet_n2 (by omega) hc2).symm, hS10.fin⟩ | exact ⟨congrArg Value.bool (meet_n3 (by omega) hc3).symm, hS10.fin⟩ | skip
              all_goals (refine ⟨congrArg Value.bool ?_, hS10.fin⟩; rw [(meet_y (by first | exact .inl (by omega) | exact .inr hc1) (by first | exact .inl (by omega) | exact .inr hc2) (by first | exact .inl (by omega) | exact .inr hc3) (h := ((q.tm.toNat % 86400 / 3600 : Nat) : Int)) (by omega)), ← hour_eq he])
              all_goals first | (rw [if_pos (by omega)]; done) | (rw [if_neg (by omega), if_pos h10_4]; (first | exact (decide_eq_true (by omega)).symm | exact (decide_eq_false (by omega)).symm)) | (rw [if_neg (by omega), if_neg h10_4]; (first | exact (decide_eq_true (by omega)).symm | exact (decide_eq_false (by omega)).symm))
            refine wl_val (r_pick_t rfl (v := .bool _) rfl) rfl ?_
            refine wl_val (r_assign (v := .bool _) rfl) rfl ?_
            refine wl_nil ?_
            refine c_then ?_
            refine c_false rfl ?_
            refine c_seq ?_
            refine c_region ?_
            refine wl_val (r_field fa37_4 rfl) rfl ?_
            refine wl_val (r_loadB1 ti3.und rfl rfl (hS10.heap (.tail _ (.head _))) rfl) rfl ?_
            refine wl_val (r_field fa37_5 rfl) rfl ?_
            refine wl_val (r_loadB1 ti3.und rfl rfl (hS10.heap (.tail _ (.head _))) rfl) rfl ?_
            refine wl_dec (r_lss rfl rfl) rfl (fun h10_4 => ?_) (fun h10_4 => ?_)
            · refine wl_val (r_assign (v := .bool _) rfl) rfl ?_
              refine wl_nil ?_
              refine c_then ?_
              refine c_true rfl ?_
              refine c_seq ?_
              refine c_region ?_
              refine wl_val (r_field fa37_4 rfl) rfl ?_
              refine wl_val (r_loadB1 ti3.und rfl rfl (hS10.heap (.tail _ (.head _))) rfl) rfl ?_
              refine wl_val (r_move (v := .int .i64 _) rfl) rfl ?_
              refine wl_dec (r_leq rfl rfl) rfl (fun h11_3 => ?_) (fun h11_3 => ?_)
              · refine wl_val (r_move (v := .bool _) rfl) rfl ?_
                refine wl_val (r_move (v := .int .i64 _) rfl) rfl ?_
                refine wl_val (r_field fa37_5 rfl) rfl ?_
                refine wl_val (r_loadB1 ti3.und rfl rfl (hS10.heap (.tail _ (.head _))) rfl) rfl ?_
                refine wl_dec (r_lss rfl rfl) rfl (fun h11_8 => ?_) (fun h11_8 => ?_)
                · refine wl_val (r_pick_t rfl (v := .bool _) rfl) rfl ?_
                  refine wl_val (r_assign (v := .bool _) rfl) rfl ?_
                  refine wl_nil ?_
                  refine c_then ?_
                  refine wp_ret ?_
                  refine c_inR ?_
                  refine c_thenR ?_
                  refine ret1 Try.results18 ?_
                  first | exact ⟨congrArg Value.bool (meet_n1 (by omega) hc1).symm, hS10.fin⟩ | exact ⟨congrArg Value.bool (meet_n2 (by omega) hc2).symm, hS10.fin⟩ | exact ⟨congrArg Value.bool (meet_n3 (by omega) hc3).symm, hS10.fin⟩ | skip
                  all_goals (refine ⟨congrArg Value.bool ?_, hS10.fin⟩; rw [(meet_y (by first | exact .inl (by omega) | exact .inr hc1) (by first | exact .inl (by omega) | exact .inr hc2) (by first | exact .inl (by omega) | exact .inr hc3) (h := ((q.tm.toNat % 86400 / 3600 : Nat) : Int)) (by omega)), ← hour_eq he])
                  all_goals first | (rw [if_pos (by omega)]; done) | (rw [if_neg (by omega), if_pos h10_4]; (first | exact (decide_eq_true (by omega)).symm | exact (decide_eq_false (by omega)).symm)) | (rw [if_neg (by omega), if_neg h10_4]; (first | exact (decide_eq_true (by omega)).symm | exact (decide_eq_false (by omega)).symm))
                refine wl_val (r_pick_t rfl (v := .bool _) rfl) rfl ?_
                refine wl_val (r_assign (v := .bool _) rfl) rfl ?_
                refine wl_nil ?_
                refine c_then ?_
                refine wp_ret ?_
                refine c_inR ?_
                refine c_thenR ?_
                refine ret1 Try.results18 ?_
                first | exact ⟨congrArg Value.bool (meet_n1 (by omega) hc1).symm, hS10.fin⟩ | exact ⟨congrArg Value.bool (meet_n2 (by omega) hc2).symm, hS10.fin⟩ | exact ⟨congrArg Value.bool (meet_n3 (by omega) hc3).symm, hS10.fin⟩ | skip
                all_goals (refine ⟨congrArg Value.bool ?_, hS10.fin⟩; rw [(meet_y (by first | exact .inl (by omega) | exact .inr hc1) (by first | exact .inl (by omega) | exact .inr hc2) (by first | exact .inl (by omega) | exact .inr hc3) (h := ((q.tm.toNat % 86400 / 3600 : Nat) : Int)) (by omega)), ← hour_eq he])
                all_goals first | (rw [if_pos (by omega)]; done) | (rw [if_neg (by omega), if_pos h10_4]; (first | exact (decide_eq_true (by omega)).symm | exact (decide_eq_false (by omega)).symm)) | (rw [if_neg (by omega), if_neg h10_4]; (first | exact (decide_eq_true (by omega)).symm | exact (decide_eq_false (by omega)).symm))
              refine wl_val (r_move (v := .bool _) rfl) rfl ?_
              refine wl_not rfl ?_
              refine wl_not rfl ?_
              refine wl_not rfl ?_
              refine wl_not rfl ?_
              refine wl_val (r_pick_f rfl (v := .bool false) rfl) rfl ?_
              refine wl_val (r_assign (v := .bool _) rfl) rfl ?_
              refine wl_nil ?_
              refine c_then ?_
              refine wp_ret ?_
              refine c_inR ?_
              refine c_thenR ?_
              refine ret1 Try.results18 ?_
              first | exact ⟨congrArg Value.bool (meet_n1 (by omega) hc1).symm, hS10.fin⟩ | exact ⟨congrArg Value.bool (meet_n2 (by omega) hc2).symm, hS10.fin⟩ | exact ⟨congrArg Value.bool (meet_n3 (by omega) hc3).symm, hS10.fin⟩ | skip
              all_goals (refine ⟨congrArg Value.bool ?_, hS10.fin⟩; rw [(meet_y (by first | exact .inl (by omega) | exact .inr hc1) (by first | exact .inl (by omega) | exact .inr hc2) (by first | exact .inl (by omega) | exact .inr hc3) (h := ((q.tm.toNat % 86400 / 3600 : Nat) : Int)) (by omega)), ← hour_eq he])
              all_goals first | (rw [if_pos (by omega)]; done) | (rw [if_neg (by omega), if_pos h10_4]; (first | exact (decide_eq_true (by omega)).symm | exact (decide_eq_false (by omega)).symm)) | (rw [if_neg (by omega), if_neg h10_4]; (first | exact (decide_eq_true (by omega)).symm | exact (decide_eq_false (by omega)).symm))
            refine wl_val (r_assign (v := .bool _) rfl) rfl ?_
            refine wl_nil ?_
            refine c_then ?_
            refine c_false rfl ?_
            refine wp_skip ?_
            refine c_inN ?_
            refine c_then ?_
            refine c_seq ?_
            refine c_region ?_
            refine wl_val (r_move (v := .int .i64 _) rfl) rfl ?_
            refine wl_val (r_field fa37_4 rfl) rfl ?_
            refine wl_val (r_loadB1 ti3.und rfl rfl (hS10.heap (.tail _ (.head _))) rfl) rfl ?_
            refine wl_dec (r_geq rfl rfl) rfl (fun h12_3 => ?_) (fun h12_3 => ?_)
            · refine wl_val (r_move (v := .bool _) rfl) rfl ?_
              refine wl_not rfl ?_
              refine wl_not rfl ?_
              refine wl_not rfl ?_
              refine wl_not rfl ?_
              refine wl_val (r_pick_t rfl (v := .bool true) rfl) rfl ?_
              refine wl_val (r_assign (v := .bool _) rfl) rfl ?_
              refine wl_nil ?_
              refine c_then ?_
              refine wp_ret ?_
              refine ret1 Try.results18 ?_
              first | exact ⟨congrArg Value.bool (meet_n1 (by omega) hc1).symm, hS10.fin⟩ | exact ⟨congrArg Value.bool (meet_n2 (by omega) hc2).symm, hS10.fin⟩ | exact ⟨congrArg Value.bool (meet_n3 (by omega) hc3).symm, hS10.fin⟩ | skip
              all_goals (refine ⟨congrArg Value.bool ?_, hS10.fin⟩; rw [(meet_y (by first | exact .inl (by omega) | exact .inr hc1) (by first | exact .inl (by omega) | exact .inr hc2) (by first | exact .inl (by omega) | exact .inr hc3) (h := ((q.tm.toNat % 86400 / 3600 : Nat) : Int)) (by omega)), ← hour_eq he])
              all_goals first | (rw [if_pos (by omega)]; done) | (rw [if_neg (by omega), if_pos h10_4]; (first | exact (decide_eq_true (by omega)).symm | exact (decide_eq_false (by omega)).symm)) | (rw [if_neg (by omega), if_neg h10_4]; (first | exact (decide_eq_true (by omega)).symm | exact (decide_eq_false (by omega)).symm))
            refine wl_val (r_move (v := .bool _) rfl) rfl ?_
            refine wl_val (r_move (v := .int .i64 _) rfl) rfl ?_
            refine wl_val (r_field fa37_5 rfl) rfl ?_
            refine wl_val (r_loadB1 ti3.und rfl rfl (hS10.heap (.tail _ (.head _))) rfl) rfl ?_
            refine wl_dec (r_lss rfl rfl) rfl (fun h12_8 => ?_) (fun h12_8 => ?_)
            · refine wl_val (r_pick_f rfl (v := .bool _) rfl) rfl ?_
              refine wl_val (r_assign (v := .bool _) rfl) rfl ?_
              refine wl_nil ?_
              refine c_then ?_
              refine wp_ret ?_
              refine ret1 Try.results18 ?_
              first | exact ⟨congrArg Value.bool (meet_n1 (by omega) hc1).symm, hS10.fin⟩ | exact ⟨congrArg Value.bool (meet_n2 (by omega) hc2).symm, hS10.fin⟩ | exact ⟨congrArg Value.bool (meet_n3 (by omega) hc3).symm, hS10.fin⟩ | skip
              all_goals (refine ⟨congrArg Value.bool ?_, hS10.fin⟩; rw [(meet_y (by first | exact .inl (by omega) | exact .inr hc1) (by first | exact .inl (by omega) | exact .inr hc2) (by first | exact .inl (by omega) | exact .inr hc3) (h := ((q.tm.toNat % 86400 / 3600 : Nat) : Int)) (by omega)), ← hour_eq he])
              all_goals first | (rw [if_pos (by omega)]; done) | (rw [if_neg (by omega), if_pos h10_4]; (first | exact (decide_eq_true (by omega)).symm | exact (decide_eq_false (by omega)).symm)) | (rw [if_neg (by omega), if_neg h10_4]; (first | exact (decide_eq_true (by omega)).symm | exact (decide_eq_false (by omega)).symm))
            refine wl_val (r_pick_f rfl (v := .bool _) rfl) rfl ?_
            refine wl_val (r_assign (v := .bool _) rfl) rfl ?_
            refine wl_nil ?_
            refine c_then ?_
            refine wp_ret ?_
            refine ret1 Try.results18 ?_
            first | exact ⟨congrArg Value.bool (meet_n1 (by omega) hc1).symm, hS10.fin⟩ | exact ⟨congrArg Value.bool (meet_n2 (by omega) hc2).symm, hS10.fin⟩ | exact ⟨congrArg Value.bool (meet_n3 (by omega) hc3).symm, hS10.fin⟩ | skip
            all_goals (refine ⟨congrArg Value.bool ?_, hS10.fin⟩; rw [(meet_y (by first | exact .inl (by omega) | exact .inr hc1) (by first | exact .inl (by omega) | exact .inr hc2) (by first | exact .inl (by omega) | exact .inr hc3) (h := ((q.tm.toNat % 86400 / 3600 : Nat) : Int)) (by omega)), ← hour_eq he])
            all_goals first | (rw [if_pos (by omega)]; done) | (rw [if_neg (by omega), if_pos h10_4]; (first | exact (decide_eq_true (by omega)).symm | exact (decide_eq_false (by omega)).symm)) | (rw [if_neg (by omega), if_neg h10_4]; (first | exact (decide_eq_true (by omega)).symm | exact (decide_eq_false (by omega)).symm))
          refine wl_val (r_move (v := .bool _) rfl) rfl ?_
          refine wl_not rfl ?_
          refine wl_not rfl ?_
          refine wl_not rfl ?_
          refine wl_val (r_pick_f rfl (v := .bool false) rfl) rfl ?_
          refine wl_val (r_assign (v := .bool _) rfl) rfl ?_
          refine wl_nil ?_
          refine c_then ?_
          refine c_false rfl ?_
          refine c_seq ?_
          refine c_region ?_
          refine wl_val (r_field fa37_4 rfl) rfl ?_
          refine wl_val (r_loadB1 ti3.und rfl rfl (hS10.heap (.tail _ (.head _))) rfl) rfl ?_
          refine wl_val (r_field fa37_5 rfl) rfl ?_
          refine wl_val (r_loadB1 ti3.und rfl rfl (hS10.heap (.tail _ (.head _))) rfl) rfl ?_
          refine wl_dec (r_lss rfl rfl) rfl (fun h10_4 => ?_) (fun h10_4 => ?_)
          · refine wl_val (r_assign (v := .bool _) rfl) rfl ?_
            refine wl_nil ?_
            refine c_then ?_
            refine c_true rfl ?_
            refine c_seq ?_
            refine c_region ?_
            refine wl_val (r_field fa37_4 rfl) rfl ?_
            refine wl_val (r_loadB1 ti3.und rfl rfl (hS10.heap (.tail _ (.head _))) rfl) rfl ?_
            refine wl_val (r_move (v := .int .i64 _) rfl) rfl ?_
            refine wl_dec (r_leq rfl rfl) rfl (fun h11_3 => ?_) (fun h11_3 => ?_)
            · refine wl_val (r_move (v := .bool _) rfl) rfl ?_
              refine wl_val (r_move (v := .int .i64 _) rfl) rfl ?_
              refine wl_val (r_field fa37_5 rfl) rfl ?_
              refine wl_val (r_loadB1 ti3.und rfl rfl (hS10.heap (.tail _ (.head _))) rfl) rfl ?_
              refine wl_dec (r_lss rfl rfl) rfl (fun h11_8 => ?_) (fun h11_8 => ?_)
              · refine wl_val (r_pick_t rfl (v := .bool _) rfl) rfl ?_
                refine wl_val (r_assign (v := .bool _) rfl) rfl ?_
                refine wl_nil ?_
                refine c_then ?_
                refine wp_ret ?_
                refine c_inR ?_
                refine c_thenR ?_
                refine ret1 Try.results18 ?_
                first | exact ⟨congrArg Value.bool (meet_n1 (by omega) hc1).symm, hS10.fin⟩ | exact ⟨congrArg Value.bool (meet_n2 (by omega) hc2).symm, hS10.fin⟩ | exact ⟨congrArg Value.bool (meet_n3 (by omega) hc3).symm, hS10.fin⟩ | skip
                all_goals (refine ⟨congrArg Value.bool ?_, hS10.fin⟩; rw [(meet_y (by first | exact .inl (by omega) | exact .inr hc1) (by first | exact .inl (by omega) | exact .inr hc2) (by first | exact .inl (by omega) | exact .inr hc3) (h := ((q.tm.toNat % 86400 / 3600 : Nat) : Int)) (by omega)), ← hour_eq he])
                all_goals first | (rw [if_pos (by omega)]; done) | (rw [if_neg (by omega), if_pos h10_4]; (first | exact (decide_eq_true (by omega)).symm | exact (decide_eq_false (by omega)).symm)) | (rw [if_neg (by omega), if_neg h10_4]; (first | exact (decide_eq_true (by omega)).symm | exact (decide_eq_false (by omega)).symm))
              refine wl_val (r_pick_t rfl (v := .bool _) rfl) rfl ?_
              refine wl_val (r_assign (v := .bool _) rfl) rfl ?_
              refine wl_nil ?_
              refine c_then ?_
              refine wp_ret ?_
              refine c_inR ?_
              refine c_thenR ?_
              refine ret1 Try.results18 ?_
              first | exact ⟨congrArg Value.bool (meet_n1 (by omega) hc1).symm, hS10.fin⟩ | exact ⟨congrArg Value.bool (meet_n2 (by omega) hc2).symm, hS10.fin⟩ | exact ⟨congrArg Value.bool (meet_n3 (by omega) hc3).symm, hS10.fin⟩ | skip
              all_goals (refine ⟨congrArg Value.bool ?_, hS10.fin⟩; rw [(meet_y (by first | exact .inl (by omega) | exact .inr hc1) (by first | exact .inl (by omega) | exact .inr hc2) (by first | exact .inl (by omega) | exact .inr hc3) (h := ((q.tm.toNat % 86400 / 3600 : Nat) : Int)) (by omega)), ← hour_eq he])
              all_goals first | (rw [if_pos (by omega)]; done) | (rw [if_neg (by omega), if_pos h10_4]; (first | exact (decide_eq_true (by omega)).symm | exact (decide_eq_false (by omega)).symm)) | (rw [if_neg (by omega), if_neg h10_4]; (first | exact (decide_eq_true (by omega)).symm | exact (decide_eq_false (by omega)).symm))
            refine wl_val (r_move (v := .bool _) rfl) rfl ?_
            refine wl_not rfl ?_
            refine wl_not rfl ?_
            refine wl_not rfl ?_
            refine wl_not rfl ?_
            refine wl_val (r_pick_f rfl (v := .bool false) rfl) rfl ?_
            refine wl_val (r_assign (v := .bool _) rfl) rfl ?_
            refine wl_nil ?_
            refine c_then ?_
            refine wp_ret ?_
            refine c_inR ?_
            refine c_thenR ?_
            refine ret1 Try.results18 ?_
            first | exact ⟨congrArg Value.bool (meet_n1 (by omega) hc1).symm, hS10.fin⟩ | exact ⟨congrArg Value.bool (meet_n2 (by omega) hc2).symm, hS10.fin⟩ | exact ⟨congrArg Value.bool (meet_n3 (by omega) hc3).symm, hS10.fin⟩ | skip
            all_goals (refine ⟨congrArg Value.bool ?_, hS10.fin⟩; rw [(meet_y (by first | exact .inl (by omega) | exact .inr hc1) (by first | exact .inl (by omega) | exact .inr hc2) (by first | exact .inl (by omega) | exact .inr hc3) (h := ((q.tm.toNat % 86400 / 3600 : Nat) : Int)) (by omega)), ← hour_eq he])
            all_goals first | (rw [if_pos (by omega)]; done) | (rw [if_neg (by omega), if_pos h10_4]; (first | exact (decide_eq_true (by omega)).symm | exact (decide_eq_false (by omega)).symm)) | (rw [if_neg (by omega), if_neg h10_4]; (first | exact (decide_eq_true (by omega)).symm | exact (decide_eq_false (by omega)).symm))
          refine wl_val (r_assign (v := .bool _) rfl) rfl ?_
          refine wl_nil ?_
          refine c_then ?_
          refine c_false rfl ?_
          refine wp_skip ?_
          refine c_inN ?_
          refine c_then ?_
          refine c_seq ?_
          refine c_region ?_
          refine wl_val (r_move (v := .int .i64 _) rfl) rfl ?_
          refine wl_val (r_field fa37_4 rfl) rfl ?_
          refine wl_val (r_loadB1 ti3.und rfl rfl (hS10.heap (.tail _ (.head _))) rfl) rfl ?_
          refine wl_dec (r_geq rfl rfl) rfl (fun h12_3 => ?_) (fun h12_3 => ?_)
          · refine wl_val (r_move (v := .bool _) rfl) rfl ?_
            refine wl_not rfl ?_
            refine wl_not rfl ?_
            refine wl_not rfl ?_
            refine wl_not rfl ?_
            refine wl_val (r_pick_t rfl (v := .bool true) rfl) rfl ?_
            refine wl_val (r_assign (v := .bool _) rfl) rfl ?_
            refine wl_nil ?_
            refine c_then ?_
            refine wp_ret ?_
            refine ret1 Try.results18 ?_
            first | exact ⟨congrArg Value.bool (meet_n1 (by omega) hc1).symm, hS10.fin⟩ | exact ⟨congrArg Value.bool (meet_n2 (by omega) hc2).symm, hS10.fin⟩ | exact ⟨congrArg Value.bool (meet_n3 (by omega) hc3).symm, hS10.fin⟩ | skip
            all_goals (refine ⟨congrArg Value.bool ?_, hS10.fin⟩; rw [(meet_y (by first | exact .inl (by omega) | exact .inr hc1) (by first | exact .inl (by omega) | exact .inr hc2) (by first | exact .inl (by omega) | exact .inr hc3) (h := ((q.tm.toNat % 86400 / 3600 : Nat) : Int)) (by omega)), ← hour_eq he])
            all_goals first | (rw [if_pos (by omega)]; done) | (rw [if_neg (by omega), if_pos h10_4]; (first | exact (decide_eq_true (by omega)).symm | exact (decide_eq_false (by omega)).symm)) | (rw [if_neg (by omega), if_neg h10_4]; (first | exact (decide_eq_true (by omega)).symm | exact (decide_eq_false (by omega)).symm))
          refine wl_val (r_move (v := .bool _) rfl) rfl ?_
          refine wl_val (r_move (v := .int .i64 _) rfl) rfl ?_
          refine wl_val (r_field fa37_5 rfl) rfl ?_
          refine wl_val (r_loadB1 ti3.und rfl rfl (hS10.heap (.tail _ (.head _))) rfl) rfl ?_
          refine wl_dec (r_lss rfl rfl) rfl (fun h12_8 => ?_) (fun h12_8 => ?_)
          · refine wl_val (r_pick_f rfl (v := .bool _) rfl) rfl ?_
            refine wl_val (r_assign (v := .bool _) rfl) rfl ?_
            refine wl_nil ?_
            refine c_then ?_
            refine wp_ret ?_
            refine ret1 Try.results18 ?_
            first | exact ⟨congrArg Value.bool (meet_n1 (by omega) hc1).symm, hS10.fin⟩ | exact ⟨congrArg Value.bool (meet_n2 (by omega) hc2).symm, hS10.fin⟩ | exact ⟨congrArg Value.bool (meet_n3 (by omega) hc3).symm, hS10.fin⟩ | skip
            all_goals (refine ⟨congrArg Value.bool ?_, hS10.fin⟩; rw [(meet_y (by first | exact .inl (by omega) | exact .inr hc1) (by first | exact .inl (by omega) | exact .inr hc2) (by first | exact .inl (by omega) | exact .inr hc3) (h := ((q.tm.toNat % 86400 / 3600 : Nat) : Int)) (by omega)), ← hour_eq he])
            all_goals first | (rw [if_pos (by omega)]; done) | (rw [if_neg (by omega), if_pos h10_4]; (first | exact (decide_eq_true (by omega)).symm | exact (decide_eq_false (by omega)).symm)) | (rw [if_neg (by omega), if_neg h10_4]; (first | exact (decide_eq_true (by omega)).symm | exact (decide_eq_false (by omega)).symm))
          refine wl_val (r_pick_f rfl (v := .bool _) rfl) rfl ?_
          refine wl_val (r_assign (v := .bool _) rfl) rfl ?_
          refine wl_nil ?_
          refine c_then ?_
          refine wp_ret ?_
          refine ret1 Try.results18 ?_
          first | exact ⟨congrArg Value.bool (meet_n1 (by omega) hc1).symm, hS10.fin⟩ | exact ⟨congrArg Value.bool (meet_n2 (by omega) hc2).symm, hS10.fin⟩ | exact ⟨congrArg Value.bool (meet_n3 (by omega) hc3).symm, hS10.fin⟩ | skip
          all_goals (refine ⟨congrArg Value.bool ?_, hS10.fin⟩; rw [(meet_y (by first | exact .inl (by omega) | exact .inr hc1) (by first | exact .inl (by omega) | exact .inr hc2) (by first | exact .inl (by omega) | exact .inr hc3) (h := ((q.tm.toNat % 86400 / 3600 : Nat) : Int)) (by omega)), ← hour_eq he])
          all_goals first | (rw [if_pos (by omega)]; done) | (rw [if_neg (by omega), if_pos h10_4]; (first | exact (decide_eq_true (by omega)).symm | exact (decide_eq_false (by omega)).symm)) | (rw [if_neg (by omega), if_neg h10_4]; (first | exact (decide_eq_true (by omega)).symm | exact (decide_eq_false (by omega)).symm))
        have hS10 := hS7.ext hx9
        refine wl_val (r_not rfl) rfl ?_
        refine wl_val (r_pick_t rfl (v := .bool _) rfl) rfl ?_
        refine wl_nil ?_
        refine c_then ?_
        refine c_true rfl ?_
        refine c_seq ?_
        refine c_region ?_
        refine wl_val (r_assign (v := .bool false) rfl) rfl ?_
        refine wl_nil ?_
        refine c_then ?_
        refine wp_ret ?_
        refine c_thenR ?_
        refine ret1 Try.results18 ?_
        first | exact ⟨congrArg Value.bool (meet_n1 (by omega) hc1).symm, hS10.fin⟩ | exact ⟨congrArg Value.bool (meet_n2 (by omega) hc2).symm, hS10.fin⟩ | exact ⟨congrArg Value.bool (meet_n3 (by omega) hc3).symm, hS10.fin⟩ | skip
        all_goals (refine ⟨congrArg Value.bool ?_, hS10.fin⟩; rw [(meet_y (by first | exact .inl (by omega) | exact .inr hc1) (by first | exact .inl (by omega) | exact .inr hc2) (by first | exact .inl (by omega) | exact .inr hc3) (h := ((q.tm.toNat % 86400 / 3600 : Nat) : Int)) (by omega)), ← hour_eq he])
        all_goals first | (rw [if_pos (by omega)]; done) | (rw [if_neg (by omega), if_pos h10_4]; (first | exact (decide_eq_true (by omega)).symm | exact (decide_eq_false (by omega)).symm)) | (rw [if_neg (by omega), if_neg h10_4]; (first | exact (decide_eq_true (by omega)).symm | exact (decide_eq_false (by omega)).symm))
      refine wl_val (r_move (v := .bool _) rfl) rfl ?_
      refine wl_not rfl ?_
      refine wl_not rfl ?_
      refine wl_not rfl ?_
      refine wl_not rfl ?_
      refine wl_not rfl ?_
      refine wl_not rfl ?_
      refine wl_val (r_pick_f rfl (v := .bool false) rfl) rfl ?_
      refine wl_nil ?_
      refine c_then ?_
      refine c_false rfl ?_
      refine wp_skip ?_
      refine c_then ?_
      refine c_seq ?_
      refine c_seq ?_
      refine c_region ?_
      refine wl_val (r_field fa37_3 rfl) rfl ?_
      refine wl_val (r_loadB1 ti30.und rfl rfl (hS7.heap (.tail _ (.head _))) rfl) rfl ?_
      refine wl_val (r_len (T := 30) rfl ti30.und rfl _ rfl) rfl ?_
      refine wl_dec (r_gtr rfl rfl) rfl (fun h5_3 => ?_) (fun h5_3 => ?_)
      · refine wl_val (r_move (v := .bool _) rfl) rfl ?_
        refine wl_val (r_field fa37_3 rfl) rfl ?_
        refine wl_val (r_loadB1 ti30.und rfl rfl (hS7.heap (.tail _ (.head _))) rfl) rfl ?_
        refine wl_val (r_makeFunc rfl) rfl ?_
        refine wl_call (r_call fn37 rfl rfl) rfl (containsFuncS_ok r.las r.la r.las.length r.lc 58 [pt b3 0] (fun s => (decide (¬ q.lab = []) || decide (s = [42])) && fitsE s q.lab) _ (h3.st hS7) rfl hk.ln fn58 (fun x w' hx h => rmeets2_ok x q b3 w' ((at_all (hS7.heap (.head _))).st h) hac (hk.ll x hx) hq.ll)) ?_
        rintro _ w14 (⟨hc3, rfl, hx15⟩ | ⟨hc3, rfl, hx15⟩)
        · have hS16 := hS7.ext hx15
          rw [any_pat (ruleE_fr he).2] at hc3
          refine wl_val (r_not rfl) rfl ?_
          refine wl_val (r_pick_t rfl (v := .bool _) rfl) rfl ?_
          refine wl_nil ?_
          refine c_then ?_
          refine c_false rfl ?_
          refine wp_skip ?_
          refine c_then ?_
          refine c_seq ?_
          refine c_region ?_
          refine wl_val (r_field fa34_5 rfl) rfl ?_
          refine wl_val (r_loadB1 ti3.und rfl rfl (hS16.heap (.head _)) (ask_tmN hac hkey ht0)) rfl ?_
          refine wl_val (r_remn (b := 86400) rfl rfl (by omega)) rfl ?_
          refine wl_val (r_quon (b := 3600) rfl rfl (by omega) (by omega)) rfl ?_
          refine wl_val (r_assign (v := .int .i64 _) rfl) rfl ?_
          refine wl_nil ?_
          refine c_then ?_
          refine c_seq ?_
          refine c_block ?_
          refine c_seq ?_
          refine c_region ?_
          refine wl_val (r_field fa37_4 rfl) rfl ?_
          refine wl_val (r_loadB1 ti3.und rfl rfl (hS16.heap (.tail _ (.head _))) rfl) rfl ?_
          refine wl_dec (r_eql rfl rfl) rfl (fun h8_2 => ?_) (fun h8_2 => ?_)
          · refine wl_val (r_move (v := .bool _) rfl) rfl ?_
            refine wl_val (r_field fa37_5 rfl) rfl ?_
            refine wl_val (r_loadB1 ti3.und rfl rfl (hS16.heap (.tail _ (.head _))) rfl) rfl ?_
            refine wl_dec (r_eql rfl rfl) rfl (fun h8_6 => ?_) (fun h8_6 => ?_)
            · refine wl_val (r_pick_t rfl (v := .bool _) rfl) rfl ?_
              refine wl_val (r_assign (v := .bool _) rfl) rfl ?_
              refine wl_nil ?_
              refine c_then ?_
              refine c_true rfl ?_
              refine c_seq ?_
              refine c_region ?_
              refine wl_val (r_assign (v := .bool true) rfl) rfl ?_
              refine wl_nil ?_
              refine c_then ?_
              refine wp_ret ?_
              refine c_inR ?_
              refine c_thenR ?_
              refine ret1 Try.results18 ?_
              first | exact ⟨congrArg Value.bool (meet_n1 (by omega) hc1).symm, hS16.fin⟩ | exact ⟨congrArg Value.bool (meet_n2 (by omega) hc2).symm, hS16.fin⟩ | exact ⟨congrArg Value.bool (meet_n3 (by omega) hc3).symm, hS16.fin⟩ | skip
              all_goals (refine ⟨congrArg Value.bool ?_, hS16.fin⟩; rw [(meet_y (by first | exact .inl (by omega) | exact .inr hc1) (by first | exact .inl (by omega) | exact .inr hc2) (by first | exact .inl (by omega) | exact .inr hc3) (h := ((q.tm.toNat % 86400 / 3600 : Nat) : Int)) (by omega)), ← hour_eq he])
              all_goals first | (rw [if_pos (by omega)]; done) | (rw [if_neg (by omega), if_pos h10_4]; (first | exact (decide_eq_true (by omega)).symm | exact (decide_eq_false (by omega)).symm)) | (rw [if_neg (by omega), if_neg h10_4]; (first | exact (decide_eq_true (by omega)).symm | exact (decide_eq_false (by omega)).symm))
            refine wl_val (r_pick_t rfl (v := .bool _) rfl) rfl ?_
            refine wl_val (r_assign (v := .bool _) rfl) rfl ?_
            refine wl_nil ?_
            refine c_then ?_
            refine c_false rfl ?_
            refine c_seq ?_
            refine c_region ?_
            refine wl_val (r_field fa37_4 rfl) rfl ?_
            refine wl_val (r_loadB1 ti3.und rfl rfl (hS16.heap (.tail _ (.head _))) rfl) rfl ?_
            refine wl_val (r_field fa37_5 rfl) rfl ?_
            refine wl_val (r_loadB1 ti3.und rfl rfl (hS16.heap (.tail _ (.head _))) rfl) rfl ?_
            refine wl_dec (r_lss rfl rfl) rfl (fun h10_4 => ?_) (fun h10_4 => ?_)
            · refine wl_val (r_assign (v := .bool _) rfl) rfl ?_
              refine wl_nil ?_
              refine c_then ?_
              refine c_true rfl ?_
              refine c_seq ?_
              refine c_region ?_
              refine wl_val (r_field fa37_4 rfl) rfl ?_
              refine wl_val (r_loadB1 ti3.und rfl rfl (hS16.heap (.tail _ (.head _))) rfl) rfl ?_
              refine wl_val (r_move (v := .int .i64 _) rfl) rfl ?_
              refine wl_dec (r_leq rfl rfl) rfl (fun h11_3 => ?_) (fun h11_3 => ?_)
              · refine wl_val (r_move (v := .bool _) rfl) rfl ?_
                refine wl_val (r_move (v := .int .i64 _) rfl) rfl ?_
                refine wl_val (r_field fa37_5 rfl) rfl ?_
                refine wl_val (r_loadB1 ti3.und rfl rfl (hS16.heap (.tail _ (.head _))) rfl) rfl ?_
                refine wl_dec (r_lss rfl rfl) rfl (fun h11_8 => ?_) (fun h11_8 => ?_)
                · refine wl_val (r_pick_t rfl (v := .bool _) rfl) rfl ?_
                  refine wl_val (r_assign (v := .bool _) rfl) rfl ?_
                  refine wl_nil ?_
                  refine c_then ?_
                  refine wp_ret ?_
                  refine c_inR ?_
                  refine c_thenR ?_
                  refine ret1 Try.results18 ?_
                  first | exact ⟨congrArg Value.bool (meet_n1 (by omega) hc1).symm, hS16.fin⟩ | exact ⟨congrArg Value.bool (meet_n2 (by omega) hc2).symm, hS16.fin⟩ | exact ⟨congrArg Value.bool (meet_n3 (by omega) hc3).symm, hS16.fin⟩ | skip
                  all_goals (refine ⟨congrArg Value.bool ?_, hS16.fin⟩; rw [(meet_y (by first | exact .inl (by omega) | exact .inr hc1) (by first | exact .inl (by omega) | exact .inr hc2) (by first | exact .inl (by omega) | exact .inr hc3) (h := ((q.tm.toNat % 86400 / 3600 : Nat) : Int)) (by omega)), ← hour_eq he])
                  all_goals first | (rw [if_pos (by omega)]; done) | (rw [if_neg (by omega), if_pos h10_4]; (first | exact (decide_eq_true (by omega)).symm | exact (decide_eq_false (by omega)).symm)) | (rw [if_neg (by omega), if_neg h10_4]; (first | exact (decide_eq_true (by omega)).symm | exact (decide_eq_false (by omega)).symm))
                refine wl_val (r_pick_t rfl (v := .bool _) rfl) rfl ?_
                refine wl_val (r_assign (v := .bool _) rfl) rfl ?_
                refine wl_nil ?_
                refine c_then ?_
                refine wp_ret ?_
                refine c_inR ?_
                refine c_thenR ?_
                refine ret1 Try.results18 ?_
                first | exact ⟨congrArg Value.bool (meet_n1 (by omega) hc1).symm, hS16.fin⟩ | exact ⟨congrArg Value.bool (meet_n2 (by omega) hc2).symm, hS16.fin⟩ | exact ⟨congrArg Value.bool (meet_n3 (by omega) hc3).symm, hS16.fin⟩ | skip
                all_goals (refine ⟨congrArg Value.bool ?_, hS16.fin⟩; rw [(meet_y (by first | exact .inl (by omega) | exact .inr hc1) (by first | exact .inl (by omega) | exact .inr hc2) (by first | exact .inl (by omega) | exact .inr hc3) (h := ((q.tm.toNat % 86400 / 3600 : Nat) : Int)) (by omega)), ← hour_eq he])
                all_goals first | (rw [if_pos (by omega)]; done) | (rw [if_neg (by omega), if_pos h10_4]; (first | exact (decide_eq_true (by omega)).symm | exact (decide_eq_false (by omega)).symm)) | (rw [if_neg (by omega), if_neg h10_4]; (first | exact (decide_eq_true (by omega)).symm | exact (decide_eq_false (by omega)).symm))
              refine wl_val (r_move (v := .bool _) rfl) rfl ?_
              refine wl_not rfl ?_
              refine wl_not rfl ?_
              refine wl_not rfl ?_
              refine wl_not rfl ?_
              refine wl_val (r_pick_f rfl (v := .bool false) rfl) rfl ?_
              refine wl_val (r_assign (v := .bool _) rfl) rfl ?_
              refine wl_nil ?_
              refine c_then ?_
              refine wp_ret ?_
              refine c_inR ?_
              refine c_thenR ?_
              refine ret1 Try.results18 ?_
              first | exact ⟨congrArg Value.bool (meet_n1 (by omega) hc1).symm, hS16.fin⟩ | exact ⟨congrArg Value.bool (meet_n2 (by omega) hc2).symm, hS16.fin⟩ | exact ⟨congrArg Value.bool (meet_n3 (by omega) hc3).symm, hS16.fin⟩ | skip
              all_goals (refine ⟨congrArg Value.bool ?_, hS16.fin⟩; rw [(meet_y (by first | exact .inl (by omega) | exact .inr hc1) (by first | exact .inl (by omega) | exact .inr hc2) (by first | exact .inl (by omega) | exact .inr hc3) (h := ((q.tm.toNat % 86400 / 3600 : Nat) : Int)) (by omega)), ← hour_eq he])
              all_goals first | (rw [if_pos (by omega)]; done) | (rw [if_neg (by omega), if_pos h10_4]; (first | exact (decide_eq_true (by omega)).symm | exact (decide_eq_false (by omega)).symm)) | (rw [if_neg (by omega), if_neg h10_4]; (first | exact (decide_eq_true (by omega)).symm | exact (decide_eq_false (by omega)).symm))
            refine wl_val (r_assign (v := .bool _) rfl) rfl ?_
            refine wl_nil ?_
            refine c_then ?_
            refine c_false rfl ?_
            refine wp_skip ?_
            refine c_inN ?_
            refine c_then ?_
            refine c_seq ?_
            refine c_region ?_
            refine wl_val (r_move (v := .int .i64 _) rfl) rfl ?_
            refine wl_val (r_field fa37_4 rfl) rfl ?_
            refine wl_val (r_loadB1 ti3.und rfl rfl (hS16.heap (.tail _ (.head _))) rfl) rfl ?_
            refine wl_dec (r_geq rfl rfl) rfl (fun h12_3 => ?_) (fun h12_3 => ?_)
            · refine wl_val (r_move (v := .bool _) rfl) rfl ?_
              refine wl_not rfl ?_
              refine wl_not rfl ?_
              refine wl_not rfl ?_
              refine wl_not rfl ?_
              refine wl_val (r_pick_t rfl (v := .bool true) rfl) rfl ?_
              refine wl_val (r_assign (v := .bool _) rfl) rfl ?_
              refine wl_nil ?_
              refine c_then ?_
              refine wp_ret ?_
              refine ret1 Try.results18 ?_
              first | exact ⟨congrArg Value.bool (meet_n1 (by omega) hc1).symm, hS16.fin⟩ | exact ⟨congrArg Value.bool (meet_n2 (by omega) hc2).symm, hS16.fin⟩ | exact ⟨congrArg Value.bool (meet_n3 (by omega) hc3).symm, hS16.fin⟩ | skip
              all_goals (refine ⟨congrArg Value.bool ?_, hS16.fin⟩; rw [(meet_y (by first | exact .inl (by omega) | exact .inr hc1) (by first | exact .inl (by omega) | exact .inr hc2) (by first | exact .inl (by omega) | exact .inr hc3) (h := ((q.tm.toNat % 86400 / 3600 : Nat) : Int)) (by omega)), ← hour_eq he])
              all_goals first | (rw [if_pos (by omega)]; done) | (rw [if_neg (by omega), if_pos h10_4]; (first | exact (decide_eq_true (by omega)).symm | exact (decide_eq_false (by omega)).symm)) | (rw [if_neg (by omega), if_neg h10_4]; (first | exact (decide_eq_true (by omega)).symm | exact (decide_eq_false (by omega)).symm))
            refine wl_val (r_move (v := .bool _) rfl) rfl ?_
            refine wl_val (r_move (v := .int .i64 _) rfl) rfl ?_
            refine wl_val (r_field fa37_5 rfl) rfl ?_
            refine wl_val (r_loadB1 ti3.und rfl rfl (hS16.heap (.tail _ (.head _))) rfl) rfl ?_
            refine wl_dec (r_lss rfl rfl) rfl (fun h12_8 => ?_) (fun h12_8 => ?_)
            · refine wl_val (r_pick_f rfl (v := .bool _) rfl) rfl ?_
              refine wl_val (r_assign (v := .bool _) rfl) rfl ?_
              refine wl_nil ?_
              refine c_then ?_
              refine wp_ret ?_
              refine ret1 Try.results18 ?_
              first | exact ⟨congrArg Value.bool (meet_n1 (by omega) hc1).symm, hS16.fin⟩ | exact ⟨congrArg Value.bool (meet_n2 (by omega) hc2).symm, hS16.fin⟩ | exact ⟨congrArg Value.bool (meet_n3 (by omega) hc3).symm, hS16.fin⟩ | skip
              all_goals (refine ⟨congrArg Value.bool ?_, hS16.fin⟩; rw [(meet_y (by first | exact .inl (by omega) | exact .inr hc1) (by first | exact .inl (by omega) | exact .inr hc2) (by first | exact .inl (by omega) | exact .inr hc3) (h := ((q.tm.toNat % 86400 / 3600 : Nat) : Int)) (by omega)), ← hour_eq he])
              all_goals first | (rw [if_pos (by omega)]; done) | (rw [if_neg (by omega), if_pos h10_4]; (first | exact (decide_eq_true (by omega)).symm | exact (decide_eq_false (by omega)).symm)) | (rw [if_neg (by omega), if_neg h10_4]; (first | exact (decide_eq_true (by omega)).symm | exact (decide_eq_false (by omega)).symm))
            refine wl_val (r_pick_f rfl (v := .bool _) rfl) rfl ?_
            refine wl_val (r_assign (v := .bool _) rfl) rfl ?_
            refine wl_nil ?_
            refine c_then ?_
            refine wp_ret ?_
            refine ret1 Try.results18 ?_
            first | exact ⟨congrArg Value.bool (meet_n1 (by omega) hc1).symm, hS16.fin⟩ | exact ⟨congrArg Value.bool (meet_n2 (by omega) hc2).symm, hS16.fin⟩ | exact ⟨congrArg Value.bool (meet_n3 (by omega) hc3).symm, hS16.fin⟩ | skip
            all_goals (refine ⟨congrArg Value.bool ?_, hS16.fin⟩; rw [(meet_y (by first | exact .inl (by omega) | exact .inr hc1) (by first | exact .inl (by omega) | exact .inr hc2) (by first | exact .inl (by omega) | exact .inr hc3) (h := ((q.tm.toNat % 86400 / 3600 : Nat) : Int)) (by omega)), ← hour_eq he])
            all_goals first | (rw [if_pos (by omega)]; done) | (rw [if_neg (by omega), if_pos h10_4]; (first | exact (decide_eq_true (by omega)).symm | exact (decide_eq_false (by omega)).symm)) | (rw [if_neg (by omega), if_neg h10_4]; (first | exact (decide_eq_true (by omega)).symm | exact (decide_eq_false (by omega)).symm))
          refine wl_val (r_move (v := .bool _) rfl) rfl ?_
          refine wl_not rfl ?_
          refine wl_not rfl ?_
          refine wl_not rfl ?_
          refine wl_val (r_pick_f rfl (v := .bool false) rfl) rfl ?_
          refine wl_val (r_assign (v := .bool _) rfl) rfl ?_
          refine wl_nil ?_
          refine c_then ?_
          refine c_false rfl ?_
          refine c_seq ?_
          refine c_region ?_
          refine wl_val (r_field fa37_4 rfl) rfl ?_
          refine wl_val (r_loadB1 ti3.und rfl rfl (hS16.heap (.tail _ (.head _))) rfl) rfl ?_
          refine wl_val (r_field fa37_5 rfl) rfl ?_
          refine wl_val (r_loadB1 ti3.und rfl rfl (hS16.heap (.tail _ (.head _))) rfl) rfl ?_
          refine wl_dec (r_lss rfl rfl) rfl (fun h10_4 => ?_) (fun h10_4 => ?_)
          · refine wl_val (r_assign (v := .bool _) rfl) rfl ?_
            refine wl_nil ?_
            refine c_then ?_
            refine c_true rfl ?_
            refine c_seq ?_
            refine c_region ?_
            refine wl_val (r_field fa37_4 rfl) rfl ?_
            refine wl_val (r_loadB1 ti3.und rfl rfl (hS16.heap (.tail _ (.head _))) rfl) rfl ?_
            refine wl_val (r_move (v := .int .i64 _) rfl) rfl ?_
            refine wl_dec (r_leq rfl rfl) rfl (fun h11_3 => ?_) (fun h11_3 => ?_)
            · refine wl_val (r_move (v := .bool _) rfl) rfl ?_
              refine wl_val (r_move (v := .int .i64 _) rfl) rfl ?_
              refine wl_val (r_field fa37_5 rfl) rfl ?_
              refine wl_val (r_loadB1 ti3.und rfl rfl (hS16.heap (.tail _ (.head _))) rfl) rfl ?_
              refine wl_dec (r_lss rfl rfl) rfl (fun h11_8 => ?_) (fun h11_8 => ?_)
              · refine wl_val (r_pick_t rfl (v := .bool _) rfl) rfl ?_
                refine wl_val (r_assign (v := .bool _) rfl) rfl ?_
                refine wl_nil ?_
                refine c_then ?_
                refine wp_ret ?_
                refine c_inR ?_
                refine c_thenR ?_
                refine ret1 Try.results18 ?_
                first | exact ⟨congrArg Value.bool (meet_n1 (by omega) hc1).symm, hS16.fin⟩ | exact ⟨congrArg Value.bool (meet_n2 (by omega) hc2).symm, hS16.fin⟩ | exact ⟨congrArg Value.bool (meet_n3 (by omega) hc3).symm, hS16.fin⟩ | skip
                all_goals (refine ⟨congrArg Value.bool ?_, hS16.fin⟩; rw [(meet_y (by first | exact .inl (by omega) | exact .inr hc1) (by first | exact .inl (by omega) | exact .inr hc2) (by first | exact .inl (by omega) | exact .inr hc3) (h := ((q.tm.toNat % 86400 / 3600 : Nat) : Int)) (by omega)), ← hour_eq he])
                all_goals first | (rw [if_pos (by omega)]; done) | (rw [if_neg (by omega), if_pos h10_4]; (first | exact (decide_eq_true (by omega)).symm | exact (decide_eq_false (by omega)).symm)) | (rw [if_neg (by omega), if_neg h10_4]; (first | exact (decide_eq_true (by omega)).symm | exact (decide_eq_false (by omega)).symm))
              refine wl_val (r_pick_t rfl (v := .bool _) rfl) rfl ?_
              refine wl_val (r_assign (v := .bool _) rfl) rfl ?_
              refine wl_nil ?_
              refine c_then ?_
              refine wp_ret ?_
              refine c_inR ?_
              refine c_thenR ?_
              refine ret1 Try.results18 ?_
              first | exact ⟨congrArg Value.bool (meet_n1 (by omega) hc1).symm, hS16.fin⟩ | exact ⟨congrArg Value.bool (meet_n2 (by omega) hc2).symm, hS16.fin⟩ | exact ⟨congrArg Value.bool (meet_n3 (by omega) hc3).symm, hS16.fin⟩ | skip
              all_goals (refine ⟨congrArg Value.bool ?_, hS16.fin⟩; rw [(meet_y (by first | exact .inl (by omega) | exact .inr hc1) (by first | exact .inl (by omega) | exact .inr hc2) (by first | exact .inl (by omega) | exact .inr hc3) (h := ((q.tm.toNat % 86400 / 3600 : Nat) : Int)) (by omega)), ← hour_eq he])
              all_goals first | (rw [if_pos (by omega)]; done) | (rw [if_neg (by omega), if_pos h10_4]; (first | exact (decide_eq_true (by omega)).symm | exact (decide_eq_false (by omega)).symm)) | (rw [if_neg (by omega), if_neg h10_4]; (first | exact (decide_eq_true (by omega)).symm | exact (decide_eq_false (by omega)).symm))
            refine wl_val (r_move (v := .bool _) rfl) rfl ?_
            refine wl_not rfl ?_
            refine wl_not rfl ?_
            refine wl_not rfl ?_
            refine wl_not rfl ?_
            refine wl_val (r_pick_f rfl (v := .bool false) rfl) rfl ?_
            refine wl_val (r_assign (v := .bool _) rfl) rfl ?_
            refine wl_nil ?_
            refine c_then ?_
            refine wp_ret ?_
            refine c_inR ?_
            refine c_thenR ?_
            refine ret1 Try.results18 ?_
            first | exact ⟨congrArg Value.bool (meet_n1 (by omega) hc1).symm, hS16.fin⟩ | exact ⟨congrArg Value.bool (meet_n2 (by omega) hc2).symm, hS16.fin⟩ | exact ⟨congrArg Value.bool (meet_n3 (by omega) hc3).symm, hS16.fin⟩ | skip
            all_goals (refine ⟨congrArg Value.bool ?_, hS16.fin⟩; rw [(meet_y (by first | exact .inl (by omega) | exact .inr hc1) (by first | exact .inl (by omega) | exact .inr hc2) (by first | exact .inl (by omega) | exact .inr hc3) (h := ((q.tm.toNat % 86400 / 3600 : Nat) : Int)) (by omega)), ← hour_eq he])
            all_goals first | (rw [if_pos (by omega)]; done) | (rw [if_neg (by omega), if_pos h10_4]; (first | exact (decide_eq_true (by omega)).symm | exact (decide_eq_false (by omega)).symm)) | (rw [if_neg (by omega), if_neg h10_4]; (first | exact (decide_eq_true (by omega)).symm | exact (decide_eq_false (by omega)).symm))
          refine wl_val (r_assign (v := .bool _) rfl) rfl ?_
          refine wl_nil ?_
          refine c_then ?_
          refine c_false rfl ?_
          refine wp_skip ?_
          refine c_inN ?_
          refine c_then ?_
          refine c_seq ?_
          refine c_region ?_
          refine wl_val (r_move (v := .int .i64 _) rfl) rfl ?_
          refine wl_val (r_field fa37_4 rfl) rfl ?_
          refine wl_val (r_loadB1 ti3.und rfl rfl (hS16.heap (.tail _ (.head _))) rfl) rfl ?_
          refine wl_dec (r_geq rfl rfl) rfl (fun h12_3 => ?_) (fun h12_3 => ?_)
          · refine wl_val (r_move (v := .bool _) rfl) rfl ?_
            refine wl_not rfl ?_
            refine wl_not rfl ?_
            refine wl_not rfl ?_
            refine wl_not rfl ?_
            refine wl_val (r_pick_t rfl (v := .bool true) rfl) rfl ?_
            refine wl_val (r_assign (v := .bool _) rfl) rfl ?_
            refine wl_nil ?_
            refine c_then ?_
            refine wp_ret ?_
            refine ret1 Try.results18 ?_
            first | exact ⟨congrArg Value.bool (meet_n1 (by omega) hc1).symm, hS16.fin⟩ | exact ⟨congrArg Value.bool (meet_n2 (by omega) hc2).symm, hS16.fin⟩ | exact ⟨congrArg Value.bool (meet_n3 (by omega) hc3).symm, hS16.fin⟩ | skip
            all_goals (refine ⟨congrArg Value.bool ?_, hS16.fin⟩; rw [(meet_y (by first | exact .inl (by omega) | exact .inr hc1) (by first | exact .inl (by omega) | exact .inr hc2) (by first | exact .inl (by omega) | exact .inr hc3) (h := ((q.tm.toNat % 86400 / 3600 : Nat) : Int)) (by omega)), ← hour_eq he])
            all_goals first | (rw [if_pos (by omega)]; done) | (rw [if_neg (by omega), if_pos h10_4]; (first | exact (decide_eq_true (by omega)).symm | exact (decide_eq_false (by omega)).symm)) | (rw [if_neg (by omega), if_neg h10_4]; (first | exact (decide_eq_true (by omega)).symm | exact (decide_eq_false (by omega)).symm))
          refine wl_val (r_move (v := .bool _) rfl) rfl ?_
          refine wl_val (r_move (v := .int .i64 _) rfl) rfl ?_
          refine wl_val (r_field fa37_5 rfl) rfl ?_
          refine wl_val (r_loadB1 ti3.und rfl rfl (hS16.heap (.tail _ (.head _))) rfl) rfl ?_
          refine wl_dec (r_lss rfl rfl) rfl (fun h12_8 => ?_) (fun h12_8 => ?_)
          · refine wl_val (r_pick_f rfl (v := .bool _) rfl) rfl ?_
            refine wl_val (r_assign (v := .bool _) rfl) rfl ?_
            refine wl_nil ?_
            refine c_then ?_
            refine wp_ret ?_
            refine ret1 Try.results18 ?_
            first | exact ⟨congrArg Value.bool (meet_n1 (by omega) hc1).symm, hS16.fin⟩ | exact ⟨congrArg Value.bool (meet_n2 (by omega) hc2).symm, hS16.fin⟩ | exact ⟨congrArg Value.bool (meet_n3 (by omega) hc3).symm, hS16.fin⟩ | skip
            all_goals (refine ⟨congrArg Value.bool ?_, hS16.fin⟩; rw [(meet_y (by first | exact .inl (by omega) | exact .inr hc1) (by first | exact .inl (by omega) | exact .inr hc2) (by first | exact .inl (by omega) | exact .inr hc3) (h := ((q.tm.toNat % 86400 / 3600 : Nat) : Int)) (by omega)), ← hour_eq he])
            all_goals first | (rw [if_pos (by omega)]; done) | (rw [if_neg (by omega), if_pos h10_4]; (first | exact (decide_eq_true (by omega)).symm | exact (decide_eq_false (by omega)).symm)) | (rw [if_neg (by omega), if_neg h10_4]; (first | exact (decide_eq_true (by omega)).symm | exact (decide_eq_false (by omega)).symm))
          refine wl_val (r_pick_f rfl (v := .bool _) rfl) rfl ?_
          refine wl_val (r_assign (v := .bool _) rfl) rfl ?_
          refine wl_nil ?_
          refine c_then ?_
          refine wp_ret ?_
          refine ret1 Try.results18 ?_
          first | exact ⟨congrArg Value.bool (meet_n1 (by omega) hc1).symm, hS16.fin⟩ | exact ⟨congrArg Value.bool (meet_n2 (by omega) hc2).symm, hS16.fin⟩ | exact ⟨congrArg Value.bool (meet_n3 (by omega) hc3).symm, hS16.fin⟩ | skip
          all_goals (refine ⟨congrArg Value.bool ?_, hS16.fin⟩; rw [(meet_y (by first | exact .inl (by omega) | exact .inr hc1) (by first | exact .inl (by omega) | exact .inr hc2) (by first | exact .inl (by omega) | exact .inr hc3) (h := ((q.tm.toNat % 86400 / 3600 : Nat) : Int)) (by omega)), ← hour_eq he])
          all_goals first | (rw [if_pos (by omega)]; done) | (rw [if_neg (by omega), if_pos h10_4]; (first | exact (decide_eq_true (by omega)).symm | exact (decide_eq_false (by omega)).symm)) | (rw [if_neg (by omega), if_neg h10_4]; (first | exact (decide_eq_true (by omega)).symm | exact (decide_eq_false (by omega)).symm))
        have hS16 := hS7.ext hx15
        rw [any_pat (ruleE_fr he).2] at hc3
        refine wl_val (r_not rfl) rfl ?_
        refine wl_val (r_pick_t rfl (v := .bool _) rfl) rfl ?_
        refine wl_nil ?_
        refine c_then ?_
        refine c_true rfl ?_
        refine c_seq ?_
        refine c_region ?_
        refine wl_val (r_assign (v := .bool false) rfl) rfl ?_
        refine wl_nil ?_
        refine c_then ?_
        refine wp_ret ?_
        refine c_thenR ?_
        refine ret1 Try.results18 ?_
        first | exact ⟨congrArg Value.bool (meet_n1 (by omega) hc1).symm, hS16.fin⟩ | exact ⟨congrArg Value.bool (meet_n2 (by omega) hc2).symm, hS16.fin⟩ | exact ⟨congrArg Value.bool (meet_n3 (by omega) hc3).symm, hS16.fin⟩ | skip
        all_goals (refine ⟨congrArg Value.bool ?_, hS16.fin⟩; rw [(meet_y (by first | exact .inl (by omega) | exact .inr hc1) (by first | exact .inl (by omega) | exact .inr hc2) (by first | exact .inl (by omega) | exact .inr hc3) (h := ((q.tm.toNat % 86400 / 3600 : Nat) : Int)) (by omega)), ← hour_eq he])
        all_goals first | (rw [if_pos (by omega)]; done) | (rw [if_neg (by omega), if_pos h10_4]; (first | exact (decide_eq_true (by omega)).symm | exact (decide_eq_false (by omega)).symm)) | (rw [if_neg (by omega), if_neg h10_4]; (first | exact (decide_eq_true (by omega)).symm | exact (decide_eq_false (by omega)).symm))
      refine wl_val (r_move (v := .bool _) rfl) rfl ?_
      refine wl_not rfl ?_
      refine wl_not rfl ?_
      refine wl_not rfl ?_
      refine wl_not rfl ?_
      refine wl_not rfl ?_
      refine wl_val (r_pick_f rfl (v := .bool false) rfl) rfl ?_
      refine wl_nil ?_
      refine c_then ?_
      refine c_false rfl ?_
      refine wp_skip ?_
      refine c_then ?_
      refine c_seq ?_
      refine c_region ?_
      refine wl_val (r_field fa34_5 rfl) rfl ?_
      refine wl_val (r_loadB1 ti3.und rfl rfl (hS7.heap (.head _)) (ask_tmN hac hkey ht0)) rfl ?_
      refine wl_val (r_remn (b := 86400) rfl rfl (by omega)) rfl ?_
      refine wl_val (r_quon (b := 3600) rfl rfl (by omega) (by omega)) rfl ?_
      refine wl_val (r_assign (v := .int .i64 _) rfl) rfl ?_
      refine wl_nil ?_
      refine c_then ?_
      refine c_seq ?_
      refine c_block ?_
      refine c_seq ?_
      refine c_region ?_
      refine wl_val (r_field fa37_4 rfl) rfl ?_
      refine wl_val (r_loadB1 ti3.und rfl rfl (hS7.heap (.tail _ (.head _))) rfl) rfl ?_
      refine wl_dec (r_eql rfl rfl) rfl (fun h8_2 => ?_) (fun h8_2 => ?_)
      · refine wl_val (r_move (v := .bool _) rfl) rfl ?_
        refine wl_val (r_field fa37_5 rfl) rfl ?_
        refine wl_val (r_loadB1 ti3.und rfl rfl (hS7.heap (.tail _ (.head _))) rfl) rfl ?_
        refine wl_dec (r_eql rfl rfl) rfl (fun h8_6 => ?_) (fun h8_6 => ?_)
        · refine wl_val (r_pick_t rfl (v := .bool _) rfl) rfl ?_
          refine wl_val (r_assign (v := .bool _) rfl) rfl ?_
          refine wl_nil ?_
          refine c_then ?_
          refine c_true rfl ?_
          refine c_seq ?_
          refine c_region ?_
          refine wl_val (r_assign (v := .bool true) rfl) rfl ?_
          refine wl_nil ?_
          refine c_then ?_
          refine wp_ret ?_
          refine c_inR ?_
          refine c_thenR ?_
          refine ret1 Try.results18 ?_
          first | exact ⟨congrArg Value.bool (meet_n1 (by omega) hc1).symm, hS7.fin⟩ | exact ⟨congrArg Value.bool (meet_n2 (by omega) hc2).symm, hS7.fin⟩ | exact ⟨congrArg Value.bool (meet_n3 (by omega) hc3).symm, hS7.fin⟩ | skip
          all_goals (refine ⟨congrArg Value.bool ?_, hS7.fin⟩; rw [(meet_y (by first | exact .inl (by omega) | exact .inr hc1) (by first | exact .inl (by omega) | exact .inr hc2) (by first | exact .inl (by omega) | exact .inr hc3) (h := ((q.tm.toNat % 86400 / 3600 : Nat) : Int)) (by omega)), ← hour_eq he])
          all_goals first | (rw [if_pos (by omega)]; done) | (rw [if_neg (by omega), if_pos h10_4]; (first | exact (decide_eq_true (by omega)).symm | exact (decide_eq_false (by omega)).symm)) | (rw [if_neg (by omega), if_neg h10_4]; (first | exact (decide_eq_true (by omega)).symm | exact (decide_eq_false (by omega)).symm))
        refine wl_val (r_pick_t rfl (v := .bool _) rfl) rfl ?_
        refine wl_val (r_assign (v := .bool _) rfl) rfl ?_
        refine wl_nil ?_
        refine c_then ?_
        refine c_false rfl ?_
        refine c_seq ?_
        refine c_region ?_
        refine wl_val (r_field fa37_4 rfl) rfl ?_
        refine wl_val (r_loadB1 ti3.und rfl rfl (hS7.heap (.tail _ (.head _))) rfl) rfl ?_
        refine wl_val (r_field fa37_5 rfl) rfl ?_
        refine wl_val (r_loadB1 ti3.und rfl rfl (hS7.heap (.tail _ (.head _))) rfl) rfl ?_
        refine wl_dec (r_lss rfl rfl) rfl (fun h10_4 => ?_) (fun h10_4 => ?_)
        · refine wl_val (r_assign (v := .bool _) rfl) rfl ?_
          refine wl_nil ?_
          refine c_then ?_
          refine c_true rfl ?_
          refine c_seq ?_
          refine c_region ?_
          refine wl_val (r_field fa37_4 rfl) rfl ?_
          refine wl_val (r_loadB1 ti3.und rfl rfl (hS7.heap (.tail _ (.head _))) rfl) rfl ?_
          refine wl_val (r_move (v := .int .i64 _) rfl) rfl ?_
          refine wl_dec (r_leq rfl rfl) rfl (fun h11_3 => ?_) (fun h11_3 => ?_)
          · refine wl_val (r_move (v := .bool _) rfl) rfl ?_
            refine wl_val (r_move (v := .int .i64 _) rfl) rfl ?_
            refine wl_val (r_field fa37_5 rfl) rfl ?_
            refine wl_val (r_loadB1 ti3.und rfl rfl (hS7.heap (.tail _ (.head _))) rfl) rfl ?_
            refine wl_dec (r_lss rfl rfl) rfl (fun h11_8 => ?_) (fun h11_8 => ?_)
            · refine wl_val (r_pick_t rfl (v := .bool _) rfl) rfl ?_
              refine wl_val (r_assign (v := .bool _) rfl) rfl ?_
              refine wl_nil ?_
              refine c_then ?_
              refine wp_ret ?_
              refine c_inR ?_
              refine c_thenR ?_
              refine ret1 Try.results18 ?_
              first | exact ⟨congrArg Value.bool (meet_n1 (by omega) hc1).symm, hS7.fin⟩ | exact ⟨congrArg Value.bool (meet_n2 (by omega) hc2).symm, hS7.fin⟩ | exact ⟨congrArg Value.bool (meet_n3 (by omega) hc3).symm, hS7.fin⟩ | skip
              all_goals (refine ⟨congrArg Value.bool ?_, hS7.fin⟩; rw [(meet_y (by first | exact .inl (by omega) | exact .inr hc1) (by first | exact .inl (by omega) | exact .inr hc2) (by first | exact .inl (by omega) | exact .inr hc3) (h := ((q.tm.toNat % 86400 / 3600 : Nat) : Int)) (by omega)), ← hour_eq he])
              all_goals first | (rw [if_pos (by omega)]; done) | (rw [if_neg (by omega), if_pos h10_4]; (first | exact (decide_eq_true (by omega)).symm | exact (decide_eq_false (by omega)).symm)) | (rw [if_neg (by omega), if_neg h10_4]; (first | exact (decide_eq_true (by omega)).symm | exact (decide_eq_false (by omega)).symm))
            refine wl_val (r_pick_t rfl (v := .bool _) rfl) rfl ?_
            refine wl_val (r_assign (v := .bool _) rfl) rfl ?_
            refine wl_nil ?_
            refine c_then ?_
            refine wp_ret ?_
            refine c_inR ?_
            refine c_thenR ?_
            refine ret1 Try.results18 ?_
            first | exact ⟨congrArg Value.bool (meet_n1 (by omega) hc1).symm, hS7.fin⟩ | exact ⟨congrArg Value.bool (meet_n2 (by omega) hc2).symm, hS7.fin⟩ | exact ⟨congrArg Value.bool (meet_n3 (by omega) hc3).symm, hS7.fin⟩ | skip
            all_goals (refine ⟨congrArg Value.bool ?_, hS7.fin⟩; rw [(meet_y (by first | exact .inl (by omega) | exact .inr hc1) (by first | exact .inl (by omega) | exact .inr hc2) (by first | exact .inl (by omega) | exact .inr hc3) (h := ((q.tm.toNat % 86400 / 3600 : Nat) : Int)) (by omega)), ← hour_eq he])
            all_goals first | (rw [if_pos (by omega)]; done) | (rw [if_neg (by omega), if_pos h10_4]; (first | exact (decide_eq_true (by omega)).symm | exact (decide_eq_false (by omega)).symm)) | (rw [if_neg (by omega), if_neg h10_4]; (first | exact (decide_eq_true (by omega)).symm | exact (decide_eq_false (by omega)).symm))
          refine wl_val (r_move (v := .bool _) rfl) rfl ?_
          refine wl_not rfl ?_
          refine wl_not rfl ?_
          refine wl_not rfl ?_
          refine wl_not rfl ?_
          refine wl_val (r_pick_f rfl (v := .bool false) rfl) rfl ?_
          refine wl_val (r_assign (v := .bool _) rfl) rfl ?_
          refine wl_nil ?_
          refine c_then ?_
          refine wp_ret ?_
          refine c_inR ?_
          refine c_thenR ?_
          refine ret1 Try.results18 ?_
          first | exact ⟨congrArg Value.bool (meet_n1 (by omega) hc1).symm, hS7.fin⟩ | exact ⟨congrArg Value.bool (meet_n2 (by omega) hc2).symm, hS7.fin⟩ | exact ⟨congrArg Value.bool (meet_n3 (by omega) hc3).symm, hS7.fin⟩ | skip
          all_goals (refine ⟨congrArg Value.bool ?_, hS7.fin⟩; rw [(meet_y (by first | exact .inl (by omega) | exact .inr hc1) (by first | exact .inl (by omega) | exact .inr hc2) (by first | exact .inl (by omega) | exact .inr hc3) (h := ((q.tm.toNat % 86400 / 3600 : Nat) : Int)) (by omega)), ← hour_eq he])
          all_goals first | (rw [if_pos (by omega)]; done) | (rw [if_neg (by omega), if_pos h10_4]; (first | exact (decide_eq_true (by omega)).symm | exact (decide_eq_false (by omega)).symm)) | (rw [if_neg (by omega), if_neg h10_4]; (first | exact (decide_eq_true (by omega)).symm | exact (decide_eq_false (by omega)).symm))
        refine wl_val (r_assign (v := .bool _) rfl) rfl ?_
        refine wl_nil ?_
        refine c_then ?_
        refine c_false rfl ?_
        refine wp_skip ?_
        refine c_inN ?_
        refine c_then ?_
        refine c_seq ?_
        refine c_region ?_
        refine wl_val (r_move (v := .int .i64 _) rfl) rfl ?_
        refine wl_val (r_field fa37_4 rfl) rfl ?_
        refine wl_val (r_loadB1 ti3.und rfl rfl (hS7.heap (.tail _ (.head _))) rfl) rfl ?_
        refine wl_dec (r_geq rfl rfl) rfl (fun h12_3 => ?_) (fun h12_3 => ?_)
        · refine wl_val (r_move (v := .bool _) rfl) rfl ?_
          refine wl_not rfl ?_
          refine wl_not rfl ?_
          refine wl_not rfl ?_
          refine wl_not rfl ?_
          refine wl_val (r_pick_t rfl (v := .bool true) rfl) rfl ?_
          refine wl_val (r_assign (v := .bool _) rfl) rfl ?_
          refine wl_nil ?_
          refine c_then ?_
          refine wp_ret ?_
          refine ret1 Try.results18 ?_
          first | exact ⟨congrArg Value.bool (meet_n1 (by omega) hc1).symm, hS7.fin⟩ | exact ⟨congrArg Value.bool (meet_n2 (by omega) hc2).symm, hS7.fin⟩ | exact ⟨congrArg Value.bool (meet_n3 (by omega) hc3).symm, hS7.fin⟩ | skip
          all_goals (refine ⟨congrArg Value.bool ?_, hS7.fin⟩; rw [(meet_y (by first | exact .inl (by omega) | exact .inr hc1) (by first | exact .inl (by omega) | exact .inr hc2) (by first | exact .inl (by omega) | exact .inr hc3) (h := ((q.tm.toNat % 86400 / 3600 : Nat) : Int)) (by omega)), ← hour_eq he])
          all_goals first | (rw [if_pos (by omega)]; done) | (rw [if_neg (by omega), if_pos h10_4]; (first | exact (decide_eq_true (by omega)).symm | exact (decide_eq_false (by omega)).symm)) | (rw [if_neg (by omega), if_neg h10_4]; (first | exact (decide_eq_true (by omega)).symm | exact (decide_eq_false (by omega)).symm))
        refine wl_val (r_move (v := .bool _) rfl) rfl ?_
        refine wl_val (r_move (v := .int .i64 _) rfl) rfl ?_
        refine wl_val (r_field fa37_5 rfl) rfl ?_
        refine wl_val (r_loadB1 ti3.und rfl rfl (hS7.heap (.tail _ (.head _))) rfl) rfl ?_
        refine wl_dec (r_lss rfl rfl) rfl (fun h12_8 => ?_) (fun h12_8 => ?_)
        · refine wl_val (r_pick_f rfl (v := .bool _) rfl) rfl ?_
          refine wl_val (r_assign (v := .bool _) rfl) rfl ?_
          refine wl_nil ?_
          refine c_then ?_
          refine wp_ret ?_
          refine ret1 Try.results18 ?_
          first | exact ⟨congrArg Value.bool (meet_n1 (by omega) hc1).symm, hS7.fin⟩ | exact ⟨congrArg Value.bool (meet_n2 (by omega) hc2).symm, hS7.fin⟩ | exact ⟨congrArg Value.bool (meet_n3 (by omega) hc3).symm, hS7.fin⟩ | skip
          all_goals (refine ⟨congrArg Value.bool ?_, hS7.fin⟩; rw [(meet_y (by first | exact .inl (by omega) | exact .inr hc1) (by first | exact .inl (by omega) | exact .inr hc2) (by first | exact .inl (by omega) | exact .inr hc3) (h := ((q.tm.toNat % 86400 / 3600 : Nat) : Int)) (by omega)), ← hour_eq he])
          all_goals first | (rw [if_pos (by omega)]; done) | (rw [if_neg (by omega), if_pos h10_4]; (first | exact (decide_eq_true (by omega)).symm | exact (decide_eq_false (by omega)).symm)) | (rw [if_neg (by omega), if_neg h10_4]; (first | exact (decide_eq_true (by omega)).symm | exact (decide_eq_false (by omega)).symm))
        refine wl_val (r_pick_f rfl (v := .bool _) rfl) rfl ?_
        refine wl_val (r_assign (v := .bool _) rfl) rfl ?_
        refine wl_nil ?_
        refine c_then ?_
        refine wp_ret ?_
        refine ret1 Try.results18 ?_
        first | exact ⟨congrArg Value.bool (meet_n1 (by omega) hc1).symm, hS7.fin⟩ | exact ⟨congrArg Value.bool (meet_n2 (by omega) hc2).symm, hS7.fin⟩ | exact ⟨congrArg Value.bool (meet_n3 (by omega) hc3).symm, hS7.fin⟩ | skip
        all_goals (refine ⟨congrArg Value.bool ?_, hS7.fin⟩; rw [(meet_y (by first | exact .inl (by omega) | exact .inr hc1) (by first | exact .inl (by omega) | exact .inr hc2) (by first | exact .inl (by omega) | exact .inr hc3) (h := ((q.tm.toNat % 86400 / 3600 : Nat) : Int)) (by omega)), ← hour_eq he])
        all_goals first | (rw [if_pos (by omega)]; done) | (rw [if_neg (by omega), if_pos h10_4]; (first | exact (decide_eq_true (by omega)).symm | exact (decide_eq_false (by omega)).symm)) | (rw [if_neg (by omega), if_neg h10_4]; (first | exact (decide_eq_true (by omega)).symm | exact (decide_eq_false (by omega)).symm))
      refine wl_val (r_move (v := .bool _) rfl) rfl ?_
      refine wl_not rfl ?_
      refine wl_not rfl ?_
      refine wl_not rfl ?_
      refine wl_val (r_pick_f rfl (v := .bool false) rfl) rfl ?_
      refine wl_val (r_assign (v := .bool _) rfl) rfl ?_
      refine wl_nil ?_
      refine c_then ?_
      refine c_false rfl ?_
      refine c_seq ?_
      refine c_region ?_
      refine wl_val (r_field fa37_4 rfl) rfl ?_
      refine wl_val (r_loadB1 ti3.und rfl rfl (hS7.heap (.tail _ (.head _))) rfl) rfl ?_
      refine wl_val (r_field fa37_5 rfl) rfl ?_
      refine wl_val (r_loadB1 ti3.und rfl rfl (hS7.heap (.tail _ (.head _))) rfl) rfl ?_
      refine wl_dec (r_lss rfl rfl) rfl (fun h10_4 => ?_) (fun h10_4 => ?_)
      · refine wl_val (r_assign (v := .bool _) rfl) rfl ?_
        refine wl_nil ?_
        refine c_then ?_
        refine c_true rfl ?_
        refine c_seq ?_
        refine c_region ?_
        refine wl_val (r_field fa37_4 rfl) rfl ?_
        refine wl_val (r_loadB1 ti3.und rfl rfl (hS7.heap (.tail _ (.head _))) rfl) rfl ?_
        refine wl_val (r_move (v := .int .i64 _) rfl) rfl ?_
        refine wl_dec (r_leq rfl rfl) rfl (fun h11_3 => ?_) (fun h11_3 => ?_)
        · refine wl_val (r_move (v := .bool _) rfl) rfl ?_
          refine wl_val (r_move (v := .int .i64 _) rfl) rfl ?_
          refine wl_val (r_field fa37_5 rfl) rfl ?_
          refine wl_val (r_loadB1 ti3.und rfl rfl (hS7.heap (.tail _ (.head _))) rfl) rfl ?_
          refine wl_dec (r_lss rfl rfl) rfl (fun h11_8 => ?_) (fun h11_8 => ?_)
          · refine wl_val (r_pick_t rfl (v := .bool _) rfl) rfl ?_
            refine wl_val (r_assign (v := .bool _) rfl) rfl ?_
            refine wl_nil ?_
            refine c_then ?_
            refine wp_ret ?_
            refine c_inR ?_
            refine c_thenR ?_
            refine ret1 Try.results18 ?_
            first | exact ⟨congrArg Value.bool (meet_n1 (by omega) hc1).symm, hS7.fin⟩ | exact ⟨congrArg Value.bool (meet_n2 (by omega) hc2).symm, hS7.fin⟩ | exact ⟨congrArg Value.bool (meet_n3 (by omega) hc3).symm, hS7.fin⟩ | skip
            all_goals (refine ⟨congrArg Value.bool ?_, hS7.fin⟩; rw [(meet_y (by first | exact .inl (by omega) | exact .inr hc1) (by first | exact .inl (by omega) | exact .inr hc2) (by first | exact .inl (by omega) | exact .inr hc3) (h := ((q.tm.toNat % 86400 / 3600 : Nat) : Int)) (by omega)), ← hour_eq he])
            all_goals first | (rw [if_pos (by omega)]; done) | (rw [if_neg (by omega), if_pos h10_4]; (first | exact (decide_eq_true (by omega)).symm | exact (decide_eq_false (by omega)).symm)) | (rw [if_neg (by omega), if_neg h10_4]; (first | exact (decide_eq_true (by omega)).symm | exact (decide_eq_false (by omega)).symm))
          refine wl_val (r_pick_t rfl (v := .bool _) rfl) rfl ?_
          refine wl_val (r_assign (v := .bool _) rfl) rfl ?_
          refine wl_nil ?_
          refine c_then ?_
          refine wp_ret ?_
          refine c_inR ?_
          refine c_thenR ?_
          refine ret1 Try.results18 ?_
          first | exact ⟨congrArg Value.bool (meet_n1 (by omega) hc1).symm, hS7.fin⟩ | exact ⟨congrArg Value.bool (meet_n2 (by omega) hc2).symm, hS7.fin⟩ | exact ⟨congrArg Value.bool (meet_n3 (by omega) hc3).symm, hS7.fin⟩ | skip
          all_goals (refine ⟨congrArg Value.bool ?_, hS7.fin⟩; rw [(meet_y (by first | exact .inl (by omega) | exact .inr hc1) (by first | exact .inl (by omega) | exact .inr hc2) (by first | exact .inl (by omega) | exact .inr hc3) (h := ((q.tm.toNat % 86400 / 3600 : Nat) : Int)) (by omega)), ← hour_eq he])
          all_goals first | (rw [if_pos (by omega)]; done) | (rw [if_neg (by omega), if_pos h10_4]; (first | exact (decide_eq_true (by omega)).symm | exact (decide_eq_false (by omega)).symm)) | (rw [if_neg (by omega), if_neg h10_4]; (first | exact (decide_eq_true (by omega)).symm | exact (decide_eq_false (by omega)).symm))
        refine wl_val (r_move (v := .bool _) rfl) rfl ?_
        refine wl_not rfl ?_
        refine wl_not rfl ?_
        refine wl_not rfl ?_
        refine wl_not rfl ?_
        refine wl_val (r_pick_f rfl (v := .bool false) rfl) rfl ?_
        refine wl_val (r_assign (v := .bool _) rfl) rfl ?_
        refine wl_nil ?_
        refine c_then ?_
        refine wp_ret ?_
        refine c_inR ?_
        refine c_thenR ?_
        refine ret1 Try.results18 ?_
        first | exact ⟨congrArg Value.bool (meet_n1 (by omega) hc1).symm, hS7.fin⟩ | exact ⟨congrArg Value.bool (meet_n2 (by omega) hc2).symm, hS7.fin⟩ | exact ⟨congrArg Value.bool (meet_n3 (by omega) hc3).symm, hS7.fin⟩ | skip
        all_goals (refine ⟨congrArg Value.bool ?_, hS7.fin⟩; rw [(meet_y (by first | exact .inl (by omega) | exact .inr hc1) (by first | exact .inl (by omega) | exact .inr hc2) (by first | exact .inl (by omega) | exact .inr hc3) (h := ((q.tm.toNat % 86400 / 3600 : Nat) : Int)) (by omega)), ← hour_eq he])
        all_goals first | (rw [if_pos (by omega)]; done) | (rw [if_neg (by omega), if_pos h10_4]; (first | exact (decide_eq_true (by omega)).symm | exact (decide_eq_false (by omega)).symm)) | (rw [if_neg (by omega), if_neg h10_4]; (first | exact (decide_eq_true (by omega)).symm | exact (decide_eq_false (by omega)).symm))
      refine wl_val (r_assign (v := .bool _) rfl) rfl ?_
      refine wl_nil ?_
      refine c_then ?_
      refine c_false rfl ?_
      refine wp_skip ?_
      refine c_inN ?_
      refine c_then ?_
      refine c_seq ?_
      refine c_region ?_
      refine wl_val (r_move (v := .int .i64 _) rfl) rfl ?_
      refine wl_val (r_field fa37_4 rfl) rfl ?_
      refine wl_val (r_loadB1 ti3.und rfl rfl (hS7.heap (.tail _ (.head _))) rfl) rfl ?_
      refine wl_dec (r_geq rfl rfl) rfl (fun h12_3 => ?_) (fun h12_3 => ?_)
      · refine wl_val (r_move (v := .bool _) rfl) rfl ?_
        refine wl_not rfl ?_
        refine wl_not rfl ?_
        refine wl_not rfl ?_
        refine wl_not rfl ?_
        refine wl_val (r_pick_t rfl (v := .bool true) rfl) rfl ?_
        refine wl_val (r_assign (v := .bool _) rfl) rfl ?_
        refine wl_nil ?_
        refine c_then ?_
        refine wp_ret ?_
        refine ret1 Try.results18 ?_
        first | exact ⟨congrArg Value.bool (meet_n1 (by omega) hc1).symm, hS7.fin⟩ | exact ⟨congrArg Value.bool (meet_n2 (by omega) hc2).symm, hS7.fin⟩ | exact ⟨congrArg Value.bool (meet_n3 (by omega) hc3).symm, hS7.fin⟩ | skip
        all_goals (refine ⟨congrArg Value.bool ?_, hS7.fin⟩; rw [(meet_y (by first | exact .inl (by omega) | exact .inr hc1) (by first | exact .inl (by omega) | exact .inr hc2) (by first | exact .inl (by omega) | exact .inr hc3) (h := ((q.tm.toNat % 86400 / 3600 : Nat) : Int)) (by omega)), ← hour_eq he])
        all_goals first | (rw [if_pos (by omega)]; done) | (rw [if_neg (by omega), if_pos h10_4]; (first | exact (decide_eq_true (by omega)).symm | exact (decide_eq_false (by omega)).symm)) | (rw [if_neg (by omega), if_neg h10_4]; (first | exact (decide_eq_true (by omega)).symm | exact (decide_eq_false (by omega)).symm))
      refine wl_val (r_move (v := .bool _) rfl) rfl ?_
      refine wl_val (r_move (v := .int .i64 _) rfl) rfl ?_
      refine wl_val (r_field fa37_5 rfl) rfl ?_
      refine wl_val (r_loadB1 ti3.und rfl rfl (hS7.heap (.tail _ (.head _))) rfl) rfl ?_
      refine wl_dec (r_lss rfl rfl) rfl (fun h12_8 => ?_) (fun h12_8 => ?_)
      · refine wl_val (r_pick_f rfl (v := .bool _) rfl) rfl ?_
        refine wl_val (r_assign (v := .bool _) rfl) rfl ?_
        refine wl_nil ?_
        refine c_then ?_
        refine wp_ret ?_
        refine ret1 Try.results18 ?_
        first | exact ⟨congrArg Value.bool (meet_n1 (by omega) hc1).symm, hS7.fin⟩ | exact ⟨congrArg Value.bool (meet_n2 (by omega) hc2).symm, hS7.fin⟩ | exact ⟨congrArg Value.bool (meet_n3 (by omega) hc3).symm, hS7.fin⟩ | skip
        all_goals (refine ⟨congrArg Value.bool ?_, hS7.fin⟩; rw [(meet_y (by first | exact .inl (by omega) | exact .inr hc1) (by first | exact .inl (by omega) | exact .inr hc2) (by first | exact .inl (by omega) | exact .inr hc3) (h := ((q.tm.toNat % 86400 / 3600 : Nat) : Int)) (by omega)), ← hour_eq he])
        all_goals first | (rw [if_pos (by omega)]; done) | (rw [if_neg (by omega), if_pos h10_4]; (first | exact (decide_eq_true (by omega)).symm | exact (decide_eq_false (by omega)).symm)) | (rw [if_neg (by omega), if_neg h10_4]; (first | exact (decide_eq_true (by omega)).symm | exact (decide_eq_false (by omega)).symm))
      refine wl_val (r_pick_f rfl (v := .bool _) rfl) rfl ?_
      refine wl_val (r_assign (v := .bool _) rfl) rfl ?_
      refine wl_nil ?_
      refine c_then ?_
      refine wp_ret ?_
      refine ret1 Try.results18 ?_
      first | exact ⟨congrArg Value.bool (meet_n1 (by omega) hc1).symm, hS7.fin⟩ | exact ⟨congrArg Value.bool (meet_n2 (by omega) hc2).symm, hS7.fin⟩ | exact ⟨congrArg Value.bool (meet_n3 (by omega) hc3).symm, hS7.fin⟩ | skip
      all_goals (refine ⟨congrArg Value.bool ?_, hS7.fin⟩; rw [(meet_y (by first | exact .inl (by omega) | exact .inr hc1) (by first | exact .inl (by omega) | exact .inr hc2) (by first | exact .inl (by omega) | exact .inr hc3) (h := ((q.tm.toNat % 86400 / 3600 : Nat) : Int)) (by omega)), ← hour_eq he])
      all_goals first | (rw [if_pos (by omega)]; done) | (rw [if_neg (by omega), if_pos h10_4]; (first | exact (decide_eq_true (by omega)).symm | exact (decide_eq_false (by omega)).symm)) | (rw [if_neg (by omega), if_neg h10_4]; (first | exact (decide_eq_true (by omega)).symm | exact (decide_eq_false (by omega)).symm))
    have hS7 := hS4.ext hx6
    refine wl_val (r_not rfl) rfl ?_
    refine wl_val (r_pick_t rfl (v := .bool _) rfl) rfl ?_
    refine wl_nil ?_
    refine c_then ?_
    refine c_true rfl ?_
    refine c_seq ?_
    refine c_region ?_
    refine wl_val (r_assign (v := .bool false) rfl) rfl ?_
    refine wl_nil ?_
    refine c_then ?_
    refine wp_ret ?_
    refine c_thenR ?_
    refine ret1 Try.results18 ?_
    first | exact ⟨congrArg Value.bool (meet_n1 (by omega) hc1).symm, hS7.fin⟩ | exact ⟨congrArg Value.bool (meet_n2 (by omega) hc2).symm, hS7.fin⟩ | exact ⟨congrArg Value.bool (meet_n3 (by omega) hc3).symm, hS7.fin⟩ | skip
    all_goals (refine ⟨congrArg Value.bool ?_, hS7.fin⟩; rw [(meet_y (by first | exact .inl (by omega) | exact .inr hc1) (by first | exact .inl (by omega) | exact .inr hc2) (by first | exact .inl (by omega) | exact .inr hc3) (h := ((q.tm.toNat % 86400 / 3600 : Nat) : Int)) (by omega)), ← hour_eq he])
    all_goals first | (rw [if_pos (by omega)]; done) | (rw [if_neg (by omega), if_pos h10_4]; (first | exact (decide_eq_true (by omega)).symm | exact (decide_eq_false (by omega)).symm)) | (rw [if_neg (by omega), if_neg h10_4]; (first | exact (decide_eq_true (by omega)).symm | exact (decide_eq_false (by omega)).symm))
  refine wl_val (r_move (v := .bool _) rfl) rfl ?_
  refine wl_not rfl ?_
  refine wl_not rfl ?_
  refine wl_not rfl ?_
  refine wl_not rfl ?_
  refine wl_not rfl ?_
  refine wl_val (r_pick_f rfl (v := .bool false) rfl) rfl ?_
  refine wl_nil ?_
  refine c_then ?_
  refine c_false rfl ?_
  refine wp_skip ?_
  refine c_then ?_
  refine c_seq ?_
  refine c_seq ?_
  refine c_region ?_
  refine wl_val (r_field fa37_2 rfl) rfl ?_
  refine wl_val (r_loadB1 ti35.und rfl rfl (hS4.heap (.tail _ (.head _))) rfl) rfl ?_
  refine wl_val (r_len (T := 35) rfl ti35.und rfl _ rfl) rfl ?_
  refine wl_dec (r_gtr rfl rfl) rfl (fun h3_3 => ?_) (fun h3_3 => ?_)
  · refine wl_val (r_move (v := .bool _) rfl) rfl ?_
    refine wl_val (r_field fa37_2 rfl) rfl ?_
    refine wl_val (r_loadB1 ti35.und rfl rfl (hS4.heap (.tail _ (.head _))) rfl) rfl ?_
    refine wl_val (r_field fa34_2 rfl) rfl ?_
    refine wl_val (r_loadB1 ti3.und rfl rfl (hS4.heap (.head _)) (ask_act hac)) rfl ?_
    refine wl_call (r_call fn57 rfl rfl) rfl (containsI_ok r.acs r.aa r.acs.length r.ak q.act _ (h2.st hS4) rfl hk.an) ?_
    rintro _ w17 (⟨hc2, rfl, hx18⟩ | ⟨hc2, rfl, hx18⟩)
    · have hS19 := hS4.ext hx18
      refine wl_val (r_not rfl) rfl ?_
      refine wl_val (r_pick_t rfl (v := .bool _) rfl) rfl ?_
      refine wl_nil ?_
      refine c_then ?_
      refine c_false rfl ?_
      refine wp_skip ?_
      refine c_then ?_
      refine c_seq ?_
      refine c_seq ?_
      refine c_region ?_
      refine wl_val (r_field fa37_3 rfl) rfl ?_
      refine wl_val (r_loadB1 ti30.und rfl rfl (hS19.heap (.tail _ (.head _))) rfl) rfl ?_
      refine wl_val (r_len (T := 30) rfl ti30.und rfl _ rfl) rfl ?_
      refine wl_dec (r_gtr rfl rfl) rfl (fun h5_3 => ?_) (fun h5_3 => ?_)
      · refine wl_val (r_move (v := .bool _) rfl) rfl ?_
        refine wl_val (r_field fa37_3 rfl) rfl ?_
        refine wl_val (r_loadB1 ti30.und rfl rfl (hS19.heap (.tail _ (.head _))) rfl) rfl ?_
        refine wl_val (r_makeFunc rfl) rfl ?_
        refine wl_call (r_call fn37 rfl rfl) rfl (containsFuncS_ok r.las r.la r.las.length r.lc 58 [pt b3 0] (fun s => (decide (¬ q.lab = []) || decide (s = [42])) && fitsE s q.lab) _ (h3.st hS19) rfl hk.ln fn58 (fun x w' hx h => rmeets2_ok x q b3 w' ((at_all (hS19.heap (.head _))).st h) hac (hk.ll x hx) hq.ll)) ?_
        rintro _ w20 (⟨hc3, rfl, hx21⟩ | ⟨hc3, rfl, hx21⟩)
        · have hS22 := hS19.ext hx21
          rw [any_pat (ruleE_fr he).2] at hc3
          refine wl_val (r_not rfl) rfl ?_
          refine wl_val (r_pick_t rfl (v := .bool _) rfl) rfl ?_
          refine wl_nil ?_
          refine c_then ?_
          refine c_false rfl ?_
          refine wp_skip ?_
          refine c_then ?_
          refine c_seq ?_
          refine c_region ?_
          refine wl_val (r_field fa34_5 rfl) rfl ?_
          refine wl_val (r_loadB1 ti3.und rfl rfl (hS22.heap (.head _)) (ask_tmN hac hkey ht0)) rfl ?_
          refine wl_val (r_remn (b := 86400) rfl rfl (by omega)) rfl ?_
          refine wl_val (r_quon (b := 3600) rfl rfl (by omega) (by omega)) rfl ?_
          refine wl_val (r_assign (v := .int .i64 _) rfl) rfl ?_
          refine wl_nil ?_
          refine c_then ?_
          refine c_seq ?_
          refine c_block ?_
          refine c_seq ?_
          refine c_region ?_
          refine wl_val (r_field fa37_4 rfl) rfl ?_
          refine wl_val (r_loadB1 ti3.und rfl rfl (hS22.heap (.tail _ (.head _))) rfl) rfl ?_
          refine wl_dec (r_eql rfl rfl) rfl (fun h8_2 => ?_) (fun h8_2 => ?_)
          · refine wl_val (r_move (v := .bool _) rfl) rfl ?_
            refine wl_val (r_field fa37_5 rfl) rfl ?_
            refine wl_val (r_loadB1 ti3.und rfl rfl (hS22.heap (.tail _ (.head _))) rfl) rfl ?_
            refine wl_dec (r_eql rfl rfl) rfl (fun h8_6 => ?_) (fun h8_6 => ?_)
            · refine wl_val (r_pick_t rfl (v := .bool _) rfl) rfl ?_
              refine wl_val (r_assign (v := .bool _) rfl) rfl ?_
              refine wl_nil ?_
              refine c_then ?_
              refine c_true rfl ?_
              refine c_seq ?_
              refine c_region ?_
              refine wl_val (r_assign (v := .bool true) rfl) rfl ?_
              refine wl_nil ?_
              refine c_then ?_
              refine wp_ret ?_
              refine c_inR ?_
              refine c_thenR ?_
              refine ret1 Try.results18 ?_
              first | exact ⟨congrArg Value.bool (meet_n1 (by omega) hc1).symm, hS22.fin⟩ | exact ⟨congrArg Value.bool (meet_n2 (by omega) hc2).symm, hS22.fin⟩ | exact ⟨congrArg Value.bool (meet_n3 (by omega) hc3).symm, hS22.fin⟩ | skip
              all_goals (refine ⟨congrArg Value.bool ?_, hS22.fin⟩; rw [(meet_y (by first | exact .inl (by omega) | exact .inr hc1) (by first | exact .inl (by omega) | exact .inr hc2) (by first | exact .inl (by omega) | exact .inr hc3) (h := ((q.tm.toNat % 86400 / 3600 : Nat) : Int)) (by omega)), ← hour_eq he])
              all_goals first | (rw [if_pos (by omega)]; done) | (rw [if_neg (by omega), if_pos h10_4]; (first | exact (decide_eq_true (by omega)).symm | exact (decide_eq_false (by omega)).symm)) | (rw [if_neg (by omega), if_neg h10_4]; (first | exact (decide_eq_true (by omega)).symm | exact (decide_eq_false (by omega)).symm))
            refine wl_val (r_pick_t rfl (v := .bool _) rfl) rfl ?_
            refine wl_val (r_assign (v := .bool _) rfl) rfl ?_
            refine wl_nil ?_
            refine c_then ?_
            refine c_false rfl ?_
            refine c_seq ?_
            refine c_region ?_
            refine wl_val (r_field fa37_4 rfl) rfl ?_
            refine wl_val (r_loadB1 ti3.und rfl rfl (hS22.heap (.tail _ (.head _))) rfl) rfl ?_
            refine wl_val (r_field fa37_5 rfl) rfl ?_
            refine wl_val (r_loadB1 ti3.und rfl rfl (hS22.heap (.tail _ (.head _))) rfl) rfl ?_
            refine wl_dec (r_lss rfl rfl) rfl (fun h10_4 => ?_) (fun h10_4 => ?_)
            · refine wl_val (r_assign (v := .bool _) rfl) rfl ?_
              refine wl_nil ?_
              refine c_then ?_
              refine c_true rfl ?_
              refine c_seq ?_
              refine c_region ?_
              refine wl_val (r_field fa37_4 rfl) rfl ?_
              refine wl_val (r_loadB1 ti3.und rfl rfl (hS22.heap (.tail _ (.head _))) rfl) rfl ?_
              refine wl_val (r_move (v := .int .i64 _) rfl) rfl ?_
              refine wl_dec (r_leq rfl rfl) rfl (fun h11_3 => ?_) (fun h11_3 => ?_)
              · refine wl_val (r_move (v := .bool _) rfl) rfl ?_
                refine wl_val (r_move (v := .int .i64 _) rfl) rfl ?_
                refine wl_val (r_field fa37_5 rfl) rfl ?_
                refine wl_val (r_loadB1 ti3.und rfl rfl (hS22.heap (.tail _ (.head _))) rfl) rfl ?_
                refine wl_dec (r_lss rfl rfl) rfl (fun h11_8 => ?_) (fun h11_8 => ?_)
                · refine wl_val (r_pick_t rfl (v := .bool _) rfl) rfl ?_
                  refine wl_val (r_assign (v := .bool _) rfl) rfl ?_
                  refine wl_nil ?_
                  refine c_then ?_
                  refine wp_ret ?_
                  refine c_inR ?_
                  refine c_thenR ?_
                  refine ret1 Try.results18 ?_
                  first | exact ⟨congrArg Value.bool (meet_n1 (by omega) hc1).symm, hS22.fin⟩ | exact ⟨congrArg Value.bool (meet_n2 (by omega) hc2).symm, hS22.fin⟩ | exact ⟨congrArg Value.bool (meet_n3 (by omega) hc3).symm, hS22.fin⟩ | skip
                  all_goals (refine ⟨congrArg Value.bool ?_, hS22.fin⟩; rw [(meet_y (by first | exact .inl (by omega) | exact .inr hc1) (by first | exact .inl (by omega) | exact .inr hc2) (by first | exact .inl (by omega) | exact .inr hc3) (h := ((q.tm.toNat % 86400 / 3600 : Nat) : Int)) (by omega)), ← hour_eq he])
                  all_goals first | (rw [if_pos (by omega)]; done) | (rw [if_neg (by omega), if_pos h10_4]; (first | exact (decide_eq_true (by omega)).symm | exact (decide_eq_false (by omega)).symm)) | (rw [if_neg (by omega), if_neg h10_4]; (first | exact (decide_eq_true (by omega)).symm | exact (decide_eq_false (by omega)).symm))
                refine wl_val (r_pick_t rfl (v := .bool _) rfl) rfl ?_
                refine wl_val (r_assign (v := .bool _) rfl) rfl ?_
                refine wl_nil ?_
                refine c_then ?_
                refine wp_ret ?_
                refine c_inR ?_
                refine c_thenR ?_
                refine ret1 Try.results18 ?_
                first | exact ⟨congrArg Value.bool (meet_n1 (by omega) hc1).symm, hS22.fin⟩ | exact ⟨congrArg Value.bool (meet_n2 (by omega) hc2).symm, hS22.fin⟩ | exact ⟨congrArg Value.bool (meet_n3 (by omega) hc3).symm, hS22.fin⟩ | skip
                all_goals (refine ⟨congrArg Value.bool ?_, hS22.fin⟩; rw [(meet_y (by first | exact .inl (by omega) | exact .inr hc1) (by first | exact .inl (by omega) | exact .inr hc2) (by first | exact .inl (by omega) | exact .inr hc3) (h := ((q.tm.toNat % 86400 / 3600 : Nat) : Int)) (by omega)), ← hour_eq he])
                all_goals first | (rw [if_pos (by omega)]; done) | (rw [if_neg (by omega), if_pos h10_4]; (first | exact (decide_eq_true (by omega)).symm | exact (decide_eq_false (by omega)).symm)) | (rw [if_neg (by omega), if_neg h10_4]; (first | exact (decide_eq_true (by omega)).symm | exact (decide_eq_false (by omega)).symm))
              refine wl_val (r_move (v := .bool _) rfl) rfl ?_
              refine wl_not rfl ?_
              refine wl_not rfl ?_
              refine wl_not rfl ?_
              refine wl_not rfl ?_
              refine wl_val (r_pick_f rfl (v := .bool false) rfl) rfl ?_
              refine wl_val (r_assign (v := .bool _) rfl) rfl ?_
              refine wl_nil ?_
              refine c_then ?_
              refine wp_ret ?_
              refine c_inR ?_
              refine c_thenR ?_
              refine ret1 Try.results18 ?_
              first | exact ⟨congrArg Value.bool (meet_n1 (by omega) hc1).symm, hS22.fin⟩ | exact ⟨congrArg Value.bool (meet_n2 (by omega) hc2).symm, hS22.fin⟩ | exact ⟨congrArg Value.bool (meet_n3 (by omega) hc3).symm, hS22.fin⟩ | skip
              all_goals (refine ⟨congrArg Value.bool ?_, hS22.fin⟩; rw [(meet_y (by first | exact .inl (by omega) | exact .inr hc1) (by first | exact .inl (by omega) | exact .inr hc2) (by first | exact .inl (by omega) | exact .inr hc3) (h := ((q.tm.toNat % 86400 / 3600 : Nat) : Int)) (by omega)), ← hour_eq he])
              all_goals first | (rw [if_pos (by omega)]; done) | (rw [if_neg (by omega), if_pos h10_4]; (first | exact (decide_eq_true (by omega)).symm | exact (decide_eq_false (by omega)).symm)) | (rw [if_neg (by omega), if_neg h10_4]; (first | exact (decide_eq_true (by omega)).symm | exact (decide_eq_false (by omega)).symm))
            refine wl_val (r_assign (v := .bool _) rfl) rfl ?_
            refine wl_nil ?_
            refine c_then ?_
            refine c_false rfl ?_
            refine wp_skip ?_
            refine c_inN ?_
            refine c_then ?_
            refine c_seq ?_
            refine c_region ?_
            refine wl_val (r_move (v := .int .i64 _) rfl) rfl ?_
            refine wl_val (r_field fa37_4 rfl) rfl ?_
            refine wl_val (r_loadB1 ti3.und rfl rfl (hS22.heap (.tail _ (.head _))) rfl) rfl ?_
            refine wl_dec (r_geq rfl rfl) rfl (fun h12_3 => ?_) (fun h12_3 => ?_)
            · refine wl_val (r_move (v := .bool _) rfl) rfl ?_
              refine wl_not rfl ?_
              refine wl_not rfl ?_
              refine wl_not rfl ?_
              refine wl_not rfl ?_
              refine wl_val (r_pick_t rfl (v := .bool true) rfl) rfl ?_
              refine wl_val (r_assign (v := .bool _) rfl) rfl ?_
              refine wl_nil ?_
              refine c_then ?_
              refine wp_ret ?_
              refine ret1 Try.results18 ?_
              first | exact ⟨congrArg Value.bool (meet_n1 (by omega) hc1).symm, hS22.fin⟩ | exact ⟨congrArg Value.bool (meet_n2 (by omega) hc2).symm, hS22.fin⟩ | exact ⟨congrArg Value.bool (meet_n3 (by omega) hc3).symm, hS22.fin⟩ | skip
              all_goals (refine ⟨congrArg Value.bool ?_, hS22.fin⟩; rw [(meet_y (by first | exact .inl (by omega) | exact .inr hc1) (by first | exact .inl (by omega) | exact .inr hc2) (by first | exact .inl (by omega) | exact .inr hc3) (h := ((q.tm.toNat % 86400 / 3600 : Nat) : Int)) (by omega)), ← hour_eq he])
              all_goals first | (rw [if_pos (by omega)]; done) | (rw [if_neg (by omega), if_pos h10_4]; (first | exact (decide_eq_true (by omega)).symm | exact (decide_eq_false (by omega)).symm)) | (rw [if_neg (by omega), if_neg h10_4]; (first | exact (decide_eq_true (by omega)).symm | exact (decide_eq_false (by omega)).symm))
            refine wl_val (r_move (v := .bool _) rfl) rfl ?_
            refine wl_val (r_move (v := .int .i64 _) rfl) rfl ?_
            refine wl_val (r_field fa37_5 rfl) rfl ?_
            refine wl_val (r_loadB1 ti3.und rfl rfl (hS22.heap (.tail _ (.head _))) rfl) rfl ?_
            refine wl_dec (r_lss rfl rfl) rfl (fun h12_8 => ?_) (fun h12_8 => ?_)
            · refine wl_val (r_pick_f rfl (v := .bool _) rfl) rfl ?_
              refine wl_val (r_assign (v := .bool _) rfl) rfl ?_
              refine wl_nil ?_
              refine c_then ?_
              refine wp_ret ?_
              refine ret1 Try.results18 ?_
              first | exact ⟨congrArg Value.bool (meet_n1 (by omega) hc1).symm, hS22.fin⟩ | exact ⟨congrArg Value.bool (meet_n2 (by omega) hc2).symm, hS22.fin⟩ | exact ⟨congrArg Value.bool (meet_n3 (by omega) hc3).symm, hS22.fin⟩ | skip
              all_goals (refine ⟨congrArg Value.bool ?_, hS22.fin⟩; rw [(meet_y (by first | exact .inl (by omega) | exact .inr hc1) (by first | exact .inl (by omega) | exact .inr hc2) (by first | exact .inl (by omega) | exact .inr hc3) (h := ((q.tm.toNat % 86400 / 3600 : Nat) : Int)) (by omega)), ← hour_eq he])
              all_goals first | (rw [if_pos (by omega)]; done) | (rw [if_neg (by omega), if_pos h10_4]; (first | exact (decide_eq_true (by omega)).symm | exact (decide_eq_false (by omega)).symm)) | (rw [if_neg (by omega), if_neg h10_4]; (first | exact (decide_eq_true (by omega)).symm | exact (decide_eq_false (by omega)).symm))
            refine wl_val (r_pick_f rfl (v := .bool _) rfl) rfl ?_
            refine wl_val (r_assign (v := .bool _) rfl) rfl ?_
            refine wl_nil ?_
            refine c_then ?_
            refine wp_ret ?_
            refine ret1 Try.results18 ?_
            first | exact ⟨congrArg Value.bool (meet_n1 (by omega) hc1).symm, hS22.fin⟩ | exact ⟨congrArg Value.bool (meet_n2 (by omega) hc2).symm, hS22.fin⟩ | exact ⟨congrArg Value.bool (meet_n3 (by omega) hc3).symm, hS22.fin⟩ | skip
            all_goals (refine ⟨congrArg Value.bool ?_, hS22.fin⟩; rw [(meet_y (by first | exact .inl (by omega) | exact .inr hc1) (by first | exact .inl (by omega) | exact .inr hc2) (by first | exact .inl (by omega) | exact .inr hc3) (h := ((q.tm.toNat % 86400 / 3600 : Nat) : Int)) (by omega)), ← hour_eq he])
            all_goals first | (rw [if_pos (by omega)]; done) | (rw [if_neg (by omega), if_pos h10_4]; (first | exact (decide_eq_true (by omega)).symm | exact (decide_eq_false (by omega)).symm)) | (rw [if_neg (by omega), if_neg h10_4]; (first | exact (decide_eq_true (by omega)).symm | exact (decide_eq_false (by omega)).symm))
          refine wl_val (r_move (v := .bool _) rfl) rfl ?_
          refine wl_not rfl ?_
          refine wl_not rfl ?_
          refine wl_not rfl ?_
          refine wl_val (r_pick_f rfl (v := .bool false) rfl) rfl ?_
          refine wl_val (r_assign (v := .bool _) rfl) rfl ?_
          refine wl_nil ?_
          refine c_then ?_
          refine c_false rfl ?_
          refine c_seq ?_
          refine c_region ?_
          refine wl_val (r_field fa37_4 rfl) rfl ?_
          refine wl_val (r_loadB1 ti3.und rfl rfl (hS22.heap (.tail _ (.head _))) rfl) rfl ?_
          refine wl_val (r_field fa37_5 rfl) rfl ?_
          refine wl_val (r_loadB1 ti3.und rfl rfl (hS22.heap (.tail _ (.head _))) rfl) rfl ?_
          refine wl_dec (r_lss rfl rfl) rfl (fun h10_4 => ?_) (fun h10_4 => ?_)
          · refine wl_val (r_assign (v := .bool _) rfl) rfl ?_
            refine wl_nil ?_
            refine c_then ?_
            refine c_true rfl ?_
            refine c_seq ?_
            refine c_region ?_
            refine wl_val (r_field fa37_4 rfl) rfl ?_
            refine wl_val (r_loadB1 ti3.und rfl rfl (hS22.heap (.tail _ (.head _))) rfl) rfl ?_
            refine wl_val (r_move (v := .int .i64 _) rfl) rfl ?_
            refine wl_dec (r_leq rfl rfl) rfl (fun h11_3 => ?_) (fun h11_3 => ?_)
            · refine wl_val (r_move (v := .bool _) rfl) rfl ?_
              refine wl_val (r_move (v := .int .i64 _) rfl) rfl ?_
              refine wl_val (r_field fa37_5 rfl) rfl ?_
              refine wl_val (r_loadB1 ti3.und rfl rfl (hS22.heap (.tail _ (.head _))) rfl) rfl ?_
              refine wl_dec (r_lss rfl rfl) rfl (fun h11_8 => ?_) (fun h11_8 => ?_)
              · refine wl_val (r_pick_t rfl (v := .bool _) rfl) rfl ?_
                refine wl_val (r_assign (v := .bool _) rfl) rfl ?_
                refine wl_nil ?_
                refine c_then ?_
                refine wp_ret ?_
                refine c_inR ?_
                refine c_thenR ?_
                refine ret1 Try.results18 ?_
                first | exact ⟨congrArg Value.bool (meet_n1 (by omega) hc1).symm, hS22.fin⟩ | exact ⟨congrArg Value.bool (meet_n2 (by omega) hc2).symm, hS22.fin⟩ | exact ⟨congrArg Value.bool (meet_n3 (by omega) hc3).symm, hS22.fin⟩ | skip
                all_goals (refine ⟨congrArg Value.bool ?_, hS22.fin⟩; rw [(meet_y (by first | exact .inl (by omega) | exact .inr hc1) (by first | exact .inl (by omega) | exact .inr hc2) (by first | exact .inl (by omega) | exact .inr hc3) (h := ((q.tm.toNat % 86400 / 3600 : Nat) : Int)) (by omega)), ← hour_eq he])
                all_goals first | (rw [if_pos (by omega)]; done) | (rw [if_neg (by omega), if_pos h10_4]; (first | exact (decide_eq_true (by omega)).symm | exact (decide_eq_false (by omega)).symm)) | (rw [if_neg (by omega), if_neg h10_4]; (first | exact (decide_eq_true (by omega)).symm | exact (decide_eq_false (by omega)).symm))
              refine wl_val (r_pick_t rfl (v := .bool _) rfl) rfl ?_
              refine wl_val (r_assign (v := .bool _) rfl) rfl ?_
              refine wl_nil ?_
              refine c_then ?_
              refine wp_ret ?_
              refine c_inR ?_
              refine c_thenR ?_
              refine ret1 Try.results18 ?_
              first | exact ⟨congrArg Value.bool (meet_n1 (by omega) hc1).symm, hS22.fin⟩ | exact ⟨congrArg Value.bool (meet_n2 (by omega) hc2).symm, hS22.fin⟩ | exact ⟨congrArg Value.bool (meet_n3 (by omega) hc3).symm, hS22.fin⟩ | skip
              all_goals (refine ⟨congrArg Value.bool ?_, hS22.fin⟩; rw [(meet_y (by first | exact .inl (by omega) | exact .inr hc1) (by first | exact .inl (by omega) | exact .inr hc2) (by first | exact .inl (by omega) | exact .inr hc3) (h := ((q.tm.toNat % 86400 / 3600 : Nat) : Int)) (by omega)), ← hour_eq he])
              all_goals first | (rw [if_pos (by omega)]; done) | (rw [if_neg (by omega), if_pos h10_4]; (first | exact (decide_eq_true (by omega)).symm | exact (decide_eq_false (by omega)).symm)) | (rw [if_neg (by omega), if_neg h10_4]; (first | exact (decide_eq_true (by omega)).symm | exact (decide_eq_false (by omega)).symm))
            refine wl_val (r_move (v := .bool _) rfl) rfl ?_
            refine wl_not rfl ?_
            refine wl_not rfl ?_
            refine wl_not rfl ?_
            refine wl_not rfl ?_
            refine wl_val (r_pick_f rfl (v := .bool false) rfl) rfl ?_
            refine wl_val (r_assign (v := .bool _) rfl) rfl ?_
            refine wl_nil ?_
            refine c_then ?_
            refine wp_ret ?_
            refine c_inR ?_
            refine c_thenR ?_
            refine ret1 Try.results18 ?_
            first | exact ⟨congrArg Value.bool (meet_n1 (by omega) hc1).symm, hS22.fin⟩ | exact ⟨congrArg Value.bool (meet_n2 (by omega) hc2).symm, hS22.fin⟩ | exact ⟨congrArg Value.bool (meet_n3 (by omega) hc3).symm, hS22.fin⟩ | skip
            all_goals (refine ⟨congrArg Value.bool ?_, hS22.fin⟩; rw [(meet_y (by first | exact .inl (by omega) | exact .inr hc1) (by first | exact .inl (by omega) | exact .inr hc2) (by first | exact .inl (by omega) | exact .inr hc3) (h := ((q.tm.toNat % 86400 / 3600 : Nat) : Int)) (by omega)), ← hour_eq he])
            all_goals first | (rw [if_pos (by omega)]; done) | (rw [if_neg (by omega), if_pos h10_4]; (first | exact (decide_eq_true (by omega)).symm | exact (decide_eq_false (by omega)).symm)) | (rw [if_neg (by omega), if_neg h10_4]; (first | exact (decide_eq_true (by omega)).symm | exact (decide_eq_false (by omega)).symm))
          refine wl_val (r_assign (v := .bool _) rfl) rfl ?_
          refine wl_nil ?_
          refine c_then ?_
          refine c_false rfl ?_
          refine wp_skip ?_
          refine c_inN ?_
          refine c_then ?_
          refine c_seq ?_
          refine c_region ?_
          refine wl_val (r_move (v := .int .i64 _) rfl) rfl ?_
          refine wl_val (r_field fa37_4 rfl) rfl ?_
          refine wl_val (r_loadB1 ti3.und rfl rfl (hS22.heap (.tail _ (.head _))) rfl) rfl ?_
          refine wl_dec (r_geq rfl rfl) rfl (fun h12_3 => ?_) (fun h12_3 => ?_)
          · refine wl_val (r_move (v := .bool _) rfl) rfl ?_
            refine wl_not rfl ?_
            refine wl_not rfl ?_
            refine wl_not rfl ?_
            refine wl_not rfl ?_
            refine wl_val (r_pick_t rfl (v := .bool true) rfl) rfl ?_
            refine wl_val (r_assign (v := .bool _) rfl) rfl ?_
            refine wl_nil ?_
            refine c_then ?_
            refine wp_ret ?_
            refine ret1 Try.results18 ?_
            first | exact ⟨congrArg Value.bool (meet_n1 (by omega) hc1).symm, hS22.fin⟩ | exact ⟨congrArg Value.bool (meet_n2 (by omega) hc2).symm, hS22.fin⟩ | exact ⟨congrArg Value.bool (meet_n3 (by omega) hc3).symm, hS22.fin⟩ | skip
            all_goals (refine ⟨congrArg Value.bool ?_, hS22.fin⟩; rw [(meet_y (by first | exact .inl (by omega) | exact .inr hc1) (by first | exact .inl (by omega) | exact .inr hc2) (by first | exact .inl (by omega) | exact .inr hc3) (h := ((q.tm.toNat % 86400 / 3600 : Nat) : Int)) (by omega)), ← hour_eq he])
            all_goals first | (rw [if_pos (by omega)]; done) | (rw [if_neg (by omega), if_pos h10_4]; (first | exact (decide_eq_true (by omega)).symm | exact (decide_eq_false (by omega)).symm)) | (rw [if_neg (by omega), if_neg h10_4]; (first | exact (decide_eq_true (by omega)).symm | exact (decide_eq_false (by omega)).symm))
          refine wl_val (r_move (v := .bool _) rfl) rfl ?_
          refine wl_val (r_move (v := .int .i64 _) rfl) rfl ?_
          refine wl_val (r_field fa37_5 rfl) rfl ?_
          refine wl_val (r_loadB1 ti3.und rfl rfl (hS22.heap (.tail _ (.head _))) rfl) rfl ?_
          refine wl_dec (r_lss rfl rfl) rfl (fun h12_8 => ?_) (fun h12_8 => ?_)
          · refine wl_val (r_pick_f rfl (v := .bool _) rfl) rfl ?_
            refine wl_val (r_assign (v := .bool _) rfl) rfl ?_
            refine wl_nil ?_
            refine c_then ?_
            refine wp_ret ?_
            refine ret1 Try.results18 ?_
            first | exact ⟨congrArg Value.bool (meet_n1 (by omega) hc1).symm, hS22.fin⟩ | exact ⟨congrArg Value.bool (meet_n2 (by omega) hc2).symm, hS22.fin⟩ | exact ⟨congrArg Value.bool (meet_n3 (by omega) hc3).symm, hS22.fin⟩ | skip
            all_goals (refine ⟨congrArg Value.bool ?_, hS22.fin⟩; rw [(meet_y (by first | exact .inl (by omega) | exact .inr hc1) (by first | exact .inl (by omega) | exact .inr hc2) (by first | exact .inl (by omega) | exact .inr hc3) (h := ((q.tm.toNat % 86400 / 3600 : Nat) : Int)) (by omega)), ← hour_eq he])
            all_goals first | (rw [if_pos (by omega)]; done) | (rw [if_neg (by omega), if_pos h10_4]; (first | exact (decide_eq_true (by omega)).symm | exact (decide_eq_false (by omega)).symm)) | (rw [if_neg (by omega), if_neg h10_4]; (first | exact (decide_eq_true (by omega)).symm | exact (decide_eq_false (by omega)).symm))
          refine wl_val (r_pick_f rfl (v := .bool _) rfl) rfl ?_
          refine wl_val (r_assign (v := .bool _) rfl) rfl ?_
          refine wl_nil ?_
          refine c_then ?_
          refine wp_ret ?_
          refine ret1 Try.results18 ?_
          first | exact ⟨congrArg Value.bool (meet_n1 (by omega) hc1).symm, hS22.fin⟩ | exact ⟨congrArg Value.bool (meet_n2 (by omega) hc2).symm, hS22.fin⟩ | exact ⟨congrArg Value.bool (meet_n3 (by omega) hc3).symm, hS22.fin⟩ | skip
          all_goals (refine ⟨congrArg Value.bool ?_, hS22.fin⟩; rw [(meet_y (by first | exact .inl (by omega) | exact .inr hc1) (by first | exact .inl (by omega) | exact .inr hc2) (by first | exact .inl (by omega) | exact .inr hc3) (h := ((q.tm.toNat % 86400 / 3600 : Nat) : Int)) (by omega)), ← hour_eq he])
          all_goals first | (rw [if_pos (by omega)]; done) | (rw [if_neg (by omega), if_pos h10_4]; (first | exact (decide_eq_true (by omega)).symm | exact (decide_eq_false (by omega)).symm)) | (rw [if_neg (by omega), if_neg h10_4]; (first | exact (decide_eq_true (by omega)).symm | exact (decide_eq_false (by omega)).symm))
        have hS22 := hS19.ext hx21
        rw [any_pat (ruleE_fr he).2] at hc3
        refine wl_val (r_not rfl) rfl ?_
        refine wl_val (r_pick_t rfl (v := .bool _) rfl) rfl ?_
        refine wl_nil ?_
        refine c_then ?_
        refine c_true rfl ?_
        refine c_seq ?_
        refine c_region ?_
        refine wl_val (r_assign (v := .bool false) rfl) rfl ?_
        refine wl_nil ?_
        refine c_then ?_
        refine wp_ret ?_
        refine c_thenR ?_
        refine ret1 Try.results18 ?_
        first | exact ⟨congrArg Value.bool (meet_n1 (by omega) hc1).symm, hS22.fin⟩ | exact ⟨congrArg Value.bool (meet_n2 (by omega) hc2).symm, hS22.fin⟩ | exact ⟨congrArg Value.bool (meet_n3 (by omega) hc3).symm, hS22.fin⟩ | skip
        all_goals (refine ⟨congrArg Value.bool ?_, hS22.fin⟩; rw [(meet_y (by first | exact .inl (by omega) | exact .inr hc1) (by first | exact .inl (by omega) | exact .inr hc2) (by first | exact .inl (by omega) | exact .inr hc3) (h := ((q.tm.toNat % 86400 / 3600 : Nat) : Int)) (by omega)), ← hour_eq he])
        all_goals first | (rw [if_pos (by omega)]; done) | (rw [if_neg (by omega), if_pos h10_4]; (first | exact (decide_eq_true (by omega)).symm | exact (decide_eq_false (by omega)).symm)) | (rw [if_neg (by omega), if_neg h10_4]; (first | exact (decide_eq_true (by omega)).symm | exact (decide_eq_false (by omega)).symm))
      refine wl_val (r_move (v := .bool _) rfl) rfl ?_
      refine wl_not rfl ?_
      refine wl_not rfl ?_
      refine wl_not rfl ?_
      refine wl_not rfl ?_
      refine wl_not rfl ?_
      refine wl_val (r_pick_f rfl (v := .bool false) rfl) rfl ?_
      refine wl_nil ?_
      refine c_then ?_
      refine c_false rfl ?_
      refine wp_skip ?_
      refine c_then ?_
      refine c_seq ?_
      refine c_region ?_
      refine wl_val (r_field fa34_5 rfl) rfl ?_
      refine wl_val (r_loadB1 ti3.und rfl rfl (hS19.heap (.head _)) (ask_tmN hac hkey ht0)) rfl ?_
      refine wl_val (r_remn (b := 86400) rfl rfl (by omega)) rfl ?_
      refine wl_val (r_quon (b := 3600) rfl rfl (by omega) (by omega)) rfl ?_
      refine wl_val (r_assign (v := .int .i64 _) rfl) rfl ?_
      refine wl_nil ?_
      refine c_then ?_
      refine c_seq ?_
      refine c_block ?_
      refine c_seq ?_
      refine c_region ?_
      refine wl_val (r_field fa37_4 rfl) rfl ?_
      refine wl_val (r_loadB1 ti3.und rfl rfl (hS19.heap (.tail _ (.head _))) rfl) rfl ?_
      refine wl_dec (r_eql rfl rfl) rfl (fun h8_2 => ?_) (fun h8_2 => ?_)
      · refine wl_val (r_move (v := .bool _) rfl) rfl ?_
        refine wl_val (r_field fa37_5 rfl) rfl ?_
        refine wl_val (r_loadB1 ti3.und rfl rfl (hS19.heap (.tail _ (.head _))) rfl) rfl ?_
        refine wl_dec (r_eql rfl rfl) rfl (fun h8_6 => ?_) (fun h8_6 => ?_)
        · refine wl_val (r_pick_t rfl (v := .bool _) rfl) rfl ?_
          refine wl_val (r_assign (v := .bool _) rfl) rfl ?_
          refine wl_nil ?_
          refine c_then ?_
          refine c_true rfl ?_
          refine c_seq ?_
          refine c_region ?_
          refine wl_val (r_assign (v := .bool true) rfl) rfl ?_
          refine wl_nil ?_
          refine c_then ?_
          refine wp_ret ?_
          refine c_inR ?_
          refine c_thenR ?_
          refine ret1 Try.results18 ?_
          first | exact ⟨congrArg Value.bool (meet_n1 (by omega) hc1).symm, hS19.fin⟩ | exact ⟨congrArg Value.bool (meet_n2 (by omega) hc2).symm, hS19.fin⟩ | exact ⟨congrArg Value.bool (meet_n3 (by omega) hc3).symm, hS19.fin⟩ | skip
          all_goals (refine ⟨congrArg Value.bool ?_, hS19.fin⟩; rw [(meet_y (by first | exact .inl (by omega) | exact .inr hc1) (by first | exact .inl (by omega) | exact .inr hc2) (by first | exact .inl (by omega) | exact .inr hc3) (h := ((q.tm.toNat % 86400 / 3600 : Nat) : Int)) (by omega)), ← hour_eq he])
          all_goals first | (rw [if_pos (by omega)]; done) | (rw [if_neg (by omega), if_pos h10_4]; (first | exact (decide_eq_true (by omega)).symm | exact (decide_eq_false (by omega)).symm)) | (rw [if_neg (by omega), if_neg h10_4]; (first | exact (decide_eq_true (by omega)).symm | exact (decide_eq_false (by omega)).symm))
        refine wl_val (r_pick_t rfl (v := .bool _) rfl) rfl ?_
        refine wl_val (r_assign (v := .bool _) rfl) rfl ?_
        refine wl_nil ?_
        refine c_then ?_
        refine c_false rfl ?_
        refine c_seq ?_
        refine c_region ?_
        refine wl_val (r_field fa37_4 rfl) rfl ?_
        refine wl_val (r_loadB1 ti3.und rfl rfl (hS19.heap (.tail _ (.head _))) rfl) rfl ?_
        refine wl_val (r_field fa37_5 rfl) rfl ?_
        refine wl_val (r_loadB1 ti3.und rfl rfl (hS19.heap (.tail _ (.head _))) rfl) rfl ?_
        refine wl_dec (r_lss rfl rfl) rfl (fun h10_4 => ?_) (fun h10_4 => ?_)
        · refine wl_val (r_assign (v := .bool _) rfl) rfl ?_
          refine wl_nil ?_
          refine c_then ?_
          refine c_true rfl ?_
          refine c_seq ?_
          refine c_region ?_
          refine wl_val (r_field fa37_4 rfl) rfl ?_
          refine wl_val (r_loadB1 ti3.und rfl rfl (hS19.heap (.tail _ (.head _))) rfl) rfl ?_
          refine wl_val (r_move (v := .int .i64 _) rfl) rfl ?_
          refine wl_dec (r_leq rfl rfl) rfl (fun h11_3 => ?_) (fun h11_3 => ?_)
          · refine wl_val (r_move (v := .bool _) rfl) rfl ?_
            refine wl_val (r_move (v := .int .i64 _) rfl) rfl ?_
            refine wl_val (r_field fa37_5 rfl) rfl ?_
            refine wl_val (r_loadB1 ti3.und rfl rfl (hS19.heap (.tail _ (.head _))) rfl) rfl ?_
            refine wl_dec (r_lss rfl rfl) rfl (fun h11_8 => ?_) (fun h11_8 => ?_)
            · refine wl_val (r_pick_t rfl (v := .bool _) rfl) rfl ?_
              refine wl_val (r_assign (v := .bool _) rfl) rfl ?_
              refine wl_nil ?_
              refine c_then ?_
              refine wp_ret ?_
              refine c_inR ?_
              refine c_thenR ?_
              refine ret1 Try.results18 ?_
              first | exact ⟨congrArg Value.bool (meet_n1 (by omega) hc1).symm, hS19.fin⟩ | exact ⟨congrArg Value.bool (meet_n2 (by omega) hc2).symm, hS19.fin⟩ | exact ⟨congrArg Value.bool (meet_n3 (by omega) hc3).symm, hS19.fin⟩ | skip
              all_goals (refine ⟨congrArg Value.bool ?_, hS19.fin⟩; rw [(meet_y (by first | exact .inl (by omega) | exact .inr hc1) (by first | exact .inl (by omega) | exact .inr hc2) (by first | exact .inl (by omega) | exact .inr hc3) (h := ((q.tm.toNat % 86400 / 3600 : Nat) : Int)) (by omega)), ← hour_eq he])
              all_goals first | (rw [if_pos (by omega)]; done) | (rw [if_neg (by omega), if_pos h10_4]; (first | exact (decide_eq_true (by omega)).symm | exact (decide_eq_false (by omega)).symm)) | (rw [if_neg (by omega), if_neg h10_4]; (first | exact (decide_eq_true (by omega)).symm | exact (decide_eq_false (by omega)).symm))
            refine wl_val (r_pick_t rfl (v := .bool _) rfl) rfl ?_
            refine wl_val (r_assign (v := .bool _) rfl) rfl ?_
            refine wl_nil ?_
            refine c_then ?_
            refine wp_ret ?_
            refine c_inR ?_
            refine c_thenR ?_
            refine ret1 Try.results18 ?_
            first | exact ⟨congrArg Value.bool (meet_n1 (by omega) hc1).symm, hS19.fin⟩ | exact ⟨congrArg Value.bool (meet_n2 (by omega) hc2).symm, hS19.fin⟩ | exact ⟨congrArg Value.bool (meet_n3 (by omega) hc3).symm, hS19.fin⟩ | skip
            all_goals (refine ⟨congrArg Value.bool ?_, hS19.fin⟩; rw [(meet_y (by first | exact .inl (by omega) | exact .inr hc1) (by first | exact .inl (by omega) | exact .inr hc2) (by first | exact .inl (by omega) | exact .inr hc3) (h := ((q.tm.toNat % 86400 / 3600 : Nat) : Int)) (by omega)), ← hour_eq he])
            all_goals first | (rw [if_pos (by omega)]; done) | (rw [if_neg (by omega), if_pos h10_4]; (first | exact (decide_eq_true (by omega)).symm | exact (decide_eq_false (by omega)).symm)) | (rw [if_neg (by omega), if_neg h10_4]; (first | exact (decide_eq_true (by omega)).symm | exact (decide_eq_false (by omega)).symm))
          refine wl_val (r_move (v := .bool _) rfl) rfl ?_
          refine wl_not rfl ?_
          refine wl_not rfl ?_
          refine wl_not rfl ?_
          refine wl_not rfl ?_
          refine wl_val (r_pick_f rfl (v := .bool false) rfl) rfl ?_
          refine wl_val (r_assign (v := .bool _) rfl) rfl ?_
          refine wl_nil ?_
          refine c_then ?_
          refine wp_ret ?_
          refine c_inR ?_
          refine c_thenR ?_
          refine ret1 Try.results18 ?_
          first | exact ⟨congrArg Value.bool (meet_n1 (by omega) hc1).symm, hS19.fin⟩ | exact ⟨congrArg Value.bool (meet_n2 (by omega) hc2).symm, hS19.fin⟩ | exact ⟨congrArg Value.bool (meet_n3 (by omega) hc3).symm, hS19.fin⟩ | skip
          all_goals (refine ⟨congrArg Value.bool ?_, hS19.fin⟩; rw [(meet_y (by first | exact .inl (by omega) | exact .inr hc1) (by first | exact .inl (by omega) | exact .inr hc2) (by first | exact .inl (by omega) | exact .inr hc3) (h := ((q.tm.toNat % 86400 / 3600 : Nat) : Int)) (by omega)), ← hour_eq he])
          all_goals first | (rw [if_pos (by omega)]; done) | (rw [if_neg (by omega), if_pos h10_4]; (first | exact (decide_eq_true (by omega)).symm | exact (decide_eq_false (by omega)).symm)) | (rw [if_neg (by omega), if_neg h10_4]; (first | exact (decide_eq_true (by omega)).symm | exact (decide_eq_false (by omega)).symm))
        refine wl_val (r_assign (v := .bool _) rfl) rfl ?_
        refine wl_nil ?_
        refine c_then ?_
        refine c_false rfl ?_
        refine wp_skip ?_
        refine c_inN ?_
        refine c_then ?_
        refine c_seq ?_
        refine c_region ?_
        refine wl_val (r_move (v := .int .i64 _) rfl) rfl ?_
        refine wl_val (r_field fa37_4 rfl) rfl ?_
        refine wl_val (r_loadB1 ti3.und rfl rfl (hS19.heap (.tail _ (.head _))) rfl) rfl ?_
        refine wl_dec (r_geq rfl rfl) rfl (fun h12_3 => ?_) (fun h12_3 => ?_)
        · refine wl_val (r_move (v := .bool _) rfl) rfl ?_
          refine wl_not rfl ?_
          refine wl_not rfl ?_
          refine wl_not rfl ?_
          refine wl_not rfl ?_
          refine wl_val (r_pick_t rfl (v := .bool true) rfl) rfl ?_
          refine wl_val (r_assign (v := .bool _) rfl) rfl ?_
          refine wl_nil ?_
          refine c_then ?_
          refine wp_ret ?_
          refine ret1 Try.results18 ?_
          first | exact ⟨congrArg Value.bool (meet_n1 (by omega) hc1).symm, hS19.fin⟩ | exact ⟨congrArg Value.bool (meet_n2 (by omega) hc2).symm, hS19.fin⟩ | exact ⟨congrArg Value.bool (meet_n3 (by omega) hc3).symm, hS19.fin⟩ | skip
          all_goals (refine ⟨congrArg Value.bool ?_, hS19.fin⟩; rw [(meet_y (by first | exact .inl (by omega) | exact .inr hc1) (by first | exact .inl (by omega) | exact .inr hc2) (by first | exact .inl (by omega) | exact .inr hc3) (h := ((q.tm.toNat % 86400 / 3600 : Nat) : Int)) (by omega)), ← hour_eq he])
          all_goals first | (rw [if_pos (by omega)]; done) | (rw [if_neg (by omega), if_pos h10_4]; (first | exact (decide_eq_true (by omega)).symm | exact (decide_eq_false (by omega)).symm)) | (rw [if_neg (by omega), if_neg h10_4]; (first | exact (decide_eq_true (by omega)).symm | exact (decide_eq_false (by omega)).symm))
        refine wl_val (r_move (v := .bool _) rfl) rfl ?_
        refine wl_val (r_move (v := .int .i64 _) rfl) rfl ?_
        refine wl_val (r_field fa37_5 rfl) rfl ?_
        refine wl_val (r_loadB1 ti3.und rfl rfl (hS19.heap (.tail _ (.head _))) rfl) rfl ?_
        refine wl_dec (r_lss rfl rfl) rfl (fun h12_8 => ?_) (fun h12_8 => ?_)
        · refine wl_val (r_pick_f rfl (v := .bool _) rfl) rfl ?_
          refine wl_val (r_assign (v := .bool _) rfl) rfl ?_
          refine wl_nil ?_
          refine c_then ?_
          refine wp_ret ?_
          refine ret1 Try.results18 ?_
          first | exact ⟨congrArg Value.bool (meet_n1 (by omega) hc1).symm, hS19.fin⟩ | exact ⟨congrArg Value.bool (meet_n2 (by omega) hc2).symm, hS19.fin⟩ | exact ⟨congrArg Value.bool (meet_n3 (by omega) hc3).symm, hS19.fin⟩ | skip
          all_goals (refine ⟨congrArg Value.bool ?_, hS19.fin⟩; rw [(meet_y (by first | exact .inl (by omega) | exact .inr hc1) (by first | exact .inl (by omega) | exact .inr hc2) (by first | exact .inl (by omega) | exact .inr hc3) (h := ((q.tm.toNat % 86400 / 3600 : Nat) : Int)) (by omega)), ← hour_eq he])
          all_goals first | (rw [if_pos (by omega)]; done) | (rw [if_neg (by omega), if_pos h10_4]; (first | exact (decide_eq_true (by omega)).symm | exact (decide_eq_false (by omega)).symm)) | (rw [if_neg (by omega), if_neg h10_4]; (first | exact (decide_eq_true (by omega)).symm | exact (decide_eq_false (by omega)).symm))
        refine wl_val (r_pick_f rfl (v := .bool _) rfl) rfl ?_
        refine wl_val (r_assign (v := .bool _) rfl) rfl ?_
        refine wl_nil ?_
        refine c_then ?_
        refine wp_ret ?_
        refine ret1 Try.results18 ?_
        first | exact ⟨congrArg Value.bool (meet_n1 (by omega) hc1).symm, hS19.fin⟩ | exact ⟨congrArg Value.bool (meet_n2 (by omega) hc2).symm, hS19.fin⟩ | exact ⟨congrArg Value.bool (meet_n3 (by omega) hc3).symm, hS19.fin⟩ | skip
        all_goals (refine ⟨congrArg Value.bool ?_, hS19.fin⟩; rw [(meet_y (by first | exact .inl (by omega) | exact .inr hc1) (by first | exact .inl (by omega) | exact .inr hc2) (by first | exact .inl (by omega) | exact .inr hc3) (h := ((q.tm.toNat % 86400 / 3600 : Nat) : Int)) (by omega)), ← hour_eq he])
        all_goals first | (rw [if_pos (by omega)]; done) | (rw [if_neg (by omega), if_pos h10_4]; (first | exact (decide_eq_true (by omega)).symm | exact (decide_eq_false (by omega)).symm)) | (rw [if_neg (by omega), if_neg h10_4]; (first | exact (decide_eq_true (by omega)).symm | exact (decide_eq_false (by omega)).symm))
      refine wl_val (r_move (v := .bool _) rfl) rfl ?_
      refine wl_not rfl ?_
      refine wl_not rfl ?_
      refine wl_not rfl ?_
      refine wl_val (r_pick_f rfl (v := .bool false) rfl) rfl ?_
      refine wl_val (r_assign (v := .bool _) rfl) rfl ?_
      refine wl_nil ?_
      refine c_then ?_
      refine c_false rfl ?_
      refine c_seq ?_
      refine c_region ?_
      refine wl_val (r_field fa37_4 rfl) rfl ?_
      refine wl_val (r_loadB1 ti3.und rfl rfl (hS19.heap (.tail _ (.head _))) rfl) rfl ?_
      refine wl_val (r_field fa37_5 rfl) rfl ?_
      refine wl_val (r_loadB1 ti3.und rfl rfl (hS19.heap (.tail _ (.head _))) rfl) rfl ?_
      refine wl_dec (r_lss rfl rfl) rfl (fun h10_4 => ?_) (fun h10_4 => ?_)
      · refine wl_val (r_assign (v := .bool _) rfl) rfl ?_
        refine wl_nil ?_
        refine c_then ?_
        refine c_true rfl ?_
        refine c_seq ?_
        refine c_region ?_
        refine wl_val (r_field fa37_4 rfl) rfl ?_
        refine wl_val (r_loadB1 ti3.und rfl rfl (hS19.heap (.tail _ (.head _))) rfl) rfl ?_
        refine wl_val (r_move (v := .int .i64 _) rfl) rfl ?_
        refine wl_dec (r_leq rfl rfl) rfl (fun h11_3 => ?_) (fun h11_3 => ?_)
        · refine wl_val (r_move (v := .bool _) rfl) rfl ?_
          refine wl_val (r_move (v := .int .i64 _) rfl) rfl ?_
          refine wl_val (r_field fa37_5 rfl) rfl ?_
          refine wl_val (r_loadB1 ti3.und rfl rfl (hS19.heap (.tail _ (.head _))) rfl) rfl ?_
          refine wl_dec (r_lss rfl rfl) rfl (fun h11_8 => ?_) (fun h11_8 => ?_)
          · refine wl_val (r_pick_t rfl (v := .bool _) rfl) rfl ?_
            refine wl_val (r_assign (v := .bool _) rfl) rfl ?_
            refine wl_nil ?_
            refine c_then ?_
            refine wp_ret ?_
            refine c_inR ?_
            refine c_thenR ?_
            refine ret1 Try.results18 ?_
            first | exact ⟨congrArg Value.bool (meet_n1 (by omega) hc1).symm, hS19.fin⟩ | exact ⟨congrArg Value.bool (meet_n2 (by omega) hc2).symm, hS19.fin⟩ | exact ⟨congrArg Value.bool (meet_n3 (by omega) hc3).symm, hS19.fin⟩ | skip
            all_goals (refine ⟨congrArg Value.bool ?_, hS19.fin⟩; rw [(meet_y (by first | exact .inl (by omega) | exact .inr hc1) (by first | exact .inl (by omega) | exact .inr hc2) (by first | exact .inl (by omega) | exact .inr hc3) (h := ((q.tm.toNat % 86400 / 3600 : Nat) : Int)) (by omega)), ← hour_eq he])
            all_goals first | (rw [if_pos (by omega)]; done) | (rw [if_neg (by omega), if_pos h10_4]; (first | exact (decide_eq_true (by omega)).symm | exact (decide_eq_false (by omega)).symm)) | (rw [if_neg (by omega), if_neg h10_4]; (first | exact (decide_eq_true (by omega)).symm | exact (decide_eq_false (by omega)).symm))
          refine wl_val (r_pick_t rfl (v := .bool _) rfl) rfl ?_
          refine wl_val (r_assign (v := .bool _) rfl) rfl ?_
          refine wl_nil ?_
          refine c_then ?_
          refine wp_ret ?_
          refine c_inR ?_
          refine c_thenR ?_
          refine ret1 Try.results18 ?_
          first | exact ⟨congrArg Value.bool (meet_n1 (by omega) hc1).symm, hS19.fin⟩ | exact ⟨congrArg Value.bool (meet_n2 (by omega) hc2).symm, hS19.fin⟩ | exact ⟨congrArg Value.bool (meet_n3 (by omega) hc3).symm, hS19.fin⟩ | skip
          all_goals (refine ⟨congrArg Value.bool ?_, hS19.fin⟩; rw [(meet_y (by first | exact .inl (by omega) | exact .inr hc1) (by first | exact .inl (by omega) | exact .inr hc2) (by first | exact .inl (by omega) | exact .inr hc3) (h := ((q.tm.toNat % 86400 / 3600 : Nat) : Int)) (by omega)), ← hour_eq he])
          all_goals first | (rw [if_pos (by omega)]; done) | (rw [if_neg (by omega), if_pos h10_4]; (first | exact (decide_eq_true (by omega)).symm | exact (decide_eq_false (by omega)).symm)) | (rw [if_neg (by omega), if_neg h10_4]; (first | exact (decide_eq_true (by omega)).symm | exact (decide_eq_false (by omega)).symm))
        refine wl_val (r_move (v := .bool _) rfl) rfl ?_
        refine wl_not rfl ?_
        refine wl_not rfl ?_
        refine wl_not rfl ?_
        refine wl_not rfl ?_
        refine wl_val (r_pick_f rfl (v := .bool false) rfl) rfl ?_
        refine wl_val (r_assign (v := .bool _) rfl) rfl ?_
        refine wl_nil ?_
        refine c_then ?_
        refine wp_ret ?_
        refine c_inR ?_
        refine c_thenR ?_
        refine ret1 Try.results18 ?_
        first | exact ⟨congrArg Value.bool (meet_n1 (by omega) hc1).symm, hS19.fin⟩ | exact ⟨congrArg Value.bool (meet_n2 (by omega) hc2).symm, hS19.fin⟩ | exact ⟨congrArg Value.bool (meet_n3 (by omega) hc3).symm, hS19.fin⟩ | skip
        all_goals (refine ⟨congrArg Value.bool ?_, hS19.fin⟩; rw [(meet_y (by first | exact .inl (by omega) | exact .inr hc1) (by first | exact .inl (by omega) | exact .inr hc2) (by first | exact .inl (by omega) | exact .inr hc3) (h := ((q.tm.toNat % 86400 / 3600 : Nat) : Int)) (by omega)), ← hour_eq he])
        all_goals first | (rw [if_pos (by omega)]; done) | (rw [if_neg (by omega), if_pos h10_4]; (first | exact (decide_eq_true (by omega)).symm | exact (decide_eq_false (by omega)).symm)) | (rw [if_neg (by omega), if_neg h10_4]; (first | exact (decide_eq_true (by omega)).symm | exact (decide_eq_false (by omega)).symm))
      refine wl_val (r_assign (v := .bool _) rfl) rfl ?_
      refine wl_nil ?_
      refine c_then ?_
      refine c_false rfl ?_
      refine wp_skip ?_
      refine c_inN ?_
      refine c_then ?_
      refine c_seq ?_
      refine c_region ?_
      refine wl_val (r_move (v := .int .i64 _) rfl) rfl ?_
      refine wl_val (r_field fa37_4 rfl) rfl ?_
      refine wl_val (r_loadB1 ti3.und rfl rfl (hS19.heap (.tail _ (.head _))) rfl) rfl ?_
      refine wl_dec (r_geq rfl rfl) rfl (fun h12_3 => ?_) (fun h12_3 => ?_)
      · refine wl_val (r_move (v := .bool _) rfl) rfl ?_
        refine wl_not rfl ?_
        refine wl_not rfl ?_
        refine wl_not rfl ?_
        refine wl_not rfl ?_
        refine wl_val (r_pick_t rfl (v := .bool true) rfl) rfl ?_
        refine wl_val (r_assign (v := .bool _) rfl) rfl ?_
        refine wl_nil ?_
        refine c_then ?_
        refine wp_ret ?_
        refine ret1 Try.results18 ?_
        first | exact ⟨congrArg Value.bool (meet_n1 (by omega) hc1).symm, hS19.fin⟩ | exact ⟨congrArg Value.bool (meet_n2 (by omega) hc2).symm, hS19.fin⟩ | exact ⟨congrArg Value.bool (meet_n3 (by omega) hc3).symm, hS19.fin⟩ | skip
        all_goals (refine ⟨congrArg Value.bool ?_, hS19.fin⟩; rw [(meet_y (by first | exact .inl (by omega) | exact .inr hc1) (by first | exact .inl (by omega) | exact .inr hc2) (by first | exact .inl (by omega) | exact .inr hc3) (h := ((q.tm.toNat % 86400 / 3600 : Nat) : Int)) (by omega)), ← hour_eq he])
        all_goals first | (rw [if_pos (by omega)]; done) | (rw [if_neg (by omega), if_pos h10_4]; (first | exact (decide_eq_true (by omega)).symm | exact (decide_eq_false (by omega)).symm)) | (rw [if_neg (by omega), if_neg h10_4]; (first | exact (decide_eq_true (by omega)).symm | exact (decide_eq_false (by omega)).symm))
      refine wl_val (r_move (v := .bool _) rfl) rfl ?_
      refine wl_val (r_move (v := .int .i64 _) rfl) rfl ?_
      refine wl_val (r_field fa37_5 rfl) rfl ?_
      refine wl_val (r_loadB1 ti3.und rfl rfl (hS19.heap (.tail _ (.head _))) rfl) rfl ?_
      refine wl_dec (r_lss rfl rfl) rfl (fun h12_8 => ?_) (fun h12_8 => ?_)
      · refine wl_val (r_pick_f rfl (v := .bool _) rfl) rfl ?_
        refine wl_val (r_assign (v := .bool _) rfl) rfl ?_
        refine wl_nil ?_
        refine c_then ?_
        refine wp_ret ?_
        refine ret1 Try.results18 ?_
        first | exact ⟨congrArg Value.bool (meet_n1 (by omega) hc1).symm, hS19.fin⟩ | exact ⟨congrArg Value.bool (meet_n2 (by omega) hc2).symm, hS19.fin⟩ | exact ⟨congrArg Value.bool (meet_n3 (by omega) hc3).symm, hS19.fin⟩ | skip
        all_goals (refine ⟨congrArg Value.bool ?_, hS19.fin⟩; rw [(meet_y (by first | exact .inl (by omega) | exact .inr hc1) (by first | exact .inl (by omega) | exact .inr hc2) (by first | exact .inl (by omega) | exact .inr hc3) (h := ((q.tm.toNat % 86400 / 3600 : Nat) : Int)) (by omega)), ← hour_eq he])
        all_goals first | (rw [if_pos (by omega)]; done) | (rw [if_neg (by omega), if_pos h10_4]; (first | exact (decide_eq_true (by omega)).symm | exact (decide_eq_false (by omega)).symm)) | (rw [if_neg (by omega), if_neg h10_4]; (first | exact (decide_eq_true (by omega)).symm | exact (decide_eq_false (by omega)).symm))
      refine wl_val (r_pick_f rfl (v := .bool _) rfl) rfl ?_
      refine wl_val (r_assign (v := .bool _) rfl) rfl ?_
      refine wl_nil ?_
      refine c_then ?_
      refine wp_ret ?_
      refine ret1 Try.results18 ?_
      first | exact ⟨congrArg Value.bool (meet_n1 (by omega) hc1).symm, hS19.fin⟩ | exact ⟨congrArg Value.bool (meet_n2 (by omega) hc2).symm, hS19.fin⟩ | exact ⟨congrArg Value.bool (meet_n3 (by omega) hc3).symm, hS19.fin⟩ | skip
      all_goals (refine ⟨congrArg Value.bool ?_, hS19.fin⟩; rw [(meet_y (by first | exact .inl (by omega) | exact .inr hc1) (by first | exact .inl (by omega) | exact .inr hc2) (by first | exact .inl (by omega) | exact .inr hc3) (h := ((q.tm.toNat % 86400 / 3600 : Nat) : Int)) (by omega)), ← hour_eq he])
      all_goals first | (rw [if_pos (by omega)]; done) | (rw [if_neg (by omega), if_pos h10_4]; (first | exact (decide_eq_true (by omega)).symm | exact (decide_eq_false (by omega)).symm)) | (rw [if_neg (by omega), if_neg h10_4]; (first | exact (decide_eq_true (by omega)).symm | exact (decide_eq_false (by omega)).symm))
    have hS19 := hS4.ext hx18
    refine wl_val (r_not rfl) rfl ?_
    refine wl_val (r_pick_t rfl (v := .bool _) rfl) rfl ?_
    refine wl_nil ?_
    refine c_then ?_
    refine c_true rfl ?_
    refine c_seq ?_
    refine c_region ?_
    refine wl_val (r_assign (v := .bool false) rfl) rfl ?_
    refine wl_nil ?_
    refine c_then ?_
    refine wp_ret ?_
    refine c_thenR ?_
    refine ret1 Try.results18 ?_
    first | exact ⟨congrArg Value.bool (meet_n1 (by omega) hc1).symm, hS19.fin⟩ | exact ⟨congrArg Value.bool (meet_n2 (by omega) hc2).symm, hS19.fin⟩ | exact ⟨congrArg Value.bool (meet_n3 (by omega) hc3).symm, hS19.fin⟩ | skip
    all_goals (refine ⟨congrArg Value.bool ?_, hS19.fin⟩; rw [(meet_y (by first | exact .inl (by omega) | exact .inr hc1) (by first | exact .inl (by omega) | exact .inr hc2) (by first | exact .inl (by omega) | exact .inr hc3) (h := ((q.tm.toNat % 86400 / 3600 : Nat) : Int)) (by omega)), ← hour_eq he])
    all_goals first | (rw [if_pos (by omega)]; done) | (rw [if_neg (by omega), if_pos h10_4]; (first | exact (decide_eq_true (by omega)).symm | exact (decide_eq_false (by omega)).symm)) | (rw [if_neg (by omega), if_neg h10_4]; (first | exact (decide_eq_true (by omega)).symm | exact (decide_eq_false (by omega)).symm))
  refine wl_val (r_move (v := .bool _) rfl) rfl ?_
  refine wl_not rfl ?_
  refine wl_not rfl ?_
  refine wl_not rfl ?_
  refine wl_not rfl ?_
  refine wl_not rfl ?_
  refine wl_not rfl ?_
  refine wl_val (r_pick_f rfl (v := .bool false) rfl) rfl ?_
  refine wl_nil ?_
  refine c_then ?_
  refine c_false rfl ?_
  refine wp_skip ?_
  refine c_then ?_
  refine c_seq ?_
  refine c_seq ?_
  refine c_region ?_
  refine wl_val (r_field fa37_3 rfl) rfl ?_
  refine wl_val (r_loadB1 ti30.und rfl rfl (hS4.heap (.tail _ (.head _))) rfl) rfl ?_
  refine wl_val (r_len (T := 30) rfl ti30.und rfl _ rfl) rfl ?_
  refine wl_dec (r_gtr rfl rfl) rfl (fun h5_3 => ?_) (fun h5_3 => ?_)
  · refine wl_val (r_move (v := .bool _) rfl) rfl ?_
    refine wl_val (r_field fa37_3 rfl) rfl ?_
    refine wl_val (r_loadB1 ti30.und rfl rfl (hS4.heap (.tail _ (.head _))) rfl) rfl ?_
    refine wl_val (r_makeFunc rfl) rfl ?_
    refine wl_call (r_call fn37 rfl rfl) rfl (containsFuncS_ok r.las r.la r.las.length r.lc 58 [pt b3 0] (fun s => (decide (¬ q.lab = []) || decide (s = [42])) && fitsE s q.lab) _ (h3.st hS4) rfl hk.ln fn58 (fun x w' hx h => rmeets2_ok x q b3 w' ((at_all (hS4.heap (.head _))).st h) hac (hk.ll x hx) hq.ll)) ?_
    rintro _ w23 (⟨hc3, rfl, hx24⟩ | ⟨hc3, rfl, hx24⟩)
    · have hS25 := hS4.ext hx24
      rw [any_pat (ruleE_fr he).2] at hc3
      refine wl_val (r_not rfl) rfl ?_
      refine wl_val (r_pick_t rfl (v := .bool _) rfl) rfl ?_
      refine wl_nil ?_
      refine c_then ?_
      refine c_false rfl ?_
      refine wp_skip ?_
      refine c_then ?_
      refine c_seq ?_
      refine c_region ?_
      refine wl_val (r_field fa34_5 rfl) rfl ?_
      refine wl_val (r_loadB1 ti3.und rfl rfl (hS25.heap (.head _)) (ask_tmN hac hkey ht0)) rfl ?_
      refine wl_val (r_remn (b := 86400) rfl rfl (by omega)) rfl ?_
      refine wl_val (r_quon (b := 3600) rfl rfl (by omega) (by omega)) rfl ?_
      refine wl_val (r_assign (v := .int .i64 _) rfl) rfl ?_
      refine wl_nil ?_
      refine c_then ?_
      refine c_seq ?_
      refine c_block ?_
      refine c_seq ?_
      refine c_region ?_
      refine wl_val (r_field fa37_4 rfl) rfl ?_
      refine wl_val (r_loadB1 ti3.und rfl rfl (hS25.heap (.tail _ (.head _))) rfl) rfl ?_
      refine wl_dec (r_eql rfl rfl) rfl (fun h8_2 => ?_) (fun h8_2 => ?_)
      · refine wl_val (r_move (v := .bool _) rfl) rfl ?_
        refine wl_val (r_field fa37_5 rfl) rfl ?_
        refine wl_val (r_loadB1 ti3.und rfl rfl (hS25.heap (.tail _ (.head _))) rfl) rfl ?_
        refine wl_dec (r_eql rfl rfl) rfl (fun h8_6 => ?_) (fun h8_6 => ?_)
        · refine wl_val (r_pick_t rfl (v := .bool _) rfl) rfl ?_
          refine wl_val (r_assign (v := .bool _) rfl) rfl ?_
          refine wl_nil ?_
          refine c_then ?_
          refine c_true rfl ?_
          refine c_seq ?_
          refine c_region ?_
          refine wl_val (r_assign (v := .bool true) rfl) rfl ?_
          refine wl_nil ?_
          refine c_then ?_
          refine wp_ret ?_
          refine c_inR ?_
          refine c_thenR ?_
          refine ret1 Try.results18 ?_
          first | exact ⟨congrArg Value.bool (meet_n1 (by omega) hc1).symm, hS25.fin⟩ | exact ⟨congrArg Value.bool (meet_n2 (by omega) hc2).symm, hS25.fin⟩ | exact ⟨congrArg Value.bool (meet_n3 (by omega) hc3).symm, hS25.fin⟩ | skip
          all_goals (refine ⟨congrArg Value.bool ?_, hS25.fin⟩; rw [(meet_y (by first | exact .inl (by omega) | exact .inr hc1) (by first | exact .inl (by omega) | exact .inr hc2) (by first | exact .inl (by omega) | exact .inr hc3) (h := ((q.tm.toNat % 86400 / 3600 : Nat) : Int)) (by omega)), ← hour_eq he])
          all_goals first | (rw [if_pos (by omega)]; done) | (rw [if_neg (by omega), if_pos h10_4]; (first | exact (decide_eq_true (by omega)).symm | exact (decide_eq_false (by omega)).symm)) | (rw [if_neg (by omega), if_neg h10_4]; (first | exact (decide_eq_true (by omega)).symm | exact (decide_eq_false (by omega)).symm))
        refine wl_val (r_pick_t rfl (v := .bool _) rfl) rfl ?_
        refine wl_val (r_assign (v := .bool _) rfl) rfl ?_
        refine wl_nil ?_
        refine c_then ?_
        refine c_false rfl ?_
        refine c_seq ?_
        refine c_region ?_
        refine wl_val (r_field fa37_4 rfl) rfl ?_
        refine wl_val (r_loadB1 ti3.und rfl rfl (hS25.heap (.tail _ (.head _))) rfl) rfl ?_
        refine wl_val (r_field fa37_5 rfl) rfl ?_
        refine wl_val (r_loadB1 ti3.und rfl rfl (hS25.heap (.tail _ (.head _))) rfl) rfl ?_
        refine wl_dec (r_lss rfl rfl) rfl (fun h10_4 => ?_) (fun h10_4 => ?_)
        · refine wl_val (r_assign (v := .bool _) rfl) rfl ?_
          refine wl_nil ?_
          refine c_then ?_
          refine c_true rfl ?_
          refine c_seq ?_
          refine c_region ?_
          refine wl_val (r_field fa37_4 rfl) rfl ?_
          refine wl_val (r_loadB1 ti3.und rfl rfl (hS25.heap (.tail _ (.head _))) rfl) rfl ?_
          refine wl_val (r_move (v := .int .i64 _) rfl) rfl ?_
          refine wl_dec (r_leq rfl rfl) rfl (fun h11_3 => ?_) (fun h11_3 => ?_)
          · refine wl_val (r_move (v := .bool _) rfl) rfl ?_
            refine wl_val (r_move (v := .int .i64 _) rfl) rfl ?_
            refine wl_val (r_field fa37_5 rfl) rfl ?_
            refine wl_val (r_loadB1 ti3.und rfl rfl (hS25.heap (.tail _ (.head _))) rfl) rfl ?_
            refine wl_dec (r_lss rfl rfl) rfl (fun h11_8 => ?_) (fun h11_8 => ?_)
            · refine wl_val (r_pick_t rfl (v := .bool _) rfl) rfl ?_
              refine wl_val (r_assign (v := .bool _) rfl) rfl ?_
              refine wl_nil ?_
              refine c_then ?_
              refine wp_ret ?_
              refine c_inR ?_
              refine c_thenR ?_
              refine ret1 Try.results18 ?_
              first | exact ⟨congrArg Value.bool (meet_n1 (by omega) hc1).symm, hS25.fin⟩ | exact ⟨congrArg Value.bool (meet_n2 (by omega) hc2).symm, hS25.fin⟩ | exact ⟨congrArg Value.bool (meet_n3 (by omega) hc3).symm, hS25.fin⟩ | skip
              all_goals (refine ⟨congrArg Value.bool ?_, hS25.fin⟩; rw [(meet_y (by first | exact .inl (by omega) | exact .inr hc1) (by first | exact .inl (by omega) | exact .inr hc2) (by first | exact .inl (by omega) | exact .inr hc3) (h := ((q.tm.toNat % 86400 / 3600 : Nat) : Int)) (by omega)), ← hour_eq he])
              all_goals first | (rw [if_pos (by omega)]; done) | (rw [if_neg (by omega), if_pos h10_4]; (first | exact (decide_eq_true (by omega)).symm | exact (decide_eq_false (by omega)).symm)) | (rw [if_neg (by omega), if_neg h10_4]; (first | exact (decide_eq_true (by omega)).symm | exact (decide_eq_false (by omega)).symm))
            refine wl_val (r_pick_t rfl (v := .bool _) rfl) rfl ?_
            refine wl_val (r_assign (v := .bool _) rfl) rfl ?_
            refine wl_nil ?_
            refine c_then ?_
            refine wp_ret ?_
            refine c_inR ?_
            refine c_thenR ?_
            refine ret1 Try.results18 ?_
            first | exact ⟨congrArg Value.bool (meet_n1 (by omega) hc1).symm, hS25.fin⟩ | exact ⟨congrArg Value.bool (meet_n2 (by omega) hc2).symm, hS25.fin⟩ | exact ⟨congrArg Value.bool (meet_n3 (by omega) hc3).symm, hS25.fin⟩ | skip
            all_goals (refine ⟨congrArg Value.bool ?_, hS25.fin⟩; rw [(meet_y (by first | exact .inl (by omega) | exact .inr hc1) (by first | exact .inl (by omega) | exact .inr hc2) (by first | exact .inl (by omega) | exact .inr hc3) (h := ((q.tm.toNat % 86400 / 3600 : Nat) : Int)) (by omega)), ← hour_eq he])
            all_goals first | (rw [if_pos (by omega)]; done) | (rw [if_neg (by omega), if_pos h10_4]; (first | exact (decide_eq_true (by omega)).symm | exact (decide_eq_false (by omega)).symm)) | (rw [if_neg (by omega), if_neg h10_4]; (first | exact (decide_eq_true (by omega)).symm | exact (decide_eq_false (by omega)).symm))
          refine wl_val (r_move (v := .bool _) rfl) rfl ?_
          refine wl_not rfl ?_
          refine wl_not rfl ?_
          refine wl_not rfl ?_
          refine wl_not rfl ?_
          refine wl_val (r_pick_f rfl (v := .bool false) rfl) rfl ?_
          refine wl_val (r_assign (v := .bool _) rfl) rfl ?_
          refine wl_nil ?_
          refine c_then ?_
          refine wp_ret ?_
          refine c_inR ?_
          refine c_thenR ?_
          refine ret1 Try.results18 ?_
          first | exact ⟨congrArg Value.bool (meet_n1 (by omega) hc1).symm, hS25.fin⟩ | exact ⟨congrArg Value.bool (meet_n2 (by omega) hc2).symm, hS25.fin⟩ | exact ⟨congrArg Value.bool (meet_n3 (by omega) hc3).symm, hS25.fin⟩ | skip
          all_goals (refine ⟨congrArg Value.bool ?_, hS25.fin⟩; rw [(meet_y (by first | exact .inl (by omega) | exact .inr hc1) (by first | exact .inl (by omega) | exact .inr hc2) (by first | exact .inl (by omega) | exact .inr hc3) (h := ((q.tm.toNat % 86400 / 3600 : Nat) : Int)) (by omega)), ← hour_eq he])
          all_goals first | (rw [if_pos (by omega)]; done) | (rw [if_neg (by omega), if_pos h10_4]; (first | exact (decide_eq_true (by omega)).symm | exact (decide_eq_false (by omega)).symm)) | (rw [if_neg (by omega), if_neg h10_4]; (first | exact (decide_eq_true (by omega)).symm | exact (decide_eq_false (by omega)).symm))
        refine wl_val (r_assign (v := .bool _) rfl) rfl ?_
        refine wl_nil ?_
        refine c_then ?_
        refine c_false rfl ?_
        refine wp_skip ?_
        refine c_inN ?_
        refine c_then ?_
        refine c_seq ?_
        refine c_region ?_
        refine wl_val (r_move (v := .int .i64 _) rfl) rfl ?_
        refine wl_val (r_field fa37_4 rfl) rfl ?_
        refine wl_val (r_loadB1 ti3.und rfl rfl (hS25.heap (.tail _ (.head _))) rfl) rfl ?_
        refine wl_dec (r_geq rfl rfl) rfl (fun h12_3 => ?_) (fun h12_3 => ?_)
        · refine wl_val (r_move (v := .bool _) rfl) rfl ?_
          refine wl_not rfl ?_
          refine wl_not rfl ?_
          refine wl_not rfl ?_
          refine wl_not rfl ?_
          refine wl_val (r_pick_t rfl (v := .bool true) rfl) rfl ?_
          refine wl_val (r_assign (v := .bool _) rfl) rfl ?_
          refine wl_nil ?_
          refine c_then ?_
          refine wp_ret ?_
          refine ret1 Try.results18 ?_
          first | exact ⟨congrArg Value.bool (meet_n1 (by omega) hc1).symm, hS25.fin⟩ | exact ⟨congrArg Value.bool (meet_n2 (by omega) hc2).symm, hS25.fin⟩ | exact ⟨congrArg Value.bool (meet_n3 (by omega) hc3).symm, hS25.fin⟩ | skip
          all_goals (refine ⟨congrArg Value.bool ?_, hS25.fin⟩; rw [(meet_y (by first | exact .inl (by omega) | exact .inr hc1) (by first | exact .inl (by omega) | exact .inr hc2) (by first | exact .inl (by omega) | exact .inr hc3) (h := ((q.tm.toNat % 86400 / 3600 : Nat) : Int)) (by omega)), ← hour_eq he])
          all_goals first | (rw [if_pos (by omega)]; done) | (rw [if_neg (by omega), if_pos h10_4]; (first | exact (decide_eq_true (by omega)).symm | exact (decide_eq_false (by omega)).symm)) | (rw [if_neg (by omega), if_neg h10_4]; (first | exact (decide_eq_true (by omega)).symm | exact (decide_eq_false (by omega)).symm))
        refine wl_val (r_move (v := .bool _) rfl) rfl ?_
        refine wl_val (r_move (v := .int .i64 _) rfl) rfl ?_
        refine wl_val (r_field fa37_5 rfl) rfl ?_
        refine wl_val (r_loadB1 ti3.und rfl rfl (hS25.heap (.tail _ (.head _))) rfl) rfl ?_
        refine wl_dec (r_lss rfl rfl) rfl (fun h12_8 => ?_) (fun h12_8 => ?_)
        · refine wl_val (r_pick_f rfl (v := .bool _) rfl) rfl ?_
          refine wl_val (r_assign (v := .bool _) rfl) rfl ?_
          refine wl_nil ?_
          refine c_then ?_
          refine wp_ret ?_
          refine ret1 Try.results18 ?_
          first | exact ⟨congrArg Value.bool (meet_n1 (by omega) hc1).symm, hS25.fin⟩ | exact ⟨congrArg Value.bool (meet_n2 (by omega) hc2).symm, hS25.fin⟩ | exact ⟨congrArg Value.bool (meet_n3 (by omega) hc3).symm, hS25.fin⟩ | skip
          all_goals (refine ⟨congrArg Value.bool ?_, hS25.fin⟩; rw [(meet_y (by first | exact .inl (by omega) | exact .inr hc1) (by first | exact .inl (by omega) | exact .inr hc2) (by first | exact .inl (by omega) | exact .inr hc3) (h := ((q.tm.toNat % 86400 / 3600 : Nat) : Int)) (by omega)), ← hour_eq he])
          all_goals first | (rw [if_pos (by omega)]; done) | (rw [if_neg (by omega), if_pos h10_4]; (first | exact (decide_eq_true (by omega)).symm | exact (decide_eq_false (by omega)).symm)) | (rw [if_neg (by omega), if_neg h10_4]; (first | exact (decide_eq_true (by omega)).symm | exact (decide_eq_false (by omega)).symm))
        refine wl_val (r_pick_f rfl (v := .bool _) rfl) rfl ?_
        refine wl_val (r_assign (v := .bool _) rfl) rfl ?_
        refine wl_nil ?_
        refine c_then ?_
        refine wp_ret ?_
        refine ret1 Try.results18 ?_
        first | exact ⟨congrArg Value.bool (meet_n1 (by omega) hc1).symm, hS25.fin⟩ | exact ⟨congrArg Value.bool (meet_n2 (by omega) hc2).symm, hS25.fin⟩ | exact ⟨congrArg Value.bool (meet_n3 (by omega) hc3).symm, hS25.fin⟩ | skip
        all_goals (refine ⟨congrArg Value.bool ?_, hS25.fin⟩; rw [(meet_y (by first | exact .inl (by omega) | exact .inr hc1) (by first | exact .inl (by omega) | exact .inr hc2) (by first | exact .inl (by omega) | exact .inr hc3) (h := ((q.tm.toNat % 86400 / 3600 : Nat) : Int)) (by omega)), ← hour_eq he])
        all_goals first | (rw [if_pos (by omega)]; done) | (rw [if_neg (by omega), if_pos h10_4]; (first | exact (decide_eq_true (by omega)).symm | exact (decide_eq_false (by omega)).symm)) | (rw [if_neg (by omega), if_neg h10_4]; (first | exact (decide_eq_true (by omega)).symm | exact (decide_eq_false (by omega)).symm))
      refine wl_val (r_move (v := .bool _) rfl) rfl ?_
      refine wl_not rfl ?_
      refine wl_not rfl ?_
      refine wl_not rfl ?_
      refine wl_val (r_pick_f rfl (v := .bool false) rfl) rfl ?_
      refine wl_val (r_assign (v := .bool _) rfl) rfl ?_
      refine wl_nil ?_
      refine c_then ?_
      refine c_false rfl ?_
      refine c_seq ?_
      refine c_region ?_
      refine wl_val (r_field fa37_4 rfl) rfl ?_
      refine wl_val (r_loadB1 ti3.und rfl rfl (hS25.heap (.tail _ (.head _))) rfl) rfl ?_
      refine wl_val (r_field fa37_5 rfl) rfl ?_
      refine wl_val (r_loadB1 ti3.und rfl rfl (hS25.heap (.tail _ (.head _))) rfl) rfl ?_
      refine wl_dec (r_lss rfl rfl) rfl (fun h10_4 => ?_) (fun h10_4 => ?_)
      · refine wl_val (r_assign (v := .bool _) rfl) rfl ?_
        refine wl_nil ?_
        refine c_then ?_
        refine c_true rfl ?_
        refine c_seq ?_
        refine c_region ?_
        refine wl_val (r_field fa37_4 rfl) rfl ?_
        refine wl_val (r_loadB1 ti3.und rfl rfl (hS25.heap (.tail _ (.head _))) rfl) rfl ?_
        refine wl_val (r_move (v := .int .i64 _) rfl) rfl ?_
        refine wl_dec (r_leq rfl rfl) rfl (fun h11_3 => ?_) (fun h11_3 => ?_)
        · refine wl_val (r_move (v := .bool _) rfl) rfl ?_
          refine wl_val (r_move (v := .int .i64 _) rfl) rfl ?_
          refine wl_val (r_field fa37_5 rfl) rfl ?_
          refine wl_val (r_loadB1 ti3.und rfl rfl (hS25.heap (.tail _ (.head _))) rfl) rfl ?_
          refine wl_dec (r_lss rfl rfl) rfl (fun h11_8 => ?_) (fun h11_8 => ?_)
          · refine wl_val (r_pick_t rfl (v := .bool _) rfl) rfl ?_
            refine wl_val (r_assign (v := .bool _) rfl) rfl ?_
            refine wl_nil ?_
            refine c_then ?_
            refine wp_ret ?_
            refine c_inR ?_
            refine c_thenR ?_
            refine ret1 Try.results18 ?_
            first | exact ⟨congrArg Value.bool (meet_n1 (by omega) hc1).symm, hS25.fin⟩ | exact ⟨congrArg Value.bool (meet_n2 (by omega) hc2).symm, hS25.fin⟩ | exact ⟨congrArg Value.bool (meet_n3 (by omega) hc3).symm, hS25.fin⟩ | skip
            all_goals (refine ⟨congrArg Value.bool ?_, hS25.fin⟩; rw [(meet_y (by first | exact .inl (by omega) | exact .inr hc1) (by first | exact .inl (by omega) | exact .inr hc2) (by first | exact .inl (by omega) | exact .inr hc3) (h := ((q.tm.toNat % 86400 / 3600 : Nat) : Int)) (by omega)), ← hour_eq he])
            all_goals first | (rw [if_pos (by omega)]; done) | (rw [if_neg (by omega), if_pos h10_4]; (first | exact (decide_eq_true (by omega)).symm | exact (decide_eq_false (by omega)).symm)) | (rw [if_neg (by omega), if_neg h10_4]; (first | exact (decide_eq_true (by omega)).symm | exact (decide_eq_false (by omega)).symm))
          refine wl_val (r_pick_t rfl (v := .bool _) rfl) rfl ?_
          refine wl_val (r_assign (v := .bool _) rfl) rfl ?_
          refine wl_nil ?_
          refine c_then ?_
          refine wp_ret ?_
          refine c_inR ?_
          refine c_thenR ?_
          refine ret1 Try.results18 ?_
          first | exact ⟨congrArg Value.bool (meet_n1 (by omega) hc1).symm, hS25.fin⟩ | exact ⟨congrArg Value.bool (meet_n2 (by omega) hc2).symm, hS25.fin⟩ | exact ⟨congrArg Value.bool (meet_n3 (by omega) hc3).symm, hS25.fin⟩ | skip
          all_goals (refine ⟨congrArg Value.bool ?_, hS25.fin⟩; rw [(meet_y (by first | exact .inl (by omega) | exact .inr hc1) (by first | exact .inl (by omega) | exact .inr hc2) (by first | exact .inl (by omega) | exact .inr hc3) (h := ((q.tm.toNat % 86400 / 3600 : Nat) : Int)) (by omega)), ← hour_eq he])
          all_goals first | (rw [if_pos (by omega)]; done) | (rw [if_neg (by omega), if_pos h10_4]; (first | exact (decide_eq_true (by omega)).symm | exact (decide_eq_false (by omega)).symm)) | (rw [if_neg (by omega), if_neg h10_4]; (first | exact (decide_eq_true (by omega)).symm | exact (decide_eq_false (by omega)).symm))
        refine wl_val (r_move (v := .bool _) rfl) rfl ?_
        refine wl_not rfl ?_
        refine wl_not rfl ?_
        refine wl_not rfl ?_
        refine wl_not rfl ?_
        refine wl_val (r_pick_f rfl (v := .bool false) rfl) rfl ?_
        refine wl_val (r_assign (v := .bool _) rfl) rfl ?_
        refine wl_nil ?_
        refine c_then ?_
        refine wp_ret ?_
        refine c_inR ?_
        refine c_thenR ?_
        refine ret1 Try.results18 ?_
        first | exact ⟨congrArg Value.bool (meet_n1 (by omega) hc1).symm, hS25.fin⟩ | exact ⟨congrArg Value.bool (meet_n2 (by omega) hc2).symm, hS25.fin⟩ | exact ⟨congrArg Value.bool (meet_n3 (by omega) hc3).symm, hS25.fin⟩ | skip
        all_goals (refine ⟨congrArg Value.bool ?_, hS25.fin⟩; rw [(meet_y (by first | exact .inl (by omega) | exact .inr hc1) (by first | exact .inl (by omega) | exact .inr hc2) (by first | exact .inl (by omega) | exact .inr hc3) (h := ((q.tm.toNat % 86400 / 3600 : Nat) : Int)) (by omega)), ← hour_eq he])
        all_goals first | (rw [if_pos (by omega)]; done) | (rw [if_neg (by omega), if_pos h10_4]; (first | exact (decide_eq_true (by omega)).symm | exact (decide_eq_false (by omega)).symm)) | (rw [if_neg (by omega), if_neg h10_4]; (first | exact (decide_eq_true (by omega)).symm | exact (decide_eq_false (by omega)).symm))
      refine wl_val (r_assign (v := .bool _) rfl) rfl ?_
      refine wl_nil ?_
      refine c_then ?_
      refine c_false rfl ?_
      refine wp_skip ?_
      refine c_inN ?_
      refine c_then ?_
      refine c_seq ?_
      refine c_region ?_
      refine wl_val (r_move (v := .int .i64 _) rfl) rfl ?_
      refine wl_val (r_field fa37_4 rfl) rfl ?_
      refine wl_val (r_loadB1 ti3.und rfl rfl (hS25.heap (.tail _ (.head _))) rfl) rfl ?_
      refine wl_dec (r_geq rfl rfl) rfl (fun h12_3 => ?_) (fun h12_3 => ?_)
      · refine wl_val (r_move (v := .bool _) rfl) rfl ?_
        refine wl_not rfl ?_
        refine wl_not rfl ?_
        refine wl_not rfl ?_
        refine wl_not rfl ?_
        refine wl_val (r_pick_t rfl (v := .bool true) rfl) rfl ?_
        refine wl_val (r_assign (v := .bool _) rfl) rfl ?_
        refine wl_nil ?_
        refine c_then ?_
        refine wp_ret ?_
        refine ret1 Try.results18 ?_
        first | exact ⟨congrArg Value.bool (meet_n1 (by omega) hc1).symm, hS25.fin⟩ | exact ⟨congrArg Value.bool (meet_n2 (by omega) hc2).symm, hS25.fin⟩ | exact ⟨congrArg Value.bool (meet_n3 (by omega) hc3).symm, hS25.fin⟩ | skip
        all_goals (refine ⟨congrArg Value.bool ?_, hS25.fin⟩; rw [(meet_y (by first | exact .inl (by omega) | exact .inr hc1) (by first | exact .inl (by omega) | exact .inr hc2) (by first | exact .inl (by omega) | exact .inr hc3) (h := ((q.tm.toNat % 86400 / 3600 : Nat) : Int)) (by omega)), ← hour_eq he])
        all_goals first | (rw [if_pos (by omega)]; done) | (rw [if_neg (by omega), if_pos h10_4]; (first | exact (decide_eq_true (by omega)).symm | exact (decide_eq_false (by omega)).symm)) | (rw [if_neg (by omega), if_neg h10_4]; (first | exact (decide_eq_true (by omega)).symm | exact (decide_eq_false (by omega)).symm))
      refine wl_val (r_move (v := .bool _) rfl) rfl ?_
      refine wl_val (r_move (v := .int .i64 _) rfl) rfl ?_
      refine wl_val (r_field fa37_5 rfl) rfl ?_
      refine wl_val (r_loadB1 ti3.und rfl rfl (hS25.heap (.tail _ (.head _))) rfl) rfl ?_
      refine wl_dec (r_lss rfl rfl) rfl (fun h12_8 => ?_) (fun h12_8 => ?_)
      · refine wl_val (r_pick_f rfl (v := .bool _) rfl) rfl ?_
        refine wl_val (r_assign (v := .bool _) rfl) rfl ?_
        refine wl_nil ?_
        refine c_then ?_
        refine wp_ret ?_
        refine ret1 Try.results18 ?_
        first | exact ⟨congrArg Value.bool (meet_n1 (by omega) hc1).symm, hS25.fin⟩ | exact ⟨congrArg Value.bool (meet_n2 (by omega) hc2).symm, hS25.fin⟩ | exact ⟨congrArg Value.bool (meet_n3 (by omega) hc3).symm, hS25.fin⟩ | skip
        all_goals (refine ⟨congrArg Value.bool ?_, hS25.fin⟩; rw [(meet_y (by first | exact .inl (by omega) | exact .inr hc1) (by first | exact .inl (by omega) | exact .inr hc2) (by first | exact .inl (by omega) | exact .inr hc3) (h := ((q.tm.toNat % 86400 / 3600 : Nat) : Int)) (by omega)), ← hour_eq he])
        all_goals first | (rw [if_pos (by omega)]; done) | (rw [if_neg (by omega), if_pos h10_4]; (first | exact (decide_eq_true (by omega)).symm | exact (decide_eq_false (by omega)).symm)) | (rw [if_neg (by omega), if_neg h10_4]; (first | exact (decide_eq_true (by omega)).symm | exact (decide_eq_false (by omega)).symm))
      refine wl_val (r_pick_f rfl (v := .bool _) rfl) rfl ?_
      refine wl_val (r_assign (v := .bool _) rfl) rfl ?_
      refine wl_nil ?_
      refine c_then ?_
      refine wp_ret ?_
      refine ret1 Try.results18 ?_
      first | exact ⟨congrArg Value.bool (meet_n1 (by omega) hc1).symm, hS25.fin⟩ | exact ⟨congrArg Value.bool (meet_n2 (by omega) hc2).symm, hS25.fin⟩ | exact ⟨congrArg Value.bool (meet_n3 (by omega) hc3).symm, hS25.fin⟩ | skip
      all_goals (refine ⟨congrArg Value.bool ?_, hS25.fin⟩; rw [(meet_y (by first | exact .inl (by omega) | exact .inr hc1) (by first | exact .inl (by omega) | exact .inr hc2) (by first | exact .inl (by omega) | exact .inr hc3) (h := ((q.tm.toNat % 86400 / 3600 : Nat) : Int)) (by omega)), ← hour_eq he])
      all_goals first | (rw [if_pos (by omega)]; done) | (rw [if_neg (by omega), if_pos h10_4]; (first | exact (decide_eq_true (by omega)).symm | exact (decide_eq_false (by omega)).symm)) | (rw [if_neg (by omega), if_neg h10_4]; (first | exact (decide_eq_true (by omega)).symm | exact (decide_eq_false (by omega)).symm))
    have hS25 := hS4.ext hx24
    rw [any_pat (ruleE_fr he).2] at hc3
    refine wl_val (r_not rfl) rfl ?_
    refine wl_val (r_pick_t rfl (v := .bool _) rfl) rfl ?_
    refine wl_nil ?_
    refine c_then ?_
    refine c_true rfl ?_
    refine c_seq ?_
    refine c_region ?_
    refine wl_val (r_assign (v := .bool false) rfl) rfl ?_
    refine wl_nil ?_
    refine c_then ?_
    refine wp_ret ?_
    refine c_thenR ?_
    refine ret1 Try.results18 ?_
    first | exact ⟨congrArg Value.bool (meet_n1 (by omega) hc1).symm, hS25.fin⟩ | exact ⟨congrArg Value.bool (meet_n2 (by omega) hc2).symm, hS25.fin⟩ | exact ⟨congrArg Value.bool (meet_n3 (by omega) hc3).symm, hS25.fin⟩ | skip
    all_goals (refine ⟨congrArg Value.bool ?_, hS25.fin⟩; rw [(meet_y (by first | exact .inl (by omega) | exact .inr hc1) (by first | exact .inl (by omega) | exact .inr hc2) (by first | exact .inl (by omega) | exact .inr hc3) (h := ((q.tm.toNat % 86400 / 3600 : Nat) : Int)) (by omega)), ← hour_eq he])
    all_goals first | (rw [if_pos (by omega)]; done) | (rw [if_neg (by omega), if_pos h10_4]; (first | exact (decide_eq_true (by omega)).symm | exact (decide_eq_false (by omega)).symm)) | (rw [if_neg (by omega), if_neg h10_4]; (first | exact (decide_eq_true (by omega)).symm | exact (decide_eq_false (by omega)).symm))
  refine wl_val (r_move (v := .bool _) rfl) rfl ?_
  refine wl_not rfl ?_
  refine wl_not rfl ?_
  refine wl_not rfl ?_
  refine wl_not rfl ?_
  refine wl_not rfl ?_
  refine wl_val (r_pick_f rfl (v := .bool false) rfl) rfl ?_
  refine wl_nil ?_
  refine c_then ?_
  refine c_false rfl ?_
  refine wp_skip ?_
  refine c_then ?_
  refine c_seq ?_
  refine c_region ?_
  refine wl_val (r_field fa34_5 rfl) rfl ?_
  refine wl_val (r_loadB1 ti3.und rfl rfl (hS4.heap (.head _)) (ask_tmN hac hkey ht0)) rfl ?_
  refine wl_val (r_remn (b := 86400) rfl rfl (by omega)) rfl ?_
  refine wl_val (r_quon (b := 3600) rfl rfl (by omega) (by omega)) rfl ?_
  refine wl_val (r_assign (v := .int .i64 _) rfl) rfl ?_
  refine wl_nil ?_
  refine c_then ?_
  refine c_seq ?_
  refine c_block ?_
  refine c_seq ?_
  refine c_region ?_
  refine wl_val (r_field fa37_4 rfl) rfl ?_
  refine wl_val (r_loadB1 ti3.und rfl rfl (hS4.heap (.tail _ (.head _))) rfl) rfl ?_
  refine wl_dec (r_eql rfl rfl) rfl (fun h8_2 => ?_) (fun h8_2 => ?_)
  · refine wl_val (r_move (v := .bool _) rfl) rfl ?_
    refine wl_val (r_field fa37_5 rfl) rfl ?_
    refine wl_val (r_loadB1 ti3.und rfl rfl (hS4.heap (.tail _ (.head _))) rfl) rfl ?_
    refine wl_dec (r_eql rfl rfl) rfl (fun h8_6 => ?_) (fun h8_6 => ?_)
    · refine wl_val (r_pick_t rfl (v := .bool _) rfl) rfl ?_
      refine wl_val (r_assign (v := .bool _) rfl) rfl ?_
      refine wl_nil ?_
      refine c_then ?_
      refine c_true rfl ?_
      refine c_seq ?_
      refine c_region ?_
      refine wl_val (r_assign (v := .bool true) rfl) rfl ?_
      refine wl_nil ?_
      refine c_then ?_
      refine wp_ret ?_
      refine c_inR ?_
      refine c_thenR ?_
      refine ret1 Try.results18 ?_
      first | exact ⟨congrArg Value.bool (meet_n1 (by omega) hc1).symm, hS4.fin⟩ | exact ⟨congrArg Value.bool (meet_n2 (by omega) hc2).symm, hS4.fin⟩ | exact ⟨congrArg Value.bool (meet_n3 (by omega) hc3).symm, hS4.fin⟩ | skip
      all_goals (refine ⟨congrArg Value.bool ?_, hS4.fin⟩; rw [(meet_y (by first | exact .inl (by omega) | exact .inr hc1) (by first | exact .inl (by omega) | exact .inr hc2) (by first | exact .inl (by omega) | exact .inr hc3) (h := ((q.tm.toNat % 86400 / 3600 : Nat) : Int)) (by omega)), ← hour_eq he])
      all_goals first | (rw [if_pos (by omega)]; done) | (rw [if_neg (by omega), if_pos h10_4]; (first | exact (decide_eq_true (by omega)).symm | exact (decide_eq_false (by omega)).symm)) | (rw [if_neg (by omega), if_neg h10_4]; (first | exact (decide_eq_true (by omega)).symm | exact (decide_eq_false (by omega)).symm))
    refine wl_val (r_pick_t rfl (v := .bool _) rfl) rfl ?_
    refine wl_val (r_assign (v := .bool _) rfl) rfl ?_
    refine wl_nil ?_
    refine c_then ?_
    refine c_false rfl ?_
    refine c_seq ?_
    refine c_region ?_
    refine wl_val (r_field fa37_4 rfl) rfl ?_
    refine wl_val (r_loadB1 ti3.und rfl rfl (hS4.heap (.tail _ (.head _))) rfl) rfl ?_
    refine wl_val (r_field fa37_5 rfl) rfl ?_
    refine wl_val (r_loadB1 ti3.und rfl rfl (hS4.heap (.tail _ (.head _))) rfl) rfl ?_
    refine wl_dec (r_lss rfl rfl) rfl (fun h10_4 => ?_) (fun h10_4 => ?_)
    · refine wl_val (r_assign (v := .bool _) rfl) rfl ?_
      refine wl_nil ?_
      refine c_then ?_
      refine c_true rfl ?_
      refine c_seq ?_
      refine c_region ?_
      refine wl_val (r_field fa37_4 rfl) rfl ?_
      refine wl_val (r_loadB1 ti3.und rfl rfl (hS4.heap (.tail _ (.head _))) rfl) rfl ?_
      refine wl_val (r_move (v := .int .i64 _) rfl) rfl ?_
      refine wl_dec (r_leq rfl rfl) rfl (fun h11_3 => ?_) (fun h11_3 => ?_)
      · refine wl_val (r_move (v := .bool _) rfl) rfl ?_
        refine wl_val (r_move (v := .int .i64 _) rfl) rfl ?_
        refine wl_val (r_field fa37_5 rfl) rfl ?_
        refine wl_val (r_loadB1 ti3.und rfl rfl (hS4.heap (.tail _ (.head _))) rfl) rfl ?_
        refine wl_dec (r_lss rfl rfl) rfl (fun h11_8 => ?_) (fun h11_8 => ?_)
        · refine wl_val (r_pick_t rfl (v := .bool _) rfl) rfl ?_
          refine wl_val (r_assign (v := .bool _) rfl) rfl ?_
          refine wl_nil ?_
          refine c_then ?_
          refine wp_ret ?_
          refine c_inR ?_
          refine c_thenR ?_
          refine ret1 Try.results18 ?_
          first | exact ⟨congrArg Value.bool (meet_n1 (by omega) hc1).symm, hS4.fin⟩ | exact ⟨congrArg Value.bool (meet_n2 (by omega) hc2).symm, hS4.fin⟩ | exact ⟨congrArg Value.bool (meet_n3 (by omega) hc3).symm, hS4.fin⟩ | skip
          all_goals (refine ⟨congrArg Value.bool ?_, hS4.fin⟩; rw [(meet_y (by first | exact .inl (by omega) | exact .inr hc1) (by first | exact .inl (by omega) | exact .inr hc2) (by first | exact .inl (by omega) | exact .inr hc3) (h := ((q.tm.toNat % 86400 / 3600 : Nat) : Int)) (by omega)), ← hour_eq he])
          all_goals first | (rw [if_pos (by omega)]; done) | (rw [if_neg (by omega), if_pos h10_4]; (first | exact (decide_eq_true (by omega)).symm | exact (decide_eq_false (by omega)).symm)) | (rw [if_neg (by omega), if_neg h10_4]; (first | exact (decide_eq_true (by omega)).symm | exact (decide_eq_false (by omega)).symm))
        refine wl_val (r_pick_t rfl (v := .bool _) rfl) rfl ?_
        refine wl_val (r_assign (v := .bool _) rfl) rfl ?_
        refine wl_nil ?_
        refine c_then ?_
        refine wp_ret ?_
        refine c_inR ?_
        refine c_thenR ?_
        refine ret1 Try.results18 ?_
        first | exact ⟨congrArg Value.bool (meet_n1 (by omega) hc1).symm, hS4.fin⟩ | exact ⟨congrArg Value.bool (meet_n2 (by omega) hc2).symm, hS4.fin⟩ | exact ⟨congrArg Value.bool (meet_n3 (by omega) hc3).symm, hS4.fin⟩ | skip
        all_goals (refine ⟨congrArg Value.bool ?_, hS4.fin⟩; rw [(meet_y (by first | exact .inl (by omega) | exact .inr hc1) (by first | exact .inl (by omega) | exact .inr hc2) (by first | exact .inl (by omega) | exact .inr hc3) (h := ((q.tm.toNat % 86400 / 3600 : Nat) : Int)) (by omega)), ← hour_eq he])
        all_goals first | (rw [if_pos (by omega)]; done) | (rw [if_neg (by omega), if_pos h10_4]; (first | exact (decide_eq_true (by omega)).symm | exact (decide_eq_false (by omega)).symm)) | (rw [if_neg (by omega), if_neg h10_4]; (first | exact (decide_eq_true (by omega)).symm | exact (decide_eq_false (by omega)).symm))
      refine wl_val (r_move (v := .bool _) rfl) rfl ?_
      refine wl_not rfl ?_
      refine wl_not rfl ?_
      refine wl_not rfl ?_
      refine wl_not rfl ?_
      refine wl_val (r_pick_f rfl (v := .bool false) rfl) rfl ?_
      refine wl_val (r_assign (v := .bool _) rfl) rfl ?_
      refine wl_nil ?_
      refine c_then ?_
      refine wp_ret ?_
      refine c_inR ?_
      refine c_thenR ?_
      refine ret1 Try.results18 ?_
      first | exact ⟨congrArg Value.bool (meet_n1 (by omega) hc1).symm, hS4.fin⟩ | exact ⟨congrArg Value.bool (meet_n2 (by omega) hc2).symm, hS4.fin⟩ | exact ⟨congrArg Value.bool (meet_n3 (by omega) hc3).symm, hS4.fin⟩ | skip
      all_goals (refine ⟨congrArg Value.bool ?_, hS4.fin⟩; rw [(meet_y (by first | exact .inl (by omega) | exact .inr hc1) (by first | exact .inl (by omega) | exact .inr hc2) (by first | exact .inl (by omega) | exact .inr hc3) (h := ((q.tm.toNat % 86400 / 3600 : Nat) : Int)) (by omega)), ← hour_eq he])
      all_goals first | (rw [if_pos (by omega)]; done) | (rw [if_neg (by omega), if_pos h10_4]; (first | exact (decide_eq_true (by omega)).symm | exact (decide_eq_false (by omega)).symm)) | (rw [if_neg (by omega), if_neg h10_4]; (first | exact (decide_eq_true (by omega)).symm | exact (decide_eq_false (by omega)).symm))
    refine wl_val (r_assign (v := .bool _) rfl) rfl ?_
    refine wl_nil ?_
    refine c_then ?_
    refine c_false rfl ?_
    refine wp_skip ?_
    refine c_inN ?_
    refine c_then ?_
    refine c_seq ?_
    refine c_region ?_
    refine wl_val (r_move (v := .int .i64 _) rfl) rfl ?_
    refine wl_val (r_field fa37_4 rfl) rfl ?_
    refine wl_val (r_loadB1 ti3.und rfl rfl (hS4.heap (.tail _ (.head _))) rfl) rfl ?_
    refine wl_dec (r_geq rfl rfl) rfl (fun h12_3 => ?_) (fun h12_3 => ?_)
    · refine wl_val (r_move (v := .bool _) rfl) rfl ?_
      refine wl_not rfl ?_
      refine wl_not rfl ?_
      refine wl_not rfl ?_
      refine wl_not rfl ?_
      refine wl_val (r_pick_t rfl (v := .bool true) rfl) rfl ?_
      refine wl_val (r_assign (v := .bool _) rfl) rfl ?_
      refine wl_nil ?_
      refine c_then ?_
      refine wp_ret ?_
      refine ret1 Try.results18 ?_
      first | exact ⟨congrArg Value.bool (meet_n1 (by omega) hc1).symm, hS4.fin⟩ | exact ⟨congrArg Value.bool (meet_n2 (by omega) hc2).symm, hS4.fin⟩ | exact ⟨congrArg Value.bool (meet_n3 (by omega) hc3).symm, hS4.fin⟩ | skip
      all_goals (refine ⟨congrArg Value.bool ?_, hS4.fin⟩; rw [(meet_y (by first | exact .inl (by omega) | exact .inr hc1) (by first | exact .inl (by omega) | exact .inr hc2) (by first | exact .inl (by omega) | exact .inr hc3) (h := ((q.tm.toNat % 86400 / 3600 : Nat) : Int)) (by omega)), ← hour_eq he])
      all_goals first | (rw [if_pos (by omega)]; done) | (rw [if_neg (by omega), if_pos h10_4]; (first | exact (decide_eq_true (by omega)).symm | exact (decide_eq_false (by omega)).symm)) | (rw [if_neg (by omega), if_neg h10_4]; (first | exact (decide_eq_true (by omega)).symm | exact (decide_eq_false (by omega)).symm))
    refine wl_val (r_move (v := .bool _) rfl) rfl ?_
    refine wl_val (r_move (v := .int .i64 _) rfl) rfl ?_
    refine wl_val (r_field fa37_5 rfl) rfl ?_
    refine wl_val (r_loadB1 ti3.und rfl rfl (hS4.heap (.tail _ (.head _))) rfl) rfl ?_
    refine wl_dec (r_lss rfl rfl) rfl (fun h12_8 => ?_) (fun h12_8 => ?_)
    · refine wl_val (r_pick_f rfl (v := .bool _) rfl) rfl ?_
      refine wl_val (r_assign (v := .bool _) rfl) rfl ?_
      refine wl_nil ?_
      refine c_then ?_
      refine wp_ret ?_
      refine ret1 Try.results18 ?_
      first | exact ⟨congrArg Value.bool (meet_n1 (by omega) hc1).symm, hS4.fin⟩ | exact ⟨congrArg Value.bool (meet_n2 (by omega) hc2).symm, hS4.fin⟩ | exact ⟨congrArg Value.bool (meet_n3 (by omega) hc3).symm, hS4.fin⟩ | skip
      all_goals (refine ⟨congrArg Value.bool ?_, hS4.fin⟩; rw [(meet_y (by first | exact .inl (by omega) | exact .inr hc1) (by first | exact .inl (by omega) | exact .inr hc2) (by first | exact .inl (by omega) | exact .inr hc3) (h := ((q.tm.toNat % 86400 / 3600 : Nat) : Int)) (by omega)), ← hour_eq he])
      all_goals first | (rw [if_pos (by omega)]; done) | (rw [if_neg (by omega), if_pos h10_4]; (first | exact (decide_eq_true (by omega)).symm | exact (decide_eq_false (by omega)).symm)) | (rw [if_neg (by omega), if_neg h10_4]; (first | exact (decide_eq_true (by omega)).symm | exact (decide_eq_false (by omega)).symm))
    refine wl_val (r_pick_f rfl (v := .bool _) rfl) rfl ?_
    refine wl_val (r_assign (v := .bool _) rfl) rfl ?_
    refine wl_nil ?_
    refine c_then ?_
    refine wp_ret ?_
    refine ret1 Try.results18 ?_
    first | exact ⟨congrArg Value.bool (meet_n1 (by omega) hc1).symm, hS4.fin⟩ | exact ⟨congrArg Value.bool (meet_n2 (by omega) hc2).symm, hS4.fin⟩ | exact ⟨congrArg Value.bool (meet_n3 (by omega) hc3).symm, hS4.fin⟩ | skip
    all_goals (refine ⟨congrArg Value.bool ?_, hS4.fin⟩; rw [(meet_y (by first | exact .inl (by omega) | exact .inr hc1) (by first | exact .inl (by omega) | exact .inr hc2) (by first | exact .inl (by omega) | exact .inr hc3) (h := ((q.tm.toNat % 86400 / 3600 : Nat) : Int)) (by omega)), ← hour_eq he])
    all_goals first | (rw [if_pos (by omega)]; done) | (rw [if_neg (by omega), if_pos h10_4]; (first | exact (decide_eq_true (by omega)).symm | exact (decide_eq_false (by omega)).symm)) | (rw [if_neg (by omega), if_neg h10_4]; (first | exact (decide_eq_true (by omega)).symm | exact (decide_eq_false (by omega)).symm))
  refine wl_val (r_move (v := .bool _) rfl) rfl ?_
  refine wl_not rfl ?_
  refine wl_not rfl ?_
  refine wl_not rfl ?_
  refine wl_val (r_pick_f rfl (v := .bool false) rfl) rfl ?_
  refine wl_val (r_assign (v := .bool _) rfl) rfl ?_
  refine wl_nil ?_
  refine c_then ?_
  refine c_false rfl ?_
  refine c_seq ?_
  refine c_region ?_
  refine wl_val (r_field fa37_4 rfl) rfl ?_
  refine wl_val (r_loadB1 ti3.und rfl rfl (hS4.heap (.tail _ (.head _))) rfl) rfl ?_
  refine wl_val (r_field fa37_5 rfl) rfl ?_
  refine wl_val (r_loadB1 ti3.und rfl rfl (hS4.heap (.tail _ (.head _))) rfl) rfl ?_
  refine wl_dec (r_lss rfl rfl) rfl (fun h10_4 => ?_) (fun h10_4 => ?_)
  · refine wl_val (r_assign (v := .bool _) rfl) rfl ?_
    refine wl_nil ?_
    refine c_then ?_
    refine c_true rfl ?_
    refine c_seq ?_
    refine c_region ?_
    refine wl_val (r_field fa37_4 rfl) rfl ?_
    refine wl_val (r_loadB1 ti3.und rfl rfl (hS4.heap (.tail _ (.head _))) rfl) rfl ?_
    refine wl_val (r_move (v := .int .i64 _) rfl) rfl ?_
    refine wl_dec (r_leq rfl rfl) rfl (fun h11_3 => ?_) (fun h11_3 => ?_)
    · refine wl_val (r_move (v := .bool _) rfl) rfl ?_
      refine wl_val (r_move (v := .int .i64 _) rfl) rfl ?_
      refine wl_val (r_field fa37_5 rfl) rfl ?_
      refine wl_val (r_loadB1 ti3.und rfl rfl (hS4.heap (.tail _ (.head _))) rfl) rfl ?_
      refine wl_dec (r_lss rfl rfl) rfl (fun h11_8 => ?_) (fun h11_8 => ?_)
      · refine wl_val (r_pick_t rfl (v := .bool _) rfl) rfl ?_
        refine wl_val (r_assign (v := .bool _) rfl) rfl ?_
        refine wl_nil ?_
        refine c_then ?_
        refine wp_ret ?_
        refine c_inR ?_
        refine c_thenR ?_
        refine ret1 Try.results18 ?_
        first | exact ⟨congrArg Value.bool (meet_n1 (by omega) hc1).symm, hS4.fin⟩ | exact ⟨congrArg Value.bool (meet_n2 (by omega) hc2).symm, hS4.fin⟩ | exact ⟨congrArg Value.bool (meet_n3 (by omega) hc3).symm, hS4.fin⟩ | skip
        all_goals (refine ⟨congrArg Value.bool ?_, hS4.fin⟩; rw [(meet_y (by first | exact .inl (by omega) | exact .inr hc1) (by first | exact .inl (by omega) | exact .inr hc2) (by first | exact .inl (by omega) | exact .inr hc3) (h := ((q.tm.toNat % 86400 / 3600 : Nat) : Int)) (by omega)), ← hour_eq he])
        all_goals first | (rw [if_pos (by omega)]; done) | (rw [if_neg (by omega), if_pos h10_4]; (first | exact (decide_eq_true (by omega)).symm | exact (decide_eq_false (by omega)).symm)) | (rw [if_neg (by omega), if_neg h10_4]; (first | exact (decide_eq_true (by omega)).symm | exact (decide_eq_false (by omega)).symm))
      refine wl_val (r_pick_t rfl (v := .bool _) rfl) rfl ?_
      refine wl_val (r_assign (v := .bool _) rfl) rfl ?_
      refine wl_nil ?_
      refine c_then ?_
      refine wp_ret ?_
      refine c_inR ?_
      refine c_thenR ?_
      refine ret1 Try.results18 ?_
      first | exact ⟨congrArg Value.bool (meet_n1 (by omega) hc1).symm, hS4.fin⟩ | exact ⟨congrArg Value.bool (meet_n2 (by omega) hc2).symm, hS4.fin⟩ | exact ⟨congrArg Value.bool (meet_n3 (by omega) hc3).symm, hS4.fin⟩ | skip
      all_goals (refine ⟨congrArg Value.bool ?_, hS4.fin⟩; rw [(meet_y (by first | exact .inl (by omega) | exact .inr hc1) (by first | exact .inl (by omega) | exact .inr hc2) (by first | exact .inl (by omega) | exact .inr hc3) (h := ((q.tm.toNat % 86400 / 3600 : Nat) : Int)) (by omega)), ← hour_eq he])
      all_goals first | (rw [if_pos (by omega)]; done) | (rw [if_neg (by omega), if_pos h10_4]; (first | exact (decide_eq_true (by omega)).symm | exact (decide_eq_false (by omega)).symm)) | (rw [if_neg (by omega), if_neg h10_4]; (first | exact (decide_eq_true (by omega)).symm | exact (decide_eq_false (by omega)).symm))
    refine wl_val (r_move (v := .bool _) rfl) rfl ?_
    refine wl_not rfl ?_
    refine wl_not rfl ?_
    refine wl_not rfl ?_
    refine wl_not rfl ?_
    refine wl_val (r_pick_f rfl (v := .bool false) rfl) rfl ?_
    refine wl_val (r_assign (v := .bool _) rfl) rfl ?_
    refine wl_nil ?_
    refine c_then ?_
    refine wp_ret ?_
    refine c_inR ?_
    refine c_thenR ?_
    refine ret1 Try.results18 ?_
    first | exact ⟨congrArg Value.bool (meet_n1 (by omega) hc1).symm, hS4.fin⟩ | exact ⟨congrArg Value.bool (meet_n2 (by omega) hc2).symm, hS4.fin⟩ | exact ⟨congrArg Value.bool (meet_n3 (by omega) hc3).symm, hS4.fin⟩ | skip
    all_goals (refine ⟨congrArg Value.bool ?_, hS4.fin⟩; rw [(meet_y (by first | exact .inl (by omega) | exact .inr hc1) (by first | exact .inl (by omega) | exact .inr hc2) (by first | exact .inl (by omega) | exact .inr hc3) (h := ((q.tm.toNat % 86400 / 3600 : Nat) : Int)) (by omega)), ← hour_eq he])
    all_goals first | (rw [if_pos (by omega)]; done) | (rw [if_neg (by omega), if_pos h10_4]; (first | exact (decide_eq_true (by omega)).symm | exact (decide_eq_false (by omega)).symm)) | (rw [if_neg (by omega), if_neg h10_4]; (first | exact (decide_eq_true (by omega)).symm | exact (decide_eq_false (by omega)).symm))
  refine wl_val (r_assign (v := .bool _) rfl) rfl ?_
  refine wl_nil ?_
  refine c_then ?_
  refine c_false rfl ?_
  refine wp_skip ?_
  refine c_inN ?_
  refine c_then ?_
  refine c_seq ?_
  refine c_region ?_
  refine wl_val (r_move (v := .int .i64 _) rfl) rfl ?_
  refine wl_val (r_field fa37_4 rfl) rfl ?_
  refine wl_val (r_loadB1 ti3.und rfl rfl (hS4.heap (.tail _ (.head _))) rfl) rfl ?_
  refine wl_dec (r_geq rfl rfl) rfl (fun h12_3 => ?_) (fun h12_3 => ?_)
  · refine wl_val (r_move (v := .bool _) rfl) rfl ?_
    refine wl_not rfl ?_
    refine wl_not rfl ?_
    refine wl_not rfl ?_
    refine wl_not rfl ?_
    refine wl_val (r_pick_t rfl (v := .bool true) rfl) rfl ?_
    refine wl_val (r_assign (v := .bool _) rfl) rfl ?_
    refine wl_nil ?_
    refine c_then ?_
    refine wp_ret ?_
    refine ret1 Try.results18 ?_
    first | exact ⟨congrArg Value.bool (meet_n1 (by omega) hc1).symm, hS4.fin⟩ | exact ⟨congrArg Value.bool (meet_n2 (by omega) hc2).symm, hS4.fin⟩ | exact ⟨congrArg Value.bool (meet_n3 (by omega) hc3).symm, hS4.fin⟩ | skip
    all_goals (refine ⟨congrArg Value.bool ?_, hS4.fin⟩; rw [(meet_y (by first | exact .inl (by omega) | exact .inr hc1) (by first | exact .inl (by omega) | exact .inr hc2) (by first | exact .inl (by omega) | exact .inr hc3) (h := ((q.tm.toNat % 86400 / 3600 : Nat) : Int)) (by omega)), ← hour_eq he])
    all_goals first | (rw [if_pos (by omega)]; done) | (rw [if_neg (by omega), if_pos h10_4]; (first | exact (decide_eq_true (by omega)).symm | exact (decide_eq_false (by omega)).symm)) | (rw [if_neg (by omega), if_neg h10_4]; (first | exact (decide_eq_true (by omega)).symm | exact (decide_eq_false (by omega)).symm))
  refine wl_val (r_move (v := .bool _) rfl) rfl ?_
  refine wl_val (r_move (v := .int .i64 _) rfl) rfl ?_
  refine wl_val (r_field fa37_5 rfl) rfl ?_
  refine wl_val (r_loadB1 ti3.und rfl rfl (hS4.heap (.tail _ (.head _))) rfl) rfl ?_
  refine wl_dec (r_lss rfl rfl) rfl (fun h12_8 => ?_) (fun h12_8 => ?_)
  · refine wl_val (r_pick_f rfl (v := .bool _) rfl) rfl ?_
    refine wl_val (r_assign (v := .bool _) rfl) rfl ?_
    refine wl_nil ?_
    refine c_then ?_
    refine wp_ret ?_
    refine ret1 Try.results18 ?_
    first | exact ⟨congrArg Value.bool (meet_n1 (by omega) hc1).symm, hS4.fin⟩ | exact ⟨congrArg Value.bool (meet_n2 (by omega) hc2).symm, hS4.fin⟩ | exact ⟨congrArg Value.bool (meet_n3 (by omega) hc3).symm, hS4.fin⟩ | skip
    all_goals (refine ⟨congrArg Value.bool ?_, hS4.fin⟩; rw [(meet_y (by first | exact .inl (by omega) | exact .inr hc1) (by first | exact .inl (by omega) | exact .inr hc2) (by first | exact .inl (by omega) | exact .inr hc3) (h := ((q.tm.toNat % 86400 / 3600 : Nat) : Int)) (by omega)), ← hour_eq he])
    all_goals first | (rw [if_pos (by omega)]; done) | (rw [if_neg (by omega), if_pos h10_4]; (first | exact (decide_eq_true (by omega)).symm | exact (decide_eq_false (by omega)).symm)) | (rw [if_neg (by omega), if_neg h10_4]; (first | exact (decide_eq_true (by omega)).symm | exact (decide_eq_false (by omega)).symm))
  refine wl_val (r_pick_f rfl (v := .bool _) rfl) rfl ?_
  refine wl_val (r_assign (v := .bool _) rfl) rfl ?_
  refine wl_nil ?_
  refine c_then ?_
  refine wp_ret ?_
  refine ret1 Try.results18 ?_
  first | exact ⟨congrArg Value.bool (meet_n1 (by omega) hc1).symm, hS4.fin⟩ | exact ⟨congrArg Value.bool (meet_n2 (by omega) hc2).symm, hS4.fin⟩ | exact ⟨congrArg Value.bool (meet_n3 (by omega) hc3).symm, hS4.fin⟩ | skip
  all_goals (refine ⟨congrArg Value.bool ?_, hS4.fin⟩; rw [(meet_y (by first | exact .inl (by omega) | exact .inr hc1) (by first | exact .inl (by omega) | exact .inr hc2) (by first | exact .inl (by omega) | exact .inr hc3) (h := ((q.tm.toNat % 86400 / 3600 : Nat) : Int)) (by omega)), ← hour_eq he])
  all_goals first | (rw [if_pos (by omega)]; done) | (rw [if_neg (by omega), if_pos h10_4]; (first | exact (decide_eq_true (by omega)).symm | exact (decide_eq_false (by omega)).symm)) | (rw [if_neg (by omega), if_neg h10_4]; (first | exact (decide_eq_true (by omega)).symm | exact (decide_eq_false (by omega)).symm))

end Go.Proofs.Ytafdmlpfgpaicaa
