/- What the law's proof leans on. No condition. -/
import Derived.Test.YtmonnmndphlkaaaGreatPWnAI
import Derived.Test.YtmonnmndphlkaaaGreatPWnBC
import Derived.Test.YtmonnmndphlkaaaGreatPWnAR
section
namespace Go.Proofs.YtmonnmndphlkaaaGreat
open Go.Kw
set_option linter.unusedVariables false
set_option linter.unusedSimpArgs false
set_option maxRecDepth 100000
theorem notNameB_ok (l : List UInt8) (w : World) (hl : l.length ≤ 9223372036854775807) :
    Ret Tryz.prog 114 [.string ⟨(l).toArray⟩] w (fun v w' => v = .bool (!nameE l) ∧ St w [] w' []) := by
  refine enter Tryz.func114 rfl Tryz.ntmps114 rfl ?_
  have hS := St.refl w []
  refine zS<|zR<|zq 1 rfl<|zN<|zT<|zS<|zR<|zq 1 rfl<|zE fn124 rfl hS (isName_ok l _ hl) fun w1 hS3=>zq 2 rfl<|zN<|zT<|zU<|ret1 Tryz.results114 ?_
  exact ⟨rfl, hS3.fin⟩

theorem rnot2_ok (l : List UInt8) (w : World) (hl : l.length ≤ 9223372036854775807) :
    Ret Tryz.prog 54 [.string ⟨(l).toArray⟩] w (fun v w' => v = .bool (!nameE l) ∧ St w [] w' []) := by
  refine enter Tryz.func54 rfl Tryz.ntmps54 rfl ?_
  have hS := St.refl w []
  refine zS<|zR<|zq 1 rfl<|zN<|zT<|zS<|zR<|zq 1 rfl<|zE fn28 rfl hS (risName_ok l _ hl) fun w1 hS3=>zq 2 rfl<|zN<|zT<|zU<|ret1 Tryz.results54 ?_
  exact ⟨rfl, hS3.fin⟩

theorem patB {f : FuncId} {args : List Value} {w : World} {b : Bool} (h : Ret Tryz.prog f args w (fun v w' => (b = true ∧ v = .bool true ∧ St w [] w' []) ∨ (b = false ∧ v = .bool false ∧ St w [] w' []))) : Ret Tryz.prog f args w (fun v w' => v = .bool b ∧ St w [] w' []) :=
  h.mono fun v w' h => by
    rcases h with ⟨hb, h⟩ | ⟨hb, h⟩ <;> rw [hb] <;> exact h

theorem rpattern_ok_c0 {p : Prop} (h : p := by first | exact .inl ⟨patE_name hnm, rfl, hF.fin⟩ | exact .inl ⟨by rw [patE, hs, decide_eq_true h2_6, Bool.and_true, Bool.or_true], rfl, hF.fin⟩ | exact .inr ⟨by rw [patE, hnm, hs, decide_eq_false h2_6]; rfl, rfl, hF.fin⟩ | exact .inr ⟨by rw [patE, hnm, hs]; rfl, rfl, hF.fin⟩) : p := h
theorem rpattern_ok (l : List UInt8) (w : World) (hl : l.length ≤ 9223372036854775807) :
    Ret Tryz.prog 58 [.string ⟨(l).toArray⟩] w (fun v w' => (patE l = true ∧ v = .bool true ∧ St w [] w' []) ∨ (patE l = false ∧ v = .bool false ∧ St w [] w' [])) := by
  refine enter Tryz.func58 rfl Tryz.ntmps58 rfl ?_
  have hS := St.refl w []
  refine zS<|zR<|zq 1 rfl<|zN<|zT<|zS<|zR<|zq 1 rfl<|zC fn27 rfl (cutSuffix_ok l _ hl) ?_
  rintro _ w1 (⟨hs, rfl, hx2⟩ | ⟨hs, rfl, hx2⟩)
  · have hS3 := hS.ext hx2
    refine zq 5 rfl<|zN<|zT<|zS<|zR<|zq 1 rfl<|zC fn28 rfl (risName_br _ _ (Nat.le_trans (headS_le l) hl)) ?_
    rintro _ w4 (⟨hnm, rfl, hx5⟩ | ⟨hnm, rfl, hx5⟩)
    · have hS6 := hS3.ext hx5
      refine zq 8 rfl<|zN<|zT<|zU<|ret1 Tryz.results58 ?_
      have hF := hS6; exact rpattern_ok_c0
    have hS6 := hS3.ext hx5; refine zq 4 rfl ?_
    refine wl_dec (r_eqlStrL rfl rfl) rfl (fun h2_6 => ?_) (fun h2_6 => ?_)
    · refine zq 3 rfl<|zN<|zT<|zU<|ret1 Tryz.results58 ?_
      have hF := hS6; exact rpattern_ok_c0
    refine zq 3 rfl<|zN<|zT<|zU<|ret1 Tryz.results58 ?_
    have hF := hS6; exact rpattern_ok_c0
  have hS3 := hS.ext hx2; refine zq 5 rfl<|zN<|zT<|zS<|zR<|zq 1 rfl<|zC fn28 rfl (risName_br _ _ (Nat.le_trans (headS_le l) hl)) ?_
  rintro _ w7 (⟨hnm, rfl, hx8⟩ | ⟨hnm, rfl, hx8⟩)
  · have hS9 := hS3.ext hx8
    refine zq 8 rfl<|zN<|zT<|zU<|ret1 Tryz.results58 ?_
    have hF := hS9; exact rpattern_ok_c0
  have hS9 := hS3.ext hx8; refine zq 8 rfl<|zN<|zT<|zU<|ret1 Tryz.results58 ?_
  have hF := hS9; exact rpattern_ok_c0

theorem pnot_ok (l : List UInt8) (w : World) (hl : l.length ≤ 9223372036854775807) :
    Ret Tryz.prog 117 [.string ⟨(l).toArray⟩] w (fun v w' => v = .bool (!patE l) ∧ St w [] w' []) := by
  refine enter Tryz.func117 rfl Tryz.ntmps117 rfl ?_
  have hS := St.refl w []
  refine zS<|zR<|zq 1 rfl<|zN<|zT<|zS<|zR<|zq 1 rfl<|zE fn118 rfl hS (patB (isPattern_ok l _ hl)) fun w1 hS3=>zq 2 rfl<|zN<|zT<|zU<|ret1 Tryz.results117 ?_
  exact ⟨rfl, hS3.fin⟩

theorem rpnot_ok (l : List UInt8) (w : World) (hl : l.length ≤ 9223372036854775807) :
    Ret Tryz.prog 57 [.string ⟨(l).toArray⟩] w (fun v w' => v = .bool (!patE l) ∧ St w [] w' []) := by
  refine enter Tryz.func57 rfl Tryz.ntmps57 rfl ?_
  have hS := St.refl w []
  refine zS<|zR<|zq 1 rfl<|zN<|zT<|zS<|zR<|zq 1 rfl<|zE fn58 rfl hS (patB (rpattern_ok l _ hl)) fun w1 hS3=>zq 2 rfl<|zN<|zT<|zU<|ret1 Tryz.results57 ?_
  exact ⟨rfl, hS3.fin⟩

theorem isAct_ok (n : Int) (w : World) :
    Ret Tryz.prog 116 [.int .i64 n] w (fun v w' => ((1 ≤ n ∧ n ≤ 12) ∧ v = .bool true ∧ St w [] w' []) ∨ ((n < 1 ∨ 12 < n) ∧ v = .bool false ∧ St w [] w' [])) := by
  refine enter Tryz.func116 rfl Tryz.ntmps116 rfl ?_
  have hS := St.refl w []
  refine zS<|zR<|zq 1 rfl<|zN<|zT<|zS<|zR<|zq 1 rfl ?_
  refine wl_dec (r_geq rfl rfl) rfl (fun h1_1 => ?_) (fun h1_1 => ?_)
  · refine zq 2 rfl ?_
    refine wl_dec (r_leq rfl rfl) rfl (fun h1_4 => ?_) (fun h1_4 => ?_)
    · refine zq 2 rfl<|zN<|zT<|zU<|ret1 Tryz.results116 ?_
      first | exact .inl ⟨by omega, rfl, hS.fin⟩ | exact .inr ⟨by omega, rfl, hS.fin⟩
    refine zq 2 rfl<|zN<|zT<|zU<|ret1 Tryz.results116 ?_
    first | exact .inl ⟨by omega, rfl, hS.fin⟩ | exact .inr ⟨by omega, rfl, hS.fin⟩
  refine zq 5 rfl<|zN<|zT<|zU<|ret1 Tryz.results116 ?_
  first | exact .inl ⟨by omega, rfl, hS.fin⟩ | exact .inr ⟨by omega, rfl, hS.fin⟩

theorem anot_ok_c0 {p : Prop} (h : p := by first | exact ⟨congrArg Value.bool (decide_eq_true (show n < 1 ∨ 12 < n by omega)).symm, hF.fin⟩ | exact ⟨congrArg Value.bool (decide_eq_false (show ¬ (n < 1 ∨ 12 < n) by omega)).symm, hF.fin⟩) : p := h
theorem anot_ok (n : Int) (w : World) :
    Ret Tryz.prog 115 [.int .i64 n] w (fun v w' => v = .bool (actOut n) ∧ St w [] w' []) := by
  refine enter Tryz.func115 rfl Tryz.ntmps115 rfl ?_
  have hS := St.refl w []
  refine zS<|zR<|zq 1 rfl<|zN<|zT<|zS<|zR<|zq 1 rfl<|zC fn116 rfl (isAct_ok n _) ?_
  rintro _ w1 (⟨hb, rfl, hx2⟩ | ⟨hb, rfl, hx2⟩)
  · have hS3 := hS.ext hx2
    refine zq 2 rfl<|zN<|zT<|zU<|ret1 Tryz.results115 ?_
    have hF := hS3; exact anot_ok_c0
  have hS3 := hS.ext hx2; refine zq 2 rfl<|zN<|zT<|zU<|ret1 Tryz.results115 ?_
  have hF := hS3; exact anot_ok_c0

theorem ranot_ok_c0 {p : Prop} (h : p := by first | exact ⟨congrArg Value.bool (decide_eq_true (show n < 1 ∨ 12 < n by omega)).symm, hF.fin⟩ | exact ⟨congrArg Value.bool (decide_eq_false (show ¬ (n < 1 ∨ 12 < n) by omega)).symm, hF.fin⟩) : p := h
theorem ranot_ok (n : Int) (w : World) :
    Ret Tryz.prog 56 [.int .i64 n] w (fun v w' => v = .bool (actOut n) ∧ St w [] w' []) := by
  refine enter Tryz.func56 rfl Tryz.ntmps56 rfl ?_
  have hS := St.refl w []
  refine zS<|zR<|zq 1 rfl<|zN<|zT<|zS<|zR<|zq 1 rfl ?_
  refine wl_dec (r_lss rfl rfl) rfl (fun h1_1 => ?_) (fun h1_1 => ?_)
  · refine zq 5 rfl<|zN<|zT<|zU<|ret1 Tryz.results56 ?_
    have hF := hS; exact ranot_ok_c0
  refine zq 2 rfl ?_
  refine wl_dec (r_gtr rfl rfl) rfl (fun h1_4 => ?_) (fun h1_4 => ?_)
  · refine zq 2 rfl<|zN<|zT<|zU<|ret1 Tryz.results56 ?_
    have hF := hS; exact ranot_ok_c0
  refine zq 2 rfl<|zN<|zT<|zU<|ret1 Tryz.results56 ?_
  have hF := hS; exact ranot_ok_c0

theorem poutside_ok (n lo hi : Int) (w : World) :
    Ret Tryz.prog 121 [.int .i64 n, .int .i64 lo, .int .i64 hi] w (fun v w' => ((n < lo ∨ hi < n) ∧ v = .bool true ∧ St w [] w' []) ∨ ((lo ≤ n ∧ n ≤ hi) ∧ v = .bool false ∧ St w [] w' [])) := by
  refine enter Tryz.func121 rfl Tryz.ntmps121 rfl ?_
  have hS := St.refl w []
  refine zS<|zR<|zq 1 rfl<|zN<|zT<|zS<|zR<|zq 2 rfl ?_
  refine wl_dec (r_lss rfl rfl) rfl (fun h1_2 => ?_) (fun h1_2 => ?_)
  · refine zq 6 rfl<|zN<|zT<|zU<|ret1 Tryz.results121 ?_
    first | exact .inl ⟨by omega, rfl, hS.fin⟩ | exact .inr ⟨by omega, rfl, hS.fin⟩
  refine zq 3 rfl ?_
  refine wl_dec (r_gtr rfl rfl) rfl (fun h1_6 => ?_) (fun h1_6 => ?_)
  · refine zq 2 rfl<|zN<|zT<|zU<|ret1 Tryz.results121 ?_
    first | exact .inl ⟨by omega, rfl, hS.fin⟩ | exact .inr ⟨by omega, rfl, hS.fin⟩
  refine zq 2 rfl<|zN<|zT<|zU<|ret1 Tryz.results121 ?_
  first | exact .inl ⟨by omega, rfl, hS.fin⟩ | exact .inr ⟨by omega, rfl, hS.fin⟩

end Go.Proofs.YtmonnmndphlkaaaGreat
end
section
namespace Go.Proofs.YtmonnmndphlkaaaGreat
open Go.Kw
set_option linter.unusedVariables false
set_option linter.unusedSimpArgs false
set_option maxRecDepth 100000
theorem ruleFault_ok_c0 {p : Prop} (h : p := by first | exact ⟨congrArg (Value.int .i64) (rule_4 n1 n2 n3 hcf).symm, hF.fin⟩ | exact ⟨congrArg (Value.int .i64) (rule_2 n1 (.inl hcf)).symm, hF.fin⟩ | exact ⟨congrArg (Value.int .i64) (rule_2 n1 (.inr ⟨by assumption, hnn⟩)).symm, hF.fin⟩ | (exfalso; omega)) : p := h
theorem ruleFault_ok_c1 {p : Prop} (h : p := by first | exact ⟨congrArg (Value.int .i64) (rule_3 n1 n2 hcf).symm, hF.fin⟩ | (exfalso; omega)) : p := h
theorem ruleFault_ok_c2 {p : Prop} (h : p := by first | exact ⟨congrArg (Value.int .i64) (rule_5 n1 n2 n3 n4 (by first | exact .inl (by assumption) | exact .inr (.inl (by assumption)) | exact .inr (.inr (by assumption)))).symm, hF.fin⟩ | (exfalso; omega)) : p := h
theorem ruleFault_ok_c3 {p : Prop} (h : p := by first | exact ⟨congrArg (Value.int .i64) (rule_6 n1 n2 n3 n4 n5 Om).symm, hF.fin⟩ | (exfalso; omega)) : p := h
theorem ruleFault_ok_c4 {p : Prop} (h : p := by first | exact ⟨congrArg (Value.int .i64) (rule_7 n1 n2 n3 n4 n5 n6 (.inl ⟨by omega, (by first | assumption | exact Decidable.of_not_not (by assumption))⟩)).symm, hF.fin⟩ | exact ⟨congrArg (Value.int .i64) (rule_7 n1 n2 n3 n4 n5 n6 (.inr (.inl ⟨by omega, (by first | assumption | exact Decidable.of_not_not (by assumption))⟩))).symm, hF.fin⟩ | exact ⟨congrArg (Value.int .i64) (rule_7 n1 n2 n3 n4 n5 n6 (.inr (.inr ⟨hdn, by omega⟩))).symm, hF.fin⟩ | (exfalso; omega)) : p := h
theorem ruleFault_ok_c5 {p : Prop} (h : p := by first | exact ⟨congrArg (Value.int .i64) (rule_8 n1 n2 n3 n4 n5 n6 (.inl ⟨by omega, (by first | assumption | exact Decidable.of_not_not (by assumption))⟩)).symm, hF.fin⟩ | exact ⟨congrArg (Value.int .i64) (rule_8 n1 n2 n3 n4 n5 n6 (.inr ⟨by omega, (by first | assumption | exact Decidable.of_not_not (by assumption)), hdn⟩)).symm, hF.fin⟩ | (exfalso; omega)) : p := h
set_option maxHeartbeats 4000000 in
theorem ruleFault_ok (r : RuleD) (w : World) (hk : RuleOk r) (h1 : Row w r.ra (r.ro.map sv)) (h2 : Row w r.aa (r.acs.map iv)) (h3 : Row w r.la (r.las.map sv)) :
    Ret Tryz.prog 78 [.agg r.v.toArray] w (fun v w' => v = .int .i64 (ruleE r) ∧ St w [] w' []) := by
  refine enter Tryz.func78 rfl Tryz.ntmps78 rfl ?_
  have hS := St.refl w []
  refine zS<|zR<|zB (v := .agg _) hS rfl rfl fun b1 w1 hS2=>zq 1 rfl<|zN<|zT<|zS<|zI<|zS<|zR<|zF fa50_1 rfl ti36.und rfl (hS2.heap Z0) rfl rfl rfl<|zV (r_len (T := 36) rfl ti36.und rfl _ rfl) ?_
  refine wl_dec (r_gtr rfl rfl) rfl (fun h1_3 => ?_) (fun h1_3 => ?_)
  · refine zq 13 rfl<|zN<|zT<|zt rfl<|zS<|zR<|zq 1 rfl<|zN<|zT<|zU<|zH<|zL<|ret1 Tryz.results78 ?_
    first | exact ⟨congrArg (Value.int .i64) (rule_1 Om).symm, hS2.fin⟩ | (exfalso; omega)
  refine zq 1 rfl<|wl_val (r_field fa50_2 rfl) rfl<|wl_val (r_loadB1 ti48.und rfl rfl (hS2.heap Z0) rfl) rfl<|wl_val (r_len (T := 48) rfl ti48.und rfl _ rfl) rfl ?_
  refine wl_dec (r_gtr rfl rfl) rfl (fun h1_8 => ?_) (fun h1_8 => ?_)
  · refine zq 8 rfl<|zN<|zT<|zt rfl<|zS<|zR<|zq 1 rfl<|zN<|zT<|zU<|zH<|zL<|ret1 Tryz.results78 ?_
    first | exact ⟨congrArg (Value.int .i64) (rule_1 Om).symm, hS2.fin⟩ | (exfalso; omega)
  refine zq 2 rfl<|wl_val (r_field fa50_3 rfl) rfl<|wl_val (r_loadB1 ti36.und rfl rfl (hS2.heap Z0) rfl) rfl<|wl_val (r_len (T := 36) rfl ti36.und rfl _ rfl) rfl ?_
  refine wl_dec (r_gtr rfl rfl) rfl (fun h1_14 => ?_) (fun h1_14 => ?_)
  · refine zq 2 rfl<|zN<|zT<|zt rfl<|zS<|zR<|zq 1 rfl<|zN<|zT<|zU<|zH<|zL<|ret1 Tryz.results78 ?_
    first | exact ⟨congrArg (Value.int .i64) (rule_1 Om).symm, hS2.fin⟩ | (exfalso; omega)
  refine zq 2 rfl<|zN<|zT<|zf rfl<|zS ?_
  have n1 : ¬ (16 < r.ro.length ∨ 16 < r.acs.length ∨ 16 < r.las.length) := by omega
  refine zR<|zF fa50_1 rfl ti36.und rfl (hS2.heap Z0) rfl rfl rfl<|zC fn53 rfl (containsFuncS_ok r.ro r.ra r.ro.length r.rc 114 [] (fun s => !nameE s) _ (h1.st hS2) rfl hk.rn fn114 (fun x w' hx h => notNameB_ok x w' (hk.rl x hx))) ?_
  rintro _ w3 (⟨hcf, rfl, hx4⟩ | ⟨hcf, rfl, hx4⟩)
  · have hS5 := hS2.ext hx4
    refine zq 11 rfl<|zN<|zT<|zt rfl<|zS<|zR<|zq 1 rfl<|zN<|zT<|zU<|zH<|zL<|ret1 Tryz.results78 ?_
    have hF := hS5; exact ruleFault_ok_c0
  have hS5 := hS2.ext hx4; refine zq 1 rfl<|wl_val (r_field fa50_7 rfl) rfl<|wl_val (r_loadB1 ti9.und rfl rfl (hS5.heap Z0) rfl) rfl ?_
  refine wl_dec (r_neqStrL rfl rfl) rfl (fun h3_6 => ?_) (fun h3_6 => ?_)
  · refine zq 1 rfl<|wl_val (r_field fa50_7 rfl) rfl<|wl_val (r_loadB1 ti9.und rfl rfl (hS5.heap Z0) rfl) rfl<|zC fn114 rfl (notName_ok r.ofr _ hk.ol) ?_
    rintro _ w6 (⟨hnn, rfl, hx7⟩ | ⟨hnn, rfl, hx7⟩)
    · have hS8 := hS5.ext hx7
      refine zq 3 rfl<|zN<|zT<|zt rfl<|zS<|zR<|zq 1 rfl<|zN<|zT<|zU<|zH<|zL<|ret1 Tryz.results78 ?_
      have hF := hS8; exact ruleFault_ok_c0
    have hS8 := hS5.ext hx7; refine zq 3 rfl<|zN<|zT<|zf rfl<|zS ?_
    have n2 : ¬ (r.ro.any (fun s => !nameE s) = true ∨ (¬ r.ofr = [] ∧ nameE r.ofr = false)) := by rintro (h | ⟨h, h'⟩); (rw [hcf] at h; cases h); first | exact h3_6 h | (rw [hnn] at h'; cases h')
    refine zR<|zF fa50_2 rfl ti48.und rfl (hS8.heap Z0) rfl rfl rfl<|zC fn55 rfl (containsFuncI_ok r.acs r.aa r.acs.length r.ak 115 [] actOut _ (h2.st hS8) rfl hk.an fn115 (fun x w' hx h => anot_ok x w')) ?_
    rintro _ w9 (⟨hcf, rfl, hx10⟩ | ⟨hcf, rfl, hx10⟩)
    · have hS11 := hS8.ext hx10
      refine zq 1 rfl<|zN<|zT<|zt rfl<|zS<|zR<|zq 1 rfl<|zN<|zT<|zU<|zH<|zL<|ret1 Tryz.results78 ?_
      have hF := hS11; exact ruleFault_ok_c1
    have hS11 := hS8.ext hx10; refine zq 1 rfl<|zN<|zT<|zf rfl<|zS ?_
    have n3 : ¬ (r.acs.any actOut = true) := by rw [hcf]; exact Bool.noConfusion
    refine zR<|zF fa50_3 rfl ti36.und rfl (hS11.heap Z0) rfl rfl rfl<|zC fn53 rfl (containsFuncS_ok r.las r.la r.las.length r.lc 117 [] (fun s => !patE s) _ (h3.st hS11) rfl hk.ln fn117 (fun x w' hx h => pnot_ok x w' (hk.ll x hx))) ?_
    rintro _ w12 (⟨hcf, rfl, hx13⟩ | ⟨hcf, rfl, hx13⟩)
    · have hS14 := hS11.ext hx13
      refine zq 1 rfl<|zN<|zT<|zt rfl<|zS<|zR<|zq 1 rfl<|zN<|zT<|zU<|zH<|zL<|ret1 Tryz.results78 ?_
      have hF := hS14; exact ruleFault_ok_c0
    have hS14 := hS11.ext hx13; refine zq 1 rfl<|zN<|zT<|zf rfl<|zS ?_
    have n4 : ¬ (r.las.any (fun s => !patE s) = true) := by rw [hcf]; exact Bool.noConfusion
    refine zR<|zF fa50_1 rfl ti36.und rfl (hS14.heap Z0) rfl rfl rfl<|zC fn119 rfl (twiceS_ok r.ro r.ra r.ro.length r.rc _ (h1.st hS14) rfl hk.rn hk.rc) ?_
    rintro _ w15 (⟨htwro, rfl, hx16⟩ | ⟨htwro, rfl, hx16⟩)
    · have hS17 := hS14.ext hx16
      refine zq 11 rfl<|zN<|zT<|zt rfl<|zS<|zR<|zq 1 rfl<|zN<|zT<|zU<|zH<|zL<|ret1 Tryz.results78 ?_
      have hF := hS17; exact ruleFault_ok_c2
    have hS17 := hS14.ext hx16; refine zq 1 rfl<|wl_val (r_field fa50_2 rfl) rfl<|wl_val (r_loadB1 ti48.und rfl rfl (hS17.heap Z0) rfl) rfl<|zC fn120 rfl (twiceI_ok r.acs r.aa r.acs.length r.ak _ (h2.st hS17) rfl hk.an hk.ac) ?_
    rintro _ w18 (⟨htwacs, rfl, hx19⟩ | ⟨htwacs, rfl, hx19⟩)
    · have hS20 := hS17.ext hx19
      refine zq 7 rfl<|zN<|zT<|zt rfl<|zS<|zR<|zq 1 rfl<|zN<|zT<|zU<|zH<|zL<|ret1 Tryz.results78 ?_
      have hF := hS20; exact ruleFault_ok_c2
    have hS20 := hS17.ext hx19; refine zq 2 rfl<|wl_val (r_field fa50_3 rfl) rfl<|wl_val (r_loadB1 ti36.und rfl rfl (hS20.heap Z0) rfl) rfl<|zC fn119 rfl (twiceS_ok r.las r.la r.las.length r.lc _ (h3.st hS20) rfl hk.ln hk.lc) ?_
    rintro _ w21 (⟨htwlas, rfl, hx22⟩ | ⟨htwlas, rfl, hx22⟩)
    · have hS23 := hS20.ext hx22
      refine zq 2 rfl<|zN<|zT<|zt rfl<|zS<|zR<|zq 1 rfl<|zN<|zT<|zU<|zH<|zL<|ret1 Tryz.results78 ?_
      have hF := hS23; exact ruleFault_ok_c2
    have hS23 := hS20.ext hx22; refine zq 2 rfl<|zN<|zT<|zf rfl<|zS ?_
    have n5 : ¬ (¬ r.ro.Nodup ∨ ¬ r.acs.Nodup ∨ ¬ r.las.Nodup) := by rintro (h | h | h) <;> exact h (by assumption)
    refine zR<|zF fa50_4 rfl ti3.und rfl (hS23.heap Z0) rfl rfl rfl<|zC fn121 rfl (poutside_ok r.fr 0 24 _) ?_
    rintro _ w24 (⟨ho1, rfl, hx25⟩ | ⟨ho1, rfl, hx25⟩)
    · have hS26 := hS23.ext hx25
      refine zq 23 rfl<|zN<|zT<|zt rfl<|zS<|zR<|zq 1 rfl<|zN<|zT<|zU<|zH<|zL<|ret1 Tryz.results78 ?_
      have hF := hS26; exact ruleFault_ok_c3
    have hS26 := hS23.ext hx25; refine zq 1 rfl<|wl_val (r_field fa50_5 rfl) rfl<|wl_val (r_loadB1 ti3.und rfl rfl (hS26.heap Z0) rfl) rfl<|zC fn121 rfl (poutside_ok r.to 0 24 _) ?_
    rintro _ w27 (⟨ho2, rfl, hx28⟩ | ⟨ho2, rfl, hx28⟩)
    · have hS29 := hS26.ext hx28
      refine zq 19 rfl<|zN<|zT<|zt rfl<|zS<|zR<|zq 1 rfl<|zN<|zT<|zU<|zH<|zL<|ret1 Tryz.results78 ?_
      have hF := hS29; exact ruleFault_ok_c3
    have hS29 := hS26.ext hx28; refine zq 2 rfl<|wl_val (r_field fa50_4 rfl) rfl<|wl_val (r_loadB1 ti3.und rfl rfl (hS29.heap Z0) rfl) rfl<|wl_val (r_field fa50_5 rfl) rfl<|wl_val (r_loadB1 ti3.und rfl rfl (hS29.heap Z0) rfl) rfl ?_
    refine wl_dec (r_eql rfl rfl) rfl (fun h11_13 => ?_) (fun h11_13 => ?_)
    · refine zq 1 rfl<|wl_val (r_field fa50_4 rfl) rfl<|wl_val (r_loadB1 ti3.und rfl rfl (hS29.heap Z0) rfl) rfl ?_
      refine wl_dec (r_neq rfl rfl) rfl (fun h11_17 => ?_) (fun h11_17 => ?_)
      · refine zq 8 rfl<|zN<|zT<|zt rfl<|zS<|zR<|zq 1 rfl<|zN<|zT<|zU<|zH<|zL<|ret1 Tryz.results78 ?_
        have hF := hS29; exact ruleFault_ok_c3
      refine zq 3 rfl<|wl_val (r_field fa50_6 rfl) rfl<|wl_val (r_loadB1 ti3.und rfl rfl (hS29.heap Z0) rfl) rfl<|zC fn121 rfl (poutside_ok r.nd 0 16 _) ?_
      rintro _ w30 (⟨ho3, rfl, hx31⟩ | ⟨ho3, rfl, hx31⟩)
      · have hS32 := hS29.ext hx31
        refine zq 2 rfl<|zN<|zT<|zt rfl<|zS<|zR<|zq 1 rfl<|zN<|zT<|zU<|zH<|zL<|ret1 Tryz.results78 ?_
        have hF := hS32; exact ruleFault_ok_c3
      have hS32 := hS29.ext hx31; refine zq 2 rfl<|zN<|zT<|zf rfl<|zS ?_
      rcases bool_cases r.dn with hdn | hdn
      · have n6 : ¬ (r.fr < 0 ∨ 24 < r.fr ∨ r.to < 0 ∨ 24 < r.to ∨ (r.fr = r.to ∧ ¬ r.fr = 0) ∨ r.nd < 0 ∨ 16 < r.nd) := by omega
        refine zR<|zF fa50_6 rfl ti3.und rfl (hS32.heap Z0) rfl rfl rfl ?_
        refine wl_dec (r_eql rfl rfl) rfl (fun h13_2 => ?_) (fun h13_2 => ?_)
        · refine zF fa50_7 rfl ti9.und rfl (hS32.heap Z0) rfl rfl rfl ?_
          refine wl_dec (r_eqlStrL rfl rfl) rfl (fun h13_5 => ?_) (fun h13_5 => ?_)
          · refine wl_dec_f (r_neqBool ti4.und rfl rfl) rfl (by decide)<|zq 1 rfl<|wl_val (r_field fa50_0 rfl) rfl<|wl_val (r_loadB1 ti4.und rfl rfl (hS32.heap Z0) (by first | exact rule_dn_t hdn | exact rule_dn_f hdn)) rfl ?_
            refine zq 1 rfl<|wl_val (r_field fa50_6 rfl) rfl<|wl_val (r_loadB1 ti3.und rfl rfl (hS32.heap Z0) rfl) rfl ?_
            refine wl_dec (r_gtr rfl rfl) rfl (fun h13_13 => ?_) (fun h13_13 => ?_)
            · refine zq 3 rfl<|zN<|zT<|zt rfl<|zS<|zR<|zq 1 rfl<|zN<|zT<|zU<|zH<|zL<|ret1 Tryz.results78 ?_
              have hF := hS32; exact ruleFault_ok_c4
            refine zq 3 rfl<|zN<|zT<|zf rfl<|zK<|zJ<|zT<|zS<|zR<|zq 1 rfl<|zN<|zT<|zU<|ret1 Tryz.results78 ?_
            have hF := hS32; exact ruleFault_ok_c5
          refine wl_dec_t (r_neqBool ti4.und rfl rfl) rfl (by decide)<|zq 10 rfl<|zN<|zT<|zt rfl<|zS<|zR<|zq 1 rfl<|zN<|zT<|zU<|zH<|zL<|ret1 Tryz.results78 ?_
          have hF := hS32; exact ruleFault_ok_c4
        refine zF fa50_7 rfl ti9.und rfl (hS32.heap Z0) rfl rfl rfl ?_
        refine wl_dec (r_eqlStrL rfl rfl) rfl (fun h13_5 => ?_) (fun h13_5 => ?_)
        · refine wl_dec_t (r_neqBool ti4.und rfl rfl) rfl (by decide)<|zq 10 rfl<|zN<|zT<|zt rfl<|zS<|zR<|zq 1 rfl<|zN<|zT<|zU<|zH<|zL<|ret1 Tryz.results78 ?_
          have hF := hS32; exact ruleFault_ok_c4
        refine wl_dec_f (r_neqBool ti4.und rfl rfl) rfl (by decide)<|zq 1 rfl<|wl_val (r_field fa50_0 rfl) rfl<|wl_val (r_loadB1 ti4.und rfl rfl (hS32.heap Z0) (by first | exact rule_dn_t hdn | exact rule_dn_f hdn)) rfl ?_; refine zq 1 rfl<|wl_val (r_field fa50_6 rfl) rfl<|wl_val (r_loadB1 ti3.und rfl rfl (hS32.heap Z0) rfl) rfl ?_
        refine wl_dec (r_gtr rfl rfl) rfl (fun h13_13 => ?_) (fun h13_13 => ?_)
        · refine zq 3 rfl<|zN<|zT<|zt rfl<|zS<|zR<|zq 1 rfl<|zN<|zT<|zU<|zH<|zL<|ret1 Tryz.results78 ?_
          have hF := hS32; exact ruleFault_ok_c4
        refine zq 3 rfl<|zN<|zT<|zf rfl<|zK<|zJ<|zT<|zS<|zR<|zq 1 rfl<|zN<|zT<|zU<|ret1 Tryz.results78 ?_
        have hF := hS32; exact ruleFault_ok_c5
      have n6 : ¬ (r.fr < 0 ∨ 24 < r.fr ∨ r.to < 0 ∨ 24 < r.to ∨ (r.fr = r.to ∧ ¬ r.fr = 0) ∨ r.nd < 0 ∨ 16 < r.nd) := by omega
      refine zR<|zF fa50_6 rfl ti3.und rfl (hS32.heap Z0) rfl rfl rfl ?_
      refine wl_dec (r_eql rfl rfl) rfl (fun h13_2 => ?_) (fun h13_2 => ?_)
      · refine zF fa50_7 rfl ti9.und rfl (hS32.heap Z0) rfl rfl rfl ?_
        refine wl_dec (r_eqlStrL rfl rfl) rfl (fun h13_5 => ?_) (fun h13_5 => ?_)
        · refine wl_dec_f (r_neqBool ti4.und rfl rfl) rfl (by decide)<|zq 1 rfl<|wl_val (r_field fa50_0 rfl) rfl<|wl_val (r_loadB1 ti4.und rfl rfl (hS32.heap Z0) (by first | exact rule_dn_t hdn | exact rule_dn_f hdn)) rfl ?_
          refine zq 7 rfl<|zN<|zT<|zf rfl<|zK<|zJ<|zT<|zS<|zR<|zq 1 rfl<|zN<|zT<|zU<|ret1 Tryz.results78 ?_
          have hF := hS32; exact ruleFault_ok_c5
        refine wl_dec_t (r_neqBool ti4.und rfl rfl) rfl (by decide)<|zq 10 rfl<|zN<|zT<|zt rfl<|zS<|zR<|zq 1 rfl<|zN<|zT<|zU<|zH<|zL<|ret1 Tryz.results78 ?_
        have hF := hS32; exact ruleFault_ok_c4
      refine zF fa50_7 rfl ti9.und rfl (hS32.heap Z0) rfl rfl rfl ?_
      refine wl_dec (r_eqlStrL rfl rfl) rfl (fun h13_5 => ?_) (fun h13_5 => ?_)
      · refine wl_dec_t (r_neqBool ti4.und rfl rfl) rfl (by decide)<|zq 10 rfl<|zN<|zT<|zt rfl<|zS<|zR<|zq 1 rfl<|zN<|zT<|zU<|zH<|zL<|ret1 Tryz.results78 ?_
        have hF := hS32; exact ruleFault_ok_c4
      refine wl_dec_f (r_neqBool ti4.und rfl rfl) rfl (by decide)<|zq 1 rfl<|wl_val (r_field fa50_0 rfl) rfl<|wl_val (r_loadB1 ti4.und rfl rfl (hS32.heap Z0) (by first | exact rule_dn_t hdn | exact rule_dn_f hdn)) rfl ?_; refine zq 7 rfl<|zN<|zT<|zf rfl<|zK<|zJ<|zT<|zS<|zR<|zq 1 rfl<|zN<|zT<|zU<|ret1 Tryz.results78 ?_
      have hF := hS32; exact ruleFault_ok_c5
    refine zq 7 rfl<|wl_val (r_field fa50_6 rfl) rfl<|wl_val (r_loadB1 ti3.und rfl rfl (hS29.heap Z0) rfl) rfl<|zC fn121 rfl (poutside_ok r.nd 0 16 _) ?_
    rintro _ w33 (⟨ho3, rfl, hx34⟩ | ⟨ho3, rfl, hx34⟩)
    · have hS35 := hS29.ext hx34
      refine zq 2 rfl<|zN<|zT<|zt rfl<|zS<|zR<|zq 1 rfl<|zN<|zT<|zU<|zH<|zL<|ret1 Tryz.results78 ?_
      have hF := hS35; exact ruleFault_ok_c3
    have hS35 := hS29.ext hx34; refine zq 2 rfl<|zN<|zT<|zf rfl<|zS ?_
    rcases bool_cases r.dn with hdn | hdn
    · have n6 : ¬ (r.fr < 0 ∨ 24 < r.fr ∨ r.to < 0 ∨ 24 < r.to ∨ (r.fr = r.to ∧ ¬ r.fr = 0) ∨ r.nd < 0 ∨ 16 < r.nd) := by omega
      refine zR<|zF fa50_6 rfl ti3.und rfl (hS35.heap Z0) rfl rfl rfl ?_
      refine wl_dec (r_eql rfl rfl) rfl (fun h13_2 => ?_) (fun h13_2 => ?_)
      · refine zF fa50_7 rfl ti9.und rfl (hS35.heap Z0) rfl rfl rfl ?_
        refine wl_dec (r_eqlStrL rfl rfl) rfl (fun h13_5 => ?_) (fun h13_5 => ?_)
        · refine wl_dec_f (r_neqBool ti4.und rfl rfl) rfl (by decide)<|zq 1 rfl<|wl_val (r_field fa50_0 rfl) rfl<|wl_val (r_loadB1 ti4.und rfl rfl (hS35.heap Z0) (by first | exact rule_dn_t hdn | exact rule_dn_f hdn)) rfl ?_
          refine zq 1 rfl<|wl_val (r_field fa50_6 rfl) rfl<|wl_val (r_loadB1 ti3.und rfl rfl (hS35.heap Z0) rfl) rfl ?_
          refine wl_dec (r_gtr rfl rfl) rfl (fun h13_13 => ?_) (fun h13_13 => ?_)
          · refine zq 3 rfl<|zN<|zT<|zt rfl<|zS<|zR<|zq 1 rfl<|zN<|zT<|zU<|zH<|zL<|ret1 Tryz.results78 ?_
            have hF := hS35; exact ruleFault_ok_c4
          refine zq 3 rfl<|zN<|zT<|zf rfl<|zK<|zJ<|zT<|zS<|zR<|zq 1 rfl<|zN<|zT<|zU<|ret1 Tryz.results78 ?_
          have hF := hS35; exact ruleFault_ok_c5
        refine wl_dec_t (r_neqBool ti4.und rfl rfl) rfl (by decide)<|zq 10 rfl<|zN<|zT<|zt rfl<|zS<|zR<|zq 1 rfl<|zN<|zT<|zU<|zH<|zL<|ret1 Tryz.results78 ?_
        have hF := hS35; exact ruleFault_ok_c4
      refine zF fa50_7 rfl ti9.und rfl (hS35.heap Z0) rfl rfl rfl ?_
      refine wl_dec (r_eqlStrL rfl rfl) rfl (fun h13_5 => ?_) (fun h13_5 => ?_)
      · refine wl_dec_t (r_neqBool ti4.und rfl rfl) rfl (by decide)<|zq 10 rfl<|zN<|zT<|zt rfl<|zS<|zR<|zq 1 rfl<|zN<|zT<|zU<|zH<|zL<|ret1 Tryz.results78 ?_
        have hF := hS35; exact ruleFault_ok_c4
      refine wl_dec_f (r_neqBool ti4.und rfl rfl) rfl (by decide)<|zq 1 rfl<|wl_val (r_field fa50_0 rfl) rfl<|wl_val (r_loadB1 ti4.und rfl rfl (hS35.heap Z0) (by first | exact rule_dn_t hdn | exact rule_dn_f hdn)) rfl ?_; refine zq 1 rfl<|wl_val (r_field fa50_6 rfl) rfl<|wl_val (r_loadB1 ti3.und rfl rfl (hS35.heap Z0) rfl) rfl ?_
      refine wl_dec (r_gtr rfl rfl) rfl (fun h13_13 => ?_) (fun h13_13 => ?_)
      · refine zq 3 rfl<|zN<|zT<|zt rfl<|zS<|zR<|zq 1 rfl<|zN<|zT<|zU<|zH<|zL<|ret1 Tryz.results78 ?_
        have hF := hS35; exact ruleFault_ok_c4
      refine zq 3 rfl<|zN<|zT<|zf rfl<|zK<|zJ<|zT<|zS<|zR<|zq 1 rfl<|zN<|zT<|zU<|ret1 Tryz.results78 ?_
      have hF := hS35; exact ruleFault_ok_c5
    have n6 : ¬ (r.fr < 0 ∨ 24 < r.fr ∨ r.to < 0 ∨ 24 < r.to ∨ (r.fr = r.to ∧ ¬ r.fr = 0) ∨ r.nd < 0 ∨ 16 < r.nd) := by omega
    refine zR<|zF fa50_6 rfl ti3.und rfl (hS35.heap Z0) rfl rfl rfl ?_
    refine wl_dec (r_eql rfl rfl) rfl (fun h13_2 => ?_) (fun h13_2 => ?_)
    · refine zF fa50_7 rfl ti9.und rfl (hS35.heap Z0) rfl rfl rfl ?_
      refine wl_dec (r_eqlStrL rfl rfl) rfl (fun h13_5 => ?_) (fun h13_5 => ?_)
      · refine wl_dec_f (r_neqBool ti4.und rfl rfl) rfl (by decide)<|zq 1 rfl<|wl_val (r_field fa50_0 rfl) rfl<|wl_val (r_loadB1 ti4.und rfl rfl (hS35.heap Z0) (by first | exact rule_dn_t hdn | exact rule_dn_f hdn)) rfl ?_
        refine zq 7 rfl<|zN<|zT<|zf rfl<|zK<|zJ<|zT<|zS<|zR<|zq 1 rfl<|zN<|zT<|zU<|ret1 Tryz.results78 ?_
        have hF := hS35; exact ruleFault_ok_c5
      refine wl_dec_t (r_neqBool ti4.und rfl rfl) rfl (by decide)<|zq 10 rfl<|zN<|zT<|zt rfl<|zS<|zR<|zq 1 rfl<|zN<|zT<|zU<|zH<|zL<|ret1 Tryz.results78 ?_
      have hF := hS35; exact ruleFault_ok_c4
    refine zF fa50_7 rfl ti9.und rfl (hS35.heap Z0) rfl rfl rfl ?_
    refine wl_dec (r_eqlStrL rfl rfl) rfl (fun h13_5 => ?_) (fun h13_5 => ?_)
    · refine wl_dec_t (r_neqBool ti4.und rfl rfl) rfl (by decide)<|zq 10 rfl<|zN<|zT<|zt rfl<|zS<|zR<|zq 1 rfl<|zN<|zT<|zU<|zH<|zL<|ret1 Tryz.results78 ?_
      have hF := hS35; exact ruleFault_ok_c4
    refine wl_dec_f (r_neqBool ti4.und rfl rfl) rfl (by decide)<|zq 1 rfl<|wl_val (r_field fa50_0 rfl) rfl<|wl_val (r_loadB1 ti4.und rfl rfl (hS35.heap Z0) (by first | exact rule_dn_t hdn | exact rule_dn_f hdn)) rfl ?_; refine zq 7 rfl<|zN<|zT<|zf rfl<|zK<|zJ<|zT<|zS<|zR<|zq 1 rfl<|zN<|zT<|zU<|ret1 Tryz.results78 ?_
    have hF := hS35; exact ruleFault_ok_c5
  refine zq 7 rfl<|zN<|zT<|zf rfl<|zS ?_
  have n2 : ¬ (r.ro.any (fun s => !nameE s) = true ∨ (¬ r.ofr = [] ∧ nameE r.ofr = false)) := by rintro (h | ⟨h, h'⟩); (rw [hcf] at h; cases h); first | exact h3_6 h | (rw [hnn] at h'; cases h')
  refine zR<|zF fa50_2 rfl ti48.und rfl (hS5.heap Z0) rfl rfl rfl<|zC fn55 rfl (containsFuncI_ok r.acs r.aa r.acs.length r.ak 115 [] actOut _ (h2.st hS5) rfl hk.an fn115 (fun x w' hx h => anot_ok x w')) ?_
  rintro _ w36 (⟨hcf, rfl, hx37⟩ | ⟨hcf, rfl, hx37⟩)
  · have hS38 := hS5.ext hx37
    refine zq 1 rfl<|zN<|zT<|zt rfl<|zS<|zR<|zq 1 rfl<|zN<|zT<|zU<|zH<|zL<|ret1 Tryz.results78 ?_
    have hF := hS38; exact ruleFault_ok_c1
  have hS38 := hS5.ext hx37; refine zq 1 rfl<|zN<|zT<|zf rfl<|zS ?_
  have n3 : ¬ (r.acs.any actOut = true) := by rw [hcf]; exact Bool.noConfusion
  refine zR<|zF fa50_3 rfl ti36.und rfl (hS38.heap Z0) rfl rfl rfl<|zC fn53 rfl (containsFuncS_ok r.las r.la r.las.length r.lc 117 [] (fun s => !patE s) _ (h3.st hS38) rfl hk.ln fn117 (fun x w' hx h => pnot_ok x w' (hk.ll x hx))) ?_
  rintro _ w39 (⟨hcf, rfl, hx40⟩ | ⟨hcf, rfl, hx40⟩)
  · have hS41 := hS38.ext hx40
    refine zq 1 rfl<|zN<|zT<|zt rfl<|zS<|zR<|zq 1 rfl<|zN<|zT<|zU<|zH<|zL<|ret1 Tryz.results78 ?_
    have hF := hS41; exact ruleFault_ok_c0
  have hS41 := hS38.ext hx40; refine zq 1 rfl<|zN<|zT<|zf rfl<|zS ?_
  have n4 : ¬ (r.las.any (fun s => !patE s) = true) := by rw [hcf]; exact Bool.noConfusion
  refine zR<|zF fa50_1 rfl ti36.und rfl (hS41.heap Z0) rfl rfl rfl<|zC fn119 rfl (twiceS_ok r.ro r.ra r.ro.length r.rc _ (h1.st hS41) rfl hk.rn hk.rc) ?_
  rintro _ w42 (⟨htwro, rfl, hx43⟩ | ⟨htwro, rfl, hx43⟩)
  · have hS44 := hS41.ext hx43
    refine zq 11 rfl<|zN<|zT<|zt rfl<|zS<|zR<|zq 1 rfl<|zN<|zT<|zU<|zH<|zL<|ret1 Tryz.results78 ?_
    have hF := hS44; exact ruleFault_ok_c2
  have hS44 := hS41.ext hx43; refine zq 1 rfl<|wl_val (r_field fa50_2 rfl) rfl<|wl_val (r_loadB1 ti48.und rfl rfl (hS44.heap Z0) rfl) rfl<|zC fn120 rfl (twiceI_ok r.acs r.aa r.acs.length r.ak _ (h2.st hS44) rfl hk.an hk.ac) ?_
  rintro _ w45 (⟨htwacs, rfl, hx46⟩ | ⟨htwacs, rfl, hx46⟩)
  · have hS47 := hS44.ext hx46
    refine zq 7 rfl<|zN<|zT<|zt rfl<|zS<|zR<|zq 1 rfl<|zN<|zT<|zU<|zH<|zL<|ret1 Tryz.results78 ?_
    have hF := hS47; exact ruleFault_ok_c2
  have hS47 := hS44.ext hx46; refine zq 2 rfl<|wl_val (r_field fa50_3 rfl) rfl<|wl_val (r_loadB1 ti36.und rfl rfl (hS47.heap Z0) rfl) rfl<|zC fn119 rfl (twiceS_ok r.las r.la r.las.length r.lc _ (h3.st hS47) rfl hk.ln hk.lc) ?_
  rintro _ w48 (⟨htwlas, rfl, hx49⟩ | ⟨htwlas, rfl, hx49⟩)
  · have hS50 := hS47.ext hx49
    refine zq 2 rfl<|zN<|zT<|zt rfl<|zS<|zR<|zq 1 rfl<|zN<|zT<|zU<|zH<|zL<|ret1 Tryz.results78 ?_
    have hF := hS50; exact ruleFault_ok_c2
  have hS50 := hS47.ext hx49; refine zq 2 rfl<|zN<|zT<|zf rfl<|zS ?_
  have n5 : ¬ (¬ r.ro.Nodup ∨ ¬ r.acs.Nodup ∨ ¬ r.las.Nodup) := by rintro (h | h | h) <;> exact h (by assumption)
  refine zR<|zF fa50_4 rfl ti3.und rfl (hS50.heap Z0) rfl rfl rfl<|zC fn121 rfl (poutside_ok r.fr 0 24 _) ?_
  rintro _ w51 (⟨ho1, rfl, hx52⟩ | ⟨ho1, rfl, hx52⟩)
  · have hS53 := hS50.ext hx52
    refine zq 23 rfl<|zN<|zT<|zt rfl<|zS<|zR<|zq 1 rfl<|zN<|zT<|zU<|zH<|zL<|ret1 Tryz.results78 ?_
    have hF := hS53; exact ruleFault_ok_c3
  have hS53 := hS50.ext hx52; refine zq 1 rfl<|wl_val (r_field fa50_5 rfl) rfl<|wl_val (r_loadB1 ti3.und rfl rfl (hS53.heap Z0) rfl) rfl<|zC fn121 rfl (poutside_ok r.to 0 24 _) ?_
  rintro _ w54 (⟨ho2, rfl, hx55⟩ | ⟨ho2, rfl, hx55⟩)
  · have hS56 := hS53.ext hx55
    refine zq 19 rfl<|zN<|zT<|zt rfl<|zS<|zR<|zq 1 rfl<|zN<|zT<|zU<|zH<|zL<|ret1 Tryz.results78 ?_
    have hF := hS56; exact ruleFault_ok_c3
  have hS56 := hS53.ext hx55; refine zq 2 rfl<|wl_val (r_field fa50_4 rfl) rfl<|wl_val (r_loadB1 ti3.und rfl rfl (hS56.heap Z0) rfl) rfl<|wl_val (r_field fa50_5 rfl) rfl<|wl_val (r_loadB1 ti3.und rfl rfl (hS56.heap Z0) rfl) rfl ?_
  refine wl_dec (r_eql rfl rfl) rfl (fun h11_13 => ?_) (fun h11_13 => ?_)
  · refine zq 1 rfl<|wl_val (r_field fa50_4 rfl) rfl<|wl_val (r_loadB1 ti3.und rfl rfl (hS56.heap Z0) rfl) rfl ?_
    refine wl_dec (r_neq rfl rfl) rfl (fun h11_17 => ?_) (fun h11_17 => ?_)
    · refine zq 8 rfl<|zN<|zT<|zt rfl<|zS<|zR<|zq 1 rfl<|zN<|zT<|zU<|zH<|zL<|ret1 Tryz.results78 ?_
      have hF := hS56; exact ruleFault_ok_c3
    refine zq 3 rfl<|wl_val (r_field fa50_6 rfl) rfl<|wl_val (r_loadB1 ti3.und rfl rfl (hS56.heap Z0) rfl) rfl<|zC fn121 rfl (poutside_ok r.nd 0 16 _) ?_
    rintro _ w57 (⟨ho3, rfl, hx58⟩ | ⟨ho3, rfl, hx58⟩)
    · have hS59 := hS56.ext hx58
      refine zq 2 rfl<|zN<|zT<|zt rfl<|zS<|zR<|zq 1 rfl<|zN<|zT<|zU<|zH<|zL<|ret1 Tryz.results78 ?_
      have hF := hS59; exact ruleFault_ok_c3
    have hS59 := hS56.ext hx58; refine zq 2 rfl<|zN<|zT<|zf rfl<|zS ?_
    rcases bool_cases r.dn with hdn | hdn
    · have n6 : ¬ (r.fr < 0 ∨ 24 < r.fr ∨ r.to < 0 ∨ 24 < r.to ∨ (r.fr = r.to ∧ ¬ r.fr = 0) ∨ r.nd < 0 ∨ 16 < r.nd) := by omega
      refine zR<|zF fa50_6 rfl ti3.und rfl (hS59.heap Z0) rfl rfl rfl ?_
      refine wl_dec (r_eql rfl rfl) rfl (fun h13_2 => ?_) (fun h13_2 => ?_)
      · refine zF fa50_7 rfl ti9.und rfl (hS59.heap Z0) rfl rfl rfl ?_
        refine wl_dec (r_eqlStrL rfl rfl) rfl (fun h13_5 => ?_) (fun h13_5 => ?_)
        · refine wl_dec_f (r_neqBool ti4.und rfl rfl) rfl (by decide)<|zq 1 rfl<|wl_val (r_field fa50_0 rfl) rfl<|wl_val (r_loadB1 ti4.und rfl rfl (hS59.heap Z0) (by first | exact rule_dn_t hdn | exact rule_dn_f hdn)) rfl ?_
          refine zq 1 rfl<|wl_val (r_field fa50_6 rfl) rfl<|wl_val (r_loadB1 ti3.und rfl rfl (hS59.heap Z0) rfl) rfl ?_
          refine wl_dec (r_gtr rfl rfl) rfl (fun h13_13 => ?_) (fun h13_13 => ?_)
          · refine zq 3 rfl<|zN<|zT<|zt rfl<|zS<|zR<|zq 1 rfl<|zN<|zT<|zU<|zH<|zL<|ret1 Tryz.results78 ?_
            have hF := hS59; exact ruleFault_ok_c4
          refine zq 3 rfl<|zN<|zT<|zf rfl<|zK<|zJ<|zT<|zS<|zR<|zq 1 rfl<|zN<|zT<|zU<|ret1 Tryz.results78 ?_
          have hF := hS59; exact ruleFault_ok_c5
        refine wl_dec_t (r_neqBool ti4.und rfl rfl) rfl (by decide)<|zq 10 rfl<|zN<|zT<|zt rfl<|zS<|zR<|zq 1 rfl<|zN<|zT<|zU<|zH<|zL<|ret1 Tryz.results78 ?_
        have hF := hS59; exact ruleFault_ok_c4
      refine zF fa50_7 rfl ti9.und rfl (hS59.heap Z0) rfl rfl rfl ?_
      refine wl_dec (r_eqlStrL rfl rfl) rfl (fun h13_5 => ?_) (fun h13_5 => ?_)
      · refine wl_dec_t (r_neqBool ti4.und rfl rfl) rfl (by decide)<|zq 10 rfl<|zN<|zT<|zt rfl<|zS<|zR<|zq 1 rfl<|zN<|zT<|zU<|zH<|zL<|ret1 Tryz.results78 ?_
        have hF := hS59; exact ruleFault_ok_c4
      refine wl_dec_f (r_neqBool ti4.und rfl rfl) rfl (by decide)<|zq 1 rfl<|wl_val (r_field fa50_0 rfl) rfl<|wl_val (r_loadB1 ti4.und rfl rfl (hS59.heap Z0) (by first | exact rule_dn_t hdn | exact rule_dn_f hdn)) rfl ?_; refine zq 1 rfl<|wl_val (r_field fa50_6 rfl) rfl<|wl_val (r_loadB1 ti3.und rfl rfl (hS59.heap Z0) rfl) rfl ?_
      refine wl_dec (r_gtr rfl rfl) rfl (fun h13_13 => ?_) (fun h13_13 => ?_)
      · refine zq 3 rfl<|zN<|zT<|zt rfl<|zS<|zR<|zq 1 rfl<|zN<|zT<|zU<|zH<|zL<|ret1 Tryz.results78 ?_
        have hF := hS59; exact ruleFault_ok_c4
      refine zq 3 rfl<|zN<|zT<|zf rfl<|zK<|zJ<|zT<|zS<|zR<|zq 1 rfl<|zN<|zT<|zU<|ret1 Tryz.results78 ?_
      have hF := hS59; exact ruleFault_ok_c5
    have n6 : ¬ (r.fr < 0 ∨ 24 < r.fr ∨ r.to < 0 ∨ 24 < r.to ∨ (r.fr = r.to ∧ ¬ r.fr = 0) ∨ r.nd < 0 ∨ 16 < r.nd) := by omega
    refine zR<|zF fa50_6 rfl ti3.und rfl (hS59.heap Z0) rfl rfl rfl ?_
    refine wl_dec (r_eql rfl rfl) rfl (fun h13_2 => ?_) (fun h13_2 => ?_)
    · refine zF fa50_7 rfl ti9.und rfl (hS59.heap Z0) rfl rfl rfl ?_
      refine wl_dec (r_eqlStrL rfl rfl) rfl (fun h13_5 => ?_) (fun h13_5 => ?_)
      · refine wl_dec_f (r_neqBool ti4.und rfl rfl) rfl (by decide)<|zq 1 rfl<|wl_val (r_field fa50_0 rfl) rfl<|wl_val (r_loadB1 ti4.und rfl rfl (hS59.heap Z0) (by first | exact rule_dn_t hdn | exact rule_dn_f hdn)) rfl ?_
        refine zq 7 rfl<|zN<|zT<|zf rfl<|zK<|zJ<|zT<|zS<|zR<|zq 1 rfl<|zN<|zT<|zU<|ret1 Tryz.results78 ?_
        have hF := hS59; exact ruleFault_ok_c5
      refine wl_dec_t (r_neqBool ti4.und rfl rfl) rfl (by decide)<|zq 10 rfl<|zN<|zT<|zt rfl<|zS<|zR<|zq 1 rfl<|zN<|zT<|zU<|zH<|zL<|ret1 Tryz.results78 ?_
      have hF := hS59; exact ruleFault_ok_c4
    refine zF fa50_7 rfl ti9.und rfl (hS59.heap Z0) rfl rfl rfl ?_
    refine wl_dec (r_eqlStrL rfl rfl) rfl (fun h13_5 => ?_) (fun h13_5 => ?_)
    · refine wl_dec_t (r_neqBool ti4.und rfl rfl) rfl (by decide)<|zq 10 rfl<|zN<|zT<|zt rfl<|zS<|zR<|zq 1 rfl<|zN<|zT<|zU<|zH<|zL<|ret1 Tryz.results78 ?_
      have hF := hS59; exact ruleFault_ok_c4
    refine wl_dec_f (r_neqBool ti4.und rfl rfl) rfl (by decide)<|zq 1 rfl<|wl_val (r_field fa50_0 rfl) rfl<|wl_val (r_loadB1 ti4.und rfl rfl (hS59.heap Z0) (by first | exact rule_dn_t hdn | exact rule_dn_f hdn)) rfl ?_; refine zq 7 rfl<|zN<|zT<|zf rfl<|zK<|zJ<|zT<|zS<|zR<|zq 1 rfl<|zN<|zT<|zU<|ret1 Tryz.results78 ?_
    have hF := hS59; exact ruleFault_ok_c5
  refine zq 7 rfl<|wl_val (r_field fa50_6 rfl) rfl<|wl_val (r_loadB1 ti3.und rfl rfl (hS56.heap Z0) rfl) rfl<|zC fn121 rfl (poutside_ok r.nd 0 16 _) ?_
  rintro _ w60 (⟨ho3, rfl, hx61⟩ | ⟨ho3, rfl, hx61⟩)
  · have hS62 := hS56.ext hx61
    refine zq 2 rfl<|zN<|zT<|zt rfl<|zS<|zR<|zq 1 rfl<|zN<|zT<|zU<|zH<|zL<|ret1 Tryz.results78 ?_
    have hF := hS62; exact ruleFault_ok_c3
  have hS62 := hS56.ext hx61; refine zq 2 rfl<|zN<|zT<|zf rfl<|zS ?_
  rcases bool_cases r.dn with hdn | hdn
  · have n6 : ¬ (r.fr < 0 ∨ 24 < r.fr ∨ r.to < 0 ∨ 24 < r.to ∨ (r.fr = r.to ∧ ¬ r.fr = 0) ∨ r.nd < 0 ∨ 16 < r.nd) := by omega
    refine zR<|zF fa50_6 rfl ti3.und rfl (hS62.heap Z0) rfl rfl rfl ?_
    refine wl_dec (r_eql rfl rfl) rfl (fun h13_2 => ?_) (fun h13_2 => ?_)
    · refine zF fa50_7 rfl ti9.und rfl (hS62.heap Z0) rfl rfl rfl ?_
      refine wl_dec (r_eqlStrL rfl rfl) rfl (fun h13_5 => ?_) (fun h13_5 => ?_)
      · refine wl_dec_f (r_neqBool ti4.und rfl rfl) rfl (by decide)<|zq 1 rfl<|wl_val (r_field fa50_0 rfl) rfl<|wl_val (r_loadB1 ti4.und rfl rfl (hS62.heap Z0) (by first | exact rule_dn_t hdn | exact rule_dn_f hdn)) rfl ?_
        refine zq 1 rfl<|wl_val (r_field fa50_6 rfl) rfl<|wl_val (r_loadB1 ti3.und rfl rfl (hS62.heap Z0) rfl) rfl ?_
        refine wl_dec (r_gtr rfl rfl) rfl (fun h13_13 => ?_) (fun h13_13 => ?_)
        · refine zq 3 rfl<|zN<|zT<|zt rfl<|zS<|zR<|zq 1 rfl<|zN<|zT<|zU<|zH<|zL<|ret1 Tryz.results78 ?_
          have hF := hS62; exact ruleFault_ok_c4
        refine zq 3 rfl<|zN<|zT<|zf rfl<|zK<|zJ<|zT<|zS<|zR<|zq 1 rfl<|zN<|zT<|zU<|ret1 Tryz.results78 ?_
        have hF := hS62; exact ruleFault_ok_c5
      refine wl_dec_t (r_neqBool ti4.und rfl rfl) rfl (by decide)<|zq 10 rfl<|zN<|zT<|zt rfl<|zS<|zR<|zq 1 rfl<|zN<|zT<|zU<|zH<|zL<|ret1 Tryz.results78 ?_
      have hF := hS62; exact ruleFault_ok_c4
    refine zF fa50_7 rfl ti9.und rfl (hS62.heap Z0) rfl rfl rfl ?_
    refine wl_dec (r_eqlStrL rfl rfl) rfl (fun h13_5 => ?_) (fun h13_5 => ?_)
    · refine wl_dec_t (r_neqBool ti4.und rfl rfl) rfl (by decide)<|zq 10 rfl<|zN<|zT<|zt rfl<|zS<|zR<|zq 1 rfl<|zN<|zT<|zU<|zH<|zL<|ret1 Tryz.results78 ?_
      have hF := hS62; exact ruleFault_ok_c4
    refine wl_dec_f (r_neqBool ti4.und rfl rfl) rfl (by decide)<|zq 1 rfl<|wl_val (r_field fa50_0 rfl) rfl<|wl_val (r_loadB1 ti4.und rfl rfl (hS62.heap Z0) (by first | exact rule_dn_t hdn | exact rule_dn_f hdn)) rfl ?_; refine zq 1 rfl<|wl_val (r_field fa50_6 rfl) rfl<|wl_val (r_loadB1 ti3.und rfl rfl (hS62.heap Z0) rfl) rfl ?_
    refine wl_dec (r_gtr rfl rfl) rfl (fun h13_13 => ?_) (fun h13_13 => ?_)
    · refine zq 3 rfl<|zN<|zT<|zt rfl<|zS<|zR<|zq 1 rfl<|zN<|zT<|zU<|zH<|zL<|ret1 Tryz.results78 ?_
      have hF := hS62; exact ruleFault_ok_c4
    refine zq 3 rfl<|zN<|zT<|zf rfl<|zK<|zJ<|zT<|zS<|zR<|zq 1 rfl<|zN<|zT<|zU<|ret1 Tryz.results78 ?_
    have hF := hS62; exact ruleFault_ok_c5
  have n6 : ¬ (r.fr < 0 ∨ 24 < r.fr ∨ r.to < 0 ∨ 24 < r.to ∨ (r.fr = r.to ∧ ¬ r.fr = 0) ∨ r.nd < 0 ∨ 16 < r.nd) := by omega
  refine zR<|zF fa50_6 rfl ti3.und rfl (hS62.heap Z0) rfl rfl rfl ?_
  refine wl_dec (r_eql rfl rfl) rfl (fun h13_2 => ?_) (fun h13_2 => ?_)
  · refine zF fa50_7 rfl ti9.und rfl (hS62.heap Z0) rfl rfl rfl ?_
    refine wl_dec (r_eqlStrL rfl rfl) rfl (fun h13_5 => ?_) (fun h13_5 => ?_)
    · refine wl_dec_f (r_neqBool ti4.und rfl rfl) rfl (by decide)<|zq 1 rfl<|wl_val (r_field fa50_0 rfl) rfl<|wl_val (r_loadB1 ti4.und rfl rfl (hS62.heap Z0) (by first | exact rule_dn_t hdn | exact rule_dn_f hdn)) rfl ?_
      refine zq 7 rfl<|zN<|zT<|zf rfl<|zK<|zJ<|zT<|zS<|zR<|zq 1 rfl<|zN<|zT<|zU<|ret1 Tryz.results78 ?_
      have hF := hS62; exact ruleFault_ok_c5
    refine wl_dec_t (r_neqBool ti4.und rfl rfl) rfl (by decide)<|zq 10 rfl<|zN<|zT<|zt rfl<|zS<|zR<|zq 1 rfl<|zN<|zT<|zU<|zH<|zL<|ret1 Tryz.results78 ?_
    have hF := hS62; exact ruleFault_ok_c4
  refine zF fa50_7 rfl ti9.und rfl (hS62.heap Z0) rfl rfl rfl ?_
  refine wl_dec (r_eqlStrL rfl rfl) rfl (fun h13_5 => ?_) (fun h13_5 => ?_)
  · refine wl_dec_t (r_neqBool ti4.und rfl rfl) rfl (by decide)<|zq 10 rfl<|zN<|zT<|zt rfl<|zS<|zR<|zq 1 rfl<|zN<|zT<|zU<|zH<|zL<|ret1 Tryz.results78 ?_
    have hF := hS62; exact ruleFault_ok_c4
  refine wl_dec_f (r_neqBool ti4.und rfl rfl) rfl (by decide)<|zq 1 rfl<|wl_val (r_field fa50_0 rfl) rfl<|wl_val (r_loadB1 ti4.und rfl rfl (hS62.heap Z0) (by first | exact rule_dn_t hdn | exact rule_dn_f hdn)) rfl ?_; refine zq 7 rfl<|zN<|zT<|zf rfl<|zK<|zJ<|zT<|zS<|zR<|zq 1 rfl<|zN<|zT<|zU<|ret1 Tryz.results78 ?_
  have hF := hS62; exact ruleFault_ok_c5

theorem ruleError_ok_c0 {p : Prop} (h : p := by first | exact ⟨congrArg (Value.int .i64) (rule_4 n1 n2 n3 hcf).symm, hF.fin⟩ | exact ⟨congrArg (Value.int .i64) (rule_2 n1 (.inl hcf)).symm, hF.fin⟩ | exact ⟨congrArg (Value.int .i64) (rule_2 n1 (.inr ⟨by assumption, hnn⟩)).symm, hF.fin⟩ | (exfalso; omega)) : p := h
theorem ruleError_ok_c1 {p : Prop} (h : p := by first | exact ⟨congrArg (Value.int .i64) (rule_3 n1 n2 hcf).symm, hF.fin⟩ | (exfalso; omega)) : p := h
theorem ruleError_ok_c2 {p : Prop} (h : p := by first | exact ⟨congrArg (Value.int .i64) (rule_5 n1 n2 n3 n4 (by first | exact .inl (by assumption) | exact .inr (.inl (by assumption)) | exact .inr (.inr (by assumption)))).symm, hF.fin⟩ | (exfalso; omega)) : p := h
theorem ruleError_ok_c3 {p : Prop} (h : p := by first | exact ⟨congrArg (Value.int .i64) (rule_6 n1 n2 n3 n4 n5 Om).symm, hF.fin⟩ | (exfalso; omega)) : p := h
theorem ruleError_ok_c4 {p : Prop} (h : p := by first | exact ⟨congrArg (Value.int .i64) (rule_7 n1 n2 n3 n4 n5 n6 (.inl ⟨by omega, (by first | assumption | exact Decidable.of_not_not (by assumption))⟩)).symm, hF.fin⟩ | exact ⟨congrArg (Value.int .i64) (rule_7 n1 n2 n3 n4 n5 n6 (.inr (.inl ⟨by omega, (by first | assumption | exact Decidable.of_not_not (by assumption))⟩))).symm, hF.fin⟩ | exact ⟨congrArg (Value.int .i64) (rule_7 n1 n2 n3 n4 n5 n6 (.inr (.inr ⟨hdn, by omega⟩))).symm, hF.fin⟩ | (exfalso; omega)) : p := h
theorem ruleError_ok_c5 {p : Prop} (h : p := by first | exact ⟨congrArg (Value.int .i64) (rule_8 n1 n2 n3 n4 n5 n6 (.inl ⟨by omega, (by first | assumption | exact Decidable.of_not_not (by assumption))⟩)).symm, hF.fin⟩ | exact ⟨congrArg (Value.int .i64) (rule_8 n1 n2 n3 n4 n5 n6 (.inr ⟨by omega, (by first | assumption | exact Decidable.of_not_not (by assumption)), hdn⟩)).symm, hF.fin⟩ | (exfalso; omega)) : p := h
set_option maxHeartbeats 4000000 in
theorem ruleError_ok (r : RuleD) (w : World) (hk : RuleOk r) (h1 : Row w r.ra (r.ro.map sv)) (h2 : Row w r.aa (r.acs.map iv)) (h3 : Row w r.la (r.las.map sv)) :
    Ret Tryz.prog 26 [.agg r.v.toArray] w (fun v w' => v = .int .i64 (ruleE r) ∧ St w [] w' []) := by
  refine enter Tryz.func26 rfl Tryz.ntmps26 rfl ?_
  have hS := St.refl w []
  refine zS<|zR<|zB (v := .agg _) hS rfl rfl fun b1 w1 hS2=>zq 1 rfl<|zN<|zT<|zS<|zS<|zR<|zF fa50_1 rfl ti36.und rfl (hS2.heap Z0) rfl rfl rfl<|zV (r_len (T := 36) rfl ti36.und rfl _ rfl)<|zF fa50_2 rfl ti48.und rfl (hS2.heap Z0) rfl rfl rfl<|zV (r_len (T := 48) rfl ti48.und rfl _ rfl)<|zF fa50_3 rfl ti36.und rfl (hS2.heap Z0) rfl rfl rfl<|zV (r_len (T := 36) rfl ti36.und rfl _ rfl)<|zV (r_max3n rfl rfl rfl _ rfl) ?_
  refine wl_dec (r_gtr rfl rfl) rfl (fun h1_10 => ?_) (fun h1_10 => ?_)
  · refine zN<|zT<|zt rfl<|zS<|zR<|zq 1 rfl<|zN<|zT<|zU<|zL<|ret1 Tryz.results26 ?_
    first | exact ⟨congrArg (Value.int .i64) (rule_1 Om).symm, hS2.fin⟩ | (exfalso; omega)
  refine zN<|zT<|zf rfl<|zK<|zT<|zS<|zS ?_
  have n1 : ¬ (16 < r.ro.length ∨ 16 < r.acs.length ∨ 16 < r.las.length) := by omega
  refine zR<|zF fa50_1 rfl ti36.und rfl (hS2.heap Z0) rfl rfl rfl<|zC fn53 rfl (containsFuncS_ok r.ro r.ra r.ro.length r.rc 54 [] (fun s => !nameE s) _ (h1.st hS2) rfl hk.rn fn54 (fun x w' hx h => rnot2_ok x w' (hk.rl x hx))) ?_
  rintro _ w3 (⟨hcf, rfl, hx4⟩ | ⟨hcf, rfl, hx4⟩)
  · have hS5 := hS2.ext hx4
    refine zq 11 rfl<|zN<|zT<|zt rfl<|zS<|zR<|zq 1 rfl<|zN<|zT<|zU<|zL<|ret1 Tryz.results26 ?_
    have hF := hS5; exact ruleError_ok_c0
  have hS5 := hS2.ext hx4; refine zq 1 rfl<|wl_val (r_field fa50_7 rfl) rfl<|wl_val (r_loadB1 ti9.und rfl rfl (hS5.heap Z0) rfl) rfl ?_
  refine wl_dec (r_neqStrL rfl rfl) rfl (fun h3_6 => ?_) (fun h3_6 => ?_)
  · refine zq 1 rfl<|wl_val (r_field fa50_7 rfl) rfl<|wl_val (r_loadB1 ti9.und rfl rfl (hS5.heap Z0) rfl) rfl<|zC fn28 rfl (risName_br r.ofr _ hk.ol) ?_
    rintro _ w6 (⟨hnn, rfl, hx7⟩ | ⟨hnn, rfl, hx7⟩)
    · have hS8 := hS5.ext hx7
      refine zq 3 rfl<|zN<|zT<|zf rfl<|zK<|zT<|zS<|zS ?_
      have n2 : ¬ (r.ro.any (fun s => !nameE s) = true ∨ (¬ r.ofr = [] ∧ nameE r.ofr = false)) := by rintro (h | ⟨h, h'⟩); (rw [hcf] at h; cases h); first | exact h3_6 h | (rw [hnn] at h'; cases h')
      refine zR<|zF fa50_2 rfl ti48.und rfl (hS8.heap Z0) rfl rfl rfl<|zC fn55 rfl (containsFuncI_ok r.acs r.aa r.acs.length r.ak 56 [] actOut _ (h2.st hS8) rfl hk.an fn56 (fun x w' hx h => ranot_ok x w')) ?_
      rintro _ w9 (⟨hcf, rfl, hx10⟩ | ⟨hcf, rfl, hx10⟩)
      · have hS11 := hS8.ext hx10
        refine zN<|zT<|zt rfl<|zS<|zR<|zq 1 rfl<|zN<|zT<|zU<|zL<|ret1 Tryz.results26 ?_
        have hF := hS11; exact ruleError_ok_c1
      have hS11 := hS8.ext hx10; refine zN<|zT<|zf rfl<|zK<|zT<|zS<|zS ?_
      have n3 : ¬ (r.acs.any actOut = true) := by rw [hcf]; exact Bool.noConfusion
      refine zR<|zF fa50_3 rfl ti36.und rfl (hS11.heap Z0) rfl rfl rfl<|zC fn53 rfl (containsFuncS_ok r.las r.la r.las.length r.lc 57 [] (fun s => !patE s) _ (h3.st hS11) rfl hk.ln fn57 (fun x w' hx h => rpnot_ok x w' (hk.ll x hx))) ?_
      rintro _ w12 (⟨hcf, rfl, hx13⟩ | ⟨hcf, rfl, hx13⟩)
      · have hS14 := hS11.ext hx13
        refine zN<|zT<|zt rfl<|zS<|zR<|zq 1 rfl<|zN<|zT<|zU<|zL<|ret1 Tryz.results26 ?_
        have hF := hS14; exact ruleError_ok_c0
      have hS14 := hS11.ext hx13; refine zN<|zT<|zf rfl<|zK<|zT<|zS<|zI<|zS ?_
      have n4 : ¬ (r.las.any (fun s => !patE s) = true) := by rw [hcf]; exact Bool.noConfusion
      refine zR<|zF fa50_1 rfl ti36.und rfl (hS14.heap Z0) rfl rfl rfl<|zC fn59 rfl (rtwiceS_ok r.ro r.ra r.ro.length r.rc _ (h1.st hS14) rfl hk.rn hk.rc) ?_
      rintro _ w15 (⟨htwro, rfl, hx16⟩ | ⟨htwro, rfl, hx16⟩)
      · have hS17 := hS14.ext hx16
        refine zq 11 rfl<|zN<|zT<|zt rfl<|zS<|zR<|zq 1 rfl<|zN<|zT<|zU<|zH<|zL<|ret1 Tryz.results26 ?_
        have hF := hS17; exact ruleError_ok_c2
      have hS17 := hS14.ext hx16; refine zq 1 rfl<|wl_val (r_field fa50_2 rfl) rfl<|wl_val (r_loadB1 ti48.und rfl rfl (hS17.heap Z0) rfl) rfl<|zC fn60 rfl (rtwiceI_ok r.acs r.aa r.acs.length r.ak _ (h2.st hS17) rfl hk.an hk.ac) ?_
      rintro _ w18 (⟨htwacs, rfl, hx19⟩ | ⟨htwacs, rfl, hx19⟩)
      · have hS20 := hS17.ext hx19
        refine zq 7 rfl<|zN<|zT<|zt rfl<|zS<|zR<|zq 1 rfl<|zN<|zT<|zU<|zH<|zL<|ret1 Tryz.results26 ?_
        have hF := hS20; exact ruleError_ok_c2
      have hS20 := hS17.ext hx19; refine zq 2 rfl<|wl_val (r_field fa50_3 rfl) rfl<|wl_val (r_loadB1 ti36.und rfl rfl (hS20.heap Z0) rfl) rfl<|zC fn59 rfl (rtwiceS_ok r.las r.la r.las.length r.lc _ (h3.st hS20) rfl hk.ln hk.lc) ?_
      rintro _ w21 (⟨htwlas, rfl, hx22⟩ | ⟨htwlas, rfl, hx22⟩)
      · have hS23 := hS20.ext hx22
        refine zq 2 rfl<|zN<|zT<|zt rfl<|zS<|zR<|zq 1 rfl<|zN<|zT<|zU<|zH<|zL<|ret1 Tryz.results26 ?_
        have hF := hS23; exact ruleError_ok_c2
      have hS23 := hS20.ext hx22; refine zq 2 rfl<|zN<|zT<|zf rfl<|zS ?_
      have n5 : ¬ (¬ r.ro.Nodup ∨ ¬ r.acs.Nodup ∨ ¬ r.las.Nodup) := by rintro (h | h | h) <;> exact h (by assumption)
      refine zR<|zF fa50_4 rfl ti3.und rfl (hS23.heap Z0) rfl rfl rfl ?_
      refine wl_dec (r_lss rfl rfl) rfl (fun h11_2 => ?_) (fun h11_2 => ?_)
      · refine zq 38 rfl<|zN<|zT<|zt rfl<|zS<|zR<|zq 1 rfl<|zN<|zT<|zU<|zH<|zL<|ret1 Tryz.results26 ?_
        have hF := hS23; exact ruleError_ok_c3
      refine zq 1 rfl<|wl_val (r_field fa50_4 rfl) rfl<|wl_val (r_loadB1 ti3.und rfl rfl (hS23.heap Z0) rfl) rfl ?_
      refine wl_dec (r_gtr rfl rfl) rfl (fun h11_6 => ?_) (fun h11_6 => ?_)
      · refine zq 34 rfl<|zN<|zT<|zt rfl<|zS<|zR<|zq 1 rfl<|zN<|zT<|zU<|zH<|zL<|ret1 Tryz.results26 ?_
        have hF := hS23; exact ruleError_ok_c3
      refine zq 2 rfl<|wl_val (r_field fa50_5 rfl) rfl<|wl_val (r_loadB1 ti3.und rfl rfl (hS23.heap Z0) rfl) rfl ?_
      refine wl_dec (r_lss rfl rfl) rfl (fun h11_11 => ?_) (fun h11_11 => ?_)
      · refine zq 29 rfl<|zN<|zT<|zt rfl<|zS<|zR<|zq 1 rfl<|zN<|zT<|zU<|zH<|zL<|ret1 Tryz.results26 ?_
        have hF := hS23; exact ruleError_ok_c3
      refine zq 2 rfl<|wl_val (r_field fa50_5 rfl) rfl<|wl_val (r_loadB1 ti3.und rfl rfl (hS23.heap Z0) rfl) rfl ?_
      refine wl_dec (r_gtr rfl rfl) rfl (fun h11_16 => ?_) (fun h11_16 => ?_)
      · refine zq 24 rfl<|zN<|zT<|zt rfl<|zS<|zR<|zq 1 rfl<|zN<|zT<|zU<|zH<|zL<|ret1 Tryz.results26 ?_
        have hF := hS23; exact ruleError_ok_c3
      refine zq 2 rfl<|wl_val (r_field fa50_4 rfl) rfl<|wl_val (r_loadB1 ti3.und rfl rfl (hS23.heap Z0) rfl) rfl<|wl_val (r_field fa50_5 rfl) rfl<|wl_val (r_loadB1 ti3.und rfl rfl (hS23.heap Z0) rfl) rfl ?_
      refine wl_dec (r_eql rfl rfl) rfl (fun h11_23 => ?_) (fun h11_23 => ?_)
      · refine zq 1 rfl<|wl_val (r_field fa50_4 rfl) rfl<|wl_val (r_loadB1 ti3.und rfl rfl (hS23.heap Z0) rfl) rfl ?_
        refine wl_dec (r_neq rfl rfl) rfl (fun h11_27 => ?_) (fun h11_27 => ?_)
        · refine zq 13 rfl<|zN<|zT<|zt rfl<|zS<|zR<|zq 1 rfl<|zN<|zT<|zU<|zH<|zL<|ret1 Tryz.results26 ?_
          have hF := hS23; exact ruleError_ok_c3
        refine zq 3 rfl<|wl_val (r_field fa50_6 rfl) rfl<|wl_val (r_loadB1 ti3.und rfl rfl (hS23.heap Z0) rfl) rfl ?_
        refine wl_dec (r_lss rfl rfl) rfl (fun h11_33 => ?_) (fun h11_33 => ?_)
        · refine zq 7 rfl<|zN<|zT<|zt rfl<|zS<|zR<|zq 1 rfl<|zN<|zT<|zU<|zH<|zL<|ret1 Tryz.results26 ?_
          have hF := hS23; exact ruleError_ok_c3
        refine zq 2 rfl<|wl_val (r_field fa50_6 rfl) rfl<|wl_val (r_loadB1 ti3.und rfl rfl (hS23.heap Z0) rfl) rfl ?_
        refine wl_dec (r_gtr rfl rfl) rfl (fun h11_38 => ?_) (fun h11_38 => ?_)
        · refine zq 2 rfl<|zN<|zT<|zt rfl<|zS<|zR<|zq 1 rfl<|zN<|zT<|zU<|zH<|zL<|ret1 Tryz.results26 ?_
          have hF := hS23; exact ruleError_ok_c3
        refine zq 2 rfl<|zN<|zT<|zf rfl<|zS ?_
        rcases bool_cases r.dn with hdn | hdn
        · have n6 : ¬ (r.fr < 0 ∨ 24 < r.fr ∨ r.to < 0 ∨ 24 < r.to ∨ (r.fr = r.to ∧ ¬ r.fr = 0) ∨ r.nd < 0 ∨ 16 < r.nd) := by omega
          refine zR<|zF fa50_6 rfl ti3.und rfl (hS23.heap Z0) rfl rfl rfl ?_
          refine wl_dec (r_gtr rfl rfl) rfl (fun h13_2 => ?_) (fun h13_2 => ?_)
          · refine zF fa50_7 rfl ti9.und rfl (hS23.heap Z0) rfl rfl rfl ?_
            refine wl_dec (r_neqStrL rfl rfl) rfl (fun h13_5 => ?_) (fun h13_5 => ?_)
            · refine wl_dec_f (r_neqBool ti4.und rfl rfl) rfl (by decide)<|zq 1 rfl<|wl_val (r_field fa50_0 rfl) rfl<|wl_val (r_loadB1 ti4.und rfl rfl (hS23.heap Z0) (by first | exact rule_dn_t hdn | exact rule_dn_f hdn)) rfl ?_
              refine zq 1 rfl<|wl_val (r_field fa50_6 rfl) rfl<|wl_val (r_loadB1 ti3.und rfl rfl (hS23.heap Z0) rfl) rfl ?_
              refine wl_dec (r_gtr rfl rfl) rfl (fun h13_13 => ?_) (fun h13_13 => ?_)
              · refine zq 3 rfl<|zN<|zT<|zt rfl<|zS<|zR<|zq 1 rfl<|zN<|zT<|zU<|zH<|zL<|ret1 Tryz.results26 ?_
                have hF := hS23; exact ruleError_ok_c4
              refine zq 3 rfl<|zN<|zT<|zf rfl<|zK<|zJ<|zT<|zS<|zR<|zq 1 rfl<|zN<|zT<|zU<|ret1 Tryz.results26 ?_
              have hF := hS23; exact ruleError_ok_c5
            refine wl_dec_t (r_neqBool ti4.und rfl rfl) rfl (by decide)<|zq 10 rfl<|zN<|zT<|zt rfl<|zS<|zR<|zq 1 rfl<|zN<|zT<|zU<|zH<|zL<|ret1 Tryz.results26 ?_
            have hF := hS23; exact ruleError_ok_c4
          refine zF fa50_7 rfl ti9.und rfl (hS23.heap Z0) rfl rfl rfl ?_
          refine wl_dec (r_neqStrL rfl rfl) rfl (fun h13_5 => ?_) (fun h13_5 => ?_)
          · refine wl_dec_t (r_neqBool ti4.und rfl rfl) rfl (by decide)<|zq 10 rfl<|zN<|zT<|zt rfl<|zS<|zR<|zq 1 rfl<|zN<|zT<|zU<|zH<|zL<|ret1 Tryz.results26 ?_
            have hF := hS23; exact ruleError_ok_c4
          refine wl_dec_f (r_neqBool ti4.und rfl rfl) rfl (by decide)<|zq 1 rfl<|wl_val (r_field fa50_0 rfl) rfl<|wl_val (r_loadB1 ti4.und rfl rfl (hS23.heap Z0) (by first | exact rule_dn_t hdn | exact rule_dn_f hdn)) rfl ?_; refine zq 1 rfl<|wl_val (r_field fa50_6 rfl) rfl<|wl_val (r_loadB1 ti3.und rfl rfl (hS23.heap Z0) rfl) rfl ?_
          refine wl_dec (r_gtr rfl rfl) rfl (fun h13_13 => ?_) (fun h13_13 => ?_)
          · refine zq 3 rfl<|zN<|zT<|zt rfl<|zS<|zR<|zq 1 rfl<|zN<|zT<|zU<|zH<|zL<|ret1 Tryz.results26 ?_
            have hF := hS23; exact ruleError_ok_c4
          refine zq 3 rfl<|zN<|zT<|zf rfl<|zK<|zJ<|zT<|zS<|zR<|zq 1 rfl<|zN<|zT<|zU<|ret1 Tryz.results26 ?_
          have hF := hS23; exact ruleError_ok_c5
        have n6 : ¬ (r.fr < 0 ∨ 24 < r.fr ∨ r.to < 0 ∨ 24 < r.to ∨ (r.fr = r.to ∧ ¬ r.fr = 0) ∨ r.nd < 0 ∨ 16 < r.nd) := by omega
        refine zR<|zF fa50_6 rfl ti3.und rfl (hS23.heap Z0) rfl rfl rfl ?_
        refine wl_dec (r_gtr rfl rfl) rfl (fun h13_2 => ?_) (fun h13_2 => ?_)
        · refine zF fa50_7 rfl ti9.und rfl (hS23.heap Z0) rfl rfl rfl ?_
          refine wl_dec (r_neqStrL rfl rfl) rfl (fun h13_5 => ?_) (fun h13_5 => ?_)
          · refine wl_dec_f (r_neqBool ti4.und rfl rfl) rfl (by decide)<|zq 1 rfl<|wl_val (r_field fa50_0 rfl) rfl<|wl_val (r_loadB1 ti4.und rfl rfl (hS23.heap Z0) (by first | exact rule_dn_t hdn | exact rule_dn_f hdn)) rfl ?_
            refine zq 7 rfl<|zN<|zT<|zf rfl<|zK<|zJ<|zT<|zS<|zR<|zq 1 rfl<|zN<|zT<|zU<|ret1 Tryz.results26 ?_
            have hF := hS23; exact ruleError_ok_c5
          refine wl_dec_t (r_neqBool ti4.und rfl rfl) rfl (by decide)<|zq 10 rfl<|zN<|zT<|zt rfl<|zS<|zR<|zq 1 rfl<|zN<|zT<|zU<|zH<|zL<|ret1 Tryz.results26 ?_
          have hF := hS23; exact ruleError_ok_c4
        refine zF fa50_7 rfl ti9.und rfl (hS23.heap Z0) rfl rfl rfl ?_
        refine wl_dec (r_neqStrL rfl rfl) rfl (fun h13_5 => ?_) (fun h13_5 => ?_)
        · refine wl_dec_t (r_neqBool ti4.und rfl rfl) rfl (by decide)<|zq 10 rfl<|zN<|zT<|zt rfl<|zS<|zR<|zq 1 rfl<|zN<|zT<|zU<|zH<|zL<|ret1 Tryz.results26 ?_
          have hF := hS23; exact ruleError_ok_c4
        refine wl_dec_f (r_neqBool ti4.und rfl rfl) rfl (by decide)<|zq 1 rfl<|wl_val (r_field fa50_0 rfl) rfl<|wl_val (r_loadB1 ti4.und rfl rfl (hS23.heap Z0) (by first | exact rule_dn_t hdn | exact rule_dn_f hdn)) rfl ?_; refine zq 7 rfl<|zN<|zT<|zf rfl<|zK<|zJ<|zT<|zS<|zR<|zq 1 rfl<|zN<|zT<|zU<|ret1 Tryz.results26 ?_
        have hF := hS23; exact ruleError_ok_c5
      refine zq 7 rfl<|wl_val (r_field fa50_6 rfl) rfl<|wl_val (r_loadB1 ti3.und rfl rfl (hS23.heap Z0) rfl) rfl ?_
      refine wl_dec (r_lss rfl rfl) rfl (fun h11_33 => ?_) (fun h11_33 => ?_)
      · refine zq 7 rfl<|zN<|zT<|zt rfl<|zS<|zR<|zq 1 rfl<|zN<|zT<|zU<|zH<|zL<|ret1 Tryz.results26 ?_
        have hF := hS23; exact ruleError_ok_c3
      refine zq 2 rfl<|wl_val (r_field fa50_6 rfl) rfl<|wl_val (r_loadB1 ti3.und rfl rfl (hS23.heap Z0) rfl) rfl ?_
      refine wl_dec (r_gtr rfl rfl) rfl (fun h11_38 => ?_) (fun h11_38 => ?_)
      · refine zq 2 rfl<|zN<|zT<|zt rfl<|zS<|zR<|zq 1 rfl<|zN<|zT<|zU<|zH<|zL<|ret1 Tryz.results26 ?_
        have hF := hS23; exact ruleError_ok_c3
      refine zq 2 rfl<|zN<|zT<|zf rfl<|zS ?_
      rcases bool_cases r.dn with hdn | hdn
      · have n6 : ¬ (r.fr < 0 ∨ 24 < r.fr ∨ r.to < 0 ∨ 24 < r.to ∨ (r.fr = r.to ∧ ¬ r.fr = 0) ∨ r.nd < 0 ∨ 16 < r.nd) := by omega
        refine zR<|zF fa50_6 rfl ti3.und rfl (hS23.heap Z0) rfl rfl rfl ?_
        refine wl_dec (r_gtr rfl rfl) rfl (fun h13_2 => ?_) (fun h13_2 => ?_)
        · refine zF fa50_7 rfl ti9.und rfl (hS23.heap Z0) rfl rfl rfl ?_
          refine wl_dec (r_neqStrL rfl rfl) rfl (fun h13_5 => ?_) (fun h13_5 => ?_)
          · refine wl_dec_f (r_neqBool ti4.und rfl rfl) rfl (by decide)<|zq 1 rfl<|wl_val (r_field fa50_0 rfl) rfl<|wl_val (r_loadB1 ti4.und rfl rfl (hS23.heap Z0) (by first | exact rule_dn_t hdn | exact rule_dn_f hdn)) rfl ?_
            refine zq 1 rfl<|wl_val (r_field fa50_6 rfl) rfl<|wl_val (r_loadB1 ti3.und rfl rfl (hS23.heap Z0) rfl) rfl ?_
            refine wl_dec (r_gtr rfl rfl) rfl (fun h13_13 => ?_) (fun h13_13 => ?_)
            · refine zq 3 rfl<|zN<|zT<|zt rfl<|zS<|zR<|zq 1 rfl<|zN<|zT<|zU<|zH<|zL<|ret1 Tryz.results26 ?_
              have hF := hS23; exact ruleError_ok_c4
            refine zq 3 rfl<|zN<|zT<|zf rfl<|zK<|zJ<|zT<|zS<|zR<|zq 1 rfl<|zN<|zT<|zU<|ret1 Tryz.results26 ?_
            have hF := hS23; exact ruleError_ok_c5
          refine wl_dec_t (r_neqBool ti4.und rfl rfl) rfl (by decide)<|zq 10 rfl<|zN<|zT<|zt rfl<|zS<|zR<|zq 1 rfl<|zN<|zT<|zU<|zH<|zL<|ret1 Tryz.results26 ?_
          have hF := hS23; exact ruleError_ok_c4
        refine zF fa50_7 rfl ti9.und rfl (hS23.heap Z0) rfl rfl rfl ?_
        refine wl_dec (r_neqStrL rfl rfl) rfl (fun h13_5 => ?_) (fun h13_5 => ?_)
        · refine wl_dec_t (r_neqBool ti4.und rfl rfl) rfl (by decide)<|zq 10 rfl<|zN<|zT<|zt rfl<|zS<|zR<|zq 1 rfl<|zN<|zT<|zU<|zH<|zL<|ret1 Tryz.results26 ?_
          have hF := hS23; exact ruleError_ok_c4
        refine wl_dec_f (r_neqBool ti4.und rfl rfl) rfl (by decide)<|zq 1 rfl<|wl_val (r_field fa50_0 rfl) rfl<|wl_val (r_loadB1 ti4.und rfl rfl (hS23.heap Z0) (by first | exact rule_dn_t hdn | exact rule_dn_f hdn)) rfl ?_; refine zq 1 rfl<|wl_val (r_field fa50_6 rfl) rfl<|wl_val (r_loadB1 ti3.und rfl rfl (hS23.heap Z0) rfl) rfl ?_
        refine wl_dec (r_gtr rfl rfl) rfl (fun h13_13 => ?_) (fun h13_13 => ?_)
        · refine zq 3 rfl<|zN<|zT<|zt rfl<|zS<|zR<|zq 1 rfl<|zN<|zT<|zU<|zH<|zL<|ret1 Tryz.results26 ?_
          have hF := hS23; exact ruleError_ok_c4
        refine zq 3 rfl<|zN<|zT<|zf rfl<|zK<|zJ<|zT<|zS<|zR<|zq 1 rfl<|zN<|zT<|zU<|ret1 Tryz.results26 ?_
        have hF := hS23; exact ruleError_ok_c5
      have n6 : ¬ (r.fr < 0 ∨ 24 < r.fr ∨ r.to < 0 ∨ 24 < r.to ∨ (r.fr = r.to ∧ ¬ r.fr = 0) ∨ r.nd < 0 ∨ 16 < r.nd) := by omega
      refine zR<|zF fa50_6 rfl ti3.und rfl (hS23.heap Z0) rfl rfl rfl ?_
      refine wl_dec (r_gtr rfl rfl) rfl (fun h13_2 => ?_) (fun h13_2 => ?_)
      · refine zF fa50_7 rfl ti9.und rfl (hS23.heap Z0) rfl rfl rfl ?_
        refine wl_dec (r_neqStrL rfl rfl) rfl (fun h13_5 => ?_) (fun h13_5 => ?_)
        · refine wl_dec_f (r_neqBool ti4.und rfl rfl) rfl (by decide)<|zq 1 rfl<|wl_val (r_field fa50_0 rfl) rfl<|wl_val (r_loadB1 ti4.und rfl rfl (hS23.heap Z0) (by first | exact rule_dn_t hdn | exact rule_dn_f hdn)) rfl ?_
          refine zq 7 rfl<|zN<|zT<|zf rfl<|zK<|zJ<|zT<|zS<|zR<|zq 1 rfl<|zN<|zT<|zU<|ret1 Tryz.results26 ?_
          have hF := hS23; exact ruleError_ok_c5
        refine wl_dec_t (r_neqBool ti4.und rfl rfl) rfl (by decide)<|zq 10 rfl<|zN<|zT<|zt rfl<|zS<|zR<|zq 1 rfl<|zN<|zT<|zU<|zH<|zL<|ret1 Tryz.results26 ?_
        have hF := hS23; exact ruleError_ok_c4
      refine zF fa50_7 rfl ti9.und rfl (hS23.heap Z0) rfl rfl rfl ?_
      refine wl_dec (r_neqStrL rfl rfl) rfl (fun h13_5 => ?_) (fun h13_5 => ?_)
      · refine wl_dec_t (r_neqBool ti4.und rfl rfl) rfl (by decide)<|zq 10 rfl<|zN<|zT<|zt rfl<|zS<|zR<|zq 1 rfl<|zN<|zT<|zU<|zH<|zL<|ret1 Tryz.results26 ?_
        have hF := hS23; exact ruleError_ok_c4
      refine wl_dec_f (r_neqBool ti4.und rfl rfl) rfl (by decide)<|zq 1 rfl<|wl_val (r_field fa50_0 rfl) rfl<|wl_val (r_loadB1 ti4.und rfl rfl (hS23.heap Z0) (by first | exact rule_dn_t hdn | exact rule_dn_f hdn)) rfl ?_; refine zq 7 rfl<|zN<|zT<|zf rfl<|zK<|zJ<|zT<|zS<|zR<|zq 1 rfl<|zN<|zT<|zU<|ret1 Tryz.results26 ?_
      have hF := hS23; exact ruleError_ok_c5
    have hS8 := hS5.ext hx7; refine zq 3 rfl<|zN<|zT<|zt rfl<|zS<|zR<|zq 1 rfl<|zN<|zT<|zU<|zL<|ret1 Tryz.results26 ?_
    have hF := hS8; exact ruleError_ok_c0
  refine zq 7 rfl<|zN<|zT<|zf rfl<|zK<|zT<|zS<|zS ?_
  have n2 : ¬ (r.ro.any (fun s => !nameE s) = true ∨ (¬ r.ofr = [] ∧ nameE r.ofr = false)) := by rintro (h | ⟨h, h'⟩); (rw [hcf] at h; cases h); first | exact h3_6 h | (rw [hnn] at h'; cases h')
  refine zR<|zF fa50_2 rfl ti48.und rfl (hS5.heap Z0) rfl rfl rfl<|zC fn55 rfl (containsFuncI_ok r.acs r.aa r.acs.length r.ak 56 [] actOut _ (h2.st hS5) rfl hk.an fn56 (fun x w' hx h => ranot_ok x w')) ?_
  rintro _ w24 (⟨hcf, rfl, hx25⟩ | ⟨hcf, rfl, hx25⟩)
  · have hS26 := hS5.ext hx25
    refine zN<|zT<|zt rfl<|zS<|zR<|zq 1 rfl<|zN<|zT<|zU<|zL<|ret1 Tryz.results26 ?_
    have hF := hS26; exact ruleError_ok_c1
  have hS26 := hS5.ext hx25; refine zN<|zT<|zf rfl<|zK<|zT<|zS<|zS ?_
  have n3 : ¬ (r.acs.any actOut = true) := by rw [hcf]; exact Bool.noConfusion
  refine zR<|zF fa50_3 rfl ti36.und rfl (hS26.heap Z0) rfl rfl rfl<|zC fn53 rfl (containsFuncS_ok r.las r.la r.las.length r.lc 57 [] (fun s => !patE s) _ (h3.st hS26) rfl hk.ln fn57 (fun x w' hx h => rpnot_ok x w' (hk.ll x hx))) ?_
  rintro _ w27 (⟨hcf, rfl, hx28⟩ | ⟨hcf, rfl, hx28⟩)
  · have hS29 := hS26.ext hx28
    refine zN<|zT<|zt rfl<|zS<|zR<|zq 1 rfl<|zN<|zT<|zU<|zL<|ret1 Tryz.results26 ?_
    have hF := hS29; exact ruleError_ok_c0
  have hS29 := hS26.ext hx28; refine zN<|zT<|zf rfl<|zK<|zT<|zS<|zI<|zS ?_
  have n4 : ¬ (r.las.any (fun s => !patE s) = true) := by rw [hcf]; exact Bool.noConfusion
  refine zR<|zF fa50_1 rfl ti36.und rfl (hS29.heap Z0) rfl rfl rfl<|zC fn59 rfl (rtwiceS_ok r.ro r.ra r.ro.length r.rc _ (h1.st hS29) rfl hk.rn hk.rc) ?_
  rintro _ w30 (⟨htwro, rfl, hx31⟩ | ⟨htwro, rfl, hx31⟩)
  · have hS32 := hS29.ext hx31
    refine zq 11 rfl<|zN<|zT<|zt rfl<|zS<|zR<|zq 1 rfl<|zN<|zT<|zU<|zH<|zL<|ret1 Tryz.results26 ?_
    have hF := hS32; exact ruleError_ok_c2
  have hS32 := hS29.ext hx31; refine zq 1 rfl<|wl_val (r_field fa50_2 rfl) rfl<|wl_val (r_loadB1 ti48.und rfl rfl (hS32.heap Z0) rfl) rfl<|zC fn60 rfl (rtwiceI_ok r.acs r.aa r.acs.length r.ak _ (h2.st hS32) rfl hk.an hk.ac) ?_
  rintro _ w33 (⟨htwacs, rfl, hx34⟩ | ⟨htwacs, rfl, hx34⟩)
  · have hS35 := hS32.ext hx34
    refine zq 7 rfl<|zN<|zT<|zt rfl<|zS<|zR<|zq 1 rfl<|zN<|zT<|zU<|zH<|zL<|ret1 Tryz.results26 ?_
    have hF := hS35; exact ruleError_ok_c2
  have hS35 := hS32.ext hx34; refine zq 2 rfl<|wl_val (r_field fa50_3 rfl) rfl<|wl_val (r_loadB1 ti36.und rfl rfl (hS35.heap Z0) rfl) rfl<|zC fn59 rfl (rtwiceS_ok r.las r.la r.las.length r.lc _ (h3.st hS35) rfl hk.ln hk.lc) ?_
  rintro _ w36 (⟨htwlas, rfl, hx37⟩ | ⟨htwlas, rfl, hx37⟩)
  · have hS38 := hS35.ext hx37
    refine zq 2 rfl<|zN<|zT<|zt rfl<|zS<|zR<|zq 1 rfl<|zN<|zT<|zU<|zH<|zL<|ret1 Tryz.results26 ?_
    have hF := hS38; exact ruleError_ok_c2
  have hS38 := hS35.ext hx37; refine zq 2 rfl<|zN<|zT<|zf rfl<|zS ?_
  have n5 : ¬ (¬ r.ro.Nodup ∨ ¬ r.acs.Nodup ∨ ¬ r.las.Nodup) := by rintro (h | h | h) <;> exact h (by assumption)
  refine zR<|zF fa50_4 rfl ti3.und rfl (hS38.heap Z0) rfl rfl rfl ?_
  refine wl_dec (r_lss rfl rfl) rfl (fun h11_2 => ?_) (fun h11_2 => ?_)
  · refine zq 38 rfl<|zN<|zT<|zt rfl<|zS<|zR<|zq 1 rfl<|zN<|zT<|zU<|zH<|zL<|ret1 Tryz.results26 ?_
    have hF := hS38; exact ruleError_ok_c3
  refine zq 1 rfl<|wl_val (r_field fa50_4 rfl) rfl<|wl_val (r_loadB1 ti3.und rfl rfl (hS38.heap Z0) rfl) rfl ?_
  refine wl_dec (r_gtr rfl rfl) rfl (fun h11_6 => ?_) (fun h11_6 => ?_)
  · refine zq 34 rfl<|zN<|zT<|zt rfl<|zS<|zR<|zq 1 rfl<|zN<|zT<|zU<|zH<|zL<|ret1 Tryz.results26 ?_
    have hF := hS38; exact ruleError_ok_c3
  refine zq 2 rfl<|wl_val (r_field fa50_5 rfl) rfl<|wl_val (r_loadB1 ti3.und rfl rfl (hS38.heap Z0) rfl) rfl ?_
  refine wl_dec (r_lss rfl rfl) rfl (fun h11_11 => ?_) (fun h11_11 => ?_)
  · refine zq 29 rfl<|zN<|zT<|zt rfl<|zS<|zR<|zq 1 rfl<|zN<|zT<|zU<|zH<|zL<|ret1 Tryz.results26 ?_
    have hF := hS38; exact ruleError_ok_c3
  refine zq 2 rfl<|wl_val (r_field fa50_5 rfl) rfl<|wl_val (r_loadB1 ti3.und rfl rfl (hS38.heap Z0) rfl) rfl ?_
  refine wl_dec (r_gtr rfl rfl) rfl (fun h11_16 => ?_) (fun h11_16 => ?_)
  · refine zq 24 rfl<|zN<|zT<|zt rfl<|zS<|zR<|zq 1 rfl<|zN<|zT<|zU<|zH<|zL<|ret1 Tryz.results26 ?_
    have hF := hS38; exact ruleError_ok_c3
  refine zq 2 rfl<|wl_val (r_field fa50_4 rfl) rfl<|wl_val (r_loadB1 ti3.und rfl rfl (hS38.heap Z0) rfl) rfl<|wl_val (r_field fa50_5 rfl) rfl<|wl_val (r_loadB1 ti3.und rfl rfl (hS38.heap Z0) rfl) rfl ?_
  refine wl_dec (r_eql rfl rfl) rfl (fun h11_23 => ?_) (fun h11_23 => ?_)
  · refine zq 1 rfl<|wl_val (r_field fa50_4 rfl) rfl<|wl_val (r_loadB1 ti3.und rfl rfl (hS38.heap Z0) rfl) rfl ?_
    refine wl_dec (r_neq rfl rfl) rfl (fun h11_27 => ?_) (fun h11_27 => ?_)
    · refine zq 13 rfl<|zN<|zT<|zt rfl<|zS<|zR<|zq 1 rfl<|zN<|zT<|zU<|zH<|zL<|ret1 Tryz.results26 ?_
      have hF := hS38; exact ruleError_ok_c3
    refine zq 3 rfl<|wl_val (r_field fa50_6 rfl) rfl<|wl_val (r_loadB1 ti3.und rfl rfl (hS38.heap Z0) rfl) rfl ?_
    refine wl_dec (r_lss rfl rfl) rfl (fun h11_33 => ?_) (fun h11_33 => ?_)
    · refine zq 7 rfl<|zN<|zT<|zt rfl<|zS<|zR<|zq 1 rfl<|zN<|zT<|zU<|zH<|zL<|ret1 Tryz.results26 ?_
      have hF := hS38; exact ruleError_ok_c3
    refine zq 2 rfl<|wl_val (r_field fa50_6 rfl) rfl<|wl_val (r_loadB1 ti3.und rfl rfl (hS38.heap Z0) rfl) rfl ?_
    refine wl_dec (r_gtr rfl rfl) rfl (fun h11_38 => ?_) (fun h11_38 => ?_)
    · refine zq 2 rfl<|zN<|zT<|zt rfl<|zS<|zR<|zq 1 rfl<|zN<|zT<|zU<|zH<|zL<|ret1 Tryz.results26 ?_
      have hF := hS38; exact ruleError_ok_c3
    refine zq 2 rfl<|zN<|zT<|zf rfl<|zS ?_
    rcases bool_cases r.dn with hdn | hdn
    · have n6 : ¬ (r.fr < 0 ∨ 24 < r.fr ∨ r.to < 0 ∨ 24 < r.to ∨ (r.fr = r.to ∧ ¬ r.fr = 0) ∨ r.nd < 0 ∨ 16 < r.nd) := by omega
      refine zR<|zF fa50_6 rfl ti3.und rfl (hS38.heap Z0) rfl rfl rfl ?_
      refine wl_dec (r_gtr rfl rfl) rfl (fun h13_2 => ?_) (fun h13_2 => ?_)
      · refine zF fa50_7 rfl ti9.und rfl (hS38.heap Z0) rfl rfl rfl ?_
        refine wl_dec (r_neqStrL rfl rfl) rfl (fun h13_5 => ?_) (fun h13_5 => ?_)
        · refine wl_dec_f (r_neqBool ti4.und rfl rfl) rfl (by decide)<|zq 1 rfl<|wl_val (r_field fa50_0 rfl) rfl<|wl_val (r_loadB1 ti4.und rfl rfl (hS38.heap Z0) (by first | exact rule_dn_t hdn | exact rule_dn_f hdn)) rfl ?_
          refine zq 1 rfl<|wl_val (r_field fa50_6 rfl) rfl<|wl_val (r_loadB1 ti3.und rfl rfl (hS38.heap Z0) rfl) rfl ?_
          refine wl_dec (r_gtr rfl rfl) rfl (fun h13_13 => ?_) (fun h13_13 => ?_)
          · refine zq 3 rfl<|zN<|zT<|zt rfl<|zS<|zR<|zq 1 rfl<|zN<|zT<|zU<|zH<|zL<|ret1 Tryz.results26 ?_
            have hF := hS38; exact ruleError_ok_c4
          refine zq 3 rfl<|zN<|zT<|zf rfl<|zK<|zJ<|zT<|zS<|zR<|zq 1 rfl<|zN<|zT<|zU<|ret1 Tryz.results26 ?_
          have hF := hS38; exact ruleError_ok_c5
        refine wl_dec_t (r_neqBool ti4.und rfl rfl) rfl (by decide)<|zq 10 rfl<|zN<|zT<|zt rfl<|zS<|zR<|zq 1 rfl<|zN<|zT<|zU<|zH<|zL<|ret1 Tryz.results26 ?_
        have hF := hS38; exact ruleError_ok_c4
      refine zF fa50_7 rfl ti9.und rfl (hS38.heap Z0) rfl rfl rfl ?_
      refine wl_dec (r_neqStrL rfl rfl) rfl (fun h13_5 => ?_) (fun h13_5 => ?_)
      · refine wl_dec_t (r_neqBool ti4.und rfl rfl) rfl (by decide)<|zq 10 rfl<|zN<|zT<|zt rfl<|zS<|zR<|zq 1 rfl<|zN<|zT<|zU<|zH<|zL<|ret1 Tryz.results26 ?_
        have hF := hS38; exact ruleError_ok_c4
      refine wl_dec_f (r_neqBool ti4.und rfl rfl) rfl (by decide)<|zq 1 rfl<|wl_val (r_field fa50_0 rfl) rfl<|wl_val (r_loadB1 ti4.und rfl rfl (hS38.heap Z0) (by first | exact rule_dn_t hdn | exact rule_dn_f hdn)) rfl ?_; refine zq 1 rfl<|wl_val (r_field fa50_6 rfl) rfl<|wl_val (r_loadB1 ti3.und rfl rfl (hS38.heap Z0) rfl) rfl ?_
      refine wl_dec (r_gtr rfl rfl) rfl (fun h13_13 => ?_) (fun h13_13 => ?_)
      · refine zq 3 rfl<|zN<|zT<|zt rfl<|zS<|zR<|zq 1 rfl<|zN<|zT<|zU<|zH<|zL<|ret1 Tryz.results26 ?_
        have hF := hS38; exact ruleError_ok_c4
      refine zq 3 rfl<|zN<|zT<|zf rfl<|zK<|zJ<|zT<|zS<|zR<|zq 1 rfl<|zN<|zT<|zU<|ret1 Tryz.results26 ?_
      have hF := hS38; exact ruleError_ok_c5
    have n6 : ¬ (r.fr < 0 ∨ 24 < r.fr ∨ r.to < 0 ∨ 24 < r.to ∨ (r.fr = r.to ∧ ¬ r.fr = 0) ∨ r.nd < 0 ∨ 16 < r.nd) := by omega
    refine zR<|zF fa50_6 rfl ti3.und rfl (hS38.heap Z0) rfl rfl rfl ?_
    refine wl_dec (r_gtr rfl rfl) rfl (fun h13_2 => ?_) (fun h13_2 => ?_)
    · refine zF fa50_7 rfl ti9.und rfl (hS38.heap Z0) rfl rfl rfl ?_
      refine wl_dec (r_neqStrL rfl rfl) rfl (fun h13_5 => ?_) (fun h13_5 => ?_)
      · refine wl_dec_f (r_neqBool ti4.und rfl rfl) rfl (by decide)<|zq 1 rfl<|wl_val (r_field fa50_0 rfl) rfl<|wl_val (r_loadB1 ti4.und rfl rfl (hS38.heap Z0) (by first | exact rule_dn_t hdn | exact rule_dn_f hdn)) rfl ?_
        refine zq 7 rfl<|zN<|zT<|zf rfl<|zK<|zJ<|zT<|zS<|zR<|zq 1 rfl<|zN<|zT<|zU<|ret1 Tryz.results26 ?_
        have hF := hS38; exact ruleError_ok_c5
      refine wl_dec_t (r_neqBool ti4.und rfl rfl) rfl (by decide)<|zq 10 rfl<|zN<|zT<|zt rfl<|zS<|zR<|zq 1 rfl<|zN<|zT<|zU<|zH<|zL<|ret1 Tryz.results26 ?_
      have hF := hS38; exact ruleError_ok_c4
    refine zF fa50_7 rfl ti9.und rfl (hS38.heap Z0) rfl rfl rfl ?_
    refine wl_dec (r_neqStrL rfl rfl) rfl (fun h13_5 => ?_) (fun h13_5 => ?_)
    · refine wl_dec_t (r_neqBool ti4.und rfl rfl) rfl (by decide)<|zq 10 rfl<|zN<|zT<|zt rfl<|zS<|zR<|zq 1 rfl<|zN<|zT<|zU<|zH<|zL<|ret1 Tryz.results26 ?_
      have hF := hS38; exact ruleError_ok_c4
    refine wl_dec_f (r_neqBool ti4.und rfl rfl) rfl (by decide)<|zq 1 rfl<|wl_val (r_field fa50_0 rfl) rfl<|wl_val (r_loadB1 ti4.und rfl rfl (hS38.heap Z0) (by first | exact rule_dn_t hdn | exact rule_dn_f hdn)) rfl ?_; refine zq 7 rfl<|zN<|zT<|zf rfl<|zK<|zJ<|zT<|zS<|zR<|zq 1 rfl<|zN<|zT<|zU<|ret1 Tryz.results26 ?_
    have hF := hS38; exact ruleError_ok_c5
  refine zq 7 rfl<|wl_val (r_field fa50_6 rfl) rfl<|wl_val (r_loadB1 ti3.und rfl rfl (hS38.heap Z0) rfl) rfl ?_
  refine wl_dec (r_lss rfl rfl) rfl (fun h11_33 => ?_) (fun h11_33 => ?_)
  · refine zq 7 rfl<|zN<|zT<|zt rfl<|zS<|zR<|zq 1 rfl<|zN<|zT<|zU<|zH<|zL<|ret1 Tryz.results26 ?_
    have hF := hS38; exact ruleError_ok_c3
  refine zq 2 rfl<|wl_val (r_field fa50_6 rfl) rfl<|wl_val (r_loadB1 ti3.und rfl rfl (hS38.heap Z0) rfl) rfl ?_
  refine wl_dec (r_gtr rfl rfl) rfl (fun h11_38 => ?_) (fun h11_38 => ?_)
  · refine zq 2 rfl<|zN<|zT<|zt rfl<|zS<|zR<|zq 1 rfl<|zN<|zT<|zU<|zH<|zL<|ret1 Tryz.results26 ?_
    have hF := hS38; exact ruleError_ok_c3
  refine zq 2 rfl<|zN<|zT<|zf rfl<|zS ?_
  rcases bool_cases r.dn with hdn | hdn
  · have n6 : ¬ (r.fr < 0 ∨ 24 < r.fr ∨ r.to < 0 ∨ 24 < r.to ∨ (r.fr = r.to ∧ ¬ r.fr = 0) ∨ r.nd < 0 ∨ 16 < r.nd) := by omega
    refine zR<|zF fa50_6 rfl ti3.und rfl (hS38.heap Z0) rfl rfl rfl ?_
    refine wl_dec (r_gtr rfl rfl) rfl (fun h13_2 => ?_) (fun h13_2 => ?_)
    · refine zF fa50_7 rfl ti9.und rfl (hS38.heap Z0) rfl rfl rfl ?_
      refine wl_dec (r_neqStrL rfl rfl) rfl (fun h13_5 => ?_) (fun h13_5 => ?_)
      · refine wl_dec_f (r_neqBool ti4.und rfl rfl) rfl (by decide)<|zq 1 rfl<|wl_val (r_field fa50_0 rfl) rfl<|wl_val (r_loadB1 ti4.und rfl rfl (hS38.heap Z0) (by first | exact rule_dn_t hdn | exact rule_dn_f hdn)) rfl ?_
        refine zq 1 rfl<|wl_val (r_field fa50_6 rfl) rfl<|wl_val (r_loadB1 ti3.und rfl rfl (hS38.heap Z0) rfl) rfl ?_
        refine wl_dec (r_gtr rfl rfl) rfl (fun h13_13 => ?_) (fun h13_13 => ?_)
        · refine zq 3 rfl<|zN<|zT<|zt rfl<|zS<|zR<|zq 1 rfl<|zN<|zT<|zU<|zH<|zL<|ret1 Tryz.results26 ?_
          have hF := hS38; exact ruleError_ok_c4
        refine zq 3 rfl<|zN<|zT<|zf rfl<|zK<|zJ<|zT<|zS<|zR<|zq 1 rfl<|zN<|zT<|zU<|ret1 Tryz.results26 ?_
        have hF := hS38; exact ruleError_ok_c5
      refine wl_dec_t (r_neqBool ti4.und rfl rfl) rfl (by decide)<|zq 10 rfl<|zN<|zT<|zt rfl<|zS<|zR<|zq 1 rfl<|zN<|zT<|zU<|zH<|zL<|ret1 Tryz.results26 ?_
      have hF := hS38; exact ruleError_ok_c4
    refine zF fa50_7 rfl ti9.und rfl (hS38.heap Z0) rfl rfl rfl ?_
    refine wl_dec (r_neqStrL rfl rfl) rfl (fun h13_5 => ?_) (fun h13_5 => ?_)
    · refine wl_dec_t (r_neqBool ti4.und rfl rfl) rfl (by decide)<|zq 10 rfl<|zN<|zT<|zt rfl<|zS<|zR<|zq 1 rfl<|zN<|zT<|zU<|zH<|zL<|ret1 Tryz.results26 ?_
      have hF := hS38; exact ruleError_ok_c4
    refine wl_dec_f (r_neqBool ti4.und rfl rfl) rfl (by decide)<|zq 1 rfl<|wl_val (r_field fa50_0 rfl) rfl<|wl_val (r_loadB1 ti4.und rfl rfl (hS38.heap Z0) (by first | exact rule_dn_t hdn | exact rule_dn_f hdn)) rfl ?_; refine zq 1 rfl<|wl_val (r_field fa50_6 rfl) rfl<|wl_val (r_loadB1 ti3.und rfl rfl (hS38.heap Z0) rfl) rfl ?_
    refine wl_dec (r_gtr rfl rfl) rfl (fun h13_13 => ?_) (fun h13_13 => ?_)
    · refine zq 3 rfl<|zN<|zT<|zt rfl<|zS<|zR<|zq 1 rfl<|zN<|zT<|zU<|zH<|zL<|ret1 Tryz.results26 ?_
      have hF := hS38; exact ruleError_ok_c4
    refine zq 3 rfl<|zN<|zT<|zf rfl<|zK<|zJ<|zT<|zS<|zR<|zq 1 rfl<|zN<|zT<|zU<|ret1 Tryz.results26 ?_
    have hF := hS38; exact ruleError_ok_c5
  have n6 : ¬ (r.fr < 0 ∨ 24 < r.fr ∨ r.to < 0 ∨ 24 < r.to ∨ (r.fr = r.to ∧ ¬ r.fr = 0) ∨ r.nd < 0 ∨ 16 < r.nd) := by omega
  refine zR<|zF fa50_6 rfl ti3.und rfl (hS38.heap Z0) rfl rfl rfl ?_
  refine wl_dec (r_gtr rfl rfl) rfl (fun h13_2 => ?_) (fun h13_2 => ?_)
  · refine zF fa50_7 rfl ti9.und rfl (hS38.heap Z0) rfl rfl rfl ?_
    refine wl_dec (r_neqStrL rfl rfl) rfl (fun h13_5 => ?_) (fun h13_5 => ?_)
    · refine wl_dec_f (r_neqBool ti4.und rfl rfl) rfl (by decide)<|zq 1 rfl<|wl_val (r_field fa50_0 rfl) rfl<|wl_val (r_loadB1 ti4.und rfl rfl (hS38.heap Z0) (by first | exact rule_dn_t hdn | exact rule_dn_f hdn)) rfl ?_
      refine zq 7 rfl<|zN<|zT<|zf rfl<|zK<|zJ<|zT<|zS<|zR<|zq 1 rfl<|zN<|zT<|zU<|ret1 Tryz.results26 ?_
      have hF := hS38; exact ruleError_ok_c5
    refine wl_dec_t (r_neqBool ti4.und rfl rfl) rfl (by decide)<|zq 10 rfl<|zN<|zT<|zt rfl<|zS<|zR<|zq 1 rfl<|zN<|zT<|zU<|zH<|zL<|ret1 Tryz.results26 ?_
    have hF := hS38; exact ruleError_ok_c4
  refine zF fa50_7 rfl ti9.und rfl (hS38.heap Z0) rfl rfl rfl ?_
  refine wl_dec (r_neqStrL rfl rfl) rfl (fun h13_5 => ?_) (fun h13_5 => ?_)
  · refine wl_dec_t (r_neqBool ti4.und rfl rfl) rfl (by decide)<|zq 10 rfl<|zN<|zT<|zt rfl<|zS<|zR<|zq 1 rfl<|zN<|zT<|zU<|zH<|zL<|ret1 Tryz.results26 ?_
    have hF := hS38; exact ruleError_ok_c4
  refine wl_dec_f (r_neqBool ti4.und rfl rfl) rfl (by decide)<|zq 1 rfl<|wl_val (r_field fa50_0 rfl) rfl<|wl_val (r_loadB1 ti4.und rfl rfl (hS38.heap Z0) (by first | exact rule_dn_t hdn | exact rule_dn_f hdn)) rfl ?_; refine zq 7 rfl<|zN<|zT<|zf rfl<|zK<|zJ<|zT<|zS<|zR<|zq 1 rfl<|zN<|zT<|zU<|ret1 Tryz.results26 ?_
  have hF := hS38; exact ruleError_ok_c5

end Go.Proofs.YtmonnmndphlkaaaGreat
end
section
namespace Go.Proofs.YtmonnmndphlkaaaGreat
open Go.Kw
set_option linter.unusedVariables false
set_option linter.unusedSimpArgs false
set_option maxRecDepth 100000
theorem meets1_ok_c0 {p : Prop} (h : p := by first | exact ⟨congrArg Value.bool (decide_eq_true hin).symm, hF.fin⟩ | exact ⟨congrArg Value.bool (decide_eq_false hin).symm, hF.fin⟩) : p := h
theorem meets1_ok (x : List UInt8) (q : AskD) (b : Nat) (w : World) (hb : At w b 0 q.v) (hac : q.ac.length = 16) (hr : Row w q.ra (q.ro.map sv)) (hn : q.ro.length ≤ 140737488351232) :
    Ret Tryz.prog 107 [.string ⟨(x).toArray⟩, pt b 0] w (fun v w' => v = .bool (decide (x ∈ q.ro)) ∧ St w [] w' []) := by
  refine enter Tryz.func107 rfl Tryz.ntmps107 rfl ?_
  have hS := St.refl w []
  refine zS<|zR<|zq 1 rfl<|zN<|zT<|zS<|zR<|zV (r_field fa40_1 rfl)<|zV (r_loadAt1 (j := 16) ti36.und rfl rfl (hb.st hS) (ask_ro hac) rfl)<|zq 1 rfl<|zC fn70 rfl (containsS_ok q.ro q.ra q.ro.length q.rc x _ (hr.st hS) rfl hn) ?_
  rintro _ w1 (⟨hin, rfl, hx2⟩ | ⟨hin, rfl, hx2⟩)
  · have hS3 := hS.ext hx2
    refine zq 1 rfl<|zN<|zT<|zU<|ret1 Tryz.results107 ?_
    have hF := hS3; exact meets1_ok_c0
  have hS3 := hS.ext hx2; refine zq 1 rfl<|zN<|zT<|zU<|ret1 Tryz.results107 ?_
  have hF := hS3; exact meets1_ok_c0

theorem rmeets1_ok_c0 {p : Prop} (h : p := by first | exact ⟨congrArg Value.bool (decide_eq_true hin).symm, hF.fin⟩ | exact ⟨congrArg Value.bool (decide_eq_false hin).symm, hF.fin⟩) : p := h
theorem rmeets1_ok (x : List UInt8) (q : AskD) (b : Nat) (w : World) (hb : At w b 0 q.v) (hac : q.ac.length = 16) (hr : Row w q.ra (q.ro.map sv)) (hn : q.ro.length ≤ 140737488351232) :
    Ret Tryz.prog 69 [.string ⟨(x).toArray⟩, pt b 0] w (fun v w' => v = .bool (decide (x ∈ q.ro)) ∧ St w [] w' []) := by
  refine enter Tryz.func69 rfl Tryz.ntmps69 rfl ?_
  have hS := St.refl w []
  refine zS<|zR<|zq 1 rfl<|zN<|zT<|zS<|zR<|zV (r_field fa40_1 rfl)<|zV (r_loadAt1 (j := 16) ti36.und rfl rfl (hb.st hS) (ask_ro hac) rfl)<|zq 1 rfl<|zC fn70 rfl (containsS_ok q.ro q.ra q.ro.length q.rc x _ (hr.st hS) rfl hn) ?_
  rintro _ w1 (⟨hin, rfl, hx2⟩ | ⟨hin, rfl, hx2⟩)
  · have hS3 := hS.ext hx2
    refine zq 1 rfl<|zN<|zT<|zU<|ret1 Tryz.results69 ?_
    have hF := hS3; exact rmeets1_ok_c0
  have hS3 := hS.ext hx2; refine zq 1 rfl<|zN<|zT<|zU<|ret1 Tryz.results69 ?_
  have hF := hS3; exact rmeets1_ok_c0

theorem meets2_ok (x : List UInt8) (q : AskD) (b : Nat) (w : World) (hb : At w b 0 q.v) (hac : q.ac.length = 16) (hx : x.length ≤ 9223372036854775807) (hl : q.lab.length ≤ 9223372036854775807) :
    Ret Tryz.prog 108 [.string ⟨(x).toArray⟩, pt b 0] w (fun v w' => v = .bool (fitsE x q.lab) ∧ St w [] w' []) := by
  refine enter Tryz.func108 rfl Tryz.ntmps108 rfl ?_
  have hS := St.refl w []
  refine zS<|zR<|zq 1 rfl<|zN<|zT<|zS<|zR<|zq 1 rfl<|zV (r_field fa40_3 rfl)<|zV (r_loadAt1 (j := 18) ti9.und rfl rfl (hb.st hS) (ask_lab hac) rfl)<|zE fn109 rfl hS (fits_ok x q.lab _ hx hl) fun w1 hS3=>zq 1 rfl<|zN<|zT<|zU<|ret1 Tryz.results108 ?_
  exact ⟨rfl, hS3.fin⟩

theorem rmeets2_ok_c0 {p : Prop} (h : p := by first | exact ⟨congrArg Value.bool (by rw [decide_eq_true h1_2, Bool.true_or, Bool.true_and]), hF.fin⟩ | exact ⟨congrArg Value.bool (by rw [decide_eq_true h1_5, Bool.or_true, Bool.true_and]), hF.fin⟩ | exact ⟨congrArg Value.bool (by rw [decide_eq_false h1_2, decide_eq_false h1_5]; rfl), hF.fin⟩) : p := h
theorem rmeets2_ok (x : List UInt8) (q : AskD) (b : Nat) (w : World) (hb : At w b 0 q.v) (hac : q.ac.length = 16) (hx : x.length ≤ 9223372036854775807) (hl : q.lab.length ≤ 9223372036854775807) :
    Ret Tryz.prog 72 [.string ⟨(x).toArray⟩, pt b 0] w (fun v w' => v = .bool ((decide (¬ q.lab = []) || decide (x = [42])) && fitsE x q.lab) ∧ St w [] w' []) := by
  refine enter Tryz.func72 rfl Tryz.ntmps72 rfl ?_
  have hS := St.refl w []
  refine zS<|zR<|zq 1 rfl<|zN<|zT<|zS<|zR<|zV (r_field fa40_3 rfl)<|zV (r_loadAt1 (j := 18) ti9.und rfl rfl (hb.st hS) (ask_lab hac) rfl) ?_
  refine wl_dec (r_neqStrL rfl rfl) rfl (fun h1_2 => ?_) (fun h1_2 => ?_)
  · refine zq 6 rfl<|wl_val (r_field fa40_3 rfl) rfl<|wl_val (r_loadAt1 (j := 18) ti9.und rfl rfl (hb.st hS) (ask_lab hac) rfl) rfl<|zE fn73 rfl hS (rfits_ok x q.lab _ hx hl) fun w1 hS3=>zq 2 rfl<|zN<|zT<|zU<|ret1 Tryz.results72 ?_
    have hF := hS3; exact rmeets2_ok_c0
  refine zq 2 rfl ?_
  refine wl_dec (r_eqlStrL rfl rfl) rfl (fun h1_5 => ?_) (fun h1_5 => ?_)
  · refine zq 3 rfl<|wl_val (r_field fa40_3 rfl) rfl<|wl_val (r_loadAt1 (j := 18) ti9.und rfl rfl (hb.st hS) (ask_lab hac) rfl) rfl<|zE fn73 rfl hS (rfits_ok x q.lab _ hx hl) fun w4 hS6=>zq 2 rfl<|zN<|zT<|zU<|ret1 Tryz.results72 ?_
    have hF := hS6; exact rmeets2_ok_c0
  refine zq 8 rfl<|zN<|zT<|zU<|ret1 Tryz.results72 ?_
  have hF := hS; exact rmeets2_ok_c0

theorem inHours_ok (r : RuleD) (h : Int) (w : World) :
    Ret Tryz.prog 110 [.agg r.v.toArray, .int .i64 h] w (fun v w' => v = .bool (hourE r h) ∧ St w [] w' []) := by
  refine enter Tryz.func110 rfl Tryz.ntmps110 rfl ?_
  have hS := St.refl w []
  refine zS<|zR<|zB (v := .agg _) hS rfl rfl fun b2 w1 hS2=>zq 1 rfl<|zN<|zT<|zS<|zI<|zS<|zR<|zF fa50_4 rfl ti3.und rfl (hS2.heap Z0) rfl rfl rfl<|zF fa50_5 rfl ti3.und rfl (hS2.heap Z0) rfl rfl rfl ?_
  refine wl_dec (r_eql rfl rfl) rfl (fun h1_4 => ?_) (fun h1_4 => ?_)
  · refine zq 1 rfl<|zN<|zT<|zt rfl<|zS<|zR<|zq 1 rfl<|zN<|zT<|zU<|zH<|zL<|ret1 Tryz.results110 ?_
    refine ⟨congrArg Value.bool ?_, hS2.fin⟩
    unfold hourE
    first | (rw [if_pos h1_4]; done) | (rw [if_neg h1_4, if_pos h3_4]; (first | exact (decide_eq_true Om).symm | exact (decide_eq_false Om).symm)) | (rw [if_neg h1_4, if_neg h3_4]; (first | exact (decide_eq_true Om).symm | exact (decide_eq_false Om).symm))
  refine zq 1 rfl<|zN<|zT<|zf rfl<|zS<|zR<|zF fa50_4 rfl ti3.und rfl (hS2.heap Z0) rfl rfl rfl<|zF fa50_5 rfl ti3.und rfl (hS2.heap Z0) rfl rfl rfl ?_
  refine wl_dec (r_lss rfl rfl) rfl (fun h3_4 => ?_) (fun h3_4 => ?_)
  · refine zq 1 rfl<|zN<|zT<|zt rfl<|zS<|zR<|zF fa50_4 rfl ti3.und rfl (hS2.heap Z0) rfl rfl rfl<|zq 1 rfl ?_
    refine wl_dec (r_leq rfl rfl) rfl (fun h4_3 => ?_) (fun h4_3 => ?_)
    · refine zq 2 rfl<|wl_val (r_field fa50_5 rfl) rfl<|wl_val (r_loadB1 ti3.und rfl rfl (hS2.heap Z0) rfl) rfl ?_
      refine wl_dec (r_lss rfl rfl) rfl (fun h4_8 => ?_) (fun h4_8 => ?_)
      · refine zq 2 rfl<|zN<|zT<|zU<|zH<|zL<|ret1 Tryz.results110 ?_
        refine ⟨congrArg Value.bool ?_, hS2.fin⟩
        unfold hourE
        first | (rw [if_pos h1_4]; done) | (rw [if_neg h1_4, if_pos h3_4]; (first | exact (decide_eq_true Om).symm | exact (decide_eq_false Om).symm)) | (rw [if_neg h1_4, if_neg h3_4]; (first | exact (decide_eq_true Om).symm | exact (decide_eq_false Om).symm))
      refine zq 2 rfl<|zN<|zT<|zU<|zH<|zL<|ret1 Tryz.results110 ?_
      refine ⟨congrArg Value.bool ?_, hS2.fin⟩
      unfold hourE
      first | (rw [if_pos h1_4]; done) | (rw [if_neg h1_4, if_pos h3_4]; (first | exact (decide_eq_true Om).symm | exact (decide_eq_false Om).symm)) | (rw [if_neg h1_4, if_neg h3_4]; (first | exact (decide_eq_true Om).symm | exact (decide_eq_false Om).symm))
    refine zq 7 rfl<|zN<|zT<|zU<|zH<|zL<|ret1 Tryz.results110 ?_
    refine ⟨congrArg Value.bool ?_, hS2.fin⟩
    unfold hourE
    first | (rw [if_pos h1_4]; done) | (rw [if_neg h1_4, if_pos h3_4]; (first | exact (decide_eq_true Om).symm | exact (decide_eq_false Om).symm)) | (rw [if_neg h1_4, if_neg h3_4]; (first | exact (decide_eq_true Om).symm | exact (decide_eq_false Om).symm))
  refine zq 1 rfl<|zN<|zT<|zf rfl<|zK<|zJ<|zT<|zS<|zR<|zq 1 rfl<|zF fa50_4 rfl ti3.und rfl (hS2.heap Z0) rfl rfl rfl ?_
  refine wl_dec (r_geq rfl rfl) rfl (fun h5_3 => ?_) (fun h5_3 => ?_)
  · refine zq 7 rfl<|zN<|zT<|zU<|ret1 Tryz.results110 ?_
    refine ⟨congrArg Value.bool ?_, hS2.fin⟩
    unfold hourE
    first | (rw [if_pos h1_4]; done) | (rw [if_neg h1_4, if_pos h3_4]; (first | exact (decide_eq_true Om).symm | exact (decide_eq_false Om).symm)) | (rw [if_neg h1_4, if_neg h3_4]; (first | exact (decide_eq_true Om).symm | exact (decide_eq_false Om).symm))
  refine zq 2 rfl<|wl_val (r_field fa50_5 rfl) rfl<|wl_val (r_loadB1 ti3.und rfl rfl (hS2.heap Z0) rfl) rfl ?_
  refine wl_dec (r_lss rfl rfl) rfl (fun h5_8 => ?_) (fun h5_8 => ?_)
  · refine zq 2 rfl<|zN<|zT<|zU<|ret1 Tryz.results110 ?_
    refine ⟨congrArg Value.bool ?_, hS2.fin⟩
    unfold hourE
    first | (rw [if_pos h1_4]; done) | (rw [if_neg h1_4, if_pos h3_4]; (first | exact (decide_eq_true Om).symm | exact (decide_eq_false Om).symm)) | (rw [if_neg h1_4, if_neg h3_4]; (first | exact (decide_eq_true Om).symm | exact (decide_eq_false Om).symm))
  refine zq 2 rfl<|zN<|zT<|zU<|ret1 Tryz.results110 ?_
  refine ⟨congrArg Value.bool ?_, hS2.fin⟩
  unfold hourE
  first | (rw [if_pos h1_4]; done) | (rw [if_neg h1_4, if_pos h3_4]; (first | exact (decide_eq_true Om).symm | exact (decide_eq_false Om).symm)) | (rw [if_neg h1_4, if_neg h3_4]; (first | exact (decide_eq_true Om).symm | exact (decide_eq_false Om).symm))

theorem meets_ok_c0 {p : Prop} (h : p := by first | exact ⟨congrArg Value.bool (meet_y (by first | exact .inl Om | exact .inr hc1) (by first | exact .inl Om | exact .inr hc2) (by first | exact .inl Om | exact .inr hc3) (h := ((q.tm.toNat % 86400 / 3600 : Nat) : Int)) Om).symm, hF.fin⟩ | exact ⟨congrArg Value.bool (meet_n1 Om hc1).symm, hF.fin⟩ | exact ⟨congrArg Value.bool (meet_n2 Om hc2).symm, hF.fin⟩ | exact ⟨congrArg Value.bool (meet_n3 Om hc3).symm, hF.fin⟩) : p := h
set_option maxHeartbeats 4000000 in
theorem meets_ok (r : RuleD) (q : AskD) (w : World) (hk : RuleOk r) (h1 : Row w r.ra (r.ro.map sv)) (h2 : Row w r.aa (r.acs.map iv)) (h3 : Row w r.la (r.las.map sv)) (hq : AskOk q) (hr : Row w q.ra (q.ro.map sv)) (ht0 : 0 ≤ q.tm) (ht1 : q.tm ≤ 1099511627776) :
    Ret Tryz.prog 68 [.agg r.v.toArray, .agg q.v.toArray] w (fun v w' => v = .bool (meetE r q) ∧ St w [] w' []) := by
  have hac := hq.ac
  have hkey := hq.key
  have hdet := hq.det
  refine enter Tryz.func68 rfl Tryz.ntmps68 rfl ?_
  have hS := St.refl w []
  refine zS<|zR<|zB (v := .agg _) hS rfl rfl fun b2 w1 hS2=>zB (v := .agg _) hS2 rfl rfl fun b3 w3 hS4=>zq 1 rfl<|zN<|zT<|zS<|zR<|zF fa50_1 rfl ti36.und rfl (hS4.heap Z1) rfl rfl rfl<|zV (r_len (T := 36) rfl ti36.und rfl _ rfl) ?_
  refine wl_dec (r_eql rfl rfl) rfl (fun h1_3 => ?_) (fun h1_3 => ?_)
  · refine zq 7 rfl<|zN<|zT<|zS<|zR<|zF fa50_2 rfl ti48.und rfl (hS4.heap Z1) rfl rfl rfl<|zV (r_len (T := 48) rfl ti48.und rfl _ rfl) ?_
    refine wl_dec (r_eql rfl rfl) rfl (fun h2_3 => ?_) (fun h2_3 => ?_)
    · refine zq 8 rfl<|zN<|zT<|zS<|zR<|zF fa50_3 rfl ti36.und rfl (hS4.heap Z1) rfl rfl rfl<|zV (r_len (T := 36) rfl ti36.und rfl _ rfl) ?_
      refine wl_dec (r_eql rfl rfl) rfl (fun h3_3 => ?_) (fun h3_3 => ?_)
      · refine zq 7 rfl<|zN<|zT<|zS<|zR<|zq 8 rfl<|wl_val (r_loadB ti50 ag50 rfl (hS4.heap Z1) Ln) rfl ?_
        refine wl_val (r_field fa40_5 rfl) rfl<|wl_val (r_loadB1 ti3.und rfl rfl (hS4.heap Z0) (ask_tmN hac hkey ht0)) rfl<|wl_val (r_remn (b := 86400) rfl rfl Om) rfl<|wl_val (r_quon (b := 3600) rfl rfl Om Om) rfl<|zE fn110 rfl hS4 (inHours_ok r _ _) fun w5 hS7=>zq 2 rfl<|zN<|zT<|zU<|ret1 Tryz.results68 ?_
        have hF := hS7; exact meets_ok_c0
      refine zq 1 rfl<|wl_val (r_field fa50_3 rfl) rfl<|wl_val (r_loadB1 ti36.und rfl rfl (hS4.heap Z1) rfl) rfl<|wl_val (r_makeFunc (vs := [pt b3 0]) rfl) rfl<|zC fn53 rfl (containsFuncS_ok r.las r.la r.las.length r.lc 108 [pt b3 0] (fun s => fitsE s q.lab) _ (h3.st hS4) rfl hk.ln fn108 (fun x w' hx h => meets2_ok x q b3 w' ((at_all (hS4.heap Z0)).st h) hac (hk.ll x hx) hq.ll)) ?_
      rintro _ w8 (⟨hc3, rfl, hx9⟩ | ⟨hc3, rfl, hx9⟩)
      · have hS10 := hS4.ext hx9
        refine zq 2 rfl<|zN<|zT<|zS<|zR<|zq 8 rfl<|wl_val (r_loadB ti50 ag50 rfl (hS10.heap Z1) Ln) rfl ?_; refine wl_val (r_field fa40_5 rfl) rfl<|wl_val (r_loadB1 ti3.und rfl rfl (hS10.heap Z0) (ask_tmN hac hkey ht0)) rfl<|wl_val (r_remn (b := 86400) rfl rfl Om) rfl<|wl_val (r_quon (b := 3600) rfl rfl Om Om) rfl<|zE fn110 rfl hS10 (inHours_ok r _ _) fun w11 hS13=>zq 2 rfl<|zN<|zT<|zU<|ret1 Tryz.results68 ?_
        have hF := hS13; exact meets_ok_c0
      have hS10 := hS4.ext hx9; refine zq 2 rfl<|zN<|zT<|zS<|zR<|zq 16 rfl<|zN<|zT<|zU<|ret1 Tryz.results68 ?_
      have hF := hS10; exact meets_ok_c0
    refine zq 1 rfl<|wl_val (r_field fa50_2 rfl) rfl<|wl_val (r_loadB1 ti48.und rfl rfl (hS4.heap Z1) rfl) rfl<|wl_val (r_field fa40_2 rfl) rfl<|wl_val (r_loadB1 ti3.und rfl rfl (hS4.heap Z0) (ask_act hac)) rfl<|zC fn71 rfl (containsI_ok r.acs r.aa r.acs.length r.ak q.act _ (h2.st hS4) rfl hk.an) ?_
    rintro _ w14 (⟨hc2, rfl, hx15⟩ | ⟨hc2, rfl, hx15⟩)
    · have hS16 := hS4.ext hx15
      refine zq 2 rfl<|zN<|zT<|zS<|zR<|zF fa50_3 rfl ti36.und rfl (hS16.heap Z1) rfl rfl rfl<|zV (r_len (T := 36) rfl ti36.und rfl _ rfl) ?_
      refine wl_dec (r_eql rfl rfl) rfl (fun h3_3 => ?_) (fun h3_3 => ?_)
      · refine zq 7 rfl<|zN<|zT<|zS<|zR<|zq 8 rfl<|wl_val (r_loadB ti50 ag50 rfl (hS16.heap Z1) Ln) rfl ?_
        refine wl_val (r_field fa40_5 rfl) rfl<|wl_val (r_loadB1 ti3.und rfl rfl (hS16.heap Z0) (ask_tmN hac hkey ht0)) rfl<|wl_val (r_remn (b := 86400) rfl rfl Om) rfl<|wl_val (r_quon (b := 3600) rfl rfl Om Om) rfl<|zE fn110 rfl hS16 (inHours_ok r _ _) fun w17 hS19=>zq 2 rfl<|zN<|zT<|zU<|ret1 Tryz.results68 ?_
        have hF := hS19; exact meets_ok_c0
      refine zq 1 rfl<|wl_val (r_field fa50_3 rfl) rfl<|wl_val (r_loadB1 ti36.und rfl rfl (hS16.heap Z1) rfl) rfl<|wl_val (r_makeFunc (vs := [pt b3 0]) rfl) rfl<|zC fn53 rfl (containsFuncS_ok r.las r.la r.las.length r.lc 108 [pt b3 0] (fun s => fitsE s q.lab) _ (h3.st hS16) rfl hk.ln fn108 (fun x w' hx h => meets2_ok x q b3 w' ((at_all (hS16.heap Z0)).st h) hac (hk.ll x hx) hq.ll)) ?_
      rintro _ w20 (⟨hc3, rfl, hx21⟩ | ⟨hc3, rfl, hx21⟩)
      · have hS22 := hS16.ext hx21
        refine zq 2 rfl<|zN<|zT<|zS<|zR<|zq 8 rfl<|wl_val (r_loadB ti50 ag50 rfl (hS22.heap Z1) Ln) rfl ?_; refine wl_val (r_field fa40_5 rfl) rfl<|wl_val (r_loadB1 ti3.und rfl rfl (hS22.heap Z0) (ask_tmN hac hkey ht0)) rfl<|wl_val (r_remn (b := 86400) rfl rfl Om) rfl<|wl_val (r_quon (b := 3600) rfl rfl Om Om) rfl<|zE fn110 rfl hS22 (inHours_ok r _ _) fun w23 hS25=>zq 2 rfl<|zN<|zT<|zU<|ret1 Tryz.results68 ?_
        have hF := hS25; exact meets_ok_c0
      have hS22 := hS16.ext hx21; refine zq 2 rfl<|zN<|zT<|zS<|zR<|zq 16 rfl<|zN<|zT<|zU<|ret1 Tryz.results68 ?_
      have hF := hS22; exact meets_ok_c0
    have hS16 := hS4.ext hx15; refine zq 2 rfl<|zN<|zT<|zS<|zR<|zF fa50_3 rfl ti36.und rfl (hS16.heap Z1) rfl rfl rfl<|zV (r_len (T := 36) rfl ti36.und rfl _ rfl) ?_
    refine wl_dec (r_eql rfl rfl) rfl (fun h3_3 => ?_) (fun h3_3 => ?_)
    · refine zq 7 rfl<|zN<|zT<|zS<|zR<|zq 16 rfl<|zN<|zT<|zU<|ret1 Tryz.results68 ?_
      have hF := hS16; exact meets_ok_c0
    refine zq 1 rfl<|wl_val (r_field fa50_3 rfl) rfl<|wl_val (r_loadB1 ti36.und rfl rfl (hS16.heap Z1) rfl) rfl<|wl_val (r_makeFunc (vs := [pt b3 0]) rfl) rfl<|zC fn53 rfl (containsFuncS_ok r.las r.la r.las.length r.lc 108 [pt b3 0] (fun s => fitsE s q.lab) _ (h3.st hS16) rfl hk.ln fn108 (fun x w' hx h => meets2_ok x q b3 w' ((at_all (hS16.heap Z0)).st h) hac (hk.ll x hx) hq.ll)) ?_
    rintro _ w26 (⟨hc3, rfl, hx27⟩ | ⟨hc3, rfl, hx27⟩)
    · have hS28 := hS16.ext hx27
      refine zq 2 rfl<|zN<|zT<|zS<|zR<|zq 16 rfl<|zN<|zT<|zU<|ret1 Tryz.results68 ?_
      have hF := hS28; exact meets_ok_c0
    have hS28 := hS16.ext hx27; refine zq 2 rfl<|zN<|zT<|zS<|zR<|zq 16 rfl<|zN<|zT<|zU<|ret1 Tryz.results68 ?_
    have hF := hS28; exact meets_ok_c0
  refine zq 1 rfl<|wl_val (r_field fa50_1 rfl) rfl<|wl_val (r_loadB1 ti36.und rfl rfl (hS4.heap Z1) rfl) rfl<|wl_val (r_makeFunc (vs := [pt b3 0]) rfl) rfl<|zC fn53 rfl (containsFuncS_ok r.ro r.ra r.ro.length r.rc 107 [pt b3 0] (fun s => decide (s ∈ q.ro)) _ (h1.st hS4) rfl hk.rn fn107 (fun x w' hx h => meets1_ok x q b3 w' ((at_all (hS4.heap Z0)).st h) hac ((hr.st hS4).st h) hq.rn)) ?_
  rintro _ w29 (⟨hc1, rfl, hx30⟩ | ⟨hc1, rfl, hx30⟩)
  · have hS31 := hS4.ext hx30
    refine zq 2 rfl<|zN<|zT<|zS<|zR<|zF fa50_2 rfl ti48.und rfl (hS31.heap Z1) rfl rfl rfl<|zV (r_len (T := 48) rfl ti48.und rfl _ rfl) ?_
    refine wl_dec (r_eql rfl rfl) rfl (fun h2_3 => ?_) (fun h2_3 => ?_)
    · refine zq 8 rfl<|zN<|zT<|zS<|zR<|zF fa50_3 rfl ti36.und rfl (hS31.heap Z1) rfl rfl rfl<|zV (r_len (T := 36) rfl ti36.und rfl _ rfl) ?_
      refine wl_dec (r_eql rfl rfl) rfl (fun h3_3 => ?_) (fun h3_3 => ?_)
      · refine zq 7 rfl<|zN<|zT<|zS<|zR<|zq 8 rfl<|wl_val (r_loadB ti50 ag50 rfl (hS31.heap Z1) Ln) rfl ?_
        refine wl_val (r_field fa40_5 rfl) rfl<|wl_val (r_loadB1 ti3.und rfl rfl (hS31.heap Z0) (ask_tmN hac hkey ht0)) rfl<|wl_val (r_remn (b := 86400) rfl rfl Om) rfl<|wl_val (r_quon (b := 3600) rfl rfl Om Om) rfl<|zE fn110 rfl hS31 (inHours_ok r _ _) fun w32 hS34=>zq 2 rfl<|zN<|zT<|zU<|ret1 Tryz.results68 ?_
        have hF := hS34; exact meets_ok_c0
      refine zq 1 rfl<|wl_val (r_field fa50_3 rfl) rfl<|wl_val (r_loadB1 ti36.und rfl rfl (hS31.heap Z1) rfl) rfl<|wl_val (r_makeFunc (vs := [pt b3 0]) rfl) rfl<|zC fn53 rfl (containsFuncS_ok r.las r.la r.las.length r.lc 108 [pt b3 0] (fun s => fitsE s q.lab) _ (h3.st hS31) rfl hk.ln fn108 (fun x w' hx h => meets2_ok x q b3 w' ((at_all (hS31.heap Z0)).st h) hac (hk.ll x hx) hq.ll)) ?_
      rintro _ w35 (⟨hc3, rfl, hx36⟩ | ⟨hc3, rfl, hx36⟩)
      · have hS37 := hS31.ext hx36
        refine zq 2 rfl<|zN<|zT<|zS<|zR<|zq 8 rfl<|wl_val (r_loadB ti50 ag50 rfl (hS37.heap Z1) Ln) rfl ?_; refine wl_val (r_field fa40_5 rfl) rfl<|wl_val (r_loadB1 ti3.und rfl rfl (hS37.heap Z0) (ask_tmN hac hkey ht0)) rfl<|wl_val (r_remn (b := 86400) rfl rfl Om) rfl<|wl_val (r_quon (b := 3600) rfl rfl Om Om) rfl<|zE fn110 rfl hS37 (inHours_ok r _ _) fun w38 hS40=>zq 2 rfl<|zN<|zT<|zU<|ret1 Tryz.results68 ?_
        have hF := hS40; exact meets_ok_c0
      have hS37 := hS31.ext hx36; refine zq 2 rfl<|zN<|zT<|zS<|zR<|zq 16 rfl<|zN<|zT<|zU<|ret1 Tryz.results68 ?_
      have hF := hS37; exact meets_ok_c0
    refine zq 1 rfl<|wl_val (r_field fa50_2 rfl) rfl<|wl_val (r_loadB1 ti48.und rfl rfl (hS31.heap Z1) rfl) rfl<|wl_val (r_field fa40_2 rfl) rfl<|wl_val (r_loadB1 ti3.und rfl rfl (hS31.heap Z0) (ask_act hac)) rfl<|zC fn71 rfl (containsI_ok r.acs r.aa r.acs.length r.ak q.act _ (h2.st hS31) rfl hk.an) ?_
    rintro _ w41 (⟨hc2, rfl, hx42⟩ | ⟨hc2, rfl, hx42⟩)
    · have hS43 := hS31.ext hx42
      refine zq 2 rfl<|zN<|zT<|zS<|zR<|zF fa50_3 rfl ti36.und rfl (hS43.heap Z1) rfl rfl rfl<|zV (r_len (T := 36) rfl ti36.und rfl _ rfl) ?_
      refine wl_dec (r_eql rfl rfl) rfl (fun h3_3 => ?_) (fun h3_3 => ?_)
      · refine zq 7 rfl<|zN<|zT<|zS<|zR<|zq 8 rfl<|wl_val (r_loadB ti50 ag50 rfl (hS43.heap Z1) Ln) rfl ?_
        refine wl_val (r_field fa40_5 rfl) rfl<|wl_val (r_loadB1 ti3.und rfl rfl (hS43.heap Z0) (ask_tmN hac hkey ht0)) rfl<|wl_val (r_remn (b := 86400) rfl rfl Om) rfl<|wl_val (r_quon (b := 3600) rfl rfl Om Om) rfl<|zE fn110 rfl hS43 (inHours_ok r _ _) fun w44 hS46=>zq 2 rfl<|zN<|zT<|zU<|ret1 Tryz.results68 ?_
        have hF := hS46; exact meets_ok_c0
      refine zq 1 rfl<|wl_val (r_field fa50_3 rfl) rfl<|wl_val (r_loadB1 ti36.und rfl rfl (hS43.heap Z1) rfl) rfl<|wl_val (r_makeFunc (vs := [pt b3 0]) rfl) rfl<|zC fn53 rfl (containsFuncS_ok r.las r.la r.las.length r.lc 108 [pt b3 0] (fun s => fitsE s q.lab) _ (h3.st hS43) rfl hk.ln fn108 (fun x w' hx h => meets2_ok x q b3 w' ((at_all (hS43.heap Z0)).st h) hac (hk.ll x hx) hq.ll)) ?_
      rintro _ w47 (⟨hc3, rfl, hx48⟩ | ⟨hc3, rfl, hx48⟩)
      · have hS49 := hS43.ext hx48
        refine zq 2 rfl<|zN<|zT<|zS<|zR<|zq 8 rfl<|wl_val (r_loadB ti50 ag50 rfl (hS49.heap Z1) Ln) rfl ?_; refine wl_val (r_field fa40_5 rfl) rfl<|wl_val (r_loadB1 ti3.und rfl rfl (hS49.heap Z0) (ask_tmN hac hkey ht0)) rfl<|wl_val (r_remn (b := 86400) rfl rfl Om) rfl<|wl_val (r_quon (b := 3600) rfl rfl Om Om) rfl<|zE fn110 rfl hS49 (inHours_ok r _ _) fun w50 hS52=>zq 2 rfl<|zN<|zT<|zU<|ret1 Tryz.results68 ?_
        have hF := hS52; exact meets_ok_c0
      have hS49 := hS43.ext hx48; refine zq 2 rfl<|zN<|zT<|zS<|zR<|zq 16 rfl<|zN<|zT<|zU<|ret1 Tryz.results68 ?_
      have hF := hS49; exact meets_ok_c0
    have hS43 := hS31.ext hx42; refine zq 2 rfl<|zN<|zT<|zS<|zR<|zF fa50_3 rfl ti36.und rfl (hS43.heap Z1) rfl rfl rfl<|zV (r_len (T := 36) rfl ti36.und rfl _ rfl) ?_
    refine wl_dec (r_eql rfl rfl) rfl (fun h3_3 => ?_) (fun h3_3 => ?_)
    · refine zq 7 rfl<|zN<|zT<|zS<|zR<|zq 16 rfl<|zN<|zT<|zU<|ret1 Tryz.results68 ?_
      have hF := hS43; exact meets_ok_c0
    refine zq 1 rfl<|wl_val (r_field fa50_3 rfl) rfl<|wl_val (r_loadB1 ti36.und rfl rfl (hS43.heap Z1) rfl) rfl<|wl_val (r_makeFunc (vs := [pt b3 0]) rfl) rfl<|zC fn53 rfl (containsFuncS_ok r.las r.la r.las.length r.lc 108 [pt b3 0] (fun s => fitsE s q.lab) _ (h3.st hS43) rfl hk.ln fn108 (fun x w' hx h => meets2_ok x q b3 w' ((at_all (hS43.heap Z0)).st h) hac (hk.ll x hx) hq.ll)) ?_
    rintro _ w53 (⟨hc3, rfl, hx54⟩ | ⟨hc3, rfl, hx54⟩)
    · have hS55 := hS43.ext hx54
      refine zq 2 rfl<|zN<|zT<|zS<|zR<|zq 16 rfl<|zN<|zT<|zU<|ret1 Tryz.results68 ?_
      have hF := hS55; exact meets_ok_c0
    have hS55 := hS43.ext hx54; refine zq 2 rfl<|zN<|zT<|zS<|zR<|zq 16 rfl<|zN<|zT<|zU<|ret1 Tryz.results68 ?_
    have hF := hS55; exact meets_ok_c0
  have hS31 := hS4.ext hx30; refine zq 2 rfl<|zN<|zT<|zS<|zR<|zF fa50_2 rfl ti48.und rfl (hS31.heap Z1) rfl rfl rfl<|zV (r_len (T := 48) rfl ti48.und rfl _ rfl) ?_
  refine wl_dec (r_eql rfl rfl) rfl (fun h2_3 => ?_) (fun h2_3 => ?_)
  · refine zq 8 rfl<|zN<|zT<|zS<|zR<|zF fa50_3 rfl ti36.und rfl (hS31.heap Z1) rfl rfl rfl<|zV (r_len (T := 36) rfl ti36.und rfl _ rfl) ?_
    refine wl_dec (r_eql rfl rfl) rfl (fun h3_3 => ?_) (fun h3_3 => ?_)
    · refine zq 7 rfl<|zN<|zT<|zS<|zR<|zq 16 rfl<|zN<|zT<|zU<|ret1 Tryz.results68 ?_
      have hF := hS31; exact meets_ok_c0
    refine zq 1 rfl<|wl_val (r_field fa50_3 rfl) rfl<|wl_val (r_loadB1 ti36.und rfl rfl (hS31.heap Z1) rfl) rfl<|wl_val (r_makeFunc (vs := [pt b3 0]) rfl) rfl<|zC fn53 rfl (containsFuncS_ok r.las r.la r.las.length r.lc 108 [pt b3 0] (fun s => fitsE s q.lab) _ (h3.st hS31) rfl hk.ln fn108 (fun x w' hx h => meets2_ok x q b3 w' ((at_all (hS31.heap Z0)).st h) hac (hk.ll x hx) hq.ll)) ?_
    rintro _ w56 (⟨hc3, rfl, hx57⟩ | ⟨hc3, rfl, hx57⟩)
    · have hS58 := hS31.ext hx57
      refine zq 2 rfl<|zN<|zT<|zS<|zR<|zq 16 rfl<|zN<|zT<|zU<|ret1 Tryz.results68 ?_
      have hF := hS58; exact meets_ok_c0
    have hS58 := hS31.ext hx57; refine zq 2 rfl<|zN<|zT<|zS<|zR<|zq 16 rfl<|zN<|zT<|zU<|ret1 Tryz.results68 ?_
    have hF := hS58; exact meets_ok_c0
  refine zq 1 rfl<|wl_val (r_field fa50_2 rfl) rfl<|wl_val (r_loadB1 ti48.und rfl rfl (hS31.heap Z1) rfl) rfl<|wl_val (r_field fa40_2 rfl) rfl<|wl_val (r_loadB1 ti3.und rfl rfl (hS31.heap Z0) (ask_act hac)) rfl<|zC fn71 rfl (containsI_ok r.acs r.aa r.acs.length r.ak q.act _ (h2.st hS31) rfl hk.an) ?_
  rintro _ w59 (⟨hc2, rfl, hx60⟩ | ⟨hc2, rfl, hx60⟩)
  · have hS61 := hS31.ext hx60
    refine zq 2 rfl<|zN<|zT<|zS<|zR<|zF fa50_3 rfl ti36.und rfl (hS61.heap Z1) rfl rfl rfl<|zV (r_len (T := 36) rfl ti36.und rfl _ rfl) ?_
    refine wl_dec (r_eql rfl rfl) rfl (fun h3_3 => ?_) (fun h3_3 => ?_)
    · refine zq 7 rfl<|zN<|zT<|zS<|zR<|zq 16 rfl<|zN<|zT<|zU<|ret1 Tryz.results68 ?_
      have hF := hS61; exact meets_ok_c0
    refine zq 1 rfl<|wl_val (r_field fa50_3 rfl) rfl<|wl_val (r_loadB1 ti36.und rfl rfl (hS61.heap Z1) rfl) rfl<|wl_val (r_makeFunc (vs := [pt b3 0]) rfl) rfl<|zC fn53 rfl (containsFuncS_ok r.las r.la r.las.length r.lc 108 [pt b3 0] (fun s => fitsE s q.lab) _ (h3.st hS61) rfl hk.ln fn108 (fun x w' hx h => meets2_ok x q b3 w' ((at_all (hS61.heap Z0)).st h) hac (hk.ll x hx) hq.ll)) ?_
    rintro _ w62 (⟨hc3, rfl, hx63⟩ | ⟨hc3, rfl, hx63⟩)
    · have hS64 := hS61.ext hx63
      refine zq 2 rfl<|zN<|zT<|zS<|zR<|zq 16 rfl<|zN<|zT<|zU<|ret1 Tryz.results68 ?_
      have hF := hS64; exact meets_ok_c0
    have hS64 := hS61.ext hx63; refine zq 2 rfl<|zN<|zT<|zS<|zR<|zq 16 rfl<|zN<|zT<|zU<|ret1 Tryz.results68 ?_
    have hF := hS64; exact meets_ok_c0
  have hS61 := hS31.ext hx60; refine zq 2 rfl<|zN<|zT<|zS<|zR<|zF fa50_3 rfl ti36.und rfl (hS61.heap Z1) rfl rfl rfl<|zV (r_len (T := 36) rfl ti36.und rfl _ rfl) ?_
  refine wl_dec (r_eql rfl rfl) rfl (fun h3_3 => ?_) (fun h3_3 => ?_)
  · refine zq 7 rfl<|zN<|zT<|zS<|zR<|zq 16 rfl<|zN<|zT<|zU<|ret1 Tryz.results68 ?_
    have hF := hS61; exact meets_ok_c0
  refine zq 1 rfl<|wl_val (r_field fa50_3 rfl) rfl<|wl_val (r_loadB1 ti36.und rfl rfl (hS61.heap Z1) rfl) rfl<|wl_val (r_makeFunc (vs := [pt b3 0]) rfl) rfl<|zC fn53 rfl (containsFuncS_ok r.las r.la r.las.length r.lc 108 [pt b3 0] (fun s => fitsE s q.lab) _ (h3.st hS61) rfl hk.ln fn108 (fun x w' hx h => meets2_ok x q b3 w' ((at_all (hS61.heap Z0)).st h) hac (hk.ll x hx) hq.ll)) ?_
  rintro _ w65 (⟨hc3, rfl, hx66⟩ | ⟨hc3, rfl, hx66⟩)
  · have hS67 := hS61.ext hx66
    refine zq 2 rfl<|zN<|zT<|zS<|zR<|zq 16 rfl<|zN<|zT<|zU<|ret1 Tryz.results68 ?_
    have hF := hS67; exact meets_ok_c0
  have hS67 := hS61.ext hx66; refine zq 2 rfl<|zN<|zT<|zS<|zR<|zq 16 rfl<|zN<|zT<|zU<|ret1 Tryz.results68 ?_
  have hF := hS67; exact meets_ok_c0

set_option maxHeartbeats 4000000 in
theorem rmeets_ok (r : RuleD) (q : AskD) (w : World) (hk : RuleOk r) (h1 : Row w r.ra (r.ro.map sv)) (h2 : Row w r.aa (r.acs.map iv)) (h3 : Row w r.la (r.las.map sv)) (hq : AskOk q) (hr : Row w q.ra (q.ro.map sv)) (ht0 : 0 ≤ q.tm) (ht1 : q.tm ≤ 1099511627776) (he : ruleE r = 0) :
    Ret Tryz.prog 39 [.agg r.v.toArray, .agg q.v.toArray] w (fun v w' => v = .bool (meetE r q) ∧ St w [] w' []) := by
  have hac := hq.ac
  have hkey := hq.key
  have hdet := hq.det
  refine enter Tryz.func39 rfl Tryz.ntmps39 rfl ?_
  have hS := St.refl w []
  refine zS<|zR<|zB (v := .agg _) hS rfl rfl fun b2 w1 hS2=>zB (v := .agg _) hS2 rfl rfl fun b3 w3 hS4=>zq 1 rfl<|zN<|zT<|zS<|zS<|zR<|zF fa50_1 rfl ti36.und rfl (hS4.heap Z1) rfl rfl rfl<|zV (r_len (T := 36) rfl ti36.und rfl _ rfl) ?_
  refine wl_dec (r_gtr rfl rfl) rfl (fun h1_3 => ?_) (fun h1_3 => ?_)
  · refine zq 1 rfl<|wl_val (r_field fa50_1 rfl) rfl<|wl_val (r_loadB1 ti36.und rfl rfl (hS4.heap Z1) rfl) rfl<|wl_val (r_makeFunc (vs := [pt b3 0]) rfl) rfl<|zC fn53 rfl (containsFuncS_ok r.ro r.ra r.ro.length r.rc 69 [pt b3 0] (fun s => decide (s ∈ q.ro)) _ (h1.st hS4) rfl hk.rn fn69 (fun x w' hx h => rmeets1_ok x q b3 w' ((at_all (hS4.heap Z0)).st h) hac ((hr.st hS4).st h) hq.rn)) ?_
    rintro _ w5 (⟨hc1, rfl, hx6⟩ | ⟨hc1, rfl, hx6⟩)
    · have hS7 := hS4.ext hx6
      refine zq 2 rfl<|zN<|zT<|zf rfl<|zK<|zT<|zS<|zS<|zR<|zF fa50_2 rfl ti48.und rfl (hS7.heap Z1) rfl rfl rfl<|zV (r_len (T := 48) rfl ti48.und rfl _ rfl) ?_
      refine wl_dec (r_gtr rfl rfl) rfl (fun h3_3 => ?_) (fun h3_3 => ?_)
      · refine zq 1 rfl<|wl_val (r_field fa50_2 rfl) rfl<|wl_val (r_loadB1 ti48.und rfl rfl (hS7.heap Z1) rfl) rfl<|wl_val (r_field fa40_2 rfl) rfl<|wl_val (r_loadB1 ti3.und rfl rfl (hS7.heap Z0) (ask_act hac)) rfl<|zC fn71 rfl (containsI_ok r.acs r.aa r.acs.length r.ak q.act _ (h2.st hS7) rfl hk.an) ?_
        rintro _ w8 (⟨hc2, rfl, hx9⟩ | ⟨hc2, rfl, hx9⟩)
        · have hS10 := hS7.ext hx9
          refine zq 2 rfl<|zN<|zT<|zf rfl<|zK<|zT<|zS<|zS<|zR<|zF fa50_3 rfl ti36.und rfl (hS10.heap Z1) rfl rfl rfl<|zV (r_len (T := 36) rfl ti36.und rfl _ rfl) ?_
          refine wl_dec (r_gtr rfl rfl) rfl (fun h5_3 => ?_) (fun h5_3 => ?_)
          · refine zq 1 rfl<|wl_val (r_field fa50_3 rfl) rfl<|wl_val (r_loadB1 ti36.und rfl rfl (hS10.heap Z1) rfl) rfl<|wl_val (r_makeFunc (vs := [pt b3 0]) rfl) rfl<|zC fn53 rfl (containsFuncS_ok r.las r.la r.las.length r.lc 72 [pt b3 0] (fun s => (decide (¬ q.lab = []) || decide (s = [42])) && fitsE s q.lab) _ (h3.st hS10) rfl hk.ln fn72 (fun x w' hx h => rmeets2_ok x q b3 w' ((at_all (hS10.heap Z0)).st h) hac (hk.ll x hx) hq.ll)) ?_
            rintro _ w11 (⟨hc3, rfl, hx12⟩ | ⟨hc3, rfl, hx12⟩)
            · have hS13 := hS10.ext hx12
              rw [any_pat (ruleE_fr he).2] at hc3
              refine zq 2 rfl<|zN<|zT<|zf rfl<|zK<|zT<|zS<|zR<|zV (r_field fa40_5 rfl)<|zV (r_loadB1 ti3.und rfl rfl (hS13.heap Z0) (ask_tmN hac hkey ht0))<|zV (r_remn (b := 86400) rfl rfl Om)<|zV (r_quon (b := 3600) rfl rfl Om Om)<|zq 1 rfl<|zN<|zT<|zS<|zI<|zS<|zR<|zF fa50_4 rfl ti3.und rfl (hS13.heap Z1) rfl rfl rfl ?_
              refine wl_dec (r_eql rfl rfl) rfl (fun h8_2 => ?_) (fun h8_2 => ?_)
              · refine zq 1 rfl<|wl_val (r_field fa50_5 rfl) rfl<|wl_val (r_loadB1 ti3.und rfl rfl (hS13.heap Z1) rfl) rfl ?_
                refine wl_dec (r_eql rfl rfl) rfl (fun h8_6 => ?_) (fun h8_6 => ?_)
                · refine zq 2 rfl<|zN<|zT<|zt rfl<|zS<|zR<|zq 1 rfl<|zN<|zT<|zU<|zH<|zL<|ret1 Tryz.results39 ?_
                  first | exact ⟨congrArg Value.bool (meet_n1 Om hc1).symm, hS13.fin⟩ | exact ⟨congrArg Value.bool (meet_n2 Om hc2).symm, hS13.fin⟩ | exact ⟨congrArg Value.bool (meet_n3 Om hc3).symm, hS13.fin⟩ | skip
                  all_goals (refine ⟨congrArg Value.bool ?_, hS13.fin⟩; rw [(meet_y (by first | exact .inl Om | exact .inr hc1) (by first | exact .inl Om | exact .inr hc2) (by first | exact .inl Om | exact .inr hc3) (h := ((q.tm.toNat % 86400 / 3600 : Nat) : Int)) Om), ← hour_eq he])
                  all_goals first | (rw [if_pos Om]; done) | (rw [if_neg Om, if_pos h10_4]; (first | exact (decide_eq_true Om).symm | exact (decide_eq_false Om).symm)) | (rw [if_neg Om, if_neg h10_4]; (first | exact (decide_eq_true Om).symm | exact (decide_eq_false Om).symm))
                refine zq 2 rfl<|zN<|zT<|zf rfl<|zS<|zR<|zF fa50_4 rfl ti3.und rfl (hS13.heap Z1) rfl rfl rfl<|zF fa50_5 rfl ti3.und rfl (hS13.heap Z1) rfl rfl rfl ?_
                refine wl_dec (r_lss rfl rfl) rfl (fun h10_4 => ?_) (fun h10_4 => ?_)
                · refine zq 1 rfl<|zN<|zT<|zt rfl<|zS<|zR<|zF fa50_4 rfl ti3.und rfl (hS13.heap Z1) rfl rfl rfl<|zq 1 rfl ?_
                  refine wl_dec (r_leq rfl rfl) rfl (fun h11_3 => ?_) (fun h11_3 => ?_)
                  · refine zq 2 rfl<|wl_val (r_field fa50_5 rfl) rfl<|wl_val (r_loadB1 ti3.und rfl rfl (hS13.heap Z1) rfl) rfl ?_
                    refine wl_dec (r_lss rfl rfl) rfl (fun h11_8 => ?_) (fun h11_8 => ?_)
                    · refine zq 2 rfl<|zN<|zT<|zU<|zH<|zL<|ret1 Tryz.results39 ?_
                      first | exact ⟨congrArg Value.bool (meet_n1 Om hc1).symm, hS13.fin⟩ | exact ⟨congrArg Value.bool (meet_n2 Om hc2).symm, hS13.fin⟩ | exact ⟨congrArg Value.bool (meet_n3 Om hc3).symm, hS13.fin⟩ | skip
                      all_goals (refine ⟨congrArg Value.bool ?_, hS13.fin⟩; rw [(meet_y (by first | exact .inl Om | exact .inr hc1) (by first | exact .inl Om | exact .inr hc2) (by first | exact .inl Om | exact .inr hc3) (h := ((q.tm.toNat % 86400 / 3600 : Nat) : Int)) Om), ← hour_eq he])
                      all_goals first | (rw [if_pos Om]; done) | (rw [if_neg Om, if_pos h10_4]; (first | exact (decide_eq_true Om).symm | exact (decide_eq_false Om).symm)) | (rw [if_neg Om, if_neg h10_4]; (first | exact (decide_eq_true Om).symm | exact (decide_eq_false Om).symm))
                    refine zq 2 rfl<|zN<|zT<|zU<|zH<|zL<|ret1 Tryz.results39 ?_
                    first | exact ⟨congrArg Value.bool (meet_n1 Om hc1).symm, hS13.fin⟩ | exact ⟨congrArg Value.bool (meet_n2 Om hc2).symm, hS13.fin⟩ | exact ⟨congrArg Value.bool (meet_n3 Om hc3).symm, hS13.fin⟩ | skip
                    all_goals (refine ⟨congrArg Value.bool ?_, hS13.fin⟩; rw [(meet_y (by first | exact .inl Om | exact .inr hc1) (by first | exact .inl Om | exact .inr hc2) (by first | exact .inl Om | exact .inr hc3) (h := ((q.tm.toNat % 86400 / 3600 : Nat) : Int)) Om), ← hour_eq he])
                    all_goals first | (rw [if_pos Om]; done) | (rw [if_neg Om, if_pos h10_4]; (first | exact (decide_eq_true Om).symm | exact (decide_eq_false Om).symm)) | (rw [if_neg Om, if_neg h10_4]; (first | exact (decide_eq_true Om).symm | exact (decide_eq_false Om).symm))
                  refine zq 7 rfl<|zN<|zT<|zU<|zH<|zL<|ret1 Tryz.results39 ?_
                  first | exact ⟨congrArg Value.bool (meet_n1 Om hc1).symm, hS13.fin⟩ | exact ⟨congrArg Value.bool (meet_n2 Om hc2).symm, hS13.fin⟩ | exact ⟨congrArg Value.bool (meet_n3 Om hc3).symm, hS13.fin⟩ | skip
                  all_goals (refine ⟨congrArg Value.bool ?_, hS13.fin⟩; rw [(meet_y (by first | exact .inl Om | exact .inr hc1) (by first | exact .inl Om | exact .inr hc2) (by first | exact .inl Om | exact .inr hc3) (h := ((q.tm.toNat % 86400 / 3600 : Nat) : Int)) Om), ← hour_eq he])
                  all_goals first | (rw [if_pos Om]; done) | (rw [if_neg Om, if_pos h10_4]; (first | exact (decide_eq_true Om).symm | exact (decide_eq_false Om).symm)) | (rw [if_neg Om, if_neg h10_4]; (first | exact (decide_eq_true Om).symm | exact (decide_eq_false Om).symm))
                refine zq 1 rfl<|zN<|zT<|zf rfl<|zK<|zJ<|zT<|zS<|zR<|zq 1 rfl<|zF fa50_4 rfl ti3.und rfl (hS13.heap Z1) rfl rfl rfl ?_
                refine wl_dec (r_geq rfl rfl) rfl (fun h12_3 => ?_) (fun h12_3 => ?_)
                · refine zq 7 rfl<|zN<|zT<|zU<|ret1 Tryz.results39 ?_
                  first | exact ⟨congrArg Value.bool (meet_n1 Om hc1).symm, hS13.fin⟩ | exact ⟨congrArg Value.bool (meet_n2 Om hc2).symm, hS13.fin⟩ | exact ⟨congrArg Value.bool (meet_n3 Om hc3).symm, hS13.fin⟩ | skip
                  all_goals (refine ⟨congrArg Value.bool ?_, hS13.fin⟩; rw [(meet_y (by first | exact .inl Om | exact .inr hc1) (by first | exact .inl Om | exact .inr hc2) (by first | exact .inl Om | exact .inr hc3) (h := ((q.tm.toNat % 86400 / 3600 : Nat) : Int)) Om), ← hour_eq he])
                  all_goals first | (rw [if_pos Om]; done) | (rw [if_neg Om, if_pos h10_4]; (first | exact (decide_eq_true Om).symm | exact (decide_eq_false Om).symm)) | (rw [if_neg Om, if_neg h10_4]; (first | exact (decide_eq_true Om).symm | exact (decide_eq_false Om).symm))
                refine zq 2 rfl<|wl_val (r_field fa50_5 rfl) rfl<|wl_val (r_loadB1 ti3.und rfl rfl (hS13.heap Z1) rfl) rfl ?_
                refine wl_dec (r_lss rfl rfl) rfl (fun h12_8 => ?_) (fun h12_8 => ?_)
                · refine zq 2 rfl<|zN<|zT<|zU<|ret1 Tryz.results39 ?_
                  first | exact ⟨congrArg Value.bool (meet_n1 Om hc1).symm, hS13.fin⟩ | exact ⟨congrArg Value.bool (meet_n2 Om hc2).symm, hS13.fin⟩ | exact ⟨congrArg Value.bool (meet_n3 Om hc3).symm, hS13.fin⟩ | skip
                  all_goals (refine ⟨congrArg Value.bool ?_, hS13.fin⟩; rw [(meet_y (by first | exact .inl Om | exact .inr hc1) (by first | exact .inl Om | exact .inr hc2) (by first | exact .inl Om | exact .inr hc3) (h := ((q.tm.toNat % 86400 / 3600 : Nat) : Int)) Om), ← hour_eq he])
                  all_goals first | (rw [if_pos Om]; done) | (rw [if_neg Om, if_pos h10_4]; (first | exact (decide_eq_true Om).symm | exact (decide_eq_false Om).symm)) | (rw [if_neg Om, if_neg h10_4]; (first | exact (decide_eq_true Om).symm | exact (decide_eq_false Om).symm))
                refine zq 2 rfl<|zN<|zT<|zU<|ret1 Tryz.results39 ?_
                first | exact ⟨congrArg Value.bool (meet_n1 Om hc1).symm, hS13.fin⟩ | exact ⟨congrArg Value.bool (meet_n2 Om hc2).symm, hS13.fin⟩ | exact ⟨congrArg Value.bool (meet_n3 Om hc3).symm, hS13.fin⟩ | skip
                all_goals (refine ⟨congrArg Value.bool ?_, hS13.fin⟩; rw [(meet_y (by first | exact .inl Om | exact .inr hc1) (by first | exact .inl Om | exact .inr hc2) (by first | exact .inl Om | exact .inr hc3) (h := ((q.tm.toNat % 86400 / 3600 : Nat) : Int)) Om), ← hour_eq he])
                all_goals first | (rw [if_pos Om]; done) | (rw [if_neg Om, if_pos h10_4]; (first | exact (decide_eq_true Om).symm | exact (decide_eq_false Om).symm)) | (rw [if_neg Om, if_neg h10_4]; (first | exact (decide_eq_true Om).symm | exact (decide_eq_false Om).symm))
              refine zq 6 rfl<|zN<|zT<|zf rfl<|zS<|zR<|zF fa50_4 rfl ti3.und rfl (hS13.heap Z1) rfl rfl rfl<|zF fa50_5 rfl ti3.und rfl (hS13.heap Z1) rfl rfl rfl ?_
              refine wl_dec (r_lss rfl rfl) rfl (fun h10_4 => ?_) (fun h10_4 => ?_)
              · refine zq 1 rfl<|zN<|zT<|zt rfl<|zS<|zR<|zF fa50_4 rfl ti3.und rfl (hS13.heap Z1) rfl rfl rfl<|zq 1 rfl ?_
                refine wl_dec (r_leq rfl rfl) rfl (fun h11_3 => ?_) (fun h11_3 => ?_)
                · refine zq 2 rfl<|wl_val (r_field fa50_5 rfl) rfl<|wl_val (r_loadB1 ti3.und rfl rfl (hS13.heap Z1) rfl) rfl ?_
                  refine wl_dec (r_lss rfl rfl) rfl (fun h11_8 => ?_) (fun h11_8 => ?_)
                  · refine zq 2 rfl<|zN<|zT<|zU<|zH<|zL<|ret1 Tryz.results39 ?_
                    first | exact ⟨congrArg Value.bool (meet_n1 Om hc1).symm, hS13.fin⟩ | exact ⟨congrArg Value.bool (meet_n2 Om hc2).symm, hS13.fin⟩ | exact ⟨congrArg Value.bool (meet_n3 Om hc3).symm, hS13.fin⟩ | skip
                    all_goals (refine ⟨congrArg Value.bool ?_, hS13.fin⟩; rw [(meet_y (by first | exact .inl Om | exact .inr hc1) (by first | exact .inl Om | exact .inr hc2) (by first | exact .inl Om | exact .inr hc3) (h := ((q.tm.toNat % 86400 / 3600 : Nat) : Int)) Om), ← hour_eq he])
                    all_goals first | (rw [if_pos Om]; done) | (rw [if_neg Om, if_pos h10_4]; (first | exact (decide_eq_true Om).symm | exact (decide_eq_false Om).symm)) | (rw [if_neg Om, if_neg h10_4]; (first | exact (decide_eq_true Om).symm | exact (decide_eq_false Om).symm))
                  refine zq 2 rfl<|zN<|zT<|zU<|zH<|zL<|ret1 Tryz.results39 ?_
                  first | exact ⟨congrArg Value.bool (meet_n1 Om hc1).symm, hS13.fin⟩ | exact ⟨congrArg Value.bool (meet_n2 Om hc2).symm, hS13.fin⟩ | exact ⟨congrArg Value.bool (meet_n3 Om hc3).symm, hS13.fin⟩ | skip
                  all_goals (refine ⟨congrArg Value.bool ?_, hS13.fin⟩; rw [(meet_y (by first | exact .inl Om | exact .inr hc1) (by first | exact .inl Om | exact .inr hc2) (by first | exact .inl Om | exact .inr hc3) (h := ((q.tm.toNat % 86400 / 3600 : Nat) : Int)) Om), ← hour_eq he])
                  all_goals first | (rw [if_pos Om]; done) | (rw [if_neg Om, if_pos h10_4]; (first | exact (decide_eq_true Om).symm | exact (decide_eq_false Om).symm)) | (rw [if_neg Om, if_neg h10_4]; (first | exact (decide_eq_true Om).symm | exact (decide_eq_false Om).symm))
                refine zq 7 rfl<|zN<|zT<|zU<|zH<|zL<|ret1 Tryz.results39 ?_
                first | exact ⟨congrArg Value.bool (meet_n1 Om hc1).symm, hS13.fin⟩ | exact ⟨congrArg Value.bool (meet_n2 Om hc2).symm, hS13.fin⟩ | exact ⟨congrArg Value.bool (meet_n3 Om hc3).symm, hS13.fin⟩ | skip
                all_goals (refine ⟨congrArg Value.bool ?_, hS13.fin⟩; rw [(meet_y (by first | exact .inl Om | exact .inr hc1) (by first | exact .inl Om | exact .inr hc2) (by first | exact .inl Om | exact .inr hc3) (h := ((q.tm.toNat % 86400 / 3600 : Nat) : Int)) Om), ← hour_eq he])
                all_goals first | (rw [if_pos Om]; done) | (rw [if_neg Om, if_pos h10_4]; (first | exact (decide_eq_true Om).symm | exact (decide_eq_false Om).symm)) | (rw [if_neg Om, if_neg h10_4]; (first | exact (decide_eq_true Om).symm | exact (decide_eq_false Om).symm))
              refine zq 1 rfl<|zN<|zT<|zf rfl<|zK<|zJ<|zT<|zS<|zR<|zq 1 rfl<|zF fa50_4 rfl ti3.und rfl (hS13.heap Z1) rfl rfl rfl ?_
              refine wl_dec (r_geq rfl rfl) rfl (fun h12_3 => ?_) (fun h12_3 => ?_)
              · refine zq 7 rfl<|zN<|zT<|zU<|ret1 Tryz.results39 ?_
                first | exact ⟨congrArg Value.bool (meet_n1 Om hc1).symm, hS13.fin⟩ | exact ⟨congrArg Value.bool (meet_n2 Om hc2).symm, hS13.fin⟩ | exact ⟨congrArg Value.bool (meet_n3 Om hc3).symm, hS13.fin⟩ | skip
                all_goals (refine ⟨congrArg Value.bool ?_, hS13.fin⟩; rw [(meet_y (by first | exact .inl Om | exact .inr hc1) (by first | exact .inl Om | exact .inr hc2) (by first | exact .inl Om | exact .inr hc3) (h := ((q.tm.toNat % 86400 / 3600 : Nat) : Int)) Om), ← hour_eq he])
                all_goals first | (rw [if_pos Om]; done) | (rw [if_neg Om, if_pos h10_4]; (first | exact (decide_eq_true Om).symm | exact (decide_eq_false Om).symm)) | (rw [if_neg Om, if_neg h10_4]; (first | exact (decide_eq_true Om).symm | exact (decide_eq_false Om).symm))
              refine zq 2 rfl<|wl_val (r_field fa50_5 rfl) rfl<|wl_val (r_loadB1 ti3.und rfl rfl (hS13.heap Z1) rfl) rfl ?_
              refine wl_dec (r_lss rfl rfl) rfl (fun h12_8 => ?_) (fun h12_8 => ?_)
              · refine zq 2 rfl<|zN<|zT<|zU<|ret1 Tryz.results39 ?_
                first | exact ⟨congrArg Value.bool (meet_n1 Om hc1).symm, hS13.fin⟩ | exact ⟨congrArg Value.bool (meet_n2 Om hc2).symm, hS13.fin⟩ | exact ⟨congrArg Value.bool (meet_n3 Om hc3).symm, hS13.fin⟩ | skip
                all_goals (refine ⟨congrArg Value.bool ?_, hS13.fin⟩; rw [(meet_y (by first | exact .inl Om | exact .inr hc1) (by first | exact .inl Om | exact .inr hc2) (by first | exact .inl Om | exact .inr hc3) (h := ((q.tm.toNat % 86400 / 3600 : Nat) : Int)) Om), ← hour_eq he])
                all_goals first | (rw [if_pos Om]; done) | (rw [if_neg Om, if_pos h10_4]; (first | exact (decide_eq_true Om).symm | exact (decide_eq_false Om).symm)) | (rw [if_neg Om, if_neg h10_4]; (first | exact (decide_eq_true Om).symm | exact (decide_eq_false Om).symm))
              refine zq 2 rfl<|zN<|zT<|zU<|ret1 Tryz.results39 ?_
              first | exact ⟨congrArg Value.bool (meet_n1 Om hc1).symm, hS13.fin⟩ | exact ⟨congrArg Value.bool (meet_n2 Om hc2).symm, hS13.fin⟩ | exact ⟨congrArg Value.bool (meet_n3 Om hc3).symm, hS13.fin⟩ | skip
              all_goals (refine ⟨congrArg Value.bool ?_, hS13.fin⟩; rw [(meet_y (by first | exact .inl Om | exact .inr hc1) (by first | exact .inl Om | exact .inr hc2) (by first | exact .inl Om | exact .inr hc3) (h := ((q.tm.toNat % 86400 / 3600 : Nat) : Int)) Om), ← hour_eq he])
              all_goals first | (rw [if_pos Om]; done) | (rw [if_neg Om, if_pos h10_4]; (first | exact (decide_eq_true Om).symm | exact (decide_eq_false Om).symm)) | (rw [if_neg Om, if_neg h10_4]; (first | exact (decide_eq_true Om).symm | exact (decide_eq_false Om).symm))
            have hS13 := hS10.ext hx12
            rw [any_pat (ruleE_fr he).2] at hc3
            refine zq 2 rfl<|zN<|zT<|zt rfl<|zS<|zR<|zq 1 rfl<|zN<|zT<|zU<|zL<|ret1 Tryz.results39 ?_
            first | exact ⟨congrArg Value.bool (meet_n1 Om hc1).symm, hS13.fin⟩ | exact ⟨congrArg Value.bool (meet_n2 Om hc2).symm, hS13.fin⟩ | exact ⟨congrArg Value.bool (meet_n3 Om hc3).symm, hS13.fin⟩ | skip
            all_goals (refine ⟨congrArg Value.bool ?_, hS13.fin⟩; rw [(meet_y (by first | exact .inl Om | exact .inr hc1) (by first | exact .inl Om | exact .inr hc2) (by first | exact .inl Om | exact .inr hc3) (h := ((q.tm.toNat % 86400 / 3600 : Nat) : Int)) Om), ← hour_eq he])
            all_goals first | (rw [if_pos Om]; done) | (rw [if_neg Om, if_pos h10_4]; (first | exact (decide_eq_true Om).symm | exact (decide_eq_false Om).symm)) | (rw [if_neg Om, if_neg h10_4]; (first | exact (decide_eq_true Om).symm | exact (decide_eq_false Om).symm))
          refine zq 7 rfl<|zN<|zT<|zf rfl<|zK<|zT<|zS<|zR<|zV (r_field fa40_5 rfl)<|zV (r_loadB1 ti3.und rfl rfl (hS10.heap Z0) (ask_tmN hac hkey ht0))<|zV (r_remn (b := 86400) rfl rfl Om)<|zV (r_quon (b := 3600) rfl rfl Om Om)<|zq 1 rfl<|zN<|zT<|zS<|zI<|zS<|zR<|zF fa50_4 rfl ti3.und rfl (hS10.heap Z1) rfl rfl rfl ?_
          refine wl_dec (r_eql rfl rfl) rfl (fun h8_2 => ?_) (fun h8_2 => ?_)
          · refine zq 1 rfl<|wl_val (r_field fa50_5 rfl) rfl<|wl_val (r_loadB1 ti3.und rfl rfl (hS10.heap Z1) rfl) rfl ?_
            refine wl_dec (r_eql rfl rfl) rfl (fun h8_6 => ?_) (fun h8_6 => ?_)
            · refine zq 2 rfl<|zN<|zT<|zt rfl<|zS<|zR<|zq 1 rfl<|zN<|zT<|zU<|zH<|zL<|ret1 Tryz.results39 ?_
              first | exact ⟨congrArg Value.bool (meet_n1 Om hc1).symm, hS10.fin⟩ | exact ⟨congrArg Value.bool (meet_n2 Om hc2).symm, hS10.fin⟩ | exact ⟨congrArg Value.bool (meet_n3 Om hc3).symm, hS10.fin⟩ | skip
              all_goals (refine ⟨congrArg Value.bool ?_, hS10.fin⟩; rw [(meet_y (by first | exact .inl Om | exact .inr hc1) (by first | exact .inl Om | exact .inr hc2) (by first | exact .inl Om | exact .inr hc3) (h := ((q.tm.toNat % 86400 / 3600 : Nat) : Int)) Om), ← hour_eq he])
              all_goals first | (rw [if_pos Om]; done) | (rw [if_neg Om, if_pos h10_4]; (first | exact (decide_eq_true Om).symm | exact (decide_eq_false Om).symm)) | (rw [if_neg Om, if_neg h10_4]; (first | exact (decide_eq_true Om).symm | exact (decide_eq_false Om).symm))
            refine zq 2 rfl<|zN<|zT<|zf rfl<|zS<|zR<|zF fa50_4 rfl ti3.und rfl (hS10.heap Z1) rfl rfl rfl<|zF fa50_5 rfl ti3.und rfl (hS10.heap Z1) rfl rfl rfl ?_
            refine wl_dec (r_lss rfl rfl) rfl (fun h10_4 => ?_) (fun h10_4 => ?_)
            · refine zq 1 rfl<|zN<|zT<|zt rfl<|zS<|zR<|zF fa50_4 rfl ti3.und rfl (hS10.heap Z1) rfl rfl rfl<|zq 1 rfl ?_
              refine wl_dec (r_leq rfl rfl) rfl (fun h11_3 => ?_) (fun h11_3 => ?_)
              · refine zq 2 rfl<|wl_val (r_field fa50_5 rfl) rfl<|wl_val (r_loadB1 ti3.und rfl rfl (hS10.heap Z1) rfl) rfl ?_
                refine wl_dec (r_lss rfl rfl) rfl (fun h11_8 => ?_) (fun h11_8 => ?_)
                · refine zq 2 rfl<|zN<|zT<|zU<|zH<|zL<|ret1 Tryz.results39 ?_
                  first | exact ⟨congrArg Value.bool (meet_n1 Om hc1).symm, hS10.fin⟩ | exact ⟨congrArg Value.bool (meet_n2 Om hc2).symm, hS10.fin⟩ | exact ⟨congrArg Value.bool (meet_n3 Om hc3).symm, hS10.fin⟩ | skip
                  all_goals (refine ⟨congrArg Value.bool ?_, hS10.fin⟩; rw [(meet_y (by first | exact .inl Om | exact .inr hc1) (by first | exact .inl Om | exact .inr hc2) (by first | exact .inl Om | exact .inr hc3) (h := ((q.tm.toNat % 86400 / 3600 : Nat) : Int)) Om), ← hour_eq he])
                  all_goals first | (rw [if_pos Om]; done) | (rw [if_neg Om, if_pos h10_4]; (first | exact (decide_eq_true Om).symm | exact (decide_eq_false Om).symm)) | (rw [if_neg Om, if_neg h10_4]; (first | exact (decide_eq_true Om).symm | exact (decide_eq_false Om).symm))
                refine zq 2 rfl<|zN<|zT<|zU<|zH<|zL<|ret1 Tryz.results39 ?_
                first | exact ⟨congrArg Value.bool (meet_n1 Om hc1).symm, hS10.fin⟩ | exact ⟨congrArg Value.bool (meet_n2 Om hc2).symm, hS10.fin⟩ | exact ⟨congrArg Value.bool (meet_n3 Om hc3).symm, hS10.fin⟩ | skip
                all_goals (refine ⟨congrArg Value.bool ?_, hS10.fin⟩; rw [(meet_y (by first | exact .inl Om | exact .inr hc1) (by first | exact .inl Om | exact .inr hc2) (by first | exact .inl Om | exact .inr hc3) (h := ((q.tm.toNat % 86400 / 3600 : Nat) : Int)) Om), ← hour_eq he])
                all_goals first | (rw [if_pos Om]; done) | (rw [if_neg Om, if_pos h10_4]; (first | exact (decide_eq_true Om).symm | exact (decide_eq_false Om).symm)) | (rw [if_neg Om, if_neg h10_4]; (first | exact (decide_eq_true Om).symm | exact (decide_eq_false Om).symm))
              refine zq 7 rfl<|zN<|zT<|zU<|zH<|zL<|ret1 Tryz.results39 ?_
              first | exact ⟨congrArg Value.bool (meet_n1 Om hc1).symm, hS10.fin⟩ | exact ⟨congrArg Value.bool (meet_n2 Om hc2).symm, hS10.fin⟩ | exact ⟨congrArg Value.bool (meet_n3 Om hc3).symm, hS10.fin⟩ | skip
              all_goals (refine ⟨congrArg Value.bool ?_, hS10.fin⟩; rw [(meet_y (by first | exact .inl Om | exact .inr hc1) (by first | exact .inl Om | exact .inr hc2) (by first | exact .inl Om | exact .inr hc3) (h := ((q.tm.toNat % 86400 / 3600 : Nat) : Int)) Om), ← hour_eq he])
              all_goals first | (rw [if_pos Om]; done) | (rw [if_neg Om, if_pos h10_4]; (first | exact (decide_eq_true Om).symm | exact (decide_eq_false Om).symm)) | (rw [if_neg Om, if_neg h10_4]; (first | exact (decide_eq_true Om).symm | exact (decide_eq_false Om).symm))
            refine zq 1 rfl<|zN<|zT<|zf rfl<|zK<|zJ<|zT<|zS<|zR<|zq 1 rfl<|zF fa50_4 rfl ti3.und rfl (hS10.heap Z1) rfl rfl rfl ?_
            refine wl_dec (r_geq rfl rfl) rfl (fun h12_3 => ?_) (fun h12_3 => ?_)
            · refine zq 7 rfl<|zN<|zT<|zU<|ret1 Tryz.results39 ?_
              first | exact ⟨congrArg Value.bool (meet_n1 Om hc1).symm, hS10.fin⟩ | exact ⟨congrArg Value.bool (meet_n2 Om hc2).symm, hS10.fin⟩ | exact ⟨congrArg Value.bool (meet_n3 Om hc3).symm, hS10.fin⟩ | skip
              all_goals (refine ⟨congrArg Value.bool ?_, hS10.fin⟩; rw [(meet_y (by first | exact .inl Om | exact .inr hc1) (by first | exact .inl Om | exact .inr hc2) (by first | exact .inl Om | exact .inr hc3) (h := ((q.tm.toNat % 86400 / 3600 : Nat) : Int)) Om), ← hour_eq he])
              all_goals first | (rw [if_pos Om]; done) | (rw [if_neg Om, if_pos h10_4]; (first | exact (decide_eq_true Om).symm | exact (decide_eq_false Om).symm)) | (rw [if_neg Om, if_neg h10_4]; (first | exact (decide_eq_true Om).symm | exact (decide_eq_false Om).symm))
            refine zq 2 rfl<|wl_val (r_field fa50_5 rfl) rfl<|wl_val (r_loadB1 ti3.und rfl rfl (hS10.heap Z1) rfl) rfl ?_
            refine wl_dec (r_lss rfl rfl) rfl (fun h12_8 => ?_) (fun h12_8 => ?_)
            · refine zq 2 rfl<|zN<|zT<|zU<|ret1 Tryz.results39 ?_
              first | exact ⟨congrArg Value.bool (meet_n1 Om hc1).symm, hS10.fin⟩ | exact ⟨congrArg Value.bool (meet_n2 Om hc2).symm, hS10.fin⟩ | exact ⟨congrArg Value.bool (meet_n3 Om hc3).symm, hS10.fin⟩ | skip
              all_goals (refine ⟨congrArg Value.bool ?_, hS10.fin⟩; rw [(meet_y (by first | exact .inl Om | exact .inr hc1) (by first | exact .inl Om | exact .inr hc2) (by first | exact .inl Om | exact .inr hc3) (h := ((q.tm.toNat % 86400 / 3600 : Nat) : Int)) Om), ← hour_eq he])
              all_goals first | (rw [if_pos Om]; done) | (rw [if_neg Om, if_pos h10_4]; (first | exact (decide_eq_true Om).symm | exact (decide_eq_false Om).symm)) | (rw [if_neg Om, if_neg h10_4]; (first | exact (decide_eq_true Om).symm | exact (decide_eq_false Om).symm))
            refine zq 2 rfl<|zN<|zT<|zU<|ret1 Tryz.results39 ?_
            first | exact ⟨congrArg Value.bool (meet_n1 Om hc1).symm, hS10.fin⟩ | exact ⟨congrArg Value.bool (meet_n2 Om hc2).symm, hS10.fin⟩ | exact ⟨congrArg Value.bool (meet_n3 Om hc3).symm, hS10.fin⟩ | skip
            all_goals (refine ⟨congrArg Value.bool ?_, hS10.fin⟩; rw [(meet_y (by first | exact .inl Om | exact .inr hc1) (by first | exact .inl Om | exact .inr hc2) (by first | exact .inl Om | exact .inr hc3) (h := ((q.tm.toNat % 86400 / 3600 : Nat) : Int)) Om), ← hour_eq he])
            all_goals first | (rw [if_pos Om]; done) | (rw [if_neg Om, if_pos h10_4]; (first | exact (decide_eq_true Om).symm | exact (decide_eq_false Om).symm)) | (rw [if_neg Om, if_neg h10_4]; (first | exact (decide_eq_true Om).symm | exact (decide_eq_false Om).symm))
          refine zq 6 rfl<|zN<|zT<|zf rfl<|zS<|zR<|zF fa50_4 rfl ti3.und rfl (hS10.heap Z1) rfl rfl rfl<|zF fa50_5 rfl ti3.und rfl (hS10.heap Z1) rfl rfl rfl ?_
          refine wl_dec (r_lss rfl rfl) rfl (fun h10_4 => ?_) (fun h10_4 => ?_)
          · refine zq 1 rfl<|zN<|zT<|zt rfl<|zS<|zR<|zF fa50_4 rfl ti3.und rfl (hS10.heap Z1) rfl rfl rfl<|zq 1 rfl ?_
            refine wl_dec (r_leq rfl rfl) rfl (fun h11_3 => ?_) (fun h11_3 => ?_)
            · refine zq 2 rfl<|wl_val (r_field fa50_5 rfl) rfl<|wl_val (r_loadB1 ti3.und rfl rfl (hS10.heap Z1) rfl) rfl ?_
              refine wl_dec (r_lss rfl rfl) rfl (fun h11_8 => ?_) (fun h11_8 => ?_)
              · refine zq 2 rfl<|zN<|zT<|zU<|zH<|zL<|ret1 Tryz.results39 ?_
                first | exact ⟨congrArg Value.bool (meet_n1 Om hc1).symm, hS10.fin⟩ | exact ⟨congrArg Value.bool (meet_n2 Om hc2).symm, hS10.fin⟩ | exact ⟨congrArg Value.bool (meet_n3 Om hc3).symm, hS10.fin⟩ | skip
                all_goals (refine ⟨congrArg Value.bool ?_, hS10.fin⟩; rw [(meet_y (by first | exact .inl Om | exact .inr hc1) (by first | exact .inl Om | exact .inr hc2) (by first | exact .inl Om | exact .inr hc3) (h := ((q.tm.toNat % 86400 / 3600 : Nat) : Int)) Om), ← hour_eq he])
                all_goals first | (rw [if_pos Om]; done) | (rw [if_neg Om, if_pos h10_4]; (first | exact (decide_eq_true Om).symm | exact (decide_eq_false Om).symm)) | (rw [if_neg Om, if_neg h10_4]; (first | exact (decide_eq_true Om).symm | exact (decide_eq_false Om).symm))
              refine zq 2 rfl<|zN<|zT<|zU<|zH<|zL<|ret1 Tryz.results39 ?_
              first | exact ⟨congrArg Value.bool (meet_n1 Om hc1).symm, hS10.fin⟩ | exact ⟨congrArg Value.bool (meet_n2 Om hc2).symm, hS10.fin⟩ | exact ⟨congrArg Value.bool (meet_n3 Om hc3).symm, hS10.fin⟩ | skip
              all_goals (refine ⟨congrArg Value.bool ?_, hS10.fin⟩; rw [(meet_y (by first | exact .inl Om | exact .inr hc1) (by first | exact .inl Om | exact .inr hc2) (by first | exact .inl Om | exact .inr hc3) (h := ((q.tm.toNat % 86400 / 3600 : Nat) : Int)) Om), ← hour_eq he])
              all_goals first | (rw [if_pos Om]; done) | (rw [if_neg Om, if_pos h10_4]; (first | exact (decide_eq_true Om).symm | exact (decide_eq_false Om).symm)) | (rw [if_neg Om, if_neg h10_4]; (first | exact (decide_eq_true Om).symm | exact (decide_eq_false Om).symm))
            refine zq 7 rfl<|zN<|zT<|zU<|zH<|zL<|ret1 Tryz.results39 ?_
            first | exact ⟨congrArg Value.bool (meet_n1 Om hc1).symm, hS10.fin⟩ | exact ⟨congrArg Value.bool (meet_n2 Om hc2).symm, hS10.fin⟩ | exact ⟨congrArg Value.bool (meet_n3 Om hc3).symm, hS10.fin⟩ | skip
            all_goals (refine ⟨congrArg Value.bool ?_, hS10.fin⟩; rw [(meet_y (by first | exact .inl Om | exact .inr hc1) (by first | exact .inl Om | exact .inr hc2) (by first | exact .inl Om | exact .inr hc3) (h := ((q.tm.toNat % 86400 / 3600 : Nat) : Int)) Om), ← hour_eq he])
            all_goals first | (rw [if_pos Om]; done) | (rw [if_neg Om, if_pos h10_4]; (first | exact (decide_eq_true Om).symm | exact (decide_eq_false Om).symm)) | (rw [if_neg Om, if_neg h10_4]; (first | exact (decide_eq_true Om).symm | exact (decide_eq_false Om).symm))
          refine zq 1 rfl<|zN<|zT<|zf rfl<|zK<|zJ<|zT<|zS<|zR<|zq 1 rfl<|zF fa50_4 rfl ti3.und rfl (hS10.heap Z1) rfl rfl rfl ?_
          refine wl_dec (r_geq rfl rfl) rfl (fun h12_3 => ?_) (fun h12_3 => ?_)
          · refine zq 7 rfl<|zN<|zT<|zU<|ret1 Tryz.results39 ?_
            first | exact ⟨congrArg Value.bool (meet_n1 Om hc1).symm, hS10.fin⟩ | exact ⟨congrArg Value.bool (meet_n2 Om hc2).symm, hS10.fin⟩ | exact ⟨congrArg Value.bool (meet_n3 Om hc3).symm, hS10.fin⟩ | skip
            all_goals (refine ⟨congrArg Value.bool ?_, hS10.fin⟩; rw [(meet_y (by first | exact .inl Om | exact .inr hc1) (by first | exact .inl Om | exact .inr hc2) (by first | exact .inl Om | exact .inr hc3) (h := ((q.tm.toNat % 86400 / 3600 : Nat) : Int)) Om), ← hour_eq he])
            all_goals first | (rw [if_pos Om]; done) | (rw [if_neg Om, if_pos h10_4]; (first | exact (decide_eq_true Om).symm | exact (decide_eq_false Om).symm)) | (rw [if_neg Om, if_neg h10_4]; (first | exact (decide_eq_true Om).symm | exact (decide_eq_false Om).symm))
          refine zq 2 rfl<|wl_val (r_field fa50_5 rfl) rfl<|wl_val (r_loadB1 ti3.und rfl rfl (hS10.heap Z1) rfl) rfl ?_
          refine wl_dec (r_lss rfl rfl) rfl (fun h12_8 => ?_) (fun h12_8 => ?_)
          · refine zq 2 rfl<|zN<|zT<|zU<|ret1 Tryz.results39 ?_
            first | exact ⟨congrArg Value.bool (meet_n1 Om hc1).symm, hS10.fin⟩ | exact ⟨congrArg Value.bool (meet_n2 Om hc2).symm, hS10.fin⟩ | exact ⟨congrArg Value.bool (meet_n3 Om hc3).symm, hS10.fin⟩ | skip
            all_goals (refine ⟨congrArg Value.bool ?_, hS10.fin⟩; rw [(meet_y (by first | exact .inl Om | exact .inr hc1) (by first | exact .inl Om | exact .inr hc2) (by first | exact .inl Om | exact .inr hc3) (h := ((q.tm.toNat % 86400 / 3600 : Nat) : Int)) Om), ← hour_eq he])
            all_goals first | (rw [if_pos Om]; done) | (rw [if_neg Om, if_pos h10_4]; (first | exact (decide_eq_true Om).symm | exact (decide_eq_false Om).symm)) | (rw [if_neg Om, if_neg h10_4]; (first | exact (decide_eq_true Om).symm | exact (decide_eq_false Om).symm))
          refine zq 2 rfl<|zN<|zT<|zU<|ret1 Tryz.results39 ?_
          first | exact ⟨congrArg Value.bool (meet_n1 Om hc1).symm, hS10.fin⟩ | exact ⟨congrArg Value.bool (meet_n2 Om hc2).symm, hS10.fin⟩ | exact ⟨congrArg Value.bool (meet_n3 Om hc3).symm, hS10.fin⟩ | skip
          all_goals (refine ⟨congrArg Value.bool ?_, hS10.fin⟩; rw [(meet_y (by first | exact .inl Om | exact .inr hc1) (by first | exact .inl Om | exact .inr hc2) (by first | exact .inl Om | exact .inr hc3) (h := ((q.tm.toNat % 86400 / 3600 : Nat) : Int)) Om), ← hour_eq he])
          all_goals first | (rw [if_pos Om]; done) | (rw [if_neg Om, if_pos h10_4]; (first | exact (decide_eq_true Om).symm | exact (decide_eq_false Om).symm)) | (rw [if_neg Om, if_neg h10_4]; (first | exact (decide_eq_true Om).symm | exact (decide_eq_false Om).symm))
        have hS10 := hS7.ext hx9; refine zq 2 rfl<|zN<|zT<|zt rfl<|zS<|zR<|zq 1 rfl<|zN<|zT<|zU<|zL<|ret1 Tryz.results39 ?_
        first | exact ⟨congrArg Value.bool (meet_n1 Om hc1).symm, hS10.fin⟩ | exact ⟨congrArg Value.bool (meet_n2 Om hc2).symm, hS10.fin⟩ | exact ⟨congrArg Value.bool (meet_n3 Om hc3).symm, hS10.fin⟩ | skip
        all_goals (refine ⟨congrArg Value.bool ?_, hS10.fin⟩; rw [(meet_y (by first | exact .inl Om | exact .inr hc1) (by first | exact .inl Om | exact .inr hc2) (by first | exact .inl Om | exact .inr hc3) (h := ((q.tm.toNat % 86400 / 3600 : Nat) : Int)) Om), ← hour_eq he])
        all_goals first | (rw [if_pos Om]; done) | (rw [if_neg Om, if_pos h10_4]; (first | exact (decide_eq_true Om).symm | exact (decide_eq_false Om).symm)) | (rw [if_neg Om, if_neg h10_4]; (first | exact (decide_eq_true Om).symm | exact (decide_eq_false Om).symm))
      refine zq 8 rfl<|zN<|zT<|zf rfl<|zK<|zT<|zS<|zS<|zR<|zF fa50_3 rfl ti36.und rfl (hS7.heap Z1) rfl rfl rfl<|zV (r_len (T := 36) rfl ti36.und rfl _ rfl) ?_
      refine wl_dec (r_gtr rfl rfl) rfl (fun h5_3 => ?_) (fun h5_3 => ?_)
      · refine zq 1 rfl<|wl_val (r_field fa50_3 rfl) rfl<|wl_val (r_loadB1 ti36.und rfl rfl (hS7.heap Z1) rfl) rfl<|wl_val (r_makeFunc (vs := [pt b3 0]) rfl) rfl<|zC fn53 rfl (containsFuncS_ok r.las r.la r.las.length r.lc 72 [pt b3 0] (fun s => (decide (¬ q.lab = []) || decide (s = [42])) && fitsE s q.lab) _ (h3.st hS7) rfl hk.ln fn72 (fun x w' hx h => rmeets2_ok x q b3 w' ((at_all (hS7.heap Z0)).st h) hac (hk.ll x hx) hq.ll)) ?_
        rintro _ w14 (⟨hc3, rfl, hx15⟩ | ⟨hc3, rfl, hx15⟩)
        · have hS16 := hS7.ext hx15
          rw [any_pat (ruleE_fr he).2] at hc3
          refine zq 2 rfl<|zN<|zT<|zf rfl<|zK<|zT<|zS<|zR<|zV (r_field fa40_5 rfl)<|zV (r_loadB1 ti3.und rfl rfl (hS16.heap Z0) (ask_tmN hac hkey ht0))<|zV (r_remn (b := 86400) rfl rfl Om)<|zV (r_quon (b := 3600) rfl rfl Om Om)<|zq 1 rfl<|zN<|zT<|zS<|zI<|zS<|zR<|zF fa50_4 rfl ti3.und rfl (hS16.heap Z1) rfl rfl rfl ?_
          refine wl_dec (r_eql rfl rfl) rfl (fun h8_2 => ?_) (fun h8_2 => ?_)
          · refine zq 1 rfl<|wl_val (r_field fa50_5 rfl) rfl<|wl_val (r_loadB1 ti3.und rfl rfl (hS16.heap Z1) rfl) rfl ?_
            refine wl_dec (r_eql rfl rfl) rfl (fun h8_6 => ?_) (fun h8_6 => ?_)
            · refine zq 2 rfl<|zN<|zT<|zt rfl<|zS<|zR<|zq 1 rfl<|zN<|zT<|zU<|zH<|zL<|ret1 Tryz.results39 ?_
              first | exact ⟨congrArg Value.bool (meet_n1 Om hc1).symm, hS16.fin⟩ | exact ⟨congrArg Value.bool (meet_n2 Om hc2).symm, hS16.fin⟩ | exact ⟨congrArg Value.bool (meet_n3 Om hc3).symm, hS16.fin⟩ | skip
              all_goals (refine ⟨congrArg Value.bool ?_, hS16.fin⟩; rw [(meet_y (by first | exact .inl Om | exact .inr hc1) (by first | exact .inl Om | exact .inr hc2) (by first | exact .inl Om | exact .inr hc3) (h := ((q.tm.toNat % 86400 / 3600 : Nat) : Int)) Om), ← hour_eq he])
              all_goals first | (rw [if_pos Om]; done) | (rw [if_neg Om, if_pos h10_4]; (first | exact (decide_eq_true Om).symm | exact (decide_eq_false Om).symm)) | (rw [if_neg Om, if_neg h10_4]; (first | exact (decide_eq_true Om).symm | exact (decide_eq_false Om).symm))
            refine zq 2 rfl<|zN<|zT<|zf rfl<|zS<|zR<|zF fa50_4 rfl ti3.und rfl (hS16.heap Z1) rfl rfl rfl<|zF fa50_5 rfl ti3.und rfl (hS16.heap Z1) rfl rfl rfl ?_
            refine wl_dec (r_lss rfl rfl) rfl (fun h10_4 => ?_) (fun h10_4 => ?_)
            · refine zq 1 rfl<|zN<|zT<|zt rfl<|zS<|zR<|zF fa50_4 rfl ti3.und rfl (hS16.heap Z1) rfl rfl rfl<|zq 1 rfl ?_
              refine wl_dec (r_leq rfl rfl) rfl (fun h11_3 => ?_) (fun h11_3 => ?_)
              · refine zq 2 rfl<|wl_val (r_field fa50_5 rfl) rfl<|wl_val (r_loadB1 ti3.und rfl rfl (hS16.heap Z1) rfl) rfl ?_
                refine wl_dec (r_lss rfl rfl) rfl (fun h11_8 => ?_) (fun h11_8 => ?_)
                · refine zq 2 rfl<|zN<|zT<|zU<|zH<|zL<|ret1 Tryz.results39 ?_
                  first | exact ⟨congrArg Value.bool (meet_n1 Om hc1).symm, hS16.fin⟩ | exact ⟨congrArg Value.bool (meet_n2 Om hc2).symm, hS16.fin⟩ | exact ⟨congrArg Value.bool (meet_n3 Om hc3).symm, hS16.fin⟩ | skip
                  all_goals (refine ⟨congrArg Value.bool ?_, hS16.fin⟩; rw [(meet_y (by first | exact .inl Om | exact .inr hc1) (by first | exact .inl Om | exact .inr hc2) (by first | exact .inl Om | exact .inr hc3) (h := ((q.tm.toNat % 86400 / 3600 : Nat) : Int)) Om), ← hour_eq he])
                  all_goals first | (rw [if_pos Om]; done) | (rw [if_neg Om, if_pos h10_4]; (first | exact (decide_eq_true Om).symm | exact (decide_eq_false Om).symm)) | (rw [if_neg Om, if_neg h10_4]; (first | exact (decide_eq_true Om).symm | exact (decide_eq_false Om).symm))
                refine zq 2 rfl<|zN<|zT<|zU<|zH<|zL<|ret1 Tryz.results39 ?_
                first | exact ⟨congrArg Value.bool (meet_n1 Om hc1).symm, hS16.fin⟩ | exact ⟨congrArg Value.bool (meet_n2 Om hc2).symm, hS16.fin⟩ | exact ⟨congrArg Value.bool (meet_n3 Om hc3).symm, hS16.fin⟩ | skip
                all_goals (refine ⟨congrArg Value.bool ?_, hS16.fin⟩; rw [(meet_y (by first | exact .inl Om | exact .inr hc1) (by first | exact .inl Om | exact .inr hc2) (by first | exact .inl Om | exact .inr hc3) (h := ((q.tm.toNat % 86400 / 3600 : Nat) : Int)) Om), ← hour_eq he])
                all_goals first | (rw [if_pos Om]; done) | (rw [if_neg Om, if_pos h10_4]; (first | exact (decide_eq_true Om).symm | exact (decide_eq_false Om).symm)) | (rw [if_neg Om, if_neg h10_4]; (first | exact (decide_eq_true Om).symm | exact (decide_eq_false Om).symm))
              refine zq 7 rfl<|zN<|zT<|zU<|zH<|zL<|ret1 Tryz.results39 ?_
              first | exact ⟨congrArg Value.bool (meet_n1 Om hc1).symm, hS16.fin⟩ | exact ⟨congrArg Value.bool (meet_n2 Om hc2).symm, hS16.fin⟩ | exact ⟨congrArg Value.bool (meet_n3 Om hc3).symm, hS16.fin⟩ | skip
              all_goals (refine ⟨congrArg Value.bool ?_, hS16.fin⟩; rw [(meet_y (by first | exact .inl Om | exact .inr hc1) (by first | exact .inl Om | exact .inr hc2) (by first | exact .inl Om | exact .inr hc3) (h := ((q.tm.toNat % 86400 / 3600 : Nat) : Int)) Om), ← hour_eq he])
              all_goals first | (rw [if_pos Om]; done) | (rw [if_neg Om, if_pos h10_4]; (first | exact (decide_eq_true Om).symm | exact (decide_eq_false Om).symm)) | (rw [if_neg Om, if_neg h10_4]; (first | exact (decide_eq_true Om).symm | exact (decide_eq_false Om).symm))
            refine zq 1 rfl<|zN<|zT<|zf rfl<|zK<|zJ<|zT<|zS<|zR<|zq 1 rfl<|zF fa50_4 rfl ti3.und rfl (hS16.heap Z1) rfl rfl rfl ?_
            refine wl_dec (r_geq rfl rfl) rfl (fun h12_3 => ?_) (fun h12_3 => ?_)
            · refine zq 7 rfl<|zN<|zT<|zU<|ret1 Tryz.results39 ?_
              first | exact ⟨congrArg Value.bool (meet_n1 Om hc1).symm, hS16.fin⟩ | exact ⟨congrArg Value.bool (meet_n2 Om hc2).symm, hS16.fin⟩ | exact ⟨congrArg Value.bool (meet_n3 Om hc3).symm, hS16.fin⟩ | skip
              all_goals (refine ⟨congrArg Value.bool ?_, hS16.fin⟩; rw [(meet_y (by first | exact .inl Om | exact .inr hc1) (by first | exact .inl Om | exact .inr hc2) (by first | exact .inl Om | exact .inr hc3) (h := ((q.tm.toNat % 86400 / 3600 : Nat) : Int)) Om), ← hour_eq he])
              all_goals first | (rw [if_pos Om]; done) | (rw [if_neg Om, if_pos h10_4]; (first | exact (decide_eq_true Om).symm | exact (decide_eq_false Om).symm)) | (rw [if_neg Om, if_neg h10_4]; (first | exact (decide_eq_true Om).symm | exact (decide_eq_false Om).symm))
            refine zq 2 rfl<|wl_val (r_field fa50_5 rfl) rfl<|wl_val (r_loadB1 ti3.und rfl rfl (hS16.heap Z1) rfl) rfl ?_
            refine wl_dec (r_lss rfl rfl) rfl (fun h12_8 => ?_) (fun h12_8 => ?_)
            · refine zq 2 rfl<|zN<|zT<|zU<|ret1 Tryz.results39 ?_
              first | exact ⟨congrArg Value.bool (meet_n1 Om hc1).symm, hS16.fin⟩ | exact ⟨congrArg Value.bool (meet_n2 Om hc2).symm, hS16.fin⟩ | exact ⟨congrArg Value.bool (meet_n3 Om hc3).symm, hS16.fin⟩ | skip
              all_goals (refine ⟨congrArg Value.bool ?_, hS16.fin⟩; rw [(meet_y (by first | exact .inl Om | exact .inr hc1) (by first | exact .inl Om | exact .inr hc2) (by first | exact .inl Om | exact .inr hc3) (h := ((q.tm.toNat % 86400 / 3600 : Nat) : Int)) Om), ← hour_eq he])
              all_goals first | (rw [if_pos Om]; done) | (rw [if_neg Om, if_pos h10_4]; (first | exact (decide_eq_true Om).symm | exact (decide_eq_false Om).symm)) | (rw [if_neg Om, if_neg h10_4]; (first | exact (decide_eq_true Om).symm | exact (decide_eq_false Om).symm))
            refine zq 2 rfl<|zN<|zT<|zU<|ret1 Tryz.results39 ?_
            first | exact ⟨congrArg Value.bool (meet_n1 Om hc1).symm, hS16.fin⟩ | exact ⟨congrArg Value.bool (meet_n2 Om hc2).symm, hS16.fin⟩ | exact ⟨congrArg Value.bool (meet_n3 Om hc3).symm, hS16.fin⟩ | skip
            all_goals (refine ⟨congrArg Value.bool ?_, hS16.fin⟩; rw [(meet_y (by first | exact .inl Om | exact .inr hc1) (by first | exact .inl Om | exact .inr hc2) (by first | exact .inl Om | exact .inr hc3) (h := ((q.tm.toNat % 86400 / 3600 : Nat) : Int)) Om), ← hour_eq he])
            all_goals first | (rw [if_pos Om]; done) | (rw [if_neg Om, if_pos h10_4]; (first | exact (decide_eq_true Om).symm | exact (decide_eq_false Om).symm)) | (rw [if_neg Om, if_neg h10_4]; (first | exact (decide_eq_true Om).symm | exact (decide_eq_false Om).symm))
          refine zq 6 rfl<|zN<|zT<|zf rfl<|zS<|zR<|zF fa50_4 rfl ti3.und rfl (hS16.heap Z1) rfl rfl rfl<|zF fa50_5 rfl ti3.und rfl (hS16.heap Z1) rfl rfl rfl ?_
          refine wl_dec (r_lss rfl rfl) rfl (fun h10_4 => ?_) (fun h10_4 => ?_)
          · refine zq 1 rfl<|zN<|zT<|zt rfl<|zS<|zR<|zF fa50_4 rfl ti3.und rfl (hS16.heap Z1) rfl rfl rfl<|zq 1 rfl ?_
            refine wl_dec (r_leq rfl rfl) rfl (fun h11_3 => ?_) (fun h11_3 => ?_)
            · refine zq 2 rfl<|wl_val (r_field fa50_5 rfl) rfl<|wl_val (r_loadB1 ti3.und rfl rfl (hS16.heap Z1) rfl) rfl ?_
              refine wl_dec (r_lss rfl rfl) rfl (fun h11_8 => ?_) (fun h11_8 => ?_)
              · refine zq 2 rfl<|zN<|zT<|zU<|zH<|zL<|ret1 Tryz.results39 ?_
                first | exact ⟨congrArg Value.bool (meet_n1 Om hc1).symm, hS16.fin⟩ | exact ⟨congrArg Value.bool (meet_n2 Om hc2).symm, hS16.fin⟩ | exact ⟨congrArg Value.bool (meet_n3 Om hc3).symm, hS16.fin⟩ | skip
                all_goals (refine ⟨congrArg Value.bool ?_, hS16.fin⟩; rw [(meet_y (by first | exact .inl Om | exact .inr hc1) (by first | exact .inl Om | exact .inr hc2) (by first | exact .inl Om | exact .inr hc3) (h := ((q.tm.toNat % 86400 / 3600 : Nat) : Int)) Om), ← hour_eq he])
                all_goals first | (rw [if_pos Om]; done) | (rw [if_neg Om, if_pos h10_4]; (first | exact (decide_eq_true Om).symm | exact (decide_eq_false Om).symm)) | (rw [if_neg Om, if_neg h10_4]; (first | exact (decide_eq_true Om).symm | exact (decide_eq_false Om).symm))
              refine zq 2 rfl<|zN<|zT<|zU<|zH<|zL<|ret1 Tryz.results39 ?_
              first | exact ⟨congrArg Value.bool (meet_n1 Om hc1).symm, hS16.fin⟩ | exact ⟨congrArg Value.bool (meet_n2 Om hc2).symm, hS16.fin⟩ | exact ⟨congrArg Value.bool (meet_n3 Om hc3).symm, hS16.fin⟩ | skip
              all_goals (refine ⟨congrArg Value.bool ?_, hS16.fin⟩; rw [(meet_y (by first | exact .inl Om | exact .inr hc1) (by first | exact .inl Om | exact .inr hc2) (by first | exact .inl Om | exact .inr hc3) (h := ((q.tm.toNat % 86400 / 3600 : Nat) : Int)) Om), ← hour_eq he])
              all_goals first | (rw [if_pos Om]; done) | (rw [if_neg Om, if_pos h10_4]; (first | exact (decide_eq_true Om).symm | exact (decide_eq_false Om).symm)) | (rw [if_neg Om, if_neg h10_4]; (first | exact (decide_eq_true Om).symm | exact (decide_eq_false Om).symm))
            refine zq 7 rfl<|zN<|zT<|zU<|zH<|zL<|ret1 Tryz.results39 ?_
            first | exact ⟨congrArg Value.bool (meet_n1 Om hc1).symm, hS16.fin⟩ | exact ⟨congrArg Value.bool (meet_n2 Om hc2).symm, hS16.fin⟩ | exact ⟨congrArg Value.bool (meet_n3 Om hc3).symm, hS16.fin⟩ | skip
            all_goals (refine ⟨congrArg Value.bool ?_, hS16.fin⟩; rw [(meet_y (by first | exact .inl Om | exact .inr hc1) (by first | exact .inl Om | exact .inr hc2) (by first | exact .inl Om | exact .inr hc3) (h := ((q.tm.toNat % 86400 / 3600 : Nat) : Int)) Om), ← hour_eq he])
            all_goals first | (rw [if_pos Om]; done) | (rw [if_neg Om, if_pos h10_4]; (first | exact (decide_eq_true Om).symm | exact (decide_eq_false Om).symm)) | (rw [if_neg Om, if_neg h10_4]; (first | exact (decide_eq_true Om).symm | exact (decide_eq_false Om).symm))
          refine zq 1 rfl<|zN<|zT<|zf rfl<|zK<|zJ<|zT<|zS<|zR<|zq 1 rfl<|zF fa50_4 rfl ti3.und rfl (hS16.heap Z1) rfl rfl rfl ?_
          refine wl_dec (r_geq rfl rfl) rfl (fun h12_3 => ?_) (fun h12_3 => ?_)
          · refine zq 7 rfl<|zN<|zT<|zU<|ret1 Tryz.results39 ?_
            first | exact ⟨congrArg Value.bool (meet_n1 Om hc1).symm, hS16.fin⟩ | exact ⟨congrArg Value.bool (meet_n2 Om hc2).symm, hS16.fin⟩ | exact ⟨congrArg Value.bool (meet_n3 Om hc3).symm, hS16.fin⟩ | skip
            all_goals (refine ⟨congrArg Value.bool ?_, hS16.fin⟩; rw [(meet_y (by first | exact .inl Om | exact .inr hc1) (by first | exact .inl Om | exact .inr hc2) (by first | exact .inl Om | exact .inr hc3) (h := ((q.tm.toNat % 86400 / 3600 : Nat) : Int)) Om), ← hour_eq he])
            all_goals first | (rw [if_pos Om]; done) | (rw [if_neg Om, if_pos h10_4]; (first | exact (decide_eq_true Om).symm | exact (decide_eq_false Om).symm)) | (rw [if_neg Om, if_neg h10_4]; (first | exact (decide_eq_true Om).symm | exact (decide_eq_false Om).symm))
          refine zq 2 rfl<|wl_val (r_field fa50_5 rfl) rfl<|wl_val (r_loadB1 ti3.und rfl rfl (hS16.heap Z1) rfl) rfl ?_
          refine wl_dec (r_lss rfl rfl) rfl (fun h12_8 => ?_) (fun h12_8 => ?_)
          · refine zq 2 rfl<|zN<|zT<|zU<|ret1 Tryz.results39 ?_
            first | exact ⟨congrArg Value.bool (meet_n1 Om hc1).symm, hS16.fin⟩ | exact ⟨congrArg Value.bool (meet_n2 Om hc2).symm, hS16.fin⟩ | exact ⟨congrArg Value.bool (meet_n3 Om hc3).symm, hS16.fin⟩ | skip
            all_goals (refine ⟨congrArg Value.bool ?_, hS16.fin⟩; rw [(meet_y (by first | exact .inl Om | exact .inr hc1) (by first | exact .inl Om | exact .inr hc2) (by first | exact .inl Om | exact .inr hc3) (h := ((q.tm.toNat % 86400 / 3600 : Nat) : Int)) Om), ← hour_eq he])
            all_goals first | (rw [if_pos Om]; done) | (rw [if_neg Om, if_pos h10_4]; (first | exact (decide_eq_true Om).symm | exact (decide_eq_false Om).symm)) | (rw [if_neg Om, if_neg h10_4]; (first | exact (decide_eq_true Om).symm | exact (decide_eq_false Om).symm))
          refine zq 2 rfl<|zN<|zT<|zU<|ret1 Tryz.results39 ?_
          first | exact ⟨congrArg Value.bool (meet_n1 Om hc1).symm, hS16.fin⟩ | exact ⟨congrArg Value.bool (meet_n2 Om hc2).symm, hS16.fin⟩ | exact ⟨congrArg Value.bool (meet_n3 Om hc3).symm, hS16.fin⟩ | skip
          all_goals (refine ⟨congrArg Value.bool ?_, hS16.fin⟩; rw [(meet_y (by first | exact .inl Om | exact .inr hc1) (by first | exact .inl Om | exact .inr hc2) (by first | exact .inl Om | exact .inr hc3) (h := ((q.tm.toNat % 86400 / 3600 : Nat) : Int)) Om), ← hour_eq he])
          all_goals first | (rw [if_pos Om]; done) | (rw [if_neg Om, if_pos h10_4]; (first | exact (decide_eq_true Om).symm | exact (decide_eq_false Om).symm)) | (rw [if_neg Om, if_neg h10_4]; (first | exact (decide_eq_true Om).symm | exact (decide_eq_false Om).symm))
        have hS16 := hS7.ext hx15
        rw [any_pat (ruleE_fr he).2] at hc3
        refine zq 2 rfl<|zN<|zT<|zt rfl<|zS<|zR<|zq 1 rfl<|zN<|zT<|zU<|zL<|ret1 Tryz.results39 ?_
        first | exact ⟨congrArg Value.bool (meet_n1 Om hc1).symm, hS16.fin⟩ | exact ⟨congrArg Value.bool (meet_n2 Om hc2).symm, hS16.fin⟩ | exact ⟨congrArg Value.bool (meet_n3 Om hc3).symm, hS16.fin⟩ | skip
        all_goals (refine ⟨congrArg Value.bool ?_, hS16.fin⟩; rw [(meet_y (by first | exact .inl Om | exact .inr hc1) (by first | exact .inl Om | exact .inr hc2) (by first | exact .inl Om | exact .inr hc3) (h := ((q.tm.toNat % 86400 / 3600 : Nat) : Int)) Om), ← hour_eq he])
        all_goals first | (rw [if_pos Om]; done) | (rw [if_neg Om, if_pos h10_4]; (first | exact (decide_eq_true Om).symm | exact (decide_eq_false Om).symm)) | (rw [if_neg Om, if_neg h10_4]; (first | exact (decide_eq_true Om).symm | exact (decide_eq_false Om).symm))
      refine zq 7 rfl<|zN<|zT<|zf rfl<|zK<|zT<|zS<|zR<|zV (r_field fa40_5 rfl)<|zV (r_loadB1 ti3.und rfl rfl (hS7.heap Z0) (ask_tmN hac hkey ht0))<|zV (r_remn (b := 86400) rfl rfl Om)<|zV (r_quon (b := 3600) rfl rfl Om Om)<|zq 1 rfl<|zN<|zT<|zS<|zI<|zS<|zR<|zF fa50_4 rfl ti3.und rfl (hS7.heap Z1) rfl rfl rfl ?_
      refine wl_dec (r_eql rfl rfl) rfl (fun h8_2 => ?_) (fun h8_2 => ?_)
      · refine zq 1 rfl<|wl_val (r_field fa50_5 rfl) rfl<|wl_val (r_loadB1 ti3.und rfl rfl (hS7.heap Z1) rfl) rfl ?_
        refine wl_dec (r_eql rfl rfl) rfl (fun h8_6 => ?_) (fun h8_6 => ?_)
        · refine zq 2 rfl<|zN<|zT<|zt rfl<|zS<|zR<|zq 1 rfl<|zN<|zT<|zU<|zH<|zL<|ret1 Tryz.results39 ?_
          first | exact ⟨congrArg Value.bool (meet_n1 Om hc1).symm, hS7.fin⟩ | exact ⟨congrArg Value.bool (meet_n2 Om hc2).symm, hS7.fin⟩ | exact ⟨congrArg Value.bool (meet_n3 Om hc3).symm, hS7.fin⟩ | skip
          all_goals (refine ⟨congrArg Value.bool ?_, hS7.fin⟩; rw [(meet_y (by first | exact .inl Om | exact .inr hc1) (by first | exact .inl Om | exact .inr hc2) (by first | exact .inl Om | exact .inr hc3) (h := ((q.tm.toNat % 86400 / 3600 : Nat) : Int)) Om), ← hour_eq he])
          all_goals first | (rw [if_pos Om]; done) | (rw [if_neg Om, if_pos h10_4]; (first | exact (decide_eq_true Om).symm | exact (decide_eq_false Om).symm)) | (rw [if_neg Om, if_neg h10_4]; (first | exact (decide_eq_true Om).symm | exact (decide_eq_false Om).symm))
        refine zq 2 rfl<|zN<|zT<|zf rfl<|zS<|zR<|zF fa50_4 rfl ti3.und rfl (hS7.heap Z1) rfl rfl rfl<|zF fa50_5 rfl ti3.und rfl (hS7.heap Z1) rfl rfl rfl ?_
        refine wl_dec (r_lss rfl rfl) rfl (fun h10_4 => ?_) (fun h10_4 => ?_)
        · refine zq 1 rfl<|zN<|zT<|zt rfl<|zS<|zR<|zF fa50_4 rfl ti3.und rfl (hS7.heap Z1) rfl rfl rfl<|zq 1 rfl ?_
          refine wl_dec (r_leq rfl rfl) rfl (fun h11_3 => ?_) (fun h11_3 => ?_)
          · refine zq 2 rfl<|wl_val (r_field fa50_5 rfl) rfl<|wl_val (r_loadB1 ti3.und rfl rfl (hS7.heap Z1) rfl) rfl ?_
            refine wl_dec (r_lss rfl rfl) rfl (fun h11_8 => ?_) (fun h11_8 => ?_)
            · refine zq 2 rfl<|zN<|zT<|zU<|zH<|zL<|ret1 Tryz.results39 ?_
              first | exact ⟨congrArg Value.bool (meet_n1 Om hc1).symm, hS7.fin⟩ | exact ⟨congrArg Value.bool (meet_n2 Om hc2).symm, hS7.fin⟩ | exact ⟨congrArg Value.bool (meet_n3 Om hc3).symm, hS7.fin⟩ | skip
              all_goals (refine ⟨congrArg Value.bool ?_, hS7.fin⟩; rw [(meet_y (by first | exact .inl Om | exact .inr hc1) (by first | exact .inl Om | exact .inr hc2) (by first | exact .inl Om | exact .inr hc3) (h := ((q.tm.toNat % 86400 / 3600 : Nat) : Int)) Om), ← hour_eq he])
              all_goals first | (rw [if_pos Om]; done) | (rw [if_neg Om, if_pos h10_4]; (first | exact (decide_eq_true Om).symm | exact (decide_eq_false Om).symm)) | (rw [if_neg Om, if_neg h10_4]; (first | exact (decide_eq_true Om).symm | exact (decide_eq_false Om).symm))
            refine zq 2 rfl<|zN<|zT<|zU<|zH<|zL<|ret1 Tryz.results39 ?_
            first | exact ⟨congrArg Value.bool (meet_n1 Om hc1).symm, hS7.fin⟩ | exact ⟨congrArg Value.bool (meet_n2 Om hc2).symm, hS7.fin⟩ | exact ⟨congrArg Value.bool (meet_n3 Om hc3).symm, hS7.fin⟩ | skip
            all_goals (refine ⟨congrArg Value.bool ?_, hS7.fin⟩; rw [(meet_y (by first | exact .inl Om | exact .inr hc1) (by first | exact .inl Om | exact .inr hc2) (by first | exact .inl Om | exact .inr hc3) (h := ((q.tm.toNat % 86400 / 3600 : Nat) : Int)) Om), ← hour_eq he])
            all_goals first | (rw [if_pos Om]; done) | (rw [if_neg Om, if_pos h10_4]; (first | exact (decide_eq_true Om).symm | exact (decide_eq_false Om).symm)) | (rw [if_neg Om, if_neg h10_4]; (first | exact (decide_eq_true Om).symm | exact (decide_eq_false Om).symm))
          refine zq 7 rfl<|zN<|zT<|zU<|zH<|zL<|ret1 Tryz.results39 ?_
          first | exact ⟨congrArg Value.bool (meet_n1 Om hc1).symm, hS7.fin⟩ | exact ⟨congrArg Value.bool (meet_n2 Om hc2).symm, hS7.fin⟩ | exact ⟨congrArg Value.bool (meet_n3 Om hc3).symm, hS7.fin⟩ | skip
          all_goals (refine ⟨congrArg Value.bool ?_, hS7.fin⟩; rw [(meet_y (by first | exact .inl Om | exact .inr hc1) (by first | exact .inl Om | exact .inr hc2) (by first | exact .inl Om | exact .inr hc3) (h := ((q.tm.toNat % 86400 / 3600 : Nat) : Int)) Om), ← hour_eq he])
          all_goals first | (rw [if_pos Om]; done) | (rw [if_neg Om, if_pos h10_4]; (first | exact (decide_eq_true Om).symm | exact (decide_eq_false Om).symm)) | (rw [if_neg Om, if_neg h10_4]; (first | exact (decide_eq_true Om).symm | exact (decide_eq_false Om).symm))
        refine zq 1 rfl<|zN<|zT<|zf rfl<|zK<|zJ<|zT<|zS<|zR<|zq 1 rfl<|zF fa50_4 rfl ti3.und rfl (hS7.heap Z1) rfl rfl rfl ?_
        refine wl_dec (r_geq rfl rfl) rfl (fun h12_3 => ?_) (fun h12_3 => ?_)
        · refine zq 7 rfl<|zN<|zT<|zU<|ret1 Tryz.results39 ?_
          first | exact ⟨congrArg Value.bool (meet_n1 Om hc1).symm, hS7.fin⟩ | exact ⟨congrArg Value.bool (meet_n2 Om hc2).symm, hS7.fin⟩ | exact ⟨congrArg Value.bool (meet_n3 Om hc3).symm, hS7.fin⟩ | skip
          all_goals (refine ⟨congrArg Value.bool ?_, hS7.fin⟩; rw [(meet_y (by first | exact .inl Om | exact .inr hc1) (by first | exact .inl Om | exact .inr hc2) (by first | exact .inl Om | exact .inr hc3) (h := ((q.tm.toNat % 86400 / 3600 : Nat) : Int)) Om), ← hour_eq he])
          all_goals first | (rw [if_pos Om]; done) | (rw [if_neg Om, if_pos h10_4]; (first | exact (decide_eq_true Om).symm | exact (decide_eq_false Om).symm)) | (rw [if_neg Om, if_neg h10_4]; (first | exact (decide_eq_true Om).symm | exact (decide_eq_false Om).symm))
        refine zq 2 rfl<|wl_val (r_field fa50_5 rfl) rfl<|wl_val (r_loadB1 ti3.und rfl rfl (hS7.heap Z1) rfl) rfl ?_
        refine wl_dec (r_lss rfl rfl) rfl (fun h12_8 => ?_) (fun h12_8 => ?_)
        · refine zq 2 rfl<|zN<|zT<|zU<|ret1 Tryz.results39 ?_
          first | exact ⟨congrArg Value.bool (meet_n1 Om hc1).symm, hS7.fin⟩ | exact ⟨congrArg Value.bool (meet_n2 Om hc2).symm, hS7.fin⟩ | exact ⟨congrArg Value.bool (meet_n3 Om hc3).symm, hS7.fin⟩ | skip
          all_goals (refine ⟨congrArg Value.bool ?_, hS7.fin⟩; rw [(meet_y (by first | exact .inl Om | exact .inr hc1) (by first | exact .inl Om | exact .inr hc2) (by first | exact .inl Om | exact .inr hc3) (h := ((q.tm.toNat % 86400 / 3600 : Nat) : Int)) Om), ← hour_eq he])
          all_goals first | (rw [if_pos Om]; done) | (rw [if_neg Om, if_pos h10_4]; (first | exact (decide_eq_true Om).symm | exact (decide_eq_false Om).symm)) | (rw [if_neg Om, if_neg h10_4]; (first | exact (decide_eq_true Om).symm | exact (decide_eq_false Om).symm))
        refine zq 2 rfl<|zN<|zT<|zU<|ret1 Tryz.results39 ?_
        first | exact ⟨congrArg Value.bool (meet_n1 Om hc1).symm, hS7.fin⟩ | exact ⟨congrArg Value.bool (meet_n2 Om hc2).symm, hS7.fin⟩ | exact ⟨congrArg Value.bool (meet_n3 Om hc3).symm, hS7.fin⟩ | skip
        all_goals (refine ⟨congrArg Value.bool ?_, hS7.fin⟩; rw [(meet_y (by first | exact .inl Om | exact .inr hc1) (by first | exact .inl Om | exact .inr hc2) (by first | exact .inl Om | exact .inr hc3) (h := ((q.tm.toNat % 86400 / 3600 : Nat) : Int)) Om), ← hour_eq he])
        all_goals first | (rw [if_pos Om]; done) | (rw [if_neg Om, if_pos h10_4]; (first | exact (decide_eq_true Om).symm | exact (decide_eq_false Om).symm)) | (rw [if_neg Om, if_neg h10_4]; (first | exact (decide_eq_true Om).symm | exact (decide_eq_false Om).symm))
      refine zq 6 rfl<|zN<|zT<|zf rfl<|zS<|zR<|zF fa50_4 rfl ti3.und rfl (hS7.heap Z1) rfl rfl rfl<|zF fa50_5 rfl ti3.und rfl (hS7.heap Z1) rfl rfl rfl ?_
      refine wl_dec (r_lss rfl rfl) rfl (fun h10_4 => ?_) (fun h10_4 => ?_)
      · refine zq 1 rfl<|zN<|zT<|zt rfl<|zS<|zR<|zF fa50_4 rfl ti3.und rfl (hS7.heap Z1) rfl rfl rfl<|zq 1 rfl ?_
        refine wl_dec (r_leq rfl rfl) rfl (fun h11_3 => ?_) (fun h11_3 => ?_)
        · refine zq 2 rfl<|wl_val (r_field fa50_5 rfl) rfl<|wl_val (r_loadB1 ti3.und rfl rfl (hS7.heap Z1) rfl) rfl ?_
          refine wl_dec (r_lss rfl rfl) rfl (fun h11_8 => ?_) (fun h11_8 => ?_)
          · refine zq 2 rfl<|zN<|zT<|zU<|zH<|zL<|ret1 Tryz.results39 ?_
            first | exact ⟨congrArg Value.bool (meet_n1 Om hc1).symm, hS7.fin⟩ | exact ⟨congrArg Value.bool (meet_n2 Om hc2).symm, hS7.fin⟩ | exact ⟨congrArg Value.bool (meet_n3 Om hc3).symm, hS7.fin⟩ | skip
            all_goals (refine ⟨congrArg Value.bool ?_, hS7.fin⟩; rw [(meet_y (by first | exact .inl Om | exact .inr hc1) (by first | exact .inl Om | exact .inr hc2) (by first | exact .inl Om | exact .inr hc3) (h := ((q.tm.toNat % 86400 / 3600 : Nat) : Int)) Om), ← hour_eq he])
            all_goals first | (rw [if_pos Om]; done) | (rw [if_neg Om, if_pos h10_4]; (first | exact (decide_eq_true Om).symm | exact (decide_eq_false Om).symm)) | (rw [if_neg Om, if_neg h10_4]; (first | exact (decide_eq_true Om).symm | exact (decide_eq_false Om).symm))
          refine zq 2 rfl<|zN<|zT<|zU<|zH<|zL<|ret1 Tryz.results39 ?_
          first | exact ⟨congrArg Value.bool (meet_n1 Om hc1).symm, hS7.fin⟩ | exact ⟨congrArg Value.bool (meet_n2 Om hc2).symm, hS7.fin⟩ | exact ⟨congrArg Value.bool (meet_n3 Om hc3).symm, hS7.fin⟩ | skip
          all_goals (refine ⟨congrArg Value.bool ?_, hS7.fin⟩; rw [(meet_y (by first | exact .inl Om | exact .inr hc1) (by first | exact .inl Om | exact .inr hc2) (by first | exact .inl Om | exact .inr hc3) (h := ((q.tm.toNat % 86400 / 3600 : Nat) : Int)) Om), ← hour_eq he])
          all_goals first | (rw [if_pos Om]; done) | (rw [if_neg Om, if_pos h10_4]; (first | exact (decide_eq_true Om).symm | exact (decide_eq_false Om).symm)) | (rw [if_neg Om, if_neg h10_4]; (first | exact (decide_eq_true Om).symm | exact (decide_eq_false Om).symm))
        refine zq 7 rfl<|zN<|zT<|zU<|zH<|zL<|ret1 Tryz.results39 ?_
        first | exact ⟨congrArg Value.bool (meet_n1 Om hc1).symm, hS7.fin⟩ | exact ⟨congrArg Value.bool (meet_n2 Om hc2).symm, hS7.fin⟩ | exact ⟨congrArg Value.bool (meet_n3 Om hc3).symm, hS7.fin⟩ | skip
        all_goals (refine ⟨congrArg Value.bool ?_, hS7.fin⟩; rw [(meet_y (by first | exact .inl Om | exact .inr hc1) (by first | exact .inl Om | exact .inr hc2) (by first | exact .inl Om | exact .inr hc3) (h := ((q.tm.toNat % 86400 / 3600 : Nat) : Int)) Om), ← hour_eq he])
        all_goals first | (rw [if_pos Om]; done) | (rw [if_neg Om, if_pos h10_4]; (first | exact (decide_eq_true Om).symm | exact (decide_eq_false Om).symm)) | (rw [if_neg Om, if_neg h10_4]; (first | exact (decide_eq_true Om).symm | exact (decide_eq_false Om).symm))
      refine zq 1 rfl<|zN<|zT<|zf rfl<|zK<|zJ<|zT<|zS<|zR<|zq 1 rfl<|zF fa50_4 rfl ti3.und rfl (hS7.heap Z1) rfl rfl rfl ?_
      refine wl_dec (r_geq rfl rfl) rfl (fun h12_3 => ?_) (fun h12_3 => ?_)
      · refine zq 7 rfl<|zN<|zT<|zU<|ret1 Tryz.results39 ?_
        first | exact ⟨congrArg Value.bool (meet_n1 Om hc1).symm, hS7.fin⟩ | exact ⟨congrArg Value.bool (meet_n2 Om hc2).symm, hS7.fin⟩ | exact ⟨congrArg Value.bool (meet_n3 Om hc3).symm, hS7.fin⟩ | skip
        all_goals (refine ⟨congrArg Value.bool ?_, hS7.fin⟩; rw [(meet_y (by first | exact .inl Om | exact .inr hc1) (by first | exact .inl Om | exact .inr hc2) (by first | exact .inl Om | exact .inr hc3) (h := ((q.tm.toNat % 86400 / 3600 : Nat) : Int)) Om), ← hour_eq he])
        all_goals first | (rw [if_pos Om]; done) | (rw [if_neg Om, if_pos h10_4]; (first | exact (decide_eq_true Om).symm | exact (decide_eq_false Om).symm)) | (rw [if_neg Om, if_neg h10_4]; (first | exact (decide_eq_true Om).symm | exact (decide_eq_false Om).symm))
      refine zq 2 rfl<|wl_val (r_field fa50_5 rfl) rfl<|wl_val (r_loadB1 ti3.und rfl rfl (hS7.heap Z1) rfl) rfl ?_
      refine wl_dec (r_lss rfl rfl) rfl (fun h12_8 => ?_) (fun h12_8 => ?_)
      · refine zq 2 rfl<|zN<|zT<|zU<|ret1 Tryz.results39 ?_
        first | exact ⟨congrArg Value.bool (meet_n1 Om hc1).symm, hS7.fin⟩ | exact ⟨congrArg Value.bool (meet_n2 Om hc2).symm, hS7.fin⟩ | exact ⟨congrArg Value.bool (meet_n3 Om hc3).symm, hS7.fin⟩ | skip
        all_goals (refine ⟨congrArg Value.bool ?_, hS7.fin⟩; rw [(meet_y (by first | exact .inl Om | exact .inr hc1) (by first | exact .inl Om | exact .inr hc2) (by first | exact .inl Om | exact .inr hc3) (h := ((q.tm.toNat % 86400 / 3600 : Nat) : Int)) Om), ← hour_eq he])
        all_goals first | (rw [if_pos Om]; done) | (rw [if_neg Om, if_pos h10_4]; (first | exact (decide_eq_true Om).symm | exact (decide_eq_false Om).symm)) | (rw [if_neg Om, if_neg h10_4]; (first | exact (decide_eq_true Om).symm | exact (decide_eq_false Om).symm))
      refine zq 2 rfl<|zN<|zT<|zU<|ret1 Tryz.results39 ?_
      first | exact ⟨congrArg Value.bool (meet_n1 Om hc1).symm, hS7.fin⟩ | exact ⟨congrArg Value.bool (meet_n2 Om hc2).symm, hS7.fin⟩ | exact ⟨congrArg Value.bool (meet_n3 Om hc3).symm, hS7.fin⟩ | skip
      all_goals (refine ⟨congrArg Value.bool ?_, hS7.fin⟩; rw [(meet_y (by first | exact .inl Om | exact .inr hc1) (by first | exact .inl Om | exact .inr hc2) (by first | exact .inl Om | exact .inr hc3) (h := ((q.tm.toNat % 86400 / 3600 : Nat) : Int)) Om), ← hour_eq he])
      all_goals first | (rw [if_pos Om]; done) | (rw [if_neg Om, if_pos h10_4]; (first | exact (decide_eq_true Om).symm | exact (decide_eq_false Om).symm)) | (rw [if_neg Om, if_neg h10_4]; (first | exact (decide_eq_true Om).symm | exact (decide_eq_false Om).symm))
    have hS7 := hS4.ext hx6; refine zq 2 rfl<|zN<|zT<|zt rfl<|zS<|zR<|zq 1 rfl<|zN<|zT<|zU<|zL<|ret1 Tryz.results39 ?_
    first | exact ⟨congrArg Value.bool (meet_n1 Om hc1).symm, hS7.fin⟩ | exact ⟨congrArg Value.bool (meet_n2 Om hc2).symm, hS7.fin⟩ | exact ⟨congrArg Value.bool (meet_n3 Om hc3).symm, hS7.fin⟩ | skip
    all_goals (refine ⟨congrArg Value.bool ?_, hS7.fin⟩; rw [(meet_y (by first | exact .inl Om | exact .inr hc1) (by first | exact .inl Om | exact .inr hc2) (by first | exact .inl Om | exact .inr hc3) (h := ((q.tm.toNat % 86400 / 3600 : Nat) : Int)) Om), ← hour_eq he])
    all_goals first | (rw [if_pos Om]; done) | (rw [if_neg Om, if_pos h10_4]; (first | exact (decide_eq_true Om).symm | exact (decide_eq_false Om).symm)) | (rw [if_neg Om, if_neg h10_4]; (first | exact (decide_eq_true Om).symm | exact (decide_eq_false Om).symm))
  refine zq 7 rfl<|zN<|zT<|zf rfl<|zK<|zT<|zS<|zS<|zR<|zF fa50_2 rfl ti48.und rfl (hS4.heap Z1) rfl rfl rfl<|zV (r_len (T := 48) rfl ti48.und rfl _ rfl) ?_
  refine wl_dec (r_gtr rfl rfl) rfl (fun h3_3 => ?_) (fun h3_3 => ?_)
  · refine zq 1 rfl<|wl_val (r_field fa50_2 rfl) rfl<|wl_val (r_loadB1 ti48.und rfl rfl (hS4.heap Z1) rfl) rfl<|wl_val (r_field fa40_2 rfl) rfl<|wl_val (r_loadB1 ti3.und rfl rfl (hS4.heap Z0) (ask_act hac)) rfl<|zC fn71 rfl (containsI_ok r.acs r.aa r.acs.length r.ak q.act _ (h2.st hS4) rfl hk.an) ?_
    rintro _ w17 (⟨hc2, rfl, hx18⟩ | ⟨hc2, rfl, hx18⟩)
    · have hS19 := hS4.ext hx18
      refine zq 2 rfl<|zN<|zT<|zf rfl<|zK<|zT<|zS<|zS<|zR<|zF fa50_3 rfl ti36.und rfl (hS19.heap Z1) rfl rfl rfl<|zV (r_len (T := 36) rfl ti36.und rfl _ rfl) ?_
      refine wl_dec (r_gtr rfl rfl) rfl (fun h5_3 => ?_) (fun h5_3 => ?_)
      · refine zq 1 rfl<|wl_val (r_field fa50_3 rfl) rfl<|wl_val (r_loadB1 ti36.und rfl rfl (hS19.heap Z1) rfl) rfl<|wl_val (r_makeFunc (vs := [pt b3 0]) rfl) rfl<|zC fn53 rfl (containsFuncS_ok r.las r.la r.las.length r.lc 72 [pt b3 0] (fun s => (decide (¬ q.lab = []) || decide (s = [42])) && fitsE s q.lab) _ (h3.st hS19) rfl hk.ln fn72 (fun x w' hx h => rmeets2_ok x q b3 w' ((at_all (hS19.heap Z0)).st h) hac (hk.ll x hx) hq.ll)) ?_
        rintro _ w20 (⟨hc3, rfl, hx21⟩ | ⟨hc3, rfl, hx21⟩)
        · have hS22 := hS19.ext hx21
          rw [any_pat (ruleE_fr he).2] at hc3
          refine zq 2 rfl<|zN<|zT<|zf rfl<|zK<|zT<|zS<|zR<|zV (r_field fa40_5 rfl)<|zV (r_loadB1 ti3.und rfl rfl (hS22.heap Z0) (ask_tmN hac hkey ht0))<|zV (r_remn (b := 86400) rfl rfl Om)<|zV (r_quon (b := 3600) rfl rfl Om Om)<|zq 1 rfl<|zN<|zT<|zS<|zI<|zS<|zR<|zF fa50_4 rfl ti3.und rfl (hS22.heap Z1) rfl rfl rfl ?_
          refine wl_dec (r_eql rfl rfl) rfl (fun h8_2 => ?_) (fun h8_2 => ?_)
          · refine zq 1 rfl<|wl_val (r_field fa50_5 rfl) rfl<|wl_val (r_loadB1 ti3.und rfl rfl (hS22.heap Z1) rfl) rfl ?_
            refine wl_dec (r_eql rfl rfl) rfl (fun h8_6 => ?_) (fun h8_6 => ?_)
            · refine zq 2 rfl<|zN<|zT<|zt rfl<|zS<|zR<|zq 1 rfl<|zN<|zT<|zU<|zH<|zL<|ret1 Tryz.results39 ?_
              first | exact ⟨congrArg Value.bool (meet_n1 Om hc1).symm, hS22.fin⟩ | exact ⟨congrArg Value.bool (meet_n2 Om hc2).symm, hS22.fin⟩ | exact ⟨congrArg Value.bool (meet_n3 Om hc3).symm, hS22.fin⟩ | skip
              all_goals (refine ⟨congrArg Value.bool ?_, hS22.fin⟩; rw [(meet_y (by first | exact .inl Om | exact .inr hc1) (by first | exact .inl Om | exact .inr hc2) (by first | exact .inl Om | exact .inr hc3) (h := ((q.tm.toNat % 86400 / 3600 : Nat) : Int)) Om), ← hour_eq he])
              all_goals first | (rw [if_pos Om]; done) | (rw [if_neg Om, if_pos h10_4]; (first | exact (decide_eq_true Om).symm | exact (decide_eq_false Om).symm)) | (rw [if_neg Om, if_neg h10_4]; (first | exact (decide_eq_true Om).symm | exact (decide_eq_false Om).symm))
            refine zq 2 rfl<|zN<|zT<|zf rfl<|zS<|zR<|zF fa50_4 rfl ti3.und rfl (hS22.heap Z1) rfl rfl rfl<|zF fa50_5 rfl ti3.und rfl (hS22.heap Z1) rfl rfl rfl ?_
            refine wl_dec (r_lss rfl rfl) rfl (fun h10_4 => ?_) (fun h10_4 => ?_)
            · refine zq 1 rfl<|zN<|zT<|zt rfl<|zS<|zR<|zF fa50_4 rfl ti3.und rfl (hS22.heap Z1) rfl rfl rfl<|zq 1 rfl ?_
              refine wl_dec (r_leq rfl rfl) rfl (fun h11_3 => ?_) (fun h11_3 => ?_)
              · refine zq 2 rfl<|wl_val (r_field fa50_5 rfl) rfl<|wl_val (r_loadB1 ti3.und rfl rfl (hS22.heap Z1) rfl) rfl ?_
                refine wl_dec (r_lss rfl rfl) rfl (fun h11_8 => ?_) (fun h11_8 => ?_)
                · refine zq 2 rfl<|zN<|zT<|zU<|zH<|zL<|ret1 Tryz.results39 ?_
                  first | exact ⟨congrArg Value.bool (meet_n1 Om hc1).symm, hS22.fin⟩ | exact ⟨congrArg Value.bool (meet_n2 Om hc2).symm, hS22.fin⟩ | exact ⟨congrArg Value.bool (meet_n3 Om hc3).symm, hS22.fin⟩ | skip
                  all_goals (refine ⟨congrArg Value.bool ?_, hS22.fin⟩; rw [(meet_y (by first | exact .inl Om | exact .inr hc1) (by first | exact .inl Om | exact .inr hc2) (by first | exact .inl Om | exact .inr hc3) (h := ((q.tm.toNat % 86400 / 3600 : Nat) : Int)) Om), ← hour_eq he])
                  all_goals first | (rw [if_pos Om]; done) | (rw [if_neg Om, if_pos h10_4]; (first | exact (decide_eq_true Om).symm | exact (decide_eq_false Om).symm)) | (rw [if_neg Om, if_neg h10_4]; (first | exact (decide_eq_true Om).symm | exact (decide_eq_false Om).symm))
                refine zq 2 rfl<|zN<|zT<|zU<|zH<|zL<|ret1 Tryz.results39 ?_
                first | exact ⟨congrArg Value.bool (meet_n1 Om hc1).symm, hS22.fin⟩ | exact ⟨congrArg Value.bool (meet_n2 Om hc2).symm, hS22.fin⟩ | exact ⟨congrArg Value.bool (meet_n3 Om hc3).symm, hS22.fin⟩ | skip
                all_goals (refine ⟨congrArg Value.bool ?_, hS22.fin⟩; rw [(meet_y (by first | exact .inl Om | exact .inr hc1) (by first | exact .inl Om | exact .inr hc2) (by first | exact .inl Om | exact .inr hc3) (h := ((q.tm.toNat % 86400 / 3600 : Nat) : Int)) Om), ← hour_eq he])
                all_goals first | (rw [if_pos Om]; done) | (rw [if_neg Om, if_pos h10_4]; (first | exact (decide_eq_true Om).symm | exact (decide_eq_false Om).symm)) | (rw [if_neg Om, if_neg h10_4]; (first | exact (decide_eq_true Om).symm | exact (decide_eq_false Om).symm))
              refine zq 7 rfl<|zN<|zT<|zU<|zH<|zL<|ret1 Tryz.results39 ?_
              first | exact ⟨congrArg Value.bool (meet_n1 Om hc1).symm, hS22.fin⟩ | exact ⟨congrArg Value.bool (meet_n2 Om hc2).symm, hS22.fin⟩ | exact ⟨congrArg Value.bool (meet_n3 Om hc3).symm, hS22.fin⟩ | skip
              all_goals (refine ⟨congrArg Value.bool ?_, hS22.fin⟩; rw [(meet_y (by first | exact .inl Om | exact .inr hc1) (by first | exact .inl Om | exact .inr hc2) (by first | exact .inl Om | exact .inr hc3) (h := ((q.tm.toNat % 86400 / 3600 : Nat) : Int)) Om), ← hour_eq he])
              all_goals first | (rw [if_pos Om]; done) | (rw [if_neg Om, if_pos h10_4]; (first | exact (decide_eq_true Om).symm | exact (decide_eq_false Om).symm)) | (rw [if_neg Om, if_neg h10_4]; (first | exact (decide_eq_true Om).symm | exact (decide_eq_false Om).symm))
            refine zq 1 rfl<|zN<|zT<|zf rfl<|zK<|zJ<|zT<|zS<|zR<|zq 1 rfl<|zF fa50_4 rfl ti3.und rfl (hS22.heap Z1) rfl rfl rfl ?_
            refine wl_dec (r_geq rfl rfl) rfl (fun h12_3 => ?_) (fun h12_3 => ?_)
            · refine zq 7 rfl<|zN<|zT<|zU<|ret1 Tryz.results39 ?_
              first | exact ⟨congrArg Value.bool (meet_n1 Om hc1).symm, hS22.fin⟩ | exact ⟨congrArg Value.bool (meet_n2 Om hc2).symm, hS22.fin⟩ | exact ⟨congrArg Value.bool (meet_n3 Om hc3).symm, hS22.fin⟩ | skip
              all_goals (refine ⟨congrArg Value.bool ?_, hS22.fin⟩; rw [(meet_y (by first | exact .inl Om | exact .inr hc1) (by first | exact .inl Om | exact .inr hc2) (by first | exact .inl Om | exact .inr hc3) (h := ((q.tm.toNat % 86400 / 3600 : Nat) : Int)) Om), ← hour_eq he])
              all_goals first | (rw [if_pos Om]; done) | (rw [if_neg Om, if_pos h10_4]; (first | exact (decide_eq_true Om).symm | exact (decide_eq_false Om).symm)) | (rw [if_neg Om, if_neg h10_4]; (first | exact (decide_eq_true Om).symm | exact (decide_eq_false Om).symm))
            refine zq 2 rfl<|wl_val (r_field fa50_5 rfl) rfl<|wl_val (r_loadB1 ti3.und rfl rfl (hS22.heap Z1) rfl) rfl ?_
            refine wl_dec (r_lss rfl rfl) rfl (fun h12_8 => ?_) (fun h12_8 => ?_)
            · refine zq 2 rfl<|zN<|zT<|zU<|ret1 Tryz.results39 ?_
              first | exact ⟨congrArg Value.bool (meet_n1 Om hc1).symm, hS22.fin⟩ | exact ⟨congrArg Value.bool (meet_n2 Om hc2).symm, hS22.fin⟩ | exact ⟨congrArg Value.bool (meet_n3 Om hc3).symm, hS22.fin⟩ | skip
              all_goals (refine ⟨congrArg Value.bool ?_, hS22.fin⟩; rw [(meet_y (by first | exact .inl Om | exact .inr hc1) (by first | exact .inl Om | exact .inr hc2) (by first | exact .inl Om | exact .inr hc3) (h := ((q.tm.toNat % 86400 / 3600 : Nat) : Int)) Om), ← hour_eq he])
              all_goals first | (rw [if_pos Om]; done) | (rw [if_neg Om, if_pos h10_4]; (first | exact (decide_eq_true Om).symm | exact (decide_eq_false Om).symm)) | (rw [if_neg Om, if_neg h10_4]; (first | exact (decide_eq_true Om).symm | exact (decide_eq_false Om).symm))
            refine zq 2 rfl<|zN<|zT<|zU<|ret1 Tryz.results39 ?_
            first | exact ⟨congrArg Value.bool (meet_n1 Om hc1).symm, hS22.fin⟩ | exact ⟨congrArg Value.bool (meet_n2 Om hc2).symm, hS22.fin⟩ | exact ⟨congrArg Value.bool (meet_n3 Om hc3).symm, hS22.fin⟩ | skip
            all_goals (refine ⟨congrArg Value.bool ?_, hS22.fin⟩; rw [(meet_y (by first | exact .inl Om | exact .inr hc1) (by first | exact .inl Om | exact .inr hc2) (by first | exact .inl Om | exact .inr hc3) (h := ((q.tm.toNat % 86400 / 3600 : Nat) : Int)) Om), ← hour_eq he])
            all_goals first | (rw [if_pos Om]; done) | (rw [if_neg Om, if_pos h10_4]; (first | exact (decide_eq_true Om).symm | exact (decide_eq_false Om).symm)) | (rw [if_neg Om, if_neg h10_4]; (first | exact (decide_eq_true Om).symm | exact (decide_eq_false Om).symm))
          refine zq 6 rfl<|zN<|zT<|zf rfl<|zS<|zR<|zF fa50_4 rfl ti3.und rfl (hS22.heap Z1) rfl rfl rfl<|zF fa50_5 rfl ti3.und rfl (hS22.heap Z1) rfl rfl rfl ?_
          refine wl_dec (r_lss rfl rfl) rfl (fun h10_4 => ?_) (fun h10_4 => ?_)
          · refine zq 1 rfl<|zN<|zT<|zt rfl<|zS<|zR<|zF fa50_4 rfl ti3.und rfl (hS22.heap Z1) rfl rfl rfl<|zq 1 rfl ?_
            refine wl_dec (r_leq rfl rfl) rfl (fun h11_3 => ?_) (fun h11_3 => ?_)
            · refine zq 2 rfl<|wl_val (r_field fa50_5 rfl) rfl<|wl_val (r_loadB1 ti3.und rfl rfl (hS22.heap Z1) rfl) rfl ?_
              refine wl_dec (r_lss rfl rfl) rfl (fun h11_8 => ?_) (fun h11_8 => ?_)
              · refine zq 2 rfl<|zN<|zT<|zU<|zH<|zL<|ret1 Tryz.results39 ?_
                first | exact ⟨congrArg Value.bool (meet_n1 Om hc1).symm, hS22.fin⟩ | exact ⟨congrArg Value.bool (meet_n2 Om hc2).symm, hS22.fin⟩ | exact ⟨congrArg Value.bool (meet_n3 Om hc3).symm, hS22.fin⟩ | skip
                all_goals (refine ⟨congrArg Value.bool ?_, hS22.fin⟩; rw [(meet_y (by first | exact .inl Om | exact .inr hc1) (by first | exact .inl Om | exact .inr hc2) (by first | exact .inl Om | exact .inr hc3) (h := ((q.tm.toNat % 86400 / 3600 : Nat) : Int)) Om), ← hour_eq he])
                all_goals first | (rw [if_pos Om]; done) | (rw [if_neg Om, if_pos h10_4]; (first | exact (decide_eq_true Om).symm | exact (decide_eq_false Om).symm)) | (rw [if_neg Om, if_neg h10_4]; (first | exact (decide_eq_true Om).symm | exact (decide_eq_false Om).symm))
              refine zq 2 rfl<|zN<|zT<|zU<|zH<|zL<|ret1 Tryz.results39 ?_
              first | exact ⟨congrArg Value.bool (meet_n1 Om hc1).symm, hS22.fin⟩ | exact ⟨congrArg Value.bool (meet_n2 Om hc2).symm, hS22.fin⟩ | exact ⟨congrArg Value.bool (meet_n3 Om hc3).symm, hS22.fin⟩ | skip
              all_goals (refine ⟨congrArg Value.bool ?_, hS22.fin⟩; rw [(meet_y (by first | exact .inl Om | exact .inr hc1) (by first | exact .inl Om | exact .inr hc2) (by first | exact .inl Om | exact .inr hc3) (h := ((q.tm.toNat % 86400 / 3600 : Nat) : Int)) Om), ← hour_eq he])
              all_goals first | (rw [if_pos Om]; done) | (rw [if_neg Om, if_pos h10_4]; (first | exact (decide_eq_true Om).symm | exact (decide_eq_false Om).symm)) | (rw [if_neg Om, if_neg h10_4]; (first | exact (decide_eq_true Om).symm | exact (decide_eq_false Om).symm))
            refine zq 7 rfl<|zN<|zT<|zU<|zH<|zL<|ret1 Tryz.results39 ?_
            first | exact ⟨congrArg Value.bool (meet_n1 Om hc1).symm, hS22.fin⟩ | exact ⟨congrArg Value.bool (meet_n2 Om hc2).symm, hS22.fin⟩ | exact ⟨congrArg Value.bool (meet_n3 Om hc3).symm, hS22.fin⟩ | skip
            all_goals (refine ⟨congrArg Value.bool ?_, hS22.fin⟩; rw [(meet_y (by first | exact .inl Om | exact .inr hc1) (by first | exact .inl Om | exact .inr hc2) (by first | exact .inl Om | exact .inr hc3) (h := ((q.tm.toNat % 86400 / 3600 : Nat) : Int)) Om), ← hour_eq he])
            all_goals first | (rw [if_pos Om]; done) | (rw [if_neg Om, if_pos h10_4]; (first | exact (decide_eq_true Om).symm | exact (decide_eq_false Om).symm)) | (rw [if_neg Om, if_neg h10_4]; (first | exact (decide_eq_true Om).symm | exact (decide_eq_false Om).symm))
          refine zq 1 rfl<|zN<|zT<|zf rfl<|zK<|zJ<|zT<|zS<|zR<|zq 1 rfl<|zF fa50_4 rfl ti3.und rfl (hS22.heap Z1) rfl rfl rfl ?_
          refine wl_dec (r_geq rfl rfl) rfl (fun h12_3 => ?_) (fun h12_3 => ?_)
          · refine zq 7 rfl<|zN<|zT<|zU<|ret1 Tryz.results39 ?_
            first | exact ⟨congrArg Value.bool (meet_n1 Om hc1).symm, hS22.fin⟩ | exact ⟨congrArg Value.bool (meet_n2 Om hc2).symm, hS22.fin⟩ | exact ⟨congrArg Value.bool (meet_n3 Om hc3).symm, hS22.fin⟩ | skip
            all_goals (refine ⟨congrArg Value.bool ?_, hS22.fin⟩; rw [(meet_y (by first | exact .inl Om | exact .inr hc1) (by first | exact .inl Om | exact .inr hc2) (by first | exact .inl Om | exact .inr hc3) (h := ((q.tm.toNat % 86400 / 3600 : Nat) : Int)) Om), ← hour_eq he])
            all_goals first | (rw [if_pos Om]; done) | (rw [if_neg Om, if_pos h10_4]; (first | exact (decide_eq_true Om).symm | exact (decide_eq_false Om).symm)) | (rw [if_neg Om, if_neg h10_4]; (first | exact (decide_eq_true Om).symm | exact (decide_eq_false Om).symm))
          refine zq 2 rfl<|wl_val (r_field fa50_5 rfl) rfl<|wl_val (r_loadB1 ti3.und rfl rfl (hS22.heap Z1) rfl) rfl ?_
          refine wl_dec (r_lss rfl rfl) rfl (fun h12_8 => ?_) (fun h12_8 => ?_)
          · refine zq 2 rfl<|zN<|zT<|zU<|ret1 Tryz.results39 ?_
            first | exact ⟨congrArg Value.bool (meet_n1 Om hc1).symm, hS22.fin⟩ | exact ⟨congrArg Value.bool (meet_n2 Om hc2).symm, hS22.fin⟩ | exact ⟨congrArg Value.bool (meet_n3 Om hc3).symm, hS22.fin⟩ | skip
            all_goals (refine ⟨congrArg Value.bool ?_, hS22.fin⟩; rw [(meet_y (by first | exact .inl Om | exact .inr hc1) (by first | exact .inl Om | exact .inr hc2) (by first | exact .inl Om | exact .inr hc3) (h := ((q.tm.toNat % 86400 / 3600 : Nat) : Int)) Om), ← hour_eq he])
            all_goals first | (rw [if_pos Om]; done) | (rw [if_neg Om, if_pos h10_4]; (first | exact (decide_eq_true Om).symm | exact (decide_eq_false Om).symm)) | (rw [if_neg Om, if_neg h10_4]; (first | exact (decide_eq_true Om).symm | exact (decide_eq_false Om).symm))
          refine zq 2 rfl<|zN<|zT<|zU<|ret1 Tryz.results39 ?_
          first | exact ⟨congrArg Value.bool (meet_n1 Om hc1).symm, hS22.fin⟩ | exact ⟨congrArg Value.bool (meet_n2 Om hc2).symm, hS22.fin⟩ | exact ⟨congrArg Value.bool (meet_n3 Om hc3).symm, hS22.fin⟩ | skip
          all_goals (refine ⟨congrArg Value.bool ?_, hS22.fin⟩; rw [(meet_y (by first | exact .inl Om | exact .inr hc1) (by first | exact .inl Om | exact .inr hc2) (by first | exact .inl Om | exact .inr hc3) (h := ((q.tm.toNat % 86400 / 3600 : Nat) : Int)) Om), ← hour_eq he])
          all_goals first | (rw [if_pos Om]; done) | (rw [if_neg Om, if_pos h10_4]; (first | exact (decide_eq_true Om).symm | exact (decide_eq_false Om).symm)) | (rw [if_neg Om, if_neg h10_4]; (first | exact (decide_eq_true Om).symm | exact (decide_eq_false Om).symm))
        have hS22 := hS19.ext hx21
        rw [any_pat (ruleE_fr he).2] at hc3
        refine zq 2 rfl<|zN<|zT<|zt rfl<|zS<|zR<|zq 1 rfl<|zN<|zT<|zU<|zL<|ret1 Tryz.results39 ?_
        first | exact ⟨congrArg Value.bool (meet_n1 Om hc1).symm, hS22.fin⟩ | exact ⟨congrArg Value.bool (meet_n2 Om hc2).symm, hS22.fin⟩ | exact ⟨congrArg Value.bool (meet_n3 Om hc3).symm, hS22.fin⟩ | skip
        all_goals (refine ⟨congrArg Value.bool ?_, hS22.fin⟩; rw [(meet_y (by first | exact .inl Om | exact .inr hc1) (by first | exact .inl Om | exact .inr hc2) (by first | exact .inl Om | exact .inr hc3) (h := ((q.tm.toNat % 86400 / 3600 : Nat) : Int)) Om), ← hour_eq he])
        all_goals first | (rw [if_pos Om]; done) | (rw [if_neg Om, if_pos h10_4]; (first | exact (decide_eq_true Om).symm | exact (decide_eq_false Om).symm)) | (rw [if_neg Om, if_neg h10_4]; (first | exact (decide_eq_true Om).symm | exact (decide_eq_false Om).symm))
      refine zq 7 rfl<|zN<|zT<|zf rfl<|zK<|zT<|zS<|zR<|zV (r_field fa40_5 rfl)<|zV (r_loadB1 ti3.und rfl rfl (hS19.heap Z0) (ask_tmN hac hkey ht0))<|zV (r_remn (b := 86400) rfl rfl Om)<|zV (r_quon (b := 3600) rfl rfl Om Om)<|zq 1 rfl<|zN<|zT<|zS<|zI<|zS<|zR<|zF fa50_4 rfl ti3.und rfl (hS19.heap Z1) rfl rfl rfl ?_
      refine wl_dec (r_eql rfl rfl) rfl (fun h8_2 => ?_) (fun h8_2 => ?_)
      · refine zq 1 rfl<|wl_val (r_field fa50_5 rfl) rfl<|wl_val (r_loadB1 ti3.und rfl rfl (hS19.heap Z1) rfl) rfl ?_
        refine wl_dec (r_eql rfl rfl) rfl (fun h8_6 => ?_) (fun h8_6 => ?_)
        · refine zq 2 rfl<|zN<|zT<|zt rfl<|zS<|zR<|zq 1 rfl<|zN<|zT<|zU<|zH<|zL<|ret1 Tryz.results39 ?_
          first | exact ⟨congrArg Value.bool (meet_n1 Om hc1).symm, hS19.fin⟩ | exact ⟨congrArg Value.bool (meet_n2 Om hc2).symm, hS19.fin⟩ | exact ⟨congrArg Value.bool (meet_n3 Om hc3).symm, hS19.fin⟩ | skip
          all_goals (refine ⟨congrArg Value.bool ?_, hS19.fin⟩; rw [(meet_y (by first | exact .inl Om | exact .inr hc1) (by first | exact .inl Om | exact .inr hc2) (by first | exact .inl Om | exact .inr hc3) (h := ((q.tm.toNat % 86400 / 3600 : Nat) : Int)) Om), ← hour_eq he])
          all_goals first | (rw [if_pos Om]; done) | (rw [if_neg Om, if_pos h10_4]; (first | exact (decide_eq_true Om).symm | exact (decide_eq_false Om).symm)) | (rw [if_neg Om, if_neg h10_4]; (first | exact (decide_eq_true Om).symm | exact (decide_eq_false Om).symm))
        refine zq 2 rfl<|zN<|zT<|zf rfl<|zS<|zR<|zF fa50_4 rfl ti3.und rfl (hS19.heap Z1) rfl rfl rfl<|zF fa50_5 rfl ti3.und rfl (hS19.heap Z1) rfl rfl rfl ?_
        refine wl_dec (r_lss rfl rfl) rfl (fun h10_4 => ?_) (fun h10_4 => ?_)
        · refine zq 1 rfl<|zN<|zT<|zt rfl<|zS<|zR<|zF fa50_4 rfl ti3.und rfl (hS19.heap Z1) rfl rfl rfl<|zq 1 rfl ?_
          refine wl_dec (r_leq rfl rfl) rfl (fun h11_3 => ?_) (fun h11_3 => ?_)
          · refine zq 2 rfl<|wl_val (r_field fa50_5 rfl) rfl<|wl_val (r_loadB1 ti3.und rfl rfl (hS19.heap Z1) rfl) rfl ?_
            refine wl_dec (r_lss rfl rfl) rfl (fun h11_8 => ?_) (fun h11_8 => ?_)
            · refine zq 2 rfl<|zN<|zT<|zU<|zH<|zL<|ret1 Tryz.results39 ?_
              first | exact ⟨congrArg Value.bool (meet_n1 Om hc1).symm, hS19.fin⟩ | exact ⟨congrArg Value.bool (meet_n2 Om hc2).symm, hS19.fin⟩ | exact ⟨congrArg Value.bool (meet_n3 Om hc3).symm, hS19.fin⟩ | skip
              all_goals (refine ⟨congrArg Value.bool ?_, hS19.fin⟩; rw [(meet_y (by first | exact .inl Om | exact .inr hc1) (by first | exact .inl Om | exact .inr hc2) (by first | exact .inl Om | exact .inr hc3) (h := ((q.tm.toNat % 86400 / 3600 : Nat) : Int)) Om), ← hour_eq he])
              all_goals first | (rw [if_pos Om]; done) | (rw [if_neg Om, if_pos h10_4]; (first | exact (decide_eq_true Om).symm | exact (decide_eq_false Om).symm)) | (rw [if_neg Om, if_neg h10_4]; (first | exact (decide_eq_true Om).symm | exact (decide_eq_false Om).symm))
            refine zq 2 rfl<|zN<|zT<|zU<|zH<|zL<|ret1 Tryz.results39 ?_
            first | exact ⟨congrArg Value.bool (meet_n1 Om hc1).symm, hS19.fin⟩ | exact ⟨congrArg Value.bool (meet_n2 Om hc2).symm, hS19.fin⟩ | exact ⟨congrArg Value.bool (meet_n3 Om hc3).symm, hS19.fin⟩ | skip
            all_goals (refine ⟨congrArg Value.bool ?_, hS19.fin⟩; rw [(meet_y (by first | exact .inl Om | exact .inr hc1) (by first | exact .inl Om | exact .inr hc2) (by first | exact .inl Om | exact .inr hc3) (h := ((q.tm.toNat % 86400 / 3600 : Nat) : Int)) Om), ← hour_eq he])
            all_goals first | (rw [if_pos Om]; done) | (rw [if_neg Om, if_pos h10_4]; (first | exact (decide_eq_true Om).symm | exact (decide_eq_false Om).symm)) | (rw [if_neg Om, if_neg h10_4]; (first | exact (decide_eq_true Om).symm | exact (decide_eq_false Om).symm))
          refine zq 7 rfl<|zN<|zT<|zU<|zH<|zL<|ret1 Tryz.results39 ?_
          first | exact ⟨congrArg Value.bool (meet_n1 Om hc1).symm, hS19.fin⟩ | exact ⟨congrArg Value.bool (meet_n2 Om hc2).symm, hS19.fin⟩ | exact ⟨congrArg Value.bool (meet_n3 Om hc3).symm, hS19.fin⟩ | skip
          all_goals (refine ⟨congrArg Value.bool ?_, hS19.fin⟩; rw [(meet_y (by first | exact .inl Om | exact .inr hc1) (by first | exact .inl Om | exact .inr hc2) (by first | exact .inl Om | exact .inr hc3) (h := ((q.tm.toNat % 86400 / 3600 : Nat) : Int)) Om), ← hour_eq he])
          all_goals first | (rw [if_pos Om]; done) | (rw [if_neg Om, if_pos h10_4]; (first | exact (decide_eq_true Om).symm | exact (decide_eq_false Om).symm)) | (rw [if_neg Om, if_neg h10_4]; (first | exact (decide_eq_true Om).symm | exact (decide_eq_false Om).symm))
        refine zq 1 rfl<|zN<|zT<|zf rfl<|zK<|zJ<|zT<|zS<|zR<|zq 1 rfl<|zF fa50_4 rfl ti3.und rfl (hS19.heap Z1) rfl rfl rfl ?_
        refine wl_dec (r_geq rfl rfl) rfl (fun h12_3 => ?_) (fun h12_3 => ?_)
        · refine zq 7 rfl<|zN<|zT<|zU<|ret1 Tryz.results39 ?_
          first | exact ⟨congrArg Value.bool (meet_n1 Om hc1).symm, hS19.fin⟩ | exact ⟨congrArg Value.bool (meet_n2 Om hc2).symm, hS19.fin⟩ | exact ⟨congrArg Value.bool (meet_n3 Om hc3).symm, hS19.fin⟩ | skip
          all_goals (refine ⟨congrArg Value.bool ?_, hS19.fin⟩; rw [(meet_y (by first | exact .inl Om | exact .inr hc1) (by first | exact .inl Om | exact .inr hc2) (by first | exact .inl Om | exact .inr hc3) (h := ((q.tm.toNat % 86400 / 3600 : Nat) : Int)) Om), ← hour_eq he])
          all_goals first | (rw [if_pos Om]; done) | (rw [if_neg Om, if_pos h10_4]; (first | exact (decide_eq_true Om).symm | exact (decide_eq_false Om).symm)) | (rw [if_neg Om, if_neg h10_4]; (first | exact (decide_eq_true Om).symm | exact (decide_eq_false Om).symm))
        refine zq 2 rfl<|wl_val (r_field fa50_5 rfl) rfl<|wl_val (r_loadB1 ti3.und rfl rfl (hS19.heap Z1) rfl) rfl ?_
        refine wl_dec (r_lss rfl rfl) rfl (fun h12_8 => ?_) (fun h12_8 => ?_)
        · refine zq 2 rfl<|zN<|zT<|zU<|ret1 Tryz.results39 ?_
          first | exact ⟨congrArg Value.bool (meet_n1 Om hc1).symm, hS19.fin⟩ | exact ⟨congrArg Value.bool (meet_n2 Om hc2).symm, hS19.fin⟩ | exact ⟨congrArg Value.bool (meet_n3 Om hc3).symm, hS19.fin⟩ | skip
          all_goals (refine ⟨congrArg Value.bool ?_, hS19.fin⟩; rw [(meet_y (by first | exact .inl Om | exact .inr hc1) (by first | exact .inl Om | exact .inr hc2) (by first | exact .inl Om | exact .inr hc3) (h := ((q.tm.toNat % 86400 / 3600 : Nat) : Int)) Om), ← hour_eq he])
          all_goals first | (rw [if_pos Om]; done) | (rw [if_neg Om, if_pos h10_4]; (first | exact (decide_eq_true Om).symm | exact (decide_eq_false Om).symm)) | (rw [if_neg Om, if_neg h10_4]; (first | exact (decide_eq_true Om).symm | exact (decide_eq_false Om).symm))
        refine zq 2 rfl<|zN<|zT<|zU<|ret1 Tryz.results39 ?_
        first | exact ⟨congrArg Value.bool (meet_n1 Om hc1).symm, hS19.fin⟩ | exact ⟨congrArg Value.bool (meet_n2 Om hc2).symm, hS19.fin⟩ | exact ⟨congrArg Value.bool (meet_n3 Om hc3).symm, hS19.fin⟩ | skip
        all_goals (refine ⟨congrArg Value.bool ?_, hS19.fin⟩; rw [(meet_y (by first | exact .inl Om | exact .inr hc1) (by first | exact .inl Om | exact .inr hc2) (by first | exact .inl Om | exact .inr hc3) (h := ((q.tm.toNat % 86400 / 3600 : Nat) : Int)) Om), ← hour_eq he])
        all_goals first | (rw [if_pos Om]; done) | (rw [if_neg Om, if_pos h10_4]; (first | exact (decide_eq_true Om).symm | exact (decide_eq_false Om).symm)) | (rw [if_neg Om, if_neg h10_4]; (first | exact (decide_eq_true Om).symm | exact (decide_eq_false Om).symm))
      refine zq 6 rfl<|zN<|zT<|zf rfl<|zS<|zR<|zF fa50_4 rfl ti3.und rfl (hS19.heap Z1) rfl rfl rfl<|zF fa50_5 rfl ti3.und rfl (hS19.heap Z1) rfl rfl rfl ?_
      refine wl_dec (r_lss rfl rfl) rfl (fun h10_4 => ?_) (fun h10_4 => ?_)
      · refine zq 1 rfl<|zN<|zT<|zt rfl<|zS<|zR<|zF fa50_4 rfl ti3.und rfl (hS19.heap Z1) rfl rfl rfl<|zq 1 rfl ?_
        refine wl_dec (r_leq rfl rfl) rfl (fun h11_3 => ?_) (fun h11_3 => ?_)
        · refine zq 2 rfl<|wl_val (r_field fa50_5 rfl) rfl<|wl_val (r_loadB1 ti3.und rfl rfl (hS19.heap Z1) rfl) rfl ?_
          refine wl_dec (r_lss rfl rfl) rfl (fun h11_8 => ?_) (fun h11_8 => ?_)
          · refine zq 2 rfl<|zN<|zT<|zU<|zH<|zL<|ret1 Tryz.results39 ?_
            first | exact ⟨congrArg Value.bool (meet_n1 Om hc1).symm, hS19.fin⟩ | exact ⟨congrArg Value.bool (meet_n2 Om hc2).symm, hS19.fin⟩ | exact ⟨congrArg Value.bool (meet_n3 Om hc3).symm, hS19.fin⟩ | skip
            all_goals (refine ⟨congrArg Value.bool ?_, hS19.fin⟩; rw [(meet_y (by first | exact .inl Om | exact .inr hc1) (by first | exact .inl Om | exact .inr hc2) (by first | exact .inl Om | exact .inr hc3) (h := ((q.tm.toNat % 86400 / 3600 : Nat) : Int)) Om), ← hour_eq he])
            all_goals first | (rw [if_pos Om]; done) | (rw [if_neg Om, if_pos h10_4]; (first | exact (decide_eq_true Om).symm | exact (decide_eq_false Om).symm)) | (rw [if_neg Om, if_neg h10_4]; (first | exact (decide_eq_true Om).symm | exact (decide_eq_false Om).symm))
          refine zq 2 rfl<|zN<|zT<|zU<|zH<|zL<|ret1 Tryz.results39 ?_
          first | exact ⟨congrArg Value.bool (meet_n1 Om hc1).symm, hS19.fin⟩ | exact ⟨congrArg Value.bool (meet_n2 Om hc2).symm, hS19.fin⟩ | exact ⟨congrArg Value.bool (meet_n3 Om hc3).symm, hS19.fin⟩ | skip
          all_goals (refine ⟨congrArg Value.bool ?_, hS19.fin⟩; rw [(meet_y (by first | exact .inl Om | exact .inr hc1) (by first | exact .inl Om | exact .inr hc2) (by first | exact .inl Om | exact .inr hc3) (h := ((q.tm.toNat % 86400 / 3600 : Nat) : Int)) Om), ← hour_eq he])
          all_goals first | (rw [if_pos Om]; done) | (rw [if_neg Om, if_pos h10_4]; (first | exact (decide_eq_true Om).symm | exact (decide_eq_false Om).symm)) | (rw [if_neg Om, if_neg h10_4]; (first | exact (decide_eq_true Om).symm | exact (decide_eq_false Om).symm))
        refine zq 7 rfl<|zN<|zT<|zU<|zH<|zL<|ret1 Tryz.results39 ?_
        first | exact ⟨congrArg Value.bool (meet_n1 Om hc1).symm, hS19.fin⟩ | exact ⟨congrArg Value.bool (meet_n2 Om hc2).symm, hS19.fin⟩ | exact ⟨congrArg Value.bool (meet_n3 Om hc3).symm, hS19.fin⟩ | skip
        all_goals (refine ⟨congrArg Value.bool ?_, hS19.fin⟩; rw [(meet_y (by first | exact .inl Om | exact .inr hc1) (by first | exact .inl Om | exact .inr hc2) (by first | exact .inl Om | exact .inr hc3) (h := ((q.tm.toNat % 86400 / 3600 : Nat) : Int)) Om), ← hour_eq he])
        all_goals first | (rw [if_pos Om]; done) | (rw [if_neg Om, if_pos h10_4]; (first | exact (decide_eq_true Om).symm | exact (decide_eq_false Om).symm)) | (rw [if_neg Om, if_neg h10_4]; (first | exact (decide_eq_true Om).symm | exact (decide_eq_false Om).symm))
      refine zq 1 rfl<|zN<|zT<|zf rfl<|zK<|zJ<|zT<|zS<|zR<|zq 1 rfl<|zF fa50_4 rfl ti3.und rfl (hS19.heap Z1) rfl rfl rfl ?_
      refine wl_dec (r_geq rfl rfl) rfl (fun h12_3 => ?_) (fun h12_3 => ?_)
      · refine zq 7 rfl<|zN<|zT<|zU<|ret1 Tryz.results39 ?_
        first | exact ⟨congrArg Value.bool (meet_n1 Om hc1).symm, hS19.fin⟩ | exact ⟨congrArg Value.bool (meet_n2 Om hc2).symm, hS19.fin⟩ | exact ⟨congrArg Value.bool (meet_n3 Om hc3).symm, hS19.fin⟩ | skip
        all_goals (refine ⟨congrArg Value.bool ?_, hS19.fin⟩; rw [(meet_y (by first | exact .inl Om | exact .inr hc1) (by first | exact .inl Om | exact .inr hc2) (by first | exact .inl Om | exact .inr hc3) (h := ((q.tm.toNat % 86400 / 3600 : Nat) : Int)) Om), ← hour_eq he])
        all_goals first | (rw [if_pos Om]; done) | (rw [if_neg Om, if_pos h10_4]; (first | exact (decide_eq_true Om).symm | exact (decide_eq_false Om).symm)) | (rw [if_neg Om, if_neg h10_4]; (first | exact (decide_eq_true Om).symm | exact (decide_eq_false Om).symm))
      refine zq 2 rfl<|wl_val (r_field fa50_5 rfl) rfl<|wl_val (r_loadB1 ti3.und rfl rfl (hS19.heap Z1) rfl) rfl ?_
      refine wl_dec (r_lss rfl rfl) rfl (fun h12_8 => ?_) (fun h12_8 => ?_)
      · refine zq 2 rfl<|zN<|zT<|zU<|ret1 Tryz.results39 ?_
        first | exact ⟨congrArg Value.bool (meet_n1 Om hc1).symm, hS19.fin⟩ | exact ⟨congrArg Value.bool (meet_n2 Om hc2).symm, hS19.fin⟩ | exact ⟨congrArg Value.bool (meet_n3 Om hc3).symm, hS19.fin⟩ | skip
        all_goals (refine ⟨congrArg Value.bool ?_, hS19.fin⟩; rw [(meet_y (by first | exact .inl Om | exact .inr hc1) (by first | exact .inl Om | exact .inr hc2) (by first | exact .inl Om | exact .inr hc3) (h := ((q.tm.toNat % 86400 / 3600 : Nat) : Int)) Om), ← hour_eq he])
        all_goals first | (rw [if_pos Om]; done) | (rw [if_neg Om, if_pos h10_4]; (first | exact (decide_eq_true Om).symm | exact (decide_eq_false Om).symm)) | (rw [if_neg Om, if_neg h10_4]; (first | exact (decide_eq_true Om).symm | exact (decide_eq_false Om).symm))
      refine zq 2 rfl<|zN<|zT<|zU<|ret1 Tryz.results39 ?_
      first | exact ⟨congrArg Value.bool (meet_n1 Om hc1).symm, hS19.fin⟩ | exact ⟨congrArg Value.bool (meet_n2 Om hc2).symm, hS19.fin⟩ | exact ⟨congrArg Value.bool (meet_n3 Om hc3).symm, hS19.fin⟩ | skip
      all_goals (refine ⟨congrArg Value.bool ?_, hS19.fin⟩; rw [(meet_y (by first | exact .inl Om | exact .inr hc1) (by first | exact .inl Om | exact .inr hc2) (by first | exact .inl Om | exact .inr hc3) (h := ((q.tm.toNat % 86400 / 3600 : Nat) : Int)) Om), ← hour_eq he])
      all_goals first | (rw [if_pos Om]; done) | (rw [if_neg Om, if_pos h10_4]; (first | exact (decide_eq_true Om).symm | exact (decide_eq_false Om).symm)) | (rw [if_neg Om, if_neg h10_4]; (first | exact (decide_eq_true Om).symm | exact (decide_eq_false Om).symm))
    have hS19 := hS4.ext hx18; refine zq 2 rfl<|zN<|zT<|zt rfl<|zS<|zR<|zq 1 rfl<|zN<|zT<|zU<|zL<|ret1 Tryz.results39 ?_
    first | exact ⟨congrArg Value.bool (meet_n1 Om hc1).symm, hS19.fin⟩ | exact ⟨congrArg Value.bool (meet_n2 Om hc2).symm, hS19.fin⟩ | exact ⟨congrArg Value.bool (meet_n3 Om hc3).symm, hS19.fin⟩ | skip
    all_goals (refine ⟨congrArg Value.bool ?_, hS19.fin⟩; rw [(meet_y (by first | exact .inl Om | exact .inr hc1) (by first | exact .inl Om | exact .inr hc2) (by first | exact .inl Om | exact .inr hc3) (h := ((q.tm.toNat % 86400 / 3600 : Nat) : Int)) Om), ← hour_eq he])
    all_goals first | (rw [if_pos Om]; done) | (rw [if_neg Om, if_pos h10_4]; (first | exact (decide_eq_true Om).symm | exact (decide_eq_false Om).symm)) | (rw [if_neg Om, if_neg h10_4]; (first | exact (decide_eq_true Om).symm | exact (decide_eq_false Om).symm))
  refine zq 8 rfl<|zN<|zT<|zf rfl<|zK<|zT<|zS<|zS<|zR<|zF fa50_3 rfl ti36.und rfl (hS4.heap Z1) rfl rfl rfl<|zV (r_len (T := 36) rfl ti36.und rfl _ rfl) ?_
  refine wl_dec (r_gtr rfl rfl) rfl (fun h5_3 => ?_) (fun h5_3 => ?_)
  · refine zq 1 rfl<|wl_val (r_field fa50_3 rfl) rfl<|wl_val (r_loadB1 ti36.und rfl rfl (hS4.heap Z1) rfl) rfl<|wl_val (r_makeFunc (vs := [pt b3 0]) rfl) rfl<|zC fn53 rfl (containsFuncS_ok r.las r.la r.las.length r.lc 72 [pt b3 0] (fun s => (decide (¬ q.lab = []) || decide (s = [42])) && fitsE s q.lab) _ (h3.st hS4) rfl hk.ln fn72 (fun x w' hx h => rmeets2_ok x q b3 w' ((at_all (hS4.heap Z0)).st h) hac (hk.ll x hx) hq.ll)) ?_
    rintro _ w23 (⟨hc3, rfl, hx24⟩ | ⟨hc3, rfl, hx24⟩)
    · have hS25 := hS4.ext hx24
      rw [any_pat (ruleE_fr he).2] at hc3
      refine zq 2 rfl<|zN<|zT<|zf rfl<|zK<|zT<|zS<|zR<|zV (r_field fa40_5 rfl)<|zV (r_loadB1 ti3.und rfl rfl (hS25.heap Z0) (ask_tmN hac hkey ht0))<|zV (r_remn (b := 86400) rfl rfl Om)<|zV (r_quon (b := 3600) rfl rfl Om Om)<|zq 1 rfl<|zN<|zT<|zS<|zI<|zS<|zR<|zF fa50_4 rfl ti3.und rfl (hS25.heap Z1) rfl rfl rfl ?_
      refine wl_dec (r_eql rfl rfl) rfl (fun h8_2 => ?_) (fun h8_2 => ?_)
      · refine zq 1 rfl<|wl_val (r_field fa50_5 rfl) rfl<|wl_val (r_loadB1 ti3.und rfl rfl (hS25.heap Z1) rfl) rfl ?_
        refine wl_dec (r_eql rfl rfl) rfl (fun h8_6 => ?_) (fun h8_6 => ?_)
        · refine zq 2 rfl<|zN<|zT<|zt rfl<|zS<|zR<|zq 1 rfl<|zN<|zT<|zU<|zH<|zL<|ret1 Tryz.results39 ?_
          first | exact ⟨congrArg Value.bool (meet_n1 Om hc1).symm, hS25.fin⟩ | exact ⟨congrArg Value.bool (meet_n2 Om hc2).symm, hS25.fin⟩ | exact ⟨congrArg Value.bool (meet_n3 Om hc3).symm, hS25.fin⟩ | skip
          all_goals (refine ⟨congrArg Value.bool ?_, hS25.fin⟩; rw [(meet_y (by first | exact .inl Om | exact .inr hc1) (by first | exact .inl Om | exact .inr hc2) (by first | exact .inl Om | exact .inr hc3) (h := ((q.tm.toNat % 86400 / 3600 : Nat) : Int)) Om), ← hour_eq he])
          all_goals first | (rw [if_pos Om]; done) | (rw [if_neg Om, if_pos h10_4]; (first | exact (decide_eq_true Om).symm | exact (decide_eq_false Om).symm)) | (rw [if_neg Om, if_neg h10_4]; (first | exact (decide_eq_true Om).symm | exact (decide_eq_false Om).symm))
        refine zq 2 rfl<|zN<|zT<|zf rfl<|zS<|zR<|zF fa50_4 rfl ti3.und rfl (hS25.heap Z1) rfl rfl rfl<|zF fa50_5 rfl ti3.und rfl (hS25.heap Z1) rfl rfl rfl ?_
        refine wl_dec (r_lss rfl rfl) rfl (fun h10_4 => ?_) (fun h10_4 => ?_)
        · refine zq 1 rfl<|zN<|zT<|zt rfl<|zS<|zR<|zF fa50_4 rfl ti3.und rfl (hS25.heap Z1) rfl rfl rfl<|zq 1 rfl ?_
          refine wl_dec (r_leq rfl rfl) rfl (fun h11_3 => ?_) (fun h11_3 => ?_)
          · refine zq 2 rfl<|wl_val (r_field fa50_5 rfl) rfl<|wl_val (r_loadB1 ti3.und rfl rfl (hS25.heap Z1) rfl) rfl ?_
            refine wl_dec (r_lss rfl rfl) rfl (fun h11_8 => ?_) (fun h11_8 => ?_)
            · refine zq 2 rfl<|zN<|zT<|zU<|zH<|zL<|ret1 Tryz.results39 ?_
              first | exact ⟨congrArg Value.bool (meet_n1 Om hc1).symm, hS25.fin⟩ | exact ⟨congrArg Value.bool (meet_n2 Om hc2).symm, hS25.fin⟩ | exact ⟨congrArg Value.bool (meet_n3 Om hc3).symm, hS25.fin⟩ | skip
              all_goals (refine ⟨congrArg Value.bool ?_, hS25.fin⟩; rw [(meet_y (by first | exact .inl Om | exact .inr hc1) (by first | exact .inl Om | exact .inr hc2) (by first | exact .inl Om | exact .inr hc3) (h := ((q.tm.toNat % 86400 / 3600 : Nat) : Int)) Om), ← hour_eq he])
              all_goals first | (rw [if_pos Om]; done) | (rw [if_neg Om, if_pos h10_4]; (first | exact (decide_eq_true Om).symm | exact (decide_eq_false Om).symm)) | (rw [if_neg Om, if_neg h10_4]; (first | exact (decide_eq_true Om).symm | exact (decide_eq_false Om).symm))
            refine zq 2 rfl<|zN<|zT<|zU<|zH<|zL<|ret1 Tryz.results39 ?_
            first | exact ⟨congrArg Value.bool (meet_n1 Om hc1).symm, hS25.fin⟩ | exact ⟨congrArg Value.bool (meet_n2 Om hc2).symm, hS25.fin⟩ | exact ⟨congrArg Value.bool (meet_n3 Om hc3).symm, hS25.fin⟩ | skip
            all_goals (refine ⟨congrArg Value.bool ?_, hS25.fin⟩; rw [(meet_y (by first | exact .inl Om | exact .inr hc1) (by first | exact .inl Om | exact .inr hc2) (by first | exact .inl Om | exact .inr hc3) (h := ((q.tm.toNat % 86400 / 3600 : Nat) : Int)) Om), ← hour_eq he])
            all_goals first | (rw [if_pos Om]; done) | (rw [if_neg Om, if_pos h10_4]; (first | exact (decide_eq_true Om).symm | exact (decide_eq_false Om).symm)) | (rw [if_neg Om, if_neg h10_4]; (first | exact (decide_eq_true Om).symm | exact (decide_eq_false Om).symm))
          refine zq 7 rfl<|zN<|zT<|zU<|zH<|zL<|ret1 Tryz.results39 ?_
          first | exact ⟨congrArg Value.bool (meet_n1 Om hc1).symm, hS25.fin⟩ | exact ⟨congrArg Value.bool (meet_n2 Om hc2).symm, hS25.fin⟩ | exact ⟨congrArg Value.bool (meet_n3 Om hc3).symm, hS25.fin⟩ | skip
          all_goals (refine ⟨congrArg Value.bool ?_, hS25.fin⟩; rw [(meet_y (by first | exact .inl Om | exact .inr hc1) (by first | exact .inl Om | exact .inr hc2) (by first | exact .inl Om | exact .inr hc3) (h := ((q.tm.toNat % 86400 / 3600 : Nat) : Int)) Om), ← hour_eq he])
          all_goals first | (rw [if_pos Om]; done) | (rw [if_neg Om, if_pos h10_4]; (first | exact (decide_eq_true Om).symm | exact (decide_eq_false Om).symm)) | (rw [if_neg Om, if_neg h10_4]; (first | exact (decide_eq_true Om).symm | exact (decide_eq_false Om).symm))
        refine zq 1 rfl<|zN<|zT<|zf rfl<|zK<|zJ<|zT<|zS<|zR<|zq 1 rfl<|zF fa50_4 rfl ti3.und rfl (hS25.heap Z1) rfl rfl rfl ?_
        refine wl_dec (r_geq rfl rfl) rfl (fun h12_3 => ?_) (fun h12_3 => ?_)
        · refine zq 7 rfl<|zN<|zT<|zU<|ret1 Tryz.results39 ?_
          first | exact ⟨congrArg Value.bool (meet_n1 Om hc1).symm, hS25.fin⟩ | exact ⟨congrArg Value.bool (meet_n2 Om hc2).symm, hS25.fin⟩ | exact ⟨congrArg Value.bool (meet_n3 Om hc3).symm, hS25.fin⟩ | skip
          all_goals (refine ⟨congrArg Value.bool ?_, hS25.fin⟩; rw [(meet_y (by first | exact .inl Om | exact .inr hc1) (by first | exact .inl Om | exact .inr hc2) (by first | exact .inl Om | exact .inr hc3) (h := ((q.tm.toNat % 86400 / 3600 : Nat) : Int)) Om), ← hour_eq he])
          all_goals first | (rw [if_pos Om]; done) | (rw [if_neg Om, if_pos h10_4]; (first | exact (decide_eq_true Om).symm | exact (decide_eq_false Om).symm)) | (rw [if_neg Om, if_neg h10_4]; (first | exact (decide_eq_true Om).symm | exact (decide_eq_false Om).symm))
        refine zq 2 rfl<|wl_val (r_field fa50_5 rfl) rfl<|wl_val (r_loadB1 ti3.und rfl rfl (hS25.heap Z1) rfl) rfl ?_
        refine wl_dec (r_lss rfl rfl) rfl (fun h12_8 => ?_) (fun h12_8 => ?_)
        · refine zq 2 rfl<|zN<|zT<|zU<|ret1 Tryz.results39 ?_
          first | exact ⟨congrArg Value.bool (meet_n1 Om hc1).symm, hS25.fin⟩ | exact ⟨congrArg Value.bool (meet_n2 Om hc2).symm, hS25.fin⟩ | exact ⟨congrArg Value.bool (meet_n3 Om hc3).symm, hS25.fin⟩ | skip
          all_goals (refine ⟨congrArg Value.bool ?_, hS25.fin⟩; rw [(meet_y (by first | exact .inl Om | exact .inr hc1) (by first | exact .inl Om | exact .inr hc2) (by first | exact .inl Om | exact .inr hc3) (h := ((q.tm.toNat % 86400 / 3600 : Nat) : Int)) Om), ← hour_eq he])
          all_goals first | (rw [if_pos Om]; done) | (rw [if_neg Om, if_pos h10_4]; (first | exact (decide_eq_true Om).symm | exact (decide_eq_false Om).symm)) | (rw [if_neg Om, if_neg h10_4]; (first | exact (decide_eq_true Om).symm | exact (decide_eq_false Om).symm))
        refine zq 2 rfl<|zN<|zT<|zU<|ret1 Tryz.results39 ?_
        first | exact ⟨congrArg Value.bool (meet_n1 Om hc1).symm, hS25.fin⟩ | exact ⟨congrArg Value.bool (meet_n2 Om hc2).symm, hS25.fin⟩ | exact ⟨congrArg Value.bool (meet_n3 Om hc3).symm, hS25.fin⟩ | skip
        all_goals (refine ⟨congrArg Value.bool ?_, hS25.fin⟩; rw [(meet_y (by first | exact .inl Om | exact .inr hc1) (by first | exact .inl Om | exact .inr hc2) (by first | exact .inl Om | exact .inr hc3) (h := ((q.tm.toNat % 86400 / 3600 : Nat) : Int)) Om), ← hour_eq he])
        all_goals first | (rw [if_pos Om]; done) | (rw [if_neg Om, if_pos h10_4]; (first | exact (decide_eq_true Om).symm | exact (decide_eq_false Om).symm)) | (rw [if_neg Om, if_neg h10_4]; (first | exact (decide_eq_true Om).symm | exact (decide_eq_false Om).symm))
      refine zq 6 rfl<|zN<|zT<|zf rfl<|zS<|zR<|zF fa50_4 rfl ti3.und rfl (hS25.heap Z1) rfl rfl rfl<|zF fa50_5 rfl ti3.und rfl (hS25.heap Z1) rfl rfl rfl ?_
      refine wl_dec (r_lss rfl rfl) rfl (fun h10_4 => ?_) (fun h10_4 => ?_)
      · refine zq 1 rfl<|zN<|zT<|zt rfl<|zS<|zR<|zF fa50_4 rfl ti3.und rfl (hS25.heap Z1) rfl rfl rfl<|zq 1 rfl ?_
        refine wl_dec (r_leq rfl rfl) rfl (fun h11_3 => ?_) (fun h11_3 => ?_)
        · refine zq 2 rfl<|wl_val (r_field fa50_5 rfl) rfl<|wl_val (r_loadB1 ti3.und rfl rfl (hS25.heap Z1) rfl) rfl ?_
          refine wl_dec (r_lss rfl rfl) rfl (fun h11_8 => ?_) (fun h11_8 => ?_)
          · refine zq 2 rfl<|zN<|zT<|zU<|zH<|zL<|ret1 Tryz.results39 ?_
            first | exact ⟨congrArg Value.bool (meet_n1 Om hc1).symm, hS25.fin⟩ | exact ⟨congrArg Value.bool (meet_n2 Om hc2).symm, hS25.fin⟩ | exact ⟨congrArg Value.bool (meet_n3 Om hc3).symm, hS25.fin⟩ | skip
            all_goals (refine ⟨congrArg Value.bool ?_, hS25.fin⟩; rw [(meet_y (by first | exact .inl Om | exact .inr hc1) (by first | exact .inl Om | exact .inr hc2) (by first | exact .inl Om | exact .inr hc3) (h := ((q.tm.toNat % 86400 / 3600 : Nat) : Int)) Om), ← hour_eq he])
            all_goals first | (rw [if_pos Om]; done) | (rw [if_neg Om, if_pos h10_4]; (first | exact (decide_eq_true Om).symm | exact (decide_eq_false Om).symm)) | (rw [if_neg Om, if_neg h10_4]; (first | exact (decide_eq_true Om).symm | exact (decide_eq_false Om).symm))
          refine zq 2 rfl<|zN<|zT<|zU<|zH<|zL<|ret1 Tryz.results39 ?_
          first | exact ⟨congrArg Value.bool (meet_n1 Om hc1).symm, hS25.fin⟩ | exact ⟨congrArg Value.bool (meet_n2 Om hc2).symm, hS25.fin⟩ | exact ⟨congrArg Value.bool (meet_n3 Om hc3).symm, hS25.fin⟩ | skip
          all_goals (refine ⟨congrArg Value.bool ?_, hS25.fin⟩; rw [(meet_y (by first | exact .inl Om | exact .inr hc1) (by first | exact .inl Om | exact .inr hc2) (by first | exact .inl Om | exact .inr hc3) (h := ((q.tm.toNat % 86400 / 3600 : Nat) : Int)) Om), ← hour_eq he])
          all_goals first | (rw [if_pos Om]; done) | (rw [if_neg Om, if_pos h10_4]; (first | exact (decide_eq_true Om).symm | exact (decide_eq_false Om).symm)) | (rw [if_neg Om, if_neg h10_4]; (first | exact (decide_eq_true Om).symm | exact (decide_eq_false Om).symm))
        refine zq 7 rfl<|zN<|zT<|zU<|zH<|zL<|ret1 Tryz.results39 ?_
        first | exact ⟨congrArg Value.bool (meet_n1 Om hc1).symm, hS25.fin⟩ | exact ⟨congrArg Value.bool (meet_n2 Om hc2).symm, hS25.fin⟩ | exact ⟨congrArg Value.bool (meet_n3 Om hc3).symm, hS25.fin⟩ | skip
        all_goals (refine ⟨congrArg Value.bool ?_, hS25.fin⟩; rw [(meet_y (by first | exact .inl Om | exact .inr hc1) (by first | exact .inl Om | exact .inr hc2) (by first | exact .inl Om | exact .inr hc3) (h := ((q.tm.toNat % 86400 / 3600 : Nat) : Int)) Om), ← hour_eq he])
        all_goals first | (rw [if_pos Om]; done) | (rw [if_neg Om, if_pos h10_4]; (first | exact (decide_eq_true Om).symm | exact (decide_eq_false Om).symm)) | (rw [if_neg Om, if_neg h10_4]; (first | exact (decide_eq_true Om).symm | exact (decide_eq_false Om).symm))
      refine zq 1 rfl<|zN<|zT<|zf rfl<|zK<|zJ<|zT<|zS<|zR<|zq 1 rfl<|zF fa50_4 rfl ti3.und rfl (hS25.heap Z1) rfl rfl rfl ?_
      refine wl_dec (r_geq rfl rfl) rfl (fun h12_3 => ?_) (fun h12_3 => ?_)
      · refine zq 7 rfl<|zN<|zT<|zU<|ret1 Tryz.results39 ?_
        first | exact ⟨congrArg Value.bool (meet_n1 Om hc1).symm, hS25.fin⟩ | exact ⟨congrArg Value.bool (meet_n2 Om hc2).symm, hS25.fin⟩ | exact ⟨congrArg Value.bool (meet_n3 Om hc3).symm, hS25.fin⟩ | skip
        all_goals (refine ⟨congrArg Value.bool ?_, hS25.fin⟩; rw [(meet_y (by first | exact .inl Om | exact .inr hc1) (by first | exact .inl Om | exact .inr hc2) (by first | exact .inl Om | exact .inr hc3) (h := ((q.tm.toNat % 86400 / 3600 : Nat) : Int)) Om), ← hour_eq he])
        all_goals first | (rw [if_pos Om]; done) | (rw [if_neg Om, if_pos h10_4]; (first | exact (decide_eq_true Om).symm | exact (decide_eq_false Om).symm)) | (rw [if_neg Om, if_neg h10_4]; (first | exact (decide_eq_true Om).symm | exact (decide_eq_false Om).symm))
      refine zq 2 rfl<|wl_val (r_field fa50_5 rfl) rfl<|wl_val (r_loadB1 ti3.und rfl rfl (hS25.heap Z1) rfl) rfl ?_
      refine wl_dec (r_lss rfl rfl) rfl (fun h12_8 => ?_) (fun h12_8 => ?_)
      · refine zq 2 rfl<|zN<|zT<|zU<|ret1 Tryz.results39 ?_
        first | exact ⟨congrArg Value.bool (meet_n1 Om hc1).symm, hS25.fin⟩ | exact ⟨congrArg Value.bool (meet_n2 Om hc2).symm, hS25.fin⟩ | exact ⟨congrArg Value.bool (meet_n3 Om hc3).symm, hS25.fin⟩ | skip
        all_goals (refine ⟨congrArg Value.bool ?_, hS25.fin⟩; rw [(meet_y (by first | exact .inl Om | exact .inr hc1) (by first | exact .inl Om | exact .inr hc2) (by first | exact .inl Om | exact .inr hc3) (h := ((q.tm.toNat % 86400 / 3600 : Nat) : Int)) Om), ← hour_eq he])
        all_goals first | (rw [if_pos Om]; done) | (rw [if_neg Om, if_pos h10_4]; (first | exact (decide_eq_true Om).symm | exact (decide_eq_false Om).symm)) | (rw [if_neg Om, if_neg h10_4]; (first | exact (decide_eq_true Om).symm | exact (decide_eq_false Om).symm))
      refine zq 2 rfl<|zN<|zT<|zU<|ret1 Tryz.results39 ?_
      first | exact ⟨congrArg Value.bool (meet_n1 Om hc1).symm, hS25.fin⟩ | exact ⟨congrArg Value.bool (meet_n2 Om hc2).symm, hS25.fin⟩ | exact ⟨congrArg Value.bool (meet_n3 Om hc3).symm, hS25.fin⟩ | skip
      all_goals (refine ⟨congrArg Value.bool ?_, hS25.fin⟩; rw [(meet_y (by first | exact .inl Om | exact .inr hc1) (by first | exact .inl Om | exact .inr hc2) (by first | exact .inl Om | exact .inr hc3) (h := ((q.tm.toNat % 86400 / 3600 : Nat) : Int)) Om), ← hour_eq he])
      all_goals first | (rw [if_pos Om]; done) | (rw [if_neg Om, if_pos h10_4]; (first | exact (decide_eq_true Om).symm | exact (decide_eq_false Om).symm)) | (rw [if_neg Om, if_neg h10_4]; (first | exact (decide_eq_true Om).symm | exact (decide_eq_false Om).symm))
    have hS25 := hS4.ext hx24
    rw [any_pat (ruleE_fr he).2] at hc3
    refine zq 2 rfl<|zN<|zT<|zt rfl<|zS<|zR<|zq 1 rfl<|zN<|zT<|zU<|zL<|ret1 Tryz.results39 ?_
    first | exact ⟨congrArg Value.bool (meet_n1 Om hc1).symm, hS25.fin⟩ | exact ⟨congrArg Value.bool (meet_n2 Om hc2).symm, hS25.fin⟩ | exact ⟨congrArg Value.bool (meet_n3 Om hc3).symm, hS25.fin⟩ | skip
    all_goals (refine ⟨congrArg Value.bool ?_, hS25.fin⟩; rw [(meet_y (by first | exact .inl Om | exact .inr hc1) (by first | exact .inl Om | exact .inr hc2) (by first | exact .inl Om | exact .inr hc3) (h := ((q.tm.toNat % 86400 / 3600 : Nat) : Int)) Om), ← hour_eq he])
    all_goals first | (rw [if_pos Om]; done) | (rw [if_neg Om, if_pos h10_4]; (first | exact (decide_eq_true Om).symm | exact (decide_eq_false Om).symm)) | (rw [if_neg Om, if_neg h10_4]; (first | exact (decide_eq_true Om).symm | exact (decide_eq_false Om).symm))
  refine zq 7 rfl<|zN<|zT<|zf rfl<|zK<|zT<|zS<|zR<|zV (r_field fa40_5 rfl)<|zV (r_loadB1 ti3.und rfl rfl (hS4.heap Z0) (ask_tmN hac hkey ht0))<|zV (r_remn (b := 86400) rfl rfl Om)<|zV (r_quon (b := 3600) rfl rfl Om Om)<|zq 1 rfl<|zN<|zT<|zS<|zI<|zS<|zR<|zF fa50_4 rfl ti3.und rfl (hS4.heap Z1) rfl rfl rfl ?_
  refine wl_dec (r_eql rfl rfl) rfl (fun h8_2 => ?_) (fun h8_2 => ?_)
  · refine zq 1 rfl<|wl_val (r_field fa50_5 rfl) rfl<|wl_val (r_loadB1 ti3.und rfl rfl (hS4.heap Z1) rfl) rfl ?_
    refine wl_dec (r_eql rfl rfl) rfl (fun h8_6 => ?_) (fun h8_6 => ?_)
    · refine zq 2 rfl<|zN<|zT<|zt rfl<|zS<|zR<|zq 1 rfl<|zN<|zT<|zU<|zH<|zL<|ret1 Tryz.results39 ?_
      first | exact ⟨congrArg Value.bool (meet_n1 Om hc1).symm, hS4.fin⟩ | exact ⟨congrArg Value.bool (meet_n2 Om hc2).symm, hS4.fin⟩ | exact ⟨congrArg Value.bool (meet_n3 Om hc3).symm, hS4.fin⟩ | skip
      all_goals (refine ⟨congrArg Value.bool ?_, hS4.fin⟩; rw [(meet_y (by first | exact .inl Om | exact .inr hc1) (by first | exact .inl Om | exact .inr hc2) (by first | exact .inl Om | exact .inr hc3) (h := ((q.tm.toNat % 86400 / 3600 : Nat) : Int)) Om), ← hour_eq he])
      all_goals first | (rw [if_pos Om]; done) | (rw [if_neg Om, if_pos h10_4]; (first | exact (decide_eq_true Om).symm | exact (decide_eq_false Om).symm)) | (rw [if_neg Om, if_neg h10_4]; (first | exact (decide_eq_true Om).symm | exact (decide_eq_false Om).symm))
    refine zq 2 rfl<|zN<|zT<|zf rfl<|zS<|zR<|zF fa50_4 rfl ti3.und rfl (hS4.heap Z1) rfl rfl rfl<|zF fa50_5 rfl ti3.und rfl (hS4.heap Z1) rfl rfl rfl ?_
    refine wl_dec (r_lss rfl rfl) rfl (fun h10_4 => ?_) (fun h10_4 => ?_)
    · refine zq 1 rfl<|zN<|zT<|zt rfl<|zS<|zR<|zF fa50_4 rfl ti3.und rfl (hS4.heap Z1) rfl rfl rfl<|zq 1 rfl ?_
      refine wl_dec (r_leq rfl rfl) rfl (fun h11_3 => ?_) (fun h11_3 => ?_)
      · refine zq 2 rfl<|wl_val (r_field fa50_5 rfl) rfl<|wl_val (r_loadB1 ti3.und rfl rfl (hS4.heap Z1) rfl) rfl ?_
        refine wl_dec (r_lss rfl rfl) rfl (fun h11_8 => ?_) (fun h11_8 => ?_)
        · refine zq 2 rfl<|zN<|zT<|zU<|zH<|zL<|ret1 Tryz.results39 ?_
          first | exact ⟨congrArg Value.bool (meet_n1 Om hc1).symm, hS4.fin⟩ | exact ⟨congrArg Value.bool (meet_n2 Om hc2).symm, hS4.fin⟩ | exact ⟨congrArg Value.bool (meet_n3 Om hc3).symm, hS4.fin⟩ | skip
          all_goals (refine ⟨congrArg Value.bool ?_, hS4.fin⟩; rw [(meet_y (by first | exact .inl Om | exact .inr hc1) (by first | exact .inl Om | exact .inr hc2) (by first | exact .inl Om | exact .inr hc3) (h := ((q.tm.toNat % 86400 / 3600 : Nat) : Int)) Om), ← hour_eq he])
          all_goals first | (rw [if_pos Om]; done) | (rw [if_neg Om, if_pos h10_4]; (first | exact (decide_eq_true Om).symm | exact (decide_eq_false Om).symm)) | (rw [if_neg Om, if_neg h10_4]; (first | exact (decide_eq_true Om).symm | exact (decide_eq_false Om).symm))
        refine zq 2 rfl<|zN<|zT<|zU<|zH<|zL<|ret1 Tryz.results39 ?_
        first | exact ⟨congrArg Value.bool (meet_n1 Om hc1).symm, hS4.fin⟩ | exact ⟨congrArg Value.bool (meet_n2 Om hc2).symm, hS4.fin⟩ | exact ⟨congrArg Value.bool (meet_n3 Om hc3).symm, hS4.fin⟩ | skip
        all_goals (refine ⟨congrArg Value.bool ?_, hS4.fin⟩; rw [(meet_y (by first | exact .inl Om | exact .inr hc1) (by first | exact .inl Om | exact .inr hc2) (by first | exact .inl Om | exact .inr hc3) (h := ((q.tm.toNat % 86400 / 3600 : Nat) : Int)) Om), ← hour_eq he])
        all_goals first | (rw [if_pos Om]; done) | (rw [if_neg Om, if_pos h10_4]; (first | exact (decide_eq_true Om).symm | exact (decide_eq_false Om).symm)) | (rw [if_neg Om, if_neg h10_4]; (first | exact (decide_eq_true Om).symm | exact (decide_eq_false Om).symm))
      refine zq 7 rfl<|zN<|zT<|zU<|zH<|zL<|ret1 Tryz.results39 ?_
      first | exact ⟨congrArg Value.bool (meet_n1 Om hc1).symm, hS4.fin⟩ | exact ⟨congrArg Value.bool (meet_n2 Om hc2).symm, hS4.fin⟩ | exact ⟨congrArg Value.bool (meet_n3 Om hc3).symm, hS4.fin⟩ | skip
      all_goals (refine ⟨congrArg Value.bool ?_, hS4.fin⟩; rw [(meet_y (by first | exact .inl Om | exact .inr hc1) (by first | exact .inl Om | exact .inr hc2) (by first | exact .inl Om | exact .inr hc3) (h := ((q.tm.toNat % 86400 / 3600 : Nat) : Int)) Om), ← hour_eq he])
      all_goals first | (rw [if_pos Om]; done) | (rw [if_neg Om, if_pos h10_4]; (first | exact (decide_eq_true Om).symm | exact (decide_eq_false Om).symm)) | (rw [if_neg Om, if_neg h10_4]; (first | exact (decide_eq_true Om).symm | exact (decide_eq_false Om).symm))
    refine zq 1 rfl<|zN<|zT<|zf rfl<|zK<|zJ<|zT<|zS<|zR<|zq 1 rfl<|zF fa50_4 rfl ti3.und rfl (hS4.heap Z1) rfl rfl rfl ?_
    refine wl_dec (r_geq rfl rfl) rfl (fun h12_3 => ?_) (fun h12_3 => ?_)
    · refine zq 7 rfl<|zN<|zT<|zU<|ret1 Tryz.results39 ?_
      first | exact ⟨congrArg Value.bool (meet_n1 Om hc1).symm, hS4.fin⟩ | exact ⟨congrArg Value.bool (meet_n2 Om hc2).symm, hS4.fin⟩ | exact ⟨congrArg Value.bool (meet_n3 Om hc3).symm, hS4.fin⟩ | skip
      all_goals (refine ⟨congrArg Value.bool ?_, hS4.fin⟩; rw [(meet_y (by first | exact .inl Om | exact .inr hc1) (by first | exact .inl Om | exact .inr hc2) (by first | exact .inl Om | exact .inr hc3) (h := ((q.tm.toNat % 86400 / 3600 : Nat) : Int)) Om), ← hour_eq he])
      all_goals first | (rw [if_pos Om]; done) | (rw [if_neg Om, if_pos h10_4]; (first | exact (decide_eq_true Om).symm | exact (decide_eq_false Om).symm)) | (rw [if_neg Om, if_neg h10_4]; (first | exact (decide_eq_true Om).symm | exact (decide_eq_false Om).symm))
    refine zq 2 rfl<|wl_val (r_field fa50_5 rfl) rfl<|wl_val (r_loadB1 ti3.und rfl rfl (hS4.heap Z1) rfl) rfl ?_
    refine wl_dec (r_lss rfl rfl) rfl (fun h12_8 => ?_) (fun h12_8 => ?_)
    · refine zq 2 rfl<|zN<|zT<|zU<|ret1 Tryz.results39 ?_
      first | exact ⟨congrArg Value.bool (meet_n1 Om hc1).symm, hS4.fin⟩ | exact ⟨congrArg Value.bool (meet_n2 Om hc2).symm, hS4.fin⟩ | exact ⟨congrArg Value.bool (meet_n3 Om hc3).symm, hS4.fin⟩ | skip
      all_goals (refine ⟨congrArg Value.bool ?_, hS4.fin⟩; rw [(meet_y (by first | exact .inl Om | exact .inr hc1) (by first | exact .inl Om | exact .inr hc2) (by first | exact .inl Om | exact .inr hc3) (h := ((q.tm.toNat % 86400 / 3600 : Nat) : Int)) Om), ← hour_eq he])
      all_goals first | (rw [if_pos Om]; done) | (rw [if_neg Om, if_pos h10_4]; (first | exact (decide_eq_true Om).symm | exact (decide_eq_false Om).symm)) | (rw [if_neg Om, if_neg h10_4]; (first | exact (decide_eq_true Om).symm | exact (decide_eq_false Om).symm))
    refine zq 2 rfl<|zN<|zT<|zU<|ret1 Tryz.results39 ?_
    first | exact ⟨congrArg Value.bool (meet_n1 Om hc1).symm, hS4.fin⟩ | exact ⟨congrArg Value.bool (meet_n2 Om hc2).symm, hS4.fin⟩ | exact ⟨congrArg Value.bool (meet_n3 Om hc3).symm, hS4.fin⟩ | skip
    all_goals (refine ⟨congrArg Value.bool ?_, hS4.fin⟩; rw [(meet_y (by first | exact .inl Om | exact .inr hc1) (by first | exact .inl Om | exact .inr hc2) (by first | exact .inl Om | exact .inr hc3) (h := ((q.tm.toNat % 86400 / 3600 : Nat) : Int)) Om), ← hour_eq he])
    all_goals first | (rw [if_pos Om]; done) | (rw [if_neg Om, if_pos h10_4]; (first | exact (decide_eq_true Om).symm | exact (decide_eq_false Om).symm)) | (rw [if_neg Om, if_neg h10_4]; (first | exact (decide_eq_true Om).symm | exact (decide_eq_false Om).symm))
  refine zq 6 rfl<|zN<|zT<|zf rfl<|zS<|zR<|zF fa50_4 rfl ti3.und rfl (hS4.heap Z1) rfl rfl rfl<|zF fa50_5 rfl ti3.und rfl (hS4.heap Z1) rfl rfl rfl ?_
  refine wl_dec (r_lss rfl rfl) rfl (fun h10_4 => ?_) (fun h10_4 => ?_)
  · refine zq 1 rfl<|zN<|zT<|zt rfl<|zS<|zR<|zF fa50_4 rfl ti3.und rfl (hS4.heap Z1) rfl rfl rfl<|zq 1 rfl ?_
    refine wl_dec (r_leq rfl rfl) rfl (fun h11_3 => ?_) (fun h11_3 => ?_)
    · refine zq 2 rfl<|wl_val (r_field fa50_5 rfl) rfl<|wl_val (r_loadB1 ti3.und rfl rfl (hS4.heap Z1) rfl) rfl ?_
      refine wl_dec (r_lss rfl rfl) rfl (fun h11_8 => ?_) (fun h11_8 => ?_)
      · refine zq 2 rfl<|zN<|zT<|zU<|zH<|zL<|ret1 Tryz.results39 ?_
        first | exact ⟨congrArg Value.bool (meet_n1 Om hc1).symm, hS4.fin⟩ | exact ⟨congrArg Value.bool (meet_n2 Om hc2).symm, hS4.fin⟩ | exact ⟨congrArg Value.bool (meet_n3 Om hc3).symm, hS4.fin⟩ | skip
        all_goals (refine ⟨congrArg Value.bool ?_, hS4.fin⟩; rw [(meet_y (by first | exact .inl Om | exact .inr hc1) (by first | exact .inl Om | exact .inr hc2) (by first | exact .inl Om | exact .inr hc3) (h := ((q.tm.toNat % 86400 / 3600 : Nat) : Int)) Om), ← hour_eq he])
        all_goals first | (rw [if_pos Om]; done) | (rw [if_neg Om, if_pos h10_4]; (first | exact (decide_eq_true Om).symm | exact (decide_eq_false Om).symm)) | (rw [if_neg Om, if_neg h10_4]; (first | exact (decide_eq_true Om).symm | exact (decide_eq_false Om).symm))
      refine zq 2 rfl<|zN<|zT<|zU<|zH<|zL<|ret1 Tryz.results39 ?_
      first | exact ⟨congrArg Value.bool (meet_n1 Om hc1).symm, hS4.fin⟩ | exact ⟨congrArg Value.bool (meet_n2 Om hc2).symm, hS4.fin⟩ | exact ⟨congrArg Value.bool (meet_n3 Om hc3).symm, hS4.fin⟩ | skip
      all_goals (refine ⟨congrArg Value.bool ?_, hS4.fin⟩; rw [(meet_y (by first | exact .inl Om | exact .inr hc1) (by first | exact .inl Om | exact .inr hc2) (by first | exact .inl Om | exact .inr hc3) (h := ((q.tm.toNat % 86400 / 3600 : Nat) : Int)) Om), ← hour_eq he])
      all_goals first | (rw [if_pos Om]; done) | (rw [if_neg Om, if_pos h10_4]; (first | exact (decide_eq_true Om).symm | exact (decide_eq_false Om).symm)) | (rw [if_neg Om, if_neg h10_4]; (first | exact (decide_eq_true Om).symm | exact (decide_eq_false Om).symm))
    refine zq 7 rfl<|zN<|zT<|zU<|zH<|zL<|ret1 Tryz.results39 ?_
    first | exact ⟨congrArg Value.bool (meet_n1 Om hc1).symm, hS4.fin⟩ | exact ⟨congrArg Value.bool (meet_n2 Om hc2).symm, hS4.fin⟩ | exact ⟨congrArg Value.bool (meet_n3 Om hc3).symm, hS4.fin⟩ | skip
    all_goals (refine ⟨congrArg Value.bool ?_, hS4.fin⟩; rw [(meet_y (by first | exact .inl Om | exact .inr hc1) (by first | exact .inl Om | exact .inr hc2) (by first | exact .inl Om | exact .inr hc3) (h := ((q.tm.toNat % 86400 / 3600 : Nat) : Int)) Om), ← hour_eq he])
    all_goals first | (rw [if_pos Om]; done) | (rw [if_neg Om, if_pos h10_4]; (first | exact (decide_eq_true Om).symm | exact (decide_eq_false Om).symm)) | (rw [if_neg Om, if_neg h10_4]; (first | exact (decide_eq_true Om).symm | exact (decide_eq_false Om).symm))
  refine zq 1 rfl<|zN<|zT<|zf rfl<|zK<|zJ<|zT<|zS<|zR<|zq 1 rfl<|zF fa50_4 rfl ti3.und rfl (hS4.heap Z1) rfl rfl rfl ?_
  refine wl_dec (r_geq rfl rfl) rfl (fun h12_3 => ?_) (fun h12_3 => ?_)
  · refine zq 7 rfl<|zN<|zT<|zU<|ret1 Tryz.results39 ?_
    first | exact ⟨congrArg Value.bool (meet_n1 Om hc1).symm, hS4.fin⟩ | exact ⟨congrArg Value.bool (meet_n2 Om hc2).symm, hS4.fin⟩ | exact ⟨congrArg Value.bool (meet_n3 Om hc3).symm, hS4.fin⟩ | skip
    all_goals (refine ⟨congrArg Value.bool ?_, hS4.fin⟩; rw [(meet_y (by first | exact .inl Om | exact .inr hc1) (by first | exact .inl Om | exact .inr hc2) (by first | exact .inl Om | exact .inr hc3) (h := ((q.tm.toNat % 86400 / 3600 : Nat) : Int)) Om), ← hour_eq he])
    all_goals first | (rw [if_pos Om]; done) | (rw [if_neg Om, if_pos h10_4]; (first | exact (decide_eq_true Om).symm | exact (decide_eq_false Om).symm)) | (rw [if_neg Om, if_neg h10_4]; (first | exact (decide_eq_true Om).symm | exact (decide_eq_false Om).symm))
  refine zq 2 rfl<|wl_val (r_field fa50_5 rfl) rfl<|wl_val (r_loadB1 ti3.und rfl rfl (hS4.heap Z1) rfl) rfl ?_
  refine wl_dec (r_lss rfl rfl) rfl (fun h12_8 => ?_) (fun h12_8 => ?_)
  · refine zq 2 rfl<|zN<|zT<|zU<|ret1 Tryz.results39 ?_
    first | exact ⟨congrArg Value.bool (meet_n1 Om hc1).symm, hS4.fin⟩ | exact ⟨congrArg Value.bool (meet_n2 Om hc2).symm, hS4.fin⟩ | exact ⟨congrArg Value.bool (meet_n3 Om hc3).symm, hS4.fin⟩ | skip
    all_goals (refine ⟨congrArg Value.bool ?_, hS4.fin⟩; rw [(meet_y (by first | exact .inl Om | exact .inr hc1) (by first | exact .inl Om | exact .inr hc2) (by first | exact .inl Om | exact .inr hc3) (h := ((q.tm.toNat % 86400 / 3600 : Nat) : Int)) Om), ← hour_eq he])
    all_goals first | (rw [if_pos Om]; done) | (rw [if_neg Om, if_pos h10_4]; (first | exact (decide_eq_true Om).symm | exact (decide_eq_false Om).symm)) | (rw [if_neg Om, if_neg h10_4]; (first | exact (decide_eq_true Om).symm | exact (decide_eq_false Om).symm))
  refine zq 2 rfl<|zN<|zT<|zU<|ret1 Tryz.results39 ?_
  first | exact ⟨congrArg Value.bool (meet_n1 Om hc1).symm, hS4.fin⟩ | exact ⟨congrArg Value.bool (meet_n2 Om hc2).symm, hS4.fin⟩ | exact ⟨congrArg Value.bool (meet_n3 Om hc3).symm, hS4.fin⟩ | skip
  all_goals (refine ⟨congrArg Value.bool ?_, hS4.fin⟩; rw [(meet_y (by first | exact .inl Om | exact .inr hc1) (by first | exact .inl Om | exact .inr hc2) (by first | exact .inl Om | exact .inr hc3) (h := ((q.tm.toNat % 86400 / 3600 : Nat) : Int)) Om), ← hour_eq he])
  all_goals first | (rw [if_pos Om]; done) | (rw [if_neg Om, if_pos h10_4]; (first | exact (decide_eq_true Om).symm | exact (decide_eq_false Om).symm)) | (rw [if_neg Om, if_neg h10_4]; (first | exact (decide_eq_true Om).symm | exact (decide_eq_false Om).symm))

end Go.Proofs.YtmonnmndphlkaaaGreat
end
