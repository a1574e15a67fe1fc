/- For every policy of at most six rules: Lint and Trim of the program warn of and leave out what the reference does, and what Trim leaves out changes no decision on the policy's world; the law's function returns true and turns nothing. No condition. -/
import Derived.Test.YtmonnmndphlkaaaGreatPWnAF
import Derived.Test.YtmonnmndphlkaaaGreatPWnCC
import Derived.Test.YtmonnmndphlkaaaGreatPWnBZ
import Derived.Test.YtmonnmndphlkaaaGreatRows
namespace Go.Proofs.YtmonnmndphlkaaaGreat.lawWarningsMatch
open Go.Kw Go.Proofs.YtmonnmndphlkaaaGreat
open Go.ChangeShapes Go.WideShapes Go.ChangeAt Go.RowKit
set_option linter.unusedVariables false
set_option linter.unusedSimpArgs false
set_option maxRecDepth 100000
set_option maxHeartbeats 20000000

theorem walk_c0 {p : Prop} (h : p := by exact ⟨_, rfl, ⟨b12, b13, ru1, ru2, rfl, rfl, (hF.perm ((List.Perm.cons _ ((List.Perm.cons _ (List.Perm.refl _)).trans (List.perm_middle (l₁ := [_])).symm)).trans (List.perm_middle (l₁ := [_, _])).symm)).drop1⟩, ⟨rfl, rfl, rfl, rfl, rfl, rfl, trivial⟩⟩) : p := h
theorem walk_c1 {p : Prop} (h : p := by exact ⟨_, rfl, ⟨b12, b13, ru1, ru2, rfl, rfl, (hF.perm ((List.Perm.cons _ (List.Perm.refl _)).trans (List.perm_middle (l₁ := [_, _])).symm)).drop1⟩, ⟨rfl, rfl, rfl, rfl, rfl, rfl, trivial⟩⟩) : p := h
set_option maxHeartbeats 16000000 in
theorem walk (rs : List RuleD) (pa : Option Addr) (pc : Nat) (w : World) (hrs : Row w pa (rs.flatMap RuleD.v)) (hall : ∀ r ∈ rs, RuleAt w r) :
    Ret Tryz.prog 5 [.agg #[.slice pa rs.length pc]] w (fun v w' => v = .bool true ∧ St w [] w' []) := by
  refine enter Tryz.func5 rfl Tryz.ntmps5 rfl ?_
  have hS := St.refl w []
  refine zS<|zR<|zB (v := .agg _) hS rfl rfl fun b1 w1 hS2=>zq 1 rfl<|zN<|zT<|zS<|zS<|zR<|zE fn6 rfl hS2 (landed_ok _) fun w3 hS5=>zq 1 rfl<|zN<|zT<|zf rfl<|zK<|zT<|zS<|zS<|zR<|zV (r_loadB ti24 ag24 rfl (hS5.heap Z0) Ln) ?_; refine zC fn16 rfl (few_ok rs pa pc _ (hrs.st hS5)) ?_
  rintro _ w6 (⟨h6, rfl, hx7⟩ | ⟨h6, rfl, hx7⟩)
  · have hS8 := hS5.ext hx7
    refine zq 1 rfl<|zN<|zT<|zf rfl<|zK<|zT<|zS<|zR<|zV (r_loadB ti24 ag24 rfl (hS8.heap Z0) Ln) ?_; refine zC fn17 rfl (Lint_ok rs pa pc _ (hrs.st hS8) (fun r hr => (hall r hr).st hS8) h6) ?_
    rintro _ w9 (⟨hp, rfl, hx10⟩ | ⟨hp, rfl, hx10⟩ | ⟨hp, aL, cL, rfl, hx10⟩)
    · have hS11 := hS8.ext hx10
      refine zq 5 rfl<|zN<|zT<|zS<|zR<|zV (r_loadB ti24 ag24 rfl (hS11.heap Z0) Ln) ?_; refine zC fn18 rfl (Trim_ok rs pa pc _ (hrs.st hS11) (fun r hr => (hall r hr).st hS11) h6) ?_
      rintro _ w12 (⟨hp2, rfl, hx13⟩ | ⟨hp2, rfl, hx13⟩ | ⟨hp2, ls, aT, cT, LT1, hl6, hRT, htr, rfl, hx13⟩)
      · have hS14 := hS11.ext hx13
        refine zq 3 rfl<|zA (C := [.slice none 0 0]) hS14 ti24 rfl fun b5 w15 hS16=>zY (x_storeW [] hS16 ti24 rfl rfl rfl rfl (one_all rfl)) ?_; intro w17 hS18; simp only [ca, na] at hS18; refine zq 1 rfl<|zN<|zT<|zS<|zS<|zR<|zV (r_loadB ti24 ag24 rfl (hS18.heap Z1) Ln) ?_; refine zE fn8 rfl hS18 (rcheck_ok rs pa rs.length pc _ (hrs.st hS18) rfl Om (fun r hr => (hall r hr).st hS18)) fun w19 hS21=>zq 1 rfl<|zN<|zT<|zS<|zR<|zq 1 rfl<|wl_dec_t (r_neq rfl rfl) rfl hp<|zN<|zT<|zt rfl<|zS<|zR<|zq 2 rfl<|wl_dec_t (r_eql rfl rfl) rfl rfl<|zq 3 rfl<|wl_dec_t (r_eql rfl rfl) rfl rfl<|zq 3 rfl<|wl_val (r_len (T := 55) rfl ti55.und rfl _ rfl) rfl<|wl_dec_t (r_eql rfl rfl) rfl rfl<|zq 2 rfl<|wl_val (r_field fa24_0 rfl) rfl<|wl_val (r_loadB1 ti22.und rfl rfl (hS21.heap Z0) rfl) rfl<|wl_val (r_len (T := 22) rfl ti22.und rfl _ rfl) rfl ?_; refine wl_dec_t (r_eql rfl rfl) rfl rfl<|zq 2 rfl<|zN<|zT<|zU<|zL<|ret1 Tryz.results5 ?_
        exact ⟨rfl, hS21.fin⟩
      · exact absurd hp2.1 hp
      exact absurd hp2.1 hp
    · have hS11 := hS8.ext hx10
      refine zq 5 rfl<|zN<|zT<|zS<|zR<|zV (r_loadB ti24 ag24 rfl (hS11.heap Z0) Ln) ?_; refine zC fn18 rfl (Trim_ok rs pa pc _ (hrs.st hS11) (fun r hr => (hall r hr).st hS11) h6) ?_
      rintro _ w22 (⟨hp2, rfl, hx23⟩ | ⟨hp2, rfl, hx23⟩ | ⟨hp2, ls, aT, cT, LT1, hl6, hRT, htr, rfl, hx23⟩)
      · exact absurd hp.1 hp2
      · have hS24 := hS11.ext hx23
        refine zq 3 rfl<|zA (C := [.slice none 0 0]) hS24 ti24 rfl fun b5 w25 hS26=>zY (x_storeW [] hS26 ti24 rfl rfl rfl rfl (one_all rfl)) ?_; intro w27 hS28; simp only [ca, na] at hS28; refine zq 1 rfl<|zN<|zT<|zS<|zS<|zR<|zV (r_loadB ti24 ag24 rfl (hS28.heap Z1) Ln) ?_; refine zE fn8 rfl hS28 (rcheck_ok rs pa rs.length pc _ (hrs.st hS28) rfl Om (fun r hr => (hall r hr).st hS28)) fun w29 hS31=>zq 1 rfl<|zN<|zT<|zS<|zR<|zq 1 rfl<|wl_dec_f (r_neq rfl rfl) rfl (not_not_intro hp.1)<|zN<|zT<|zf rfl<|zK<|zT<|zS ?_
        obtain ⟨h100, hoks⟩ := polE_zero hp.1
        refine zR<|zV (r_loadB ti24 ag24 rfl (hS31.heap Z1) Ln) ?_; refine zC fn9 rfl (rWorld_ok rs pa rs.length pc _ (hrs.st hS31) rfl Om (fun r hr => (hall r hr).st hS31) hoks h100) ?_
        rintro _ w32 (⟨hbig, rfl, hx33⟩ | ⟨hle, qs, aQ, cQ, LT, hA, hb, hrc, rfl, hcQ, hx33⟩)
        · have hS34 := hS31.ext hx33
          refine zq 5 rfl<|zN<|zT<|zS<|zS<|zR<|zq 2 rfl<|zN<|zT<|zt rfl<|zS<|zR<|zq 1 rfl<|wl_dec_t (r_eql rfl rfl) rfl (by decide)<|zq 2 rfl<|wl_dec_t (r_eql rfl rfl) rfl (by decide)<|zq 2 rfl<|zN<|zT<|zU<|zL<|ret1 Tryz.results5 ?_
          exact ⟨rfl, hS34.fin⟩
        exact absurd hp.2 Om
      exact absurd hp2.2 (by have := hp.2; omega)
    have hS11 := hS8.call hx10
    simp only [ca, na] at hS11; refine zq 5 rfl<|zN<|zT<|zS<|zR<|zV (r_loadB ti24 ag24 rfl (hS11.heap Z1) Ln) ?_; refine zC fn18 rfl (Trim_ok rs pa pc _ (hrs.st hS11) (fun r hr => (hall r hr).st hS11) h6) ?_
    rintro _ w35 (⟨hp2, rfl, hx36⟩ | ⟨hp2, rfl, hx36⟩ | ⟨hp2, ls, aT, cT, LT1, hl6, hRT, htr, rfl, hx36⟩)
    · exact absurd hp.1 hp2
    · exact absurd hp2.2 (by have := hp.2; omega)
    have hS37 := St.callT (X := [_]) (LT := LT1) hS11 hx36
    simp only [ca, na] at hS37; refine zq 3 rfl<|zA (C := [.slice none 0 0]) hS37 ti24 rfl fun b5 w38 hS39=>zY (x_storeW [] hS39 ti24 rfl rfl rfl rfl (one_all rfl)) ?_; intro w40 hS41; simp only [ca, na] at hS41; refine zq 1 rfl<|zN<|zT<|zS<|zS<|zR<|zV (r_loadB ti24 ag24 rfl (hS41.heap Z3) Ln) ?_; refine zE fn8 rfl hS41 (rcheck_ok rs pa rs.length pc _ (hrs.st hS41) rfl Om (fun r hr => (hall r hr).st hS41)) fun w42 hS44=>zq 1 rfl<|zN<|zT<|zS<|zR<|zq 1 rfl<|wl_dec_f (r_neq rfl rfl) rfl (not_not_intro hp.1)<|zN<|zT<|zf rfl<|zK<|zT<|zS ?_
    obtain ⟨h100, hoks⟩ := polE_zero hp.1
    refine zR<|zV (r_loadB ti24 ag24 rfl (hS44.heap Z3) Ln) ?_; refine zC fn9 rfl (rWorld_ok rs pa rs.length pc _ (hrs.st hS44) rfl Om (fun r hr => (hall r hr).st hS44) hoks h100) ?_
    rintro _ w45 (⟨hbig, rfl, hx46⟩ | ⟨hle, qs, aQ, cQ, LT, hA, hb, hrc, rfl, hcQ, hx46⟩)
    · exact absurd hp.2 Om
    have hS47 := St.callT (X := [_]) (LT := LT) hS44 hx46
    simp only [ca, na] at hS47; refine zq 5 rfl<|zN<|zT<|zS<|zS<|zR<|zq 2 rfl<|zN<|zT<|zf rfl<|zK<|zT<|zS<|zS<|zR<|zq 1 rfl<|zV (r_len (T := 26) rfl ti26.und rfl _ rfl) ?_
    refine wl_dec (r_gtr rfl rfl) rfl (fun h13_2 => ?_) (fun h13_2 => ?_)
    · refine zN<|zT<|zt rfl<|zS<|zR<|zq 1 rfl<|zN<|zT<|zU<|zL<|ret1 Tryz.results5 ?_
      exact ⟨rfl, hS47.fin⟩
    refine zN<|zT<|zf rfl<|zK<|zT<|zS<|zS ?_
    have hw := wok_of hall hoks h100 hb hrc
    have hql : qs.length ≤ 100000 := by have := asks_len hb; unfold wTot at hle; omega
    have hb : qs.map WA.b = (worldBs rs) := hb
    refine c_drawS 18 hMixed hS47 ?_; intro w48 hS49; refine zG 0 rfl hS49 (fun wF hF => r_move (v := .int .i64 _) rfl) ?_; refine g_dec_f 1 rfl (by decide +kernel) rfl (fun _ _ _ _ h => h) hS49 (fun wF hF => r_neq rfl rfl) (by decide)<|zG 2 rfl hS49 (fun wF hF => r_move (v := .bool _) rfl) ?_; refine zG 3 rfl hS49 (fun wF hF => r_move (v := .int .i64 _) rfl) ?_; refine g_dec_f 4 rfl (by decide +kernel) rfl (fun _ _ _ _ h => h) hS49 (fun wF hF => r_neq rfl rfl) (by decide)<|zG 5 rfl hS49 (fun wF hF => r_pick_f rfl (v := .bool _) rfl) ?_; refine zG 6 rfl hS49 (fun wF hF => r_move (v := .bool _) rfl) ?_; refine zG 7 rfl hS49 (fun wF hF => r_move (v := .slice _ _ _) rfl) ?_; refine zG 8 rfl hS49 (fun wF hF => r_loadB ti24 ag24 rfl (hF.heap Z4) Ln) ?_; refine zG 9 rfl hS49 (fun wF hF => r_move (v := .slice _ _ _) rfl) ?_; refine zG1 10 ?_; refine o_call rfl (r_call fn20 rfl rfl) rfl (rLint_ok rs pa pc qs aQ cQ (worldBs rs) _ (hrs.st hS49) Om (fun r hr' => (hall r hr').st hS49) (St.rowAt hS49 Z0) (hA _ (hS49.hold fun x hx => by simp [hx])) hw hb hql hoks) ?_; rintro _ w50 ⟨aX, cX, rfl, hx51⟩
    have hS52 := hS49.call hx51
    simp only [ca, na] at hS52
    refine ⟨hS52.drop1, ?_⟩
    refine zG1 11 ?_; refine o_call rfl (r_call fn19 rfl rfl) rfl (eqW_t (lintW rs (worldBs rs) rs.length) _ _ _ _ _ _ _ (St.rowAt hS52 Z4) (St.rowAt hS52 Z0) rfl rfl (by have := lint_len rs (worldBs rs) rs.length; omega)) ?_; rintro _ w53 ⟨rfl, hx54⟩; have hS55 := hS52.ext hx54
    refine ⟨hS55.drop1, ?_⟩
    refine zG 12 rfl hS55.drop1 (fun wF hF => r_not rfl) ?_; refine zG 13 rfl hS55.drop1 (fun wF hF => r_pick_f rfl (v := .bool _) rfl) ?_; refine zG 14 rfl hS55.drop1 (fun wF hF => r_move (v := .bool _) rfl) ?_; refine zG 15 rfl hS55.drop1 (fun wF hF => r_loadB ti24 ag24 rfl (hF.heap Z1) Ln) ?_; refine zG 16 rfl hS55.drop1 (fun wF hF => r_loadB ti24 ag24 rfl (hF.heap Z4) Ln) ?_; refine zG1 17 ?_; refine o_call rfl (r_call fn22 rfl rfl) rfl (rTrim_ok rs pa pc _ (hrs.st hS55) (fun r hr => (hall r hr).st hS55) h6 hoks hle) ?_; rintro _ w56 ⟨l2, a2, c2, LT2, hl2, hsub, hrw2, htr2, rfl, hx57⟩
    have hS58 := St.callT (X := []) (LT := LT2) hS55 hx57
    simp only [ca, na] at hS58
    refine ⟨(St.untail [_, _, _, _, _, _] hS58).drop1, ?_⟩
    refine zGT rfl ?_; refine zE fn21 rfl hS58 (samePolicy_t ls l2 _ _ _ _ _ (St.rowAt hS58 Z3) (rowh hrw2 (hrs.st hS58) (hS58.hold fun x hx => by simp [hx])) (hRT _ (hS58.hold fun x hx => by simp [hx])) (fun q hq => (hall q (hsub q hq)).st hS58) (trim_uniq htr htr2) Om) fun w59 hS61=> ?_; refine zq 2 rfl<|zN<|zT<|zf rfl<|zK<|zT<|zS<|zS ?_
    have hokl : ∀ r ∈ ls, ruleE r = 0 := nrm_ok rfl (fun r hr => by obtain ⟨q, hq, rfl⟩ := List.mem_map.1 ((trim_keep htr).2 r hr); exact hoks q hq)
    refine zR<|zq 1 rfl<|zV (r_len (T := 26) rfl ti26.und rfl _ rfl)<|zq 1 rfl<|zN<|zT<|zI ?_
    refine c_loopE [1, 5, 89, 90] (fun d e w' => ∃ (i : Nat) (LTZ : List Kw.Item), Kw.look e 91 = vi i ∧ d = qs.length - i ∧ St w [] w' (.row (.slice aQ qs.length cQ) 40 68 qs.length (qs.flatMap WA.v) :: .blk b5 (cl [.slice aT ls.length cT] 24) :: .blk b1 (cl [.slice pa rs.length pc] 24) :: .row (.slice aT ls.length cT) 50 8 ls.length ((ls).flatMap RuleD.v) :: LTZ) ∧ (i ≤ qs.length) ∧ (AsksT LTZ qs) ∧ (RulesT LTZ ls)) (qs.length - 0) ?_ ?_
    · exact ⟨0, _, rfl, rfl, (hS61.perm (List.Perm.cons _ ((List.Perm.cons _ (List.Perm.cons _ (List.Perm.cons _ ((List.Perm.cons _ (List.Perm.refl _)).trans (List.perm_middle (l₁ := [_])).symm)))).trans (List.perm_middle (l₁ := [_, _, _])).symm))).drop1.drop1, Nat.zero_le _, hA.more (fun x hx => by simp [hx]), fun W hW => hRT W (hW.sub fun x hx => by simp [hx])⟩
    · rintro d65 e62 w63 ⟨i, LTZ, hc0_91, rfl, hS64, hi, hA, hRT⟩ -
      refine c_set (d := 91) hc0_91<|zS<|zR ?_
      refine wl_dec (r_lss rfl rfl) rfl (fun h18_0 => ?_) (fun h18_0 => ?_)
      · refine zN<|zT<|zS<|zt rfl<|zK<|zT<|zS<|zI<|zS<|zR<|zV (r_ixF wa_v68 ti26.und ti40 rfl rfl (St.rowAt hS64 Z0) Ln Sd (by decide)) ?_
        refine zV (r_loadF wa_v68 ti40 ag40 rfl (St.rowAt hS64 Z0) Sd (by decide)) ?_; refine zA (C := [.int .u8 0, .int .u8 0, .int .u8 0, .int .u8 0, .int .u8 0, .int .u8 0, .int .u8 0, .int .u8 0, .int .u8 0, .int .u8 0, .int .u8 0, .int .u8 0, .int .u8 0, .int .u8 0, .int .u8 0, .int .u8 0, .slice none 0 0, .int .i64 0, .string ⟨#[]⟩, .int .u8 0, .int .u8 0, .int .u8 0, .int .u8 0, .int .u8 0, .int .u8 0, .int .u8 0, .int .u8 0, .int .u8 0, .int .u8 0, .int .u8 0, .int .u8 0, .int .u8 0, .int .u8 0, .int .u8 0, .int .u8 0, .int .i64 0, .int .u8 0, .int .u8 0, .int .u8 0, .int .u8 0, .int .u8 0, .int .u8 0, .int .u8 0, .int .u8 0, .int .u8 0, .int .u8 0, .int .u8 0, .int .u8 0, .int .u8 0, .int .u8 0, .int .u8 0, .int .u8 0, .int .u8 0, .int .u8 0, .int .u8 0, .int .u8 0, .int .u8 0, .int .u8 0, .int .u8 0, .int .u8 0, .int .u8 0, .int .u8 0, .int .u8 0, .int .u8 0, .int .u8 0, .int .u8 0, .int .u8 0, .int .u8 0]) hS64 ti40 rfl fun b11 w66 hS67=>zY (x_storeW [] hS67 ti40 rfl rfl (wa_v68 _) rfl (one_wa _)) ?_; intro w68 hS69; simp only [ca, na] at hS69; refine zN<|zT ?_
        refine c_cutE [1, 2, 5, 89, 90, 91] (fun e w' => ∃ (b12 b13 : Nat) (ru1 ru2 : Int), Kw.look e 12 = pt b12 0 ∧ Kw.look e 13 = pt b13 0 ∧ St w [] w' (.blk b12 (cl (decV (decB rs (gt qs i).b).1 ru1 (decB rs (gt qs i).b).2.1 (decB rs (gt qs i).b).2.2) 52) :: .blk b13 (cl (decV (decB ls (gt qs i).b).1 ru2 (decB ls (gt qs i).b).2.1 (decB ls (gt qs i).b).2.2) 52) :: .row (.slice aQ qs.length cQ) 40 68 qs.length (qs.flatMap WA.v) :: .blk b5 (cl [.slice aT ls.length cT] 24) :: .blk b1 (cl [.slice pa rs.length pc] 24) :: .row (.slice aT ls.length cT) 50 8 ls.length ((ls).flatMap RuleD.v) :: LTZ)) ?_ ?_
        · refine c_drawS 8 hMixed hS69 ?_
          intro w74 hS75; refine zG 0 rfl hS75 (fun wF hF => r_loadB ti24 ag24 rfl (hF.heap Z3) Ln) ?_; refine zG 1 rfl hS75 (fun wF hF => r_loadB ti40 ag40 rfl (hF.heap Z0) (wa_v68 _)) ?_; refine zG 3 rfl hS75 (fun wF hF => r_loadB ti24 ag24 rfl (hF.heap Z2) Ln) ?_; refine zG 4 rfl hS75 (fun wF hF => r_loadB ti40 ag40 rfl (hF.heap Z0) (wa_v68 _)) ?_; refine g_all (rs := [2, 6, 7]) (by decide +kernel) (by decide +kernel) rfl ?_
          simp only [List.forall_mem_cons, List.not_mem_nil, false_imp_iff, implies_true, and_true]
          refine ⟨?_, ?_, ?_⟩
          · refine o_call rfl (r_call fn15 rfl rfl) rfl (rdecP_ok rs pa rs.length pc (gt qs i) _ (hrs.st hS75) rfl Om (fun r hr => (hall r hr).st hS75) (hw _ (gt_mem qs i Om)) (hA _ (hS75.hold fun x hx => by simp [hx]) _ (gt_mem qs i Om)) hoks) ?_
            rintro _ w76 ⟨ru1, rfl, hx77⟩; have hS78 := hS75.ext hx77
            refine ⟨hS78, ?_⟩
            refine g_all (rs := [5, 6, 7]) (by decide +kernel) (by decide +kernel) rfl ?_
            simp only [List.forall_mem_cons, List.not_mem_nil, false_imp_iff, implies_true, and_true]
            refine ⟨?_, ?_, ?_⟩
            · refine o_call rfl (r_call fn15 rfl rfl) rfl (rdecP_ok ls aT ls.length cT (gt qs i) _ (St.rowAt hS78 Z4) rfl Om (hRT _ (hS78.hold fun x hx => by simp [hx])) (hw _ (gt_mem qs i Om)) (hA _ (hS78.hold fun x hx => by simp [hx]) _ (gt_mem qs i Om)) hokl) ?_
              rintro _ w79 ⟨ru2, rfl, hx80⟩; have hS81 := hS78.ext hx80
              refine ⟨hS81, ?_⟩
              refine g_all (rs := [6, 7]) (by decide +kernel) (by decide +kernel) rfl ?_
              simp only [List.forall_mem_cons, List.not_mem_nil, false_imp_iff, implies_true, and_true]
              refine ⟨?_, ?_⟩
              · refine o_exv rfl (x_alloc (C := [.bool false, .int .i64 0, .int .i64 0, .string ⟨#[]⟩]) hS81 ti52 rfl) rfl ?_
                rintro _ w82 ⟨b12, rfl, hS83⟩
                refine ⟨hS83.drop1, ?_⟩
                refine zG1 7 ?_; refine o_exv rfl (x_alloc (C := [.bool false, .int .i64 0, .int .i64 0, .string ⟨#[]⟩]) hS83 ti52 rfl) rfl ?_; rintro _ w84 ⟨b13, rfl, hS85⟩
                refine ⟨hS85.drop1.drop1, ?_⟩
                refine zGT rfl ?_; refine zY (x_storeW [_] hS85 ti52 rfl rfl rfl rfl one_dec) ?_; intro w86 hS87; simp only [ca, na] at hS87; refine zY (x_storeW [] hS87 ti52 rfl rfl rfl rfl one_dec) ?_; intro w88 hS89; simp only [ca, na] at hS89; refine zN<|zT ?_
                have hF := hS89; exact walk_c0
              · refine o_exv rfl (x_alloc (C := [.bool false, .int .i64 0, .int .i64 0, .string ⟨#[]⟩]) hS81 ti52 rfl) rfl ?_
                rintro _ w90 ⟨b13, rfl, hS91⟩
                refine ⟨hS91.drop1, ?_⟩
                refine zG1 6 ?_; refine o_exv rfl (x_alloc (C := [.bool false, .int .i64 0, .int .i64 0, .string ⟨#[]⟩]) hS91 ti52 rfl) rfl ?_; rintro _ w92 ⟨b12, rfl, hS93⟩
                refine ⟨hS93.drop1.drop1, ?_⟩
                refine zGT rfl ?_; refine zY (x_storeW [] hS93 ti52 rfl rfl rfl rfl one_dec) ?_; intro w94 hS95; simp only [ca, na] at hS95; refine zY (x_storeW [_] hS95 ti52 rfl rfl rfl rfl one_dec) ?_; intro w96 hS97; simp only [ca, na] at hS97; refine zN<|zT ?_
                have hF := hS97; exact walk_c1
            · refine o_exv rfl (x_alloc (C := [.bool false, .int .i64 0, .int .i64 0, .string ⟨#[]⟩]) hS78 ti52 rfl) rfl ?_
              rintro _ w98 ⟨b12, rfl, hS99⟩
              refine ⟨hS99.drop1, ?_⟩
              refine g_all (rs := [5, 7]) (by decide +kernel) (by decide +kernel) rfl ?_
              simp only [List.forall_mem_cons, List.not_mem_nil, false_imp_iff, implies_true, and_true]
              refine ⟨?_, ?_⟩
              · refine o_call rfl (r_call fn15 rfl rfl) rfl (rdecP_ok ls aT ls.length cT (gt qs i) _ (St.rowAt hS99 Z5) rfl Om (hRT _ (hS99.hold fun x hx => by simp [hx])) (hw _ (gt_mem qs i Om)) (hA _ (hS99.hold fun x hx => by simp [hx]) _ (gt_mem qs i Om)) hokl) ?_
                rintro _ w100 ⟨ru2, rfl, hx101⟩; have hS102 := hS99.ext hx101
                refine ⟨hS102.drop1, ?_⟩
                refine zG1 7 ?_; refine o_exv rfl (x_alloc (C := [.bool false, .int .i64 0, .int .i64 0, .string ⟨#[]⟩]) hS102 ti52 rfl) rfl ?_; rintro _ w103 ⟨b13, rfl, hS104⟩
                refine ⟨hS104.drop1.drop1, ?_⟩
                refine zGT rfl ?_; refine zY (x_storeW [_] hS104 ti52 rfl rfl rfl rfl one_dec) ?_; intro w105 hS106; simp only [ca, na] at hS106; refine zY (x_storeW [] hS106 ti52 rfl rfl rfl rfl one_dec) ?_; intro w107 hS108; simp only [ca, na] at hS108; refine zN<|zT ?_
                have hF := hS108; exact walk_c0
              · refine o_exv rfl (x_alloc (C := [.bool false, .int .i64 0, .int .i64 0, .string ⟨#[]⟩]) hS99 ti52 rfl) rfl ?_
                rintro _ w109 ⟨b13, rfl, hS110⟩
                refine ⟨hS110.drop1.drop1, ?_⟩
                refine zG1 5 ?_; refine o_call rfl (r_call fn15 rfl rfl) rfl (rdecP_ok ls aT ls.length cT (gt qs i) _ (St.rowAt hS110 Z6) rfl Om (hRT _ (hS110.hold fun x hx => by simp [hx])) (hw _ (gt_mem qs i Om)) (hA _ (hS110.hold fun x hx => by simp [hx]) _ (gt_mem qs i Om)) hokl) ?_; rintro _ w111 ⟨ru2, rfl, hx112⟩; have hS113 := hS110.ext hx112
                refine ⟨hS113.drop1.drop1, ?_⟩
                refine zGT rfl ?_; refine zY (x_storeW [_] hS113 ti52 rfl rfl rfl rfl one_dec) ?_; intro w114 hS115; simp only [ca, na] at hS115; refine zY (x_storeW [] hS115 ti52 rfl rfl rfl rfl one_dec) ?_; intro w116 hS117; simp only [ca, na] at hS117; refine zN<|zT ?_
                have hF := hS117; exact walk_c0
            · refine o_exv rfl (x_alloc (C := [.bool false, .int .i64 0, .int .i64 0, .string ⟨#[]⟩]) hS78 ti52 rfl) rfl ?_
              rintro _ w118 ⟨b13, rfl, hS119⟩
              refine ⟨hS119.drop1, ?_⟩
              refine g_all (rs := [5, 6]) (by decide +kernel) (by decide +kernel) rfl ?_
              simp only [List.forall_mem_cons, List.not_mem_nil, false_imp_iff, implies_true, and_true]
              refine ⟨?_, ?_⟩
              · refine o_call rfl (r_call fn15 rfl rfl) rfl (rdecP_ok ls aT ls.length cT (gt qs i) _ (St.rowAt hS119 Z5) rfl Om (hRT _ (hS119.hold fun x hx => by simp [hx])) (hw _ (gt_mem qs i Om)) (hA _ (hS119.hold fun x hx => by simp [hx]) _ (gt_mem qs i Om)) hokl) ?_
                rintro _ w120 ⟨ru2, rfl, hx121⟩; have hS122 := hS119.ext hx121
                refine ⟨hS122.drop1, ?_⟩
                refine zG1 6 ?_; refine o_exv rfl (x_alloc (C := [.bool false, .int .i64 0, .int .i64 0, .string ⟨#[]⟩]) hS122 ti52 rfl) rfl ?_; rintro _ w123 ⟨b12, rfl, hS124⟩
                refine ⟨hS124.drop1.drop1, ?_⟩
                refine zGT rfl ?_; refine zY (x_storeW [] hS124 ti52 rfl rfl rfl rfl one_dec) ?_; intro w125 hS126; simp only [ca, na] at hS126; refine zY (x_storeW [_] hS126 ti52 rfl rfl rfl rfl one_dec) ?_; intro w127 hS128; simp only [ca, na] at hS128; refine zN<|zT ?_
                have hF := hS128; exact walk_c1
              · refine o_exv rfl (x_alloc (C := [.bool false, .int .i64 0, .int .i64 0, .string ⟨#[]⟩]) hS119 ti52 rfl) rfl ?_
                rintro _ w129 ⟨b12, rfl, hS130⟩
                refine ⟨hS130.drop1.drop1, ?_⟩
                refine zG1 5 ?_; refine o_call rfl (r_call fn15 rfl rfl) rfl (rdecP_ok ls aT ls.length cT (gt qs i) _ (St.rowAt hS130 Z6) rfl Om (hRT _ (hS130.hold fun x hx => by simp [hx])) (hw _ (gt_mem qs i Om)) (hA _ (hS130.hold fun x hx => by simp [hx]) _ (gt_mem qs i Om)) hokl) ?_; rintro _ w131 ⟨ru2, rfl, hx132⟩; have hS133 := hS130.ext hx132
                refine ⟨hS133.drop1.drop1, ?_⟩
                refine zGT rfl ?_; refine zY (x_storeW [] hS133 ti52 rfl rfl rfl rfl one_dec) ?_; intro w134 hS135; simp only [ca, na] at hS135; refine zY (x_storeW [_] hS135 ti52 rfl rfl rfl rfl one_dec) ?_; intro w136 hS137; simp only [ca, na] at hS137; refine zN<|zT ?_
                have hF := hS137; exact walk_c1
          · refine o_exv rfl (x_alloc (C := [.bool false, .int .i64 0, .int .i64 0, .string ⟨#[]⟩]) hS75 ti52 rfl) rfl ?_
            rintro _ w138 ⟨b12, rfl, hS139⟩
            refine ⟨hS139.drop1, ?_⟩
            refine g_all (rs := [2, 7]) (by decide +kernel) (by decide +kernel) rfl ?_
            simp only [List.forall_mem_cons, List.not_mem_nil, false_imp_iff, implies_true, and_true]
            refine ⟨?_, ?_⟩
            · refine o_call rfl (r_call fn15 rfl rfl) rfl (rdecP_ok rs pa rs.length pc (gt qs i) _ (hrs.st hS139) rfl Om (fun r hr => (hall r hr).st hS139) (hw _ (gt_mem qs i Om)) (hA _ (hS139.hold fun x hx => by simp [hx]) _ (gt_mem qs i Om)) hoks) ?_
              rintro _ w140 ⟨ru1, rfl, hx141⟩; have hS142 := hS139.ext hx141
              refine ⟨hS142.drop1, ?_⟩
              refine g_all (rs := [5, 7]) (by decide +kernel) (by decide +kernel) rfl ?_
              simp only [List.forall_mem_cons, List.not_mem_nil, false_imp_iff, implies_true, and_true]
              refine ⟨?_, ?_⟩
              · refine o_call rfl (r_call fn15 rfl rfl) rfl (rdecP_ok ls aT ls.length cT (gt qs i) _ (St.rowAt hS142 Z5) rfl Om (hRT _ (hS142.hold fun x hx => by simp [hx])) (hw _ (gt_mem qs i Om)) (hA _ (hS142.hold fun x hx => by simp [hx]) _ (gt_mem qs i Om)) hokl) ?_
                rintro _ w143 ⟨ru2, rfl, hx144⟩; have hS145 := hS142.ext hx144
                refine ⟨hS145.drop1, ?_⟩
                refine zG1 7 ?_; refine o_exv rfl (x_alloc (C := [.bool false, .int .i64 0, .int .i64 0, .string ⟨#[]⟩]) hS145 ti52 rfl) rfl ?_; rintro _ w146 ⟨b13, rfl, hS147⟩
                refine ⟨hS147.drop1.drop1, ?_⟩
                refine zGT rfl ?_; refine zY (x_storeW [_] hS147 ti52 rfl rfl rfl rfl one_dec) ?_; intro w148 hS149; simp only [ca, na] at hS149; refine zY (x_storeW [] hS149 ti52 rfl rfl rfl rfl one_dec) ?_; intro w150 hS151; simp only [ca, na] at hS151; refine zN<|zT ?_
                have hF := hS151; exact walk_c0
              · refine o_exv rfl (x_alloc (C := [.bool false, .int .i64 0, .int .i64 0, .string ⟨#[]⟩]) hS142 ti52 rfl) rfl ?_
                rintro _ w152 ⟨b13, rfl, hS153⟩
                refine ⟨hS153.drop1.drop1, ?_⟩
                refine zG1 5 ?_; refine o_call rfl (r_call fn15 rfl rfl) rfl (rdecP_ok ls aT ls.length cT (gt qs i) _ (St.rowAt hS153 Z6) rfl Om (hRT _ (hS153.hold fun x hx => by simp [hx])) (hw _ (gt_mem qs i Om)) (hA _ (hS153.hold fun x hx => by simp [hx]) _ (gt_mem qs i Om)) hokl) ?_; rintro _ w154 ⟨ru2, rfl, hx155⟩; have hS156 := hS153.ext hx155
                refine ⟨hS156.drop1.drop1, ?_⟩
                refine zGT rfl ?_; refine zY (x_storeW [_] hS156 ti52 rfl rfl rfl rfl one_dec) ?_; intro w157 hS158; simp only [ca, na] at hS158; refine zY (x_storeW [] hS158 ti52 rfl rfl rfl rfl one_dec) ?_; intro w159 hS160; simp only [ca, na] at hS160; refine zN<|zT ?_
                have hF := hS160; exact walk_c0
            · refine o_exv rfl (x_alloc (C := [.bool false, .int .i64 0, .int .i64 0, .string ⟨#[]⟩]) hS139 ti52 rfl) rfl ?_
              rintro _ w161 ⟨b13, rfl, hS162⟩
              refine ⟨hS162.drop1.drop1, ?_⟩
              refine zG1 2 ?_; refine o_call rfl (r_call fn15 rfl rfl) rfl (rdecP_ok rs pa rs.length pc (gt qs i) _ (hrs.st hS162) rfl Om (fun r hr => (hall r hr).st hS162) (hw _ (gt_mem qs i Om)) (hA _ (hS162.hold fun x hx => by simp [hx]) _ (gt_mem qs i Om)) hoks) ?_; rintro _ w163 ⟨ru1, rfl, hx164⟩; have hS165 := hS162.ext hx164
              refine ⟨hS165.drop1.drop1, ?_⟩
              refine zG1 5 ?_; refine o_call rfl (r_call fn15 rfl rfl) rfl (rdecP_ok ls aT ls.length cT (gt qs i) _ (St.rowAt hS165 Z6) rfl Om (hRT _ (hS165.hold fun x hx => by simp [hx])) (hw _ (gt_mem qs i Om)) (hA _ (hS165.hold fun x hx => by simp [hx]) _ (gt_mem qs i Om)) hokl) ?_; rintro _ w166 ⟨ru2, rfl, hx167⟩; have hS168 := hS165.ext hx167
              refine ⟨hS168.drop1.drop1, ?_⟩
              refine zGT rfl ?_; refine zY (x_storeW [_] hS168 ti52 rfl rfl rfl rfl one_dec) ?_; intro w169 hS170; simp only [ca, na] at hS170; refine zY (x_storeW [] hS170 ti52 rfl rfl rfl rfl one_dec) ?_; intro w171 hS172; simp only [ca, na] at hS172; refine zN<|zT ?_
              have hF := hS172; exact walk_c0
          · refine o_exv rfl (x_alloc (C := [.bool false, .int .i64 0, .int .i64 0, .string ⟨#[]⟩]) hS75 ti52 rfl) rfl ?_
            rintro _ w173 ⟨b13, rfl, hS174⟩
            refine ⟨hS174.drop1, ?_⟩
            refine g_all (rs := [2, 6]) (by decide +kernel) (by decide +kernel) rfl ?_
            simp only [List.forall_mem_cons, List.not_mem_nil, false_imp_iff, implies_true, and_true]
            refine ⟨?_, ?_⟩
            · refine o_call rfl (r_call fn15 rfl rfl) rfl (rdecP_ok rs pa rs.length pc (gt qs i) _ (hrs.st hS174) rfl Om (fun r hr => (hall r hr).st hS174) (hw _ (gt_mem qs i Om)) (hA _ (hS174.hold fun x hx => by simp [hx]) _ (gt_mem qs i Om)) hoks) ?_
              rintro _ w175 ⟨ru1, rfl, hx176⟩; have hS177 := hS174.ext hx176
              refine ⟨hS177.drop1, ?_⟩
              refine g_all (rs := [5, 6]) (by decide +kernel) (by decide +kernel) rfl ?_
              simp only [List.forall_mem_cons, List.not_mem_nil, false_imp_iff, implies_true, and_true]
              refine ⟨?_, ?_⟩
              · refine o_call rfl (r_call fn15 rfl rfl) rfl (rdecP_ok ls aT ls.length cT (gt qs i) _ (St.rowAt hS177 Z5) rfl Om (hRT _ (hS177.hold fun x hx => by simp [hx])) (hw _ (gt_mem qs i Om)) (hA _ (hS177.hold fun x hx => by simp [hx]) _ (gt_mem qs i Om)) hokl) ?_
                rintro _ w178 ⟨ru2, rfl, hx179⟩; have hS180 := hS177.ext hx179
                refine ⟨hS180.drop1, ?_⟩
                refine zG1 6 ?_; refine o_exv rfl (x_alloc (C := [.bool false, .int .i64 0, .int .i64 0, .string ⟨#[]⟩]) hS180 ti52 rfl) rfl ?_; rintro _ w181 ⟨b12, rfl, hS182⟩
                refine ⟨hS182.drop1.drop1, ?_⟩
                refine zGT rfl ?_; refine zY (x_storeW [] hS182 ti52 rfl rfl rfl rfl one_dec) ?_; intro w183 hS184; simp only [ca, na] at hS184; refine zY (x_storeW [_] hS184 ti52 rfl rfl rfl rfl one_dec) ?_; intro w185 hS186; simp only [ca, na] at hS186; refine zN<|zT ?_
                have hF := hS186; exact walk_c1
              · refine o_exv rfl (x_alloc (C := [.bool false, .int .i64 0, .int .i64 0, .string ⟨#[]⟩]) hS177 ti52 rfl) rfl ?_
                rintro _ w187 ⟨b12, rfl, hS188⟩
                refine ⟨hS188.drop1.drop1, ?_⟩
                refine zG1 5 ?_; refine o_call rfl (r_call fn15 rfl rfl) rfl (rdecP_ok ls aT ls.length cT (gt qs i) _ (St.rowAt hS188 Z6) rfl Om (hRT _ (hS188.hold fun x hx => by simp [hx])) (hw _ (gt_mem qs i Om)) (hA _ (hS188.hold fun x hx => by simp [hx]) _ (gt_mem qs i Om)) hokl) ?_; rintro _ w189 ⟨ru2, rfl, hx190⟩; have hS191 := hS188.ext hx190
                refine ⟨hS191.drop1.drop1, ?_⟩
                refine zGT rfl ?_; refine zY (x_storeW [] hS191 ti52 rfl rfl rfl rfl one_dec) ?_; intro w192 hS193; simp only [ca, na] at hS193; refine zY (x_storeW [_] hS193 ti52 rfl rfl rfl rfl one_dec) ?_; intro w194 hS195; simp only [ca, na] at hS195; refine zN<|zT ?_
                have hF := hS195; exact walk_c1
            · refine o_exv rfl (x_alloc (C := [.bool false, .int .i64 0, .int .i64 0, .string ⟨#[]⟩]) hS174 ti52 rfl) rfl ?_
              rintro _ w196 ⟨b12, rfl, hS197⟩
              refine ⟨hS197.drop1.drop1, ?_⟩
              refine zG1 2 ?_; refine o_call rfl (r_call fn15 rfl rfl) rfl (rdecP_ok rs pa rs.length pc (gt qs i) _ (hrs.st hS197) rfl Om (fun r hr => (hall r hr).st hS197) (hw _ (gt_mem qs i Om)) (hA _ (hS197.hold fun x hx => by simp [hx]) _ (gt_mem qs i Om)) hoks) ?_; rintro _ w198 ⟨ru1, rfl, hx199⟩; have hS200 := hS197.ext hx199
              refine ⟨hS200.drop1.drop1, ?_⟩
              refine zG1 5 ?_; refine o_call rfl (r_call fn15 rfl rfl) rfl (rdecP_ok ls aT ls.length cT (gt qs i) _ (St.rowAt hS200 Z6) rfl Om (hRT _ (hS200.hold fun x hx => by simp [hx])) (hw _ (gt_mem qs i Om)) (hA _ (hS200.hold fun x hx => by simp [hx]) _ (gt_mem qs i Om)) hokl) ?_; rintro _ w201 ⟨ru2, rfl, hx202⟩; have hS203 := hS200.ext hx202
              refine ⟨hS203.drop1.drop1, ?_⟩
              refine zGT rfl ?_; refine zY (x_storeW [] hS203 ti52 rfl rfl rfl rfl one_dec) ?_; intro w204 hS205; simp only [ca, na] at hS205; refine zY (x_storeW [_] hS205 ti52 rfl rfl rfl rfl one_dec) ?_; intro w206 hS207; simp only [ca, na] at hS207; refine zN<|zT ?_
              have hF := hS207; exact walk_c1
        · rintro e70 w71 ⟨b12, b13, ru1, ru2, hc73_12, hc73_13, hS72⟩ -
          refine c_set (d := 12) hc73_12<|c_set (d := 13) hc73_13<|zS ?_
          have hdd : decB rs (gt qs i).b = decB ls (gt qs i).b := keep_at htr (by rw [← hb]; exact List.mem_map.2 ⟨_, gt_mem qs i Om, rfl⟩)
          refine zR<|zF fa52_0 rfl ti4.und rfl (hS72.heap Z0) rfl rfl rfl<|zF fa52_0 rfl ti4.und rfl (hS72.heap Z1) rfl rfl rfl<|wl_dec_f (r_neqBool ti4.und rfl rfl) rfl (not_not_intro (show (decB rs (gt qs i).b).1 = (decB ls (gt qs i).b).1 by rw [hdd])) ?_; refine zq 1 rfl<|wl_val (r_field fa52_2 rfl) rfl<|wl_val (r_loadB1 ti3.und rfl rfl (hS72.heap Z0) rfl) rfl<|wl_val (r_field fa52_2 rfl) rfl<|wl_val (r_loadB1 ti3.und rfl rfl (hS72.heap Z1) rfl) rfl<|wl_dec_f (r_neq rfl rfl) rfl (not_not_intro (show (decB rs (gt qs i).b).2.1 = (decB ls (gt qs i).b).2.1 by rw [hdd])) ?_; refine zq 2 rfl<|wl_val (r_field fa52_3 rfl) rfl<|wl_val (r_loadB1 ti9.und rfl rfl (hS72.heap Z0) rfl) rfl<|wl_val (r_field fa52_3 rfl) rfl<|wl_val (r_loadB1 ti9.und rfl rfl (hS72.heap Z1) rfl) rfl<|wl_dec_f (r_neqStrL rfl rfl) rfl (not_not_intro (show (decB rs (gt qs i).b).2.2 = (decB ls (gt qs i).b).2.2 by rw [hdd])) ?_; refine zq 1 rfl<|zN<|zT<|zf rfl<|zK<|zJ<|zT<|zR<|zV (r_addn (b := 1) rfl rfl Om)<|zq 1 rfl<|zN<|zT ?_
          exact ⟨qs.length - (i + 1), _, by omega, rfl, ⟨i + 1, LTZ, rfl, rfl, hS72.drop1.drop1, by omega, hA, hRT⟩, ⟨rfl, rfl, rfl, rfl, trivial⟩⟩
      refine zN<|zT<|zS<|zf rfl<|zO<|zM<|zM<|c_inE<|zT<|zS<|zR<|zq 1 rfl<|zN<|zT<|zU<|ret1 Tryz.results5 ?_
      exact ⟨rfl, hS64.fin⟩
  have hS8 := hS5.ext hx7; refine zq 1 rfl<|zN<|zT<|zt rfl<|zS<|zR<|zq 1 rfl<|zN<|zT<|zU<|zL<|ret1 Tryz.results5 ?_
  exact ⟨rfl, hS8.fin⟩


theorem own : ownKnob Tryz.prog.godebug = none := by kernel_rfl
theorem laidOut : laidOutB Tryz.prog = true := by kernel_rfl
theorem readable24 : Tryz.prog.readableRec 24 = true := by kernel_rfl
theorem inside24 : decide (24 < Tryz.prog.types.size) = true := by kernel_rfl
theorem lifted (os : Os) (started : os.Started) (H : Type) (enc : TypeId × Value → H) :
    ReturnsInHanded {} Tryz.checked os 5 .any (Rows.warningsMatchSpec.pre6 enc Tryz.prog Tryz.f5 Rows.warningsMatchRow.domain false) (Rows.warningsMatchSpec.post enc Tryz.prog Tryz.f5 false true false false) := by
  refine returnsInHanded_of_change_sized (C := Tryz.checked) own started (by kernel_rfl) Tryz.func5
    (ChangeSpec.witness6 (enc := enc) (C := Tryz.checked) false ⟨#[], #[.agg #[.slice none 0 0]], []⟩ 8 (by kernel_rfl) (by kernel_rfl) (by kernel_rfl) (by kernel_rfl)) ?_
  intro W base args ds gs before hval0 hW hcnd hsz0 _
  have hval : ∀ (j : Nat) t v, Tryz.f5.params[j]? = some t → args[j]? = some v → Value.okWide Tryz.prog W .any base t v := hval0
  have hW' := hW
  obtain ⟨p, q, hA0, hV, rfl, hfz, hnd⟩ := hW
  have hA : DataW.TrodAll enc Tryz.prog W 0 (fun _ => true) true Tryz.f5.params.toList args.toList ds p := hA0
  have hsz : (DataW.weightsEach Tryz.prog (Tryz.f5.params.toList ++ Rows.warningsMatchSpec.plain.varTypes Tryz.prog) (ds ++ gs)).all (· ≤ reachBytes) = true := hsz0
  rw [Tryz.params5] at hA hval hsz
  obtain ⟨v0, vs0, d0, ds0, p0, q0, hargs, rfl, rfl, h0, r0⟩ := trodAll_cons hA
  obtain ⟨rfl, rfl, rfl⟩ := trodAll_nil r0
  obtain rfl : args = #[v0] := by cases args; simp_all
  obtain ⟨rfl, rfl⟩ := trodVars_none hV
  have lt0 : ∀ x ∈ p0, x.block < W.heap.size := by obtain ⟨m, hm⟩ := h0; exact DataW.trod_lt m _ _ _ hm
  have ok0 := hval 0 24 v0 rfl rfl
  obtain ⟨⟨pa, pc, rs⟩, rfl, hrs, hpc, hpcc, hall⟩ := open_struct (j := 0) Tryz.underlying24 (opens_policy (opens_struct Tryz.underlying24 (by kernel_rfl) (opensFs_cons (sz := 1) (opens_slice (sz := 8) (bts := 120) Tryz.underlying22 (by kernel_rfl) (by decide) (by kernel_rfl) (fun _ => rfl) (opens_rule (opens_struct Tryz.underlying50 (by kernel_rfl) (opensFs_cons (sz := 1) (opens_bool Tryz.underlying4) rfl (by kernel_rfl) (opensFs_cons (sz := 1) (opens_slice1 (bts := 16) Tryz.underlying36 (by kernel_rfl) (by kernel_rfl) (opens_str Tryz.underlying9)) rfl (by kernel_rfl) (opensFs_cons (sz := 1) (opens_slice1 (bts := 8) Tryz.underlying48 (by kernel_rfl) (by kernel_rfl) (opens_i64 Tryz.underlying3)) rfl (by kernel_rfl) (opensFs_cons (sz := 1) (opens_slice1 (bts := 16) Tryz.underlying36 (by kernel_rfl) (by kernel_rfl) (opens_str Tryz.underlying9)) rfl (by kernel_rfl) (opensFs_cons (sz := 1) (opens_i64 Tryz.underlying3) rfl (by kernel_rfl) (opensFs_cons (sz := 1) (opens_i64 Tryz.underlying3) rfl (by kernel_rfl) (opensFs_cons (sz := 1) (opens_i64 Tryz.underlying3) rfl (by kernel_rfl) (opensFs_cons (sz := 1) (opens_str Tryz.underlying9) rfl (by kernel_rfl) opensFs_nil (by simp)) (by simp)) (by simp)) (by simp)) (by simp)) (by simp)) (by simp)) (by simp))))) rfl (by kernel_rfl) opensFs_nil (by simp)))) ok0 h0 hsz rfl rfl
  simp only [] at hrs hpc hpcc hall
  refine Calls.mono (walk rs pa pc W hrs (fun r hr => ⟨(hall r hr).1, (hall r hr).2.1, (hall r hr).2.2.1, (hall r hr).2.2.2⟩)) fun e W' ⟨v, he, hv, hs⟩ => ?_
  subst hv; subst he
  have bel := hs.below
  exact ⟨_, rfl, _, _, _, [], _, [], hW', trodAll_mk1 (shut_bool Tryz.underlying4 _), (trodAll_cons_mk (Below.trod laidOut readable24 (of_decide_eq_true inside24) h0 bel lt0) trodAll_mk0), rfl, bel.frame _, fun h => by cases h⟩
theorem over : Rows.warningsMatchRow.holds Tryz.pinned (OpenSpec.ofChange Rows.warningsMatchSpec) :=
  OpenClaim.holds_of_wide 5 Tryz.f5 rfl rfl rfl rfl rfl rfl rfl ⟨rfl, rfl, rfl, rfl, rfl⟩ rfl rfl rfl rfl rfl (by kernel_rfl) Tryz.func5 (by kernel_rfl)
    (of_decide_eq_true (by kernel_rfl)) (by unfold Func.isWrapper; rw [if_neg (of_decide_eq_false (by kernel_rfl))]; exact ⟨rfl, rfl⟩)
    (fun os started H enc _ => lifted os started H enc)
theorem proved : Rows.WarningsMatchSaid := over
#print axioms proved
end Go.Proofs.YtmonnmndphlkaaaGreat.lawWarningsMatch
