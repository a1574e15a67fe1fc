/- What the law's proof leans on. No condition. -/
import Derived.Test.YtmonnmndphlkaaaGreatPWnAI
import Derived.Test.YtmonnmndphlkaaaGreatPWnBN
import Derived.Test.YtmonnmndphlkaaaGreatPWnBO
section
namespace Go.Proofs.YtmonnmndphlkaaaGreat
open Go.Kw
set_option linter.unusedVariables false
set_option linter.unusedSimpArgs false
set_option maxRecDepth 100000
set_option maxHeartbeats 4000000 in
theorem labels_ok (rs : List RuleD) (pa : Option Addr) (n pc : Nat) (w : World) (hrs : Row w pa (rs.flatMap RuleD.v)) (hl : rs.length = n) (hn : n ≤ 140737488351232) (hall : ∀ r ∈ rs, RuleAt w r) (hok : ∀ r ∈ rs, ruleE r = 0) (h100 : rs.length ≤ 100) :
    Ret Tryz.prog 80 [.agg #[.slice pa n pc]] w (fun v w' => ∃ (a : Option Addr) (c : Nat), v = .slice a (wL rs).length c ∧ (wL rs).length ≤ c ∧ St w [] w' [.row (.slice a (wL rs).length c) 9 1 (wL rs).length ((wL rs).map sv)]) := by
  subst hl
  refine enter Tryz.func80 rfl Tryz.ntmps80 rfl ?_
  have hS := St.refl w []
  refine zS<|zR<|zB (v := .agg _) hS rfl rfl fun b1 w1 hS2=>zq 1 rfl<|zN<|zT<|zS<|zR<|zX (x_makeMap sv hS2) ?_; rintro _ w3 ⟨bM, rfl, hS4⟩
  change St _ _ _ (.blk bM (mobj sv [] 0) :: _) at hS4
  refine zY (x_insertB (f := sv) (vf := vfL) (q := []) [] hS4 (keyStr ti9.und) MapOf.zero ti142.und rfl rfl rfl (by decide)) ?_
  rintro w6 ⟨E9, c9, hM8, hS7⟩
  simp only [ca, na] at hS7; refine zY (x_insertB (f := sv) (vf := vfL) (q := [120]) [] hS7 (keyStr ti9.und) hM8 ti142.und rfl rfl rfl (by decide)) ?_
  rintro w10 ⟨E13, c13, hM12, hS11⟩
  simp only [ca, na] at hS11; refine zq 2 rfl<|zN<|zT<|zS<|zS<|zR<|zF fa24_0 rfl ti22.und rfl (hS11.heap Z1) rfl rfl rfl<|zV (r_len (T := 22) rfl ti22.und rfl _ rfl)<|zq 1 rfl<|zN<|zT<|zI ?_
  refine c_loopE [2, 3, 14, 15] (fun d e w' => ∃ (k : Nat) (E : List (MB (List UInt8))) (c : Nat), Kw.look e 16 = vi k ∧ d = rs.length - k ∧ St w [] w' [.blk bM (mobj sv E c), .blk b1 (cl [.slice pa rs.length pc] 24)] ∧ (k ≤ rs.length) ∧ (MapOf E c (labsK (rs.take k)) vfL)) (rs.length - 0) ?_ ?_
  · exact ⟨0, _, _, rfl, rfl, hS11, Nat.zero_le _, hM12⟩
  · rintro d17 e14 w15 ⟨k, E, c, hc0_16, rfl, hS16, hk, hM⟩ -
    refine c_set (d := 16) hc0_16<|zS<|zR ?_
    refine wl_dec (r_lss rfl rfl) rfl (fun h3_0 => ?_) (fun h3_0 => ?_)
    · refine zN<|zT<|zS<|zt rfl<|zK<|zT<|zS<|zI<|zS ?_
      have hgk := hall (gt rs k) (gt_mem rs k Om)
      have hszk := rule_sz (hok (gt rs k) (gt_mem rs k Om))
      refine zR<|zV (r_ixF rule_v8 ti22.und ti50 rfl rfl (hrs.st hS16) Ln Sd (by decide)) ?_; refine zV (r_loadF rule_v8 ti50 ag50 rfl (hrs.st hS16) Sd (by decide)) ?_; refine zA (C := [.bool false, .slice none 0 0, .slice none 0 0, .slice none 0 0, .int .i64 0, .int .i64 0, .int .i64 0, .string ⟨#[]⟩]) hS16 ti50 rfl fun b5 w18 hS19=> ?_; refine wl_exs (x_storeW [] hS19 ti50 rfl rfl Ln Ln On) rfl ?_; intro w20 hS21; simp only [ca, na] at hS21; refine zN<|zT<|zS<|zR<|zF fa50_3 rfl ti36.und rfl (hS21.heap Z0) rfl rfl rfl<|zV (r_len (T := 36) rfl ti36.und rfl _ rfl)<|zq 1 rfl<|zN<|zT<|zI ?_
      refine c_loopE [2, 3, 14, 15, 16, 21, 22] (fun d e w' => ∃ (i : Nat) (E : List (MB (List UInt8))) (c : Nat), Kw.look e 23 = vi i ∧ d = (gt rs k).las.length - i ∧ St w [] w' [.blk b5 (cl (gt rs k).v 50), .blk bM (mobj sv E c), .blk b1 (cl [.slice pa rs.length pc] 24)] ∧ (i ≤ (gt rs k).las.length) ∧ (MapOf E c (labsK (rs.take k) ++ ((gt rs k).las.take i).flatMap keysL) vfL)) ((gt rs k).las.length - 0) ?_ ?_
      · exact ⟨0, E, c, rfl, rfl, hS21, Nat.zero_le _, hM.to (by simp)⟩
      · rintro d25 e22 w23 ⟨i, E, c, hc1_23, rfl, hS24, hi, hM⟩ -
        refine c_set (d := 23) hc1_23<|zS<|zR ?_
        refine wl_dec (r_lss rfl rfl) rfl (fun h6_0 => ?_) (fun h6_0 => ?_)
        · refine zN<|zT<|zS<|zt rfl<|zK<|zT<|zS<|zI<|zS<|zR<|zV (r_ixS ti36.und ti9 rfl rfl (hgk.h3.st hS24) Sd Ln) ?_
          refine zV (r_loadS1 ti9.und rfl rfl (hgk.h3.st hS24) (by rw [Nat.mul_one]; exact map_gt _ _ _ Sd)) ?_; refine zq 1 rfl<|zN<|zT<|zS ?_
          have hhl := headS_p (rule_las (hok (gt rs k) (gt_mem rs k Om)) _ (gt_mem (gt rs k).las i Om))
          refine zR<|zq 1 rfl<|zC fn27 rfl (cutSuffix_ok (gt (gt rs k).las i) _ (hgk.ok.ll _ (gt_mem _ _ Om))) ?_
          rintro _ w26 (⟨hs, rfl, hx27⟩ | ⟨hs, rfl, hx27⟩)
          · have hS28 := hS24.ext hx27
            refine zq 5 rfl<|zN<|zT<|zS<|zR<|zq 3 rfl<|zC fn124 rfl (isName_br (headS (gt (gt rs k).las i)) _ (Nat.le_trans (headS_le _) (hgk.ok.ll _ (gt_mem _ _ Om)))) ?_
            rintro _ w29 (⟨hnm, rfl, hx30⟩ | ⟨hnm, rfl, hx30⟩)
            · have hS31 := hS28.ext hx30
              refine zq 4 rfl<|zY (x_mapPutB (f := sv) (vf := vfL) [_] hS31 (keyStr ti9.und) hM ti142.und rfl rfl rfl (by first | (rw [vfL, hnm]; rfl) | (unfold vfL; rw [hnm, decide_eq_true (by assumption)]; rfl) | (unfold vfL; rw [hnm, decide_eq_false (by assumption)]; rfl))) ?_
              rintro w32 ⟨E35, c35, hM34, hS33⟩
              simp only [ca, na] at hS33; refine zN<|zT<|zS<|zR<|zq 1 rfl<|zV (r_addStrL (by simp only [List.length_append, List.length_cons, List.length_nil]; omega) rfl rfl) ?_; refine zq 1 rfl<|zN<|zT<|zS<|zR<|zq 3 rfl<|zC fn124 rfl (isName_br (longS (gt (gt rs k).las i)) _ (by simp only [List.length_append, List.length_cons, List.length_nil]; omega)) ?_
              rintro _ w36 (⟨hln, rfl, hx37⟩ | ⟨hln, rfl, hx37⟩)
              · have hS38 := hS33.ext hx37
                refine zq 1 rfl<|zN<|zT<|zt rfl<|zR<|zq 2 rfl<|zY (x_mapPutB (f := sv) (vf := vfL) [_] hS38 (keyStr ti9.und) hM34 ti142.und rfl rfl rfl (by rw [vfL, hln]; rfl)) ?_
                rintro w39 ⟨E42, c42, hM41, hS40⟩
                simp only [ca, na] at hS40; refine zN<|zJ<|zT<|zR<|zV (r_addn (b := 1) rfl rfl Om)<|zq 1 rfl<|zN<|zT ?_
                exact ⟨(gt rs k).las.length - (i + 1), _, by omega, rfl, ⟨i + 1, _, _, rfl, rfl, hS40, by omega, hM41.to (by rw [flat_step _ Om]; rw [keysL_y hs hln, ← List.append_assoc, ← List.append_assoc])⟩, ⟨rfl, rfl, rfl, rfl, rfl, rfl, rfl, trivial⟩⟩
              have hS38 := hS33.ext hx37; refine zq 1 rfl<|zN<|zT<|zf rfl<|zK<|zJ<|zT<|zR<|zV (r_addn (b := 1) rfl rfl Om)<|zq 1 rfl<|zN<|zT ?_
              exact ⟨(gt rs k).las.length - (i + 1), _, by omega, rfl, ⟨i + 1, _, _, rfl, rfl, hS38, by omega, hM34.to (by rw [flat_step _ Om]; rw [keysL_n (fun h => by rw [h.2] at hln; cases hln), ← List.append_assoc])⟩, ⟨rfl, rfl, rfl, rfl, rfl, rfl, rfl, trivial⟩⟩
            have hS31 := hS28.ext hx30; refine zq 2 rfl ?_
            refine wl_dec (r_eqlStrL rfl rfl) rfl (fun h9_6 => ?_) (fun h9_6 => ?_)
            · refine zq 1 rfl<|zY (x_mapPutB (f := sv) (vf := vfL) [_] hS31 (keyStr ti9.und) hM ti142.und rfl rfl rfl (by first | (rw [vfL, hnm]; rfl) | (unfold vfL; rw [hnm, decide_eq_true (by assumption)]; rfl) | (unfold vfL; rw [hnm, decide_eq_false (by assumption)]; rfl))) ?_
              rintro w43 ⟨E46, c46, hM45, hS44⟩
              simp only [ca, na] at hS44; refine zN<|zT<|zS<|zR<|zq 1 rfl<|zV (r_addStrL (by simp only [List.length_append, List.length_cons, List.length_nil]; omega) rfl rfl) ?_; refine zq 1 rfl<|zN<|zT<|zS<|zR<|zq 3 rfl<|zC fn124 rfl (isName_br (longS (gt (gt rs k).las i)) _ (by simp only [List.length_append, List.length_cons, List.length_nil]; omega)) ?_
              rintro _ w47 (⟨hln, rfl, hx48⟩ | ⟨hln, rfl, hx48⟩)
              · have hS49 := hS44.ext hx48
                refine zq 1 rfl<|zN<|zT<|zt rfl<|zR<|zq 2 rfl<|zY (x_mapPutB (f := sv) (vf := vfL) [_] hS49 (keyStr ti9.und) hM45 ti142.und rfl rfl rfl (by rw [vfL, hln]; rfl)) ?_
                rintro w50 ⟨E53, c53, hM52, hS51⟩
                simp only [ca, na] at hS51; refine zN<|zJ<|zT<|zR<|zV (r_addn (b := 1) rfl rfl Om)<|zq 1 rfl<|zN<|zT ?_
                exact ⟨(gt rs k).las.length - (i + 1), _, by omega, rfl, ⟨i + 1, _, _, rfl, rfl, hS51, by omega, hM52.to (by rw [flat_step _ Om]; rw [keysL_y hs hln, ← List.append_assoc, ← List.append_assoc])⟩, ⟨rfl, rfl, rfl, rfl, rfl, rfl, rfl, trivial⟩⟩
              have hS49 := hS44.ext hx48; refine zq 1 rfl<|zN<|zT<|zf rfl<|zK<|zJ<|zT<|zR<|zV (r_addn (b := 1) rfl rfl Om)<|zq 1 rfl<|zN<|zT ?_
              exact ⟨(gt rs k).las.length - (i + 1), _, by omega, rfl, ⟨i + 1, _, _, rfl, rfl, hS49, by omega, hM45.to (by rw [flat_step _ Om]; rw [keysL_n (fun h => by rw [h.2] at hln; cases hln), ← List.append_assoc])⟩, ⟨rfl, rfl, rfl, rfl, rfl, rfl, rfl, trivial⟩⟩
            refine zq 1 rfl<|zY (x_mapPutB (f := sv) (vf := vfL) [_] hS31 (keyStr ti9.und) hM ti142.und rfl rfl rfl (by first | (rw [vfL, hnm]; rfl) | (unfold vfL; rw [hnm, decide_eq_true (by assumption)]; rfl) | (unfold vfL; rw [hnm, decide_eq_false (by assumption)]; rfl))) ?_
            rintro w54 ⟨E57, c57, hM56, hS55⟩
            simp only [ca, na] at hS55; refine zN<|zT<|zS<|zR<|zq 1 rfl<|zV (r_addStrL (by simp only [List.length_append, List.length_cons, List.length_nil]; omega) rfl rfl) ?_; refine zq 1 rfl<|zN<|zT<|zS<|zR<|zq 3 rfl<|zC fn124 rfl (isName_br (longS (gt (gt rs k).las i)) _ (by simp only [List.length_append, List.length_cons, List.length_nil]; omega)) ?_
            rintro _ w58 (⟨hln, rfl, hx59⟩ | ⟨hln, rfl, hx59⟩)
            · have hS60 := hS55.ext hx59
              refine zq 1 rfl<|zN<|zT<|zt rfl<|zR<|zq 2 rfl<|zY (x_mapPutB (f := sv) (vf := vfL) [_] hS60 (keyStr ti9.und) hM56 ti142.und rfl rfl rfl (by rw [vfL, hln]; rfl)) ?_
              rintro w61 ⟨E64, c64, hM63, hS62⟩
              simp only [ca, na] at hS62; refine zN<|zJ<|zT<|zR<|zV (r_addn (b := 1) rfl rfl Om)<|zq 1 rfl<|zN<|zT ?_
              exact ⟨(gt rs k).las.length - (i + 1), _, by omega, rfl, ⟨i + 1, _, _, rfl, rfl, hS62, by omega, hM63.to (by rw [flat_step _ Om]; rw [keysL_y hs hln, ← List.append_assoc, ← List.append_assoc])⟩, ⟨rfl, rfl, rfl, rfl, rfl, rfl, rfl, trivial⟩⟩
            have hS60 := hS55.ext hx59; refine zq 1 rfl<|zN<|zT<|zf rfl<|zK<|zJ<|zT<|zR<|zV (r_addn (b := 1) rfl rfl Om)<|zq 1 rfl<|zN<|zT ?_
            exact ⟨(gt rs k).las.length - (i + 1), _, by omega, rfl, ⟨i + 1, _, _, rfl, rfl, hS60, by omega, hM56.to (by rw [flat_step _ Om]; rw [keysL_n (fun h => by rw [h.2] at hln; cases hln), ← List.append_assoc])⟩, ⟨rfl, rfl, rfl, rfl, rfl, rfl, rfl, trivial⟩⟩
          have hS28 := hS24.ext hx27; refine zq 5 rfl<|zN<|zT<|zS<|zR<|zq 3 rfl<|zC fn124 rfl (isName_br (headS (gt (gt rs k).las i)) _ (Nat.le_trans (headS_le _) (hgk.ok.ll _ (gt_mem _ _ Om)))) ?_
          rintro _ w65 (⟨hnm, rfl, hx66⟩ | ⟨hnm, rfl, hx66⟩)
          · have hS67 := hS28.ext hx66
            refine zq 4 rfl<|zY (x_mapPutB (f := sv) (vf := vfL) [_] hS67 (keyStr ti9.und) hM ti142.und rfl rfl rfl (by first | (rw [vfL, hnm]; rfl) | (unfold vfL; rw [hnm, decide_eq_true (by assumption)]; rfl) | (unfold vfL; rw [hnm, decide_eq_false (by assumption)]; rfl))) ?_
            rintro w68 ⟨E71, c71, hM70, hS69⟩
            simp only [ca, na] at hS69; refine zN<|zT<|zS<|zR<|zq 1 rfl<|zV (r_addStrL (by simp only [List.length_append, List.length_cons, List.length_nil]; omega) rfl rfl) ?_; refine zq 1 rfl<|zN<|zT<|zS<|zR<|zq 5 rfl<|zN<|zT<|zf rfl<|zK<|zJ<|zT<|zR<|zV (r_addn (b := 1) rfl rfl Om)<|zq 1 rfl<|zN<|zT ?_
            exact ⟨(gt rs k).las.length - (i + 1), _, by omega, rfl, ⟨i + 1, _, _, rfl, rfl, hS69, by omega, hM70.to (by rw [flat_step _ Om]; rw [keysL_n (fun h => by rw [h.1] at hs; cases hs), ← List.append_assoc])⟩, ⟨rfl, rfl, rfl, rfl, rfl, rfl, rfl, trivial⟩⟩
          have hS67 := hS28.ext hx66; refine zq 2 rfl ?_
          refine wl_dec (r_eqlStrL rfl rfl) rfl (fun h9_6 => ?_) (fun h9_6 => ?_)
          · refine zq 1 rfl<|zY (x_mapPutB (f := sv) (vf := vfL) [_] hS67 (keyStr ti9.und) hM ti142.und rfl rfl rfl (by first | (rw [vfL, hnm]; rfl) | (unfold vfL; rw [hnm, decide_eq_true (by assumption)]; rfl) | (unfold vfL; rw [hnm, decide_eq_false (by assumption)]; rfl))) ?_
            rintro w72 ⟨E75, c75, hM74, hS73⟩
            simp only [ca, na] at hS73; refine zN<|zT<|zS<|zR<|zq 1 rfl<|zV (r_addStrL (by simp only [List.length_append, List.length_cons, List.length_nil]; omega) rfl rfl) ?_; refine zq 1 rfl<|zN<|zT<|zS<|zR<|zq 5 rfl<|zN<|zT<|zf rfl<|zK<|zJ<|zT<|zR<|zV (r_addn (b := 1) rfl rfl Om)<|zq 1 rfl<|zN<|zT ?_
            exact ⟨(gt rs k).las.length - (i + 1), _, by omega, rfl, ⟨i + 1, _, _, rfl, rfl, hS73, by omega, hM74.to (by rw [flat_step _ Om]; rw [keysL_n (fun h => by rw [h.1] at hs; cases hs), ← List.append_assoc])⟩, ⟨rfl, rfl, rfl, rfl, rfl, rfl, rfl, trivial⟩⟩
          refine zq 1 rfl<|zY (x_mapPutB (f := sv) (vf := vfL) [_] hS67 (keyStr ti9.und) hM ti142.und rfl rfl rfl (by first | (rw [vfL, hnm]; rfl) | (unfold vfL; rw [hnm, decide_eq_true (by assumption)]; rfl) | (unfold vfL; rw [hnm, decide_eq_false (by assumption)]; rfl))) ?_
          rintro w76 ⟨E79, c79, hM78, hS77⟩
          simp only [ca, na] at hS77; refine zN<|zT<|zS<|zR<|zq 1 rfl<|zV (r_addStrL (by simp only [List.length_append, List.length_cons, List.length_nil]; omega) rfl rfl) ?_; refine zq 1 rfl<|zN<|zT<|zS<|zR<|zq 5 rfl<|zN<|zT<|zf rfl<|zK<|zJ<|zT<|zR<|zV (r_addn (b := 1) rfl rfl Om)<|zq 1 rfl<|zN<|zT ?_
          exact ⟨(gt rs k).las.length - (i + 1), _, by omega, rfl, ⟨i + 1, _, _, rfl, rfl, hS77, by omega, hM78.to (by rw [flat_step _ Om]; rw [keysL_n (fun h => by rw [h.1] at hs; cases hs), ← List.append_assoc])⟩, ⟨rfl, rfl, rfl, rfl, rfl, rfl, rfl, trivial⟩⟩
        refine zN<|zT<|zS<|zf rfl<|zO<|zM<|zM<|c_inE<|zJ<|zT ?_
        obtain rfl : i = (gt rs k).las.length := by omega
        rw [List.take_length] at hM
        refine zR<|zV (r_addn (b := 1) rfl rfl Om)<|zq 1 rfl<|zN<|zT ?_
        exact ⟨rs.length - (k + 1), _, by omega, rfl, ⟨k + 1, _, _, rfl, rfl, hS24.drop1, by omega, hM.to (by unfold labsK; rw [flat_step rs Om, List.append_assoc])⟩, ⟨rfl, rfl, rfl, rfl, trivial⟩⟩
    refine zN<|zT<|zS<|zf rfl<|zO<|zM<|zM<|c_inE<|zT<|zS ?_
    obtain rfl : k = rs.length := by omega
    rw [List.take_length] at hM
    have hrl : (labsK rs).length ≤ 3202 := labsF_len keysL_len hok h100
    have hfl := List.length_filter_le vfL (labsK rs)
    refine zR<|zq 1 rfl<|zC fn125 rfl (delF_ok bM _ _ _ (hS16.heap Z0) hM.wf) ?_; rintro _ w80 ⟨rfl, hx81⟩
    have hS82 := St.callM (X := [_]) (L := [_]) hS16 hx81 (by simp [Item.id])
    simp only [ca, na] at hS82
    have hM2 := hM.filt
    refine zN<|zT<|zS<|zR<|zq 1 rfl<|zC fn123 rfl (keysFS_ok bM _) ?_; rintro _ w83 ⟨bs, rfl, hx84⟩
    have hS85 := hS82.call hx84
    simp only [ca, na] at hS85; refine zC fn122 rfl (keysOfS_ok bs bM _ _ _ (at_all (hS85.heap Z0)) (hS85.heap Z1) _ (wL rs) _ hM2 (labs_same hok) Om) ?_; rintro _ w86 ⟨aR, cR, rfl, hcR, hx87⟩
    have hS88 := hS85.call hx87
    simp only [ca, na] at hS88; refine zq 1 rfl<|zN<|zT<|zU<|ret1 Tryz.results80 ?_
    exact ⟨aR, cR, rfl, hcR, (hS88.perm ((List.Perm.cons _ ((List.Perm.cons _ ((List.Perm.cons _ (List.Perm.refl _)).trans (List.perm_middle (l₁ := [_])).symm)).trans (List.perm_middle (l₁ := [_])).symm)).trans (List.perm_middle (l₁ := [_])).symm)).drop1.drop1.drop1⟩

end Go.Proofs.YtmonnmndphlkaaaGreat
end
section
namespace Go.Proofs.YtmonnmndphlkaaaGreat
open Go.Kw
set_option linter.unusedVariables false
set_option linter.unusedSimpArgs false
set_option maxRecDepth 100000
set_option maxHeartbeats 4000000 in
theorem hoursOf_ok (rs : List RuleD) (pa : Option Addr) (n pc : Nat) (w : World) (hrs : Row w pa (rs.flatMap RuleD.v)) (hl : rs.length = n) (hn : n ≤ 140737488351232) (hall : ∀ r ∈ rs, RuleAt w r) (hok : ∀ r ∈ rs, ruleE r = 0) (h100 : rs.length ≤ 100) :
    Ret Tryz.prog 81 [.agg #[.slice pa n pc]] w (fun v w' => ∃ (a : Option Addr) (c : Nat), v = .slice a (wH rs).length c ∧ (wH rs).length ≤ c ∧ St w [] w' [.row (.slice a (wH rs).length c) 3 1 (wH rs).length ((wH rs).map iv)]) := by
  subst hl
  refine enter Tryz.func81 rfl Tryz.ntmps81 rfl ?_
  have hS := St.refl w []
  refine zS<|zR<|zB (v := .agg _) hS rfl rfl fun b1 w1 hS2=>zq 1 rfl<|zN<|zT<|zS<|zR<|zX (x_makeMap iv hS2) ?_; rintro _ w3 ⟨bM, rfl, hS4⟩
  change St _ _ _ (.blk bM (mobj iv [] 0) :: _) at hS4
  refine zY (x_insertB (f := iv) (vf := (fun _ => true)) (q := 0) [] hS4 (keyInt ti3.und) MapOf.zero ti149.und rfl rfl rfl rfl) ?_
  rintro w6 ⟨E9, c9, hM8, hS7⟩
  simp only [ca, na] at hS7; refine zq 2 rfl<|zN<|zT<|zS<|zS<|zR<|zF fa24_0 rfl ti22.und rfl (hS7.heap Z1) rfl rfl rfl<|zV (r_len (T := 22) rfl ti22.und rfl _ rfl)<|zq 1 rfl<|zN<|zT<|zI ?_
  refine c_loopE [2, 3, 11, 12] (fun d e w' => ∃ (k : Nat) (E : List (MB Int)) (c : Nat), Kw.look e 13 = vi k ∧ d = rs.length - k ∧ St w [] w' [.blk bM (mobj iv E c), .blk b1 (cl [.slice pa rs.length pc] 24)] ∧ (k ≤ rs.length) ∧ (MapOf E c (hoursIn (rs.take k)) (fun _ => true))) (rs.length - 0) ?_ ?_
  · exact ⟨0, _, _, rfl, rfl, hS7, Nat.zero_le _, hM8⟩
  · rintro d13 e10 w11 ⟨k, E, c, hc0_13, rfl, hS12, hk, hM⟩ -
    refine c_set (d := 13) hc0_13<|zS<|zR ?_
    refine wl_dec (r_lss rfl rfl) rfl (fun h3_0 => ?_) (fun h3_0 => ?_)
    · refine zN<|zT<|zS<|zt rfl<|zK<|zT<|zS<|zI<|zS ?_
      have hgk := hall (gt rs k) (gt_mem rs k Om)
      have hszk := rule_sz (hok (gt rs k) (gt_mem rs k Om))
      refine zR<|zV (r_ixF rule_v8 ti22.und ti50 rfl rfl (hrs.st hS12) Ln Sd (by decide)) ?_; refine zV (r_loadF rule_v8 ti50 ag50 rfl (hrs.st hS12) Sd (by decide)) ?_; refine zA (C := [.bool false, .slice none 0 0, .slice none 0 0, .slice none 0 0, .int .i64 0, .int .i64 0, .int .i64 0, .string ⟨#[]⟩]) hS12 ti50 rfl fun b5 w14 hS15=> ?_; refine wl_exs (x_storeW [] hS15 ti50 rfl rfl Ln Ln On) rfl ?_; intro w16 hS17; simp only [ca, na] at hS17; refine zN<|zT<|zS<|zR<|zF fa50_4 rfl ti3.und rfl (hS17.heap Z0) rfl rfl rfl<|zF fa50_5 rfl ti3.und rfl (hS17.heap Z0) rfl rfl rfl<|zV (r_buildA (vs := [.int .i64 _, .int .i64 _]) ti150 ti3 rfl rfl rfl (by intro c hc; simp only [List.mem_cons, List.not_mem_nil, or_false] at hc; rcases hc with rfl | rfl <;> rfl)) ?_; refine zq 1 rfl<|zN<|zT<|zI ?_
      refine c_loopE [2, 3, 11, 12, 13, 21] (fun d e w' => ∃ (i : Nat) (E : List (MB Int)) (c : Nat), Kw.look e 22 = vi i ∧ d = 2 - i ∧ St w [] w' [.blk b5 (cl (gt rs k).v 50), .blk bM (mobj iv E c), .blk b1 (cl [.slice pa rs.length pc] 24)] ∧ (i ≤ 2) ∧ (MapOf E c (hoursIn (rs.take k) ++ ([(gt rs k).fr, (gt rs k).to].take i).filter (fun h => decide (h < 24))) (fun _ => true))) (2 - 0) ?_ ?_
      · exact ⟨0, E, c, rfl, rfl, hS17, Nat.zero_le _, hM.to (by simp)⟩
      · rintro d21 e18 w19 ⟨i, E, c, hc1_22, rfl, hS20, hi, hM⟩ -
        refine c_set (d := 22) hc1_22<|zS<|zR ?_
        refine wl_dec (r_lss rfl rfl) rfl (fun h6_0 => ?_) (fun h6_0 => ?_)
        · refine zN<|zT<|zS<|zt rfl<|zK<|zT<|zS<|zI<|zS<|zR<|zV (r_index1 ti150.und ti3 rfl rfl rfl Om (map_gt iv [(gt rs k).fr, (gt rs k).to] i (by simp only [List.length_cons, List.length_nil]; omega))) ?_
          refine zq 1 rfl<|zN<|zT<|zS<|zR<|zq 1 rfl ?_
          refine wl_dec (r_lss rfl rfl) rfl (fun h8_1 => ?_) (fun h8_1 => ?_)
          · refine zN<|zT<|zt rfl<|zR<|zq 2 rfl<|zY (x_mapPutB (f := iv) (vf := (fun _ => true)) [_] hS20 (keyInt ti3.und) hM ti149.und rfl rfl rfl rfl) ?_
            rintro w22 ⟨E25, c25, hM24, hS23⟩
            simp only [ca, na] at hS23; refine zN<|zJ<|zT<|zR<|zV (r_addn (b := 1) rfl rfl Om)<|zq 1 rfl<|zN<|zT ?_
            exact ⟨2 - (i + 1), _, by omega, rfl, ⟨i + 1, _, _, rfl, rfl, hS23, by omega, hM24.to (by rw [take_gt [(gt rs k).fr, (gt rs k).to] i (by simp only [List.length_cons, List.length_nil]; omega), List.filter_append, List.filter_cons_of_pos (by simpa using h8_1), List.filter_nil, List.append_assoc])⟩, ⟨rfl, rfl, rfl, rfl, rfl, rfl, trivial⟩⟩
          refine zN<|zT<|zf rfl<|zK<|zJ<|zT<|zR<|zV (r_addn (b := 1) rfl rfl Om)<|zq 1 rfl<|zN<|zT ?_
          exact ⟨2 - (i + 1), _, by omega, rfl, ⟨i + 1, _, _, rfl, rfl, hS20, by omega, hM.to (by rw [take_gt [(gt rs k).fr, (gt rs k).to] i (by simp only [List.length_cons, List.length_nil]; omega), List.filter_append, List.filter_cons_of_neg (by simpa using h8_1), List.filter_nil, List.append_nil])⟩, ⟨rfl, rfl, rfl, rfl, rfl, rfl, trivial⟩⟩
        refine zN<|zT<|zS<|zf rfl<|zO<|zM<|zM<|c_inE<|zJ<|zT ?_
        obtain rfl : i = 2 := by omega
        change MapOf E c (hoursIn (rs.take k) ++ hoursR (gt rs k)) _ at hM
        refine zR<|zV (r_addn (b := 1) rfl rfl Om)<|zq 1 rfl<|zN<|zT ?_
        exact ⟨rs.length - (k + 1), _, by omega, rfl, ⟨k + 1, _, _, rfl, rfl, hS20.drop1, by omega, hM.to (by unfold hoursIn; rw [flat_step rs Om, List.append_assoc])⟩, ⟨rfl, rfl, rfl, rfl, trivial⟩⟩
    refine zN<|zT<|zS<|zf rfl<|zO<|zM<|zM<|c_inE<|zT<|zS ?_
    obtain rfl : k = rs.length := by omega
    rw [List.take_length] at hM
    have hrl := hoursIn_len h100
    refine zR<|zq 1 rfl<|zC fn128 rfl (keysFI_ok bM _) ?_; rintro _ w26 ⟨bs, rfl, hx27⟩
    have hS28 := hS12.call hx27
    simp only [ca, na] at hS28; refine zC fn127 rfl (keysOfI_ok bs bM _ _ _ (at_all (hS28.heap Z0)) (hS28.heap Z1) _ (wH rs) _ hM rfl Om) ?_; rintro _ w29 ⟨aR, cR, rfl, hcR, hx30⟩
    have hS31 := hS28.call hx30
    simp only [ca, na] at hS31; refine zq 1 rfl<|zN<|zT<|zU<|ret1 Tryz.results81 ?_
    exact ⟨aR, cR, rfl, hcR, (hS31.perm ((List.Perm.cons _ ((List.Perm.cons _ ((List.Perm.cons _ (List.Perm.refl _)).trans (List.perm_middle (l₁ := [_])).symm)).trans (List.perm_middle (l₁ := [_])).symm)).trans (List.perm_middle (l₁ := [_])).symm)).drop1.drop1.drop1⟩

end Go.Proofs.YtmonnmndphlkaaaGreat
end
