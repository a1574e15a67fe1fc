/- What the law's proof leans on. No condition. -/
import Derived.Test.YtmonnmndphlkaaaGreatPWnAI
import Derived.Test.YtmonnmndphlkaaaGreatPWnBL
import Derived.Test.YtmonnmndphlkaaaGreatPWnBM
section
namespace Go.Proofs.YtmonnmndphlkaaaGreat
open Go.Kw
set_option linter.unusedVariables false
set_option linter.unusedSimpArgs false
set_option maxRecDepth 100000
theorem keysOfS_ok (bs bm clock : Nat) (E : List (MB (List UInt8))) (w : World) (hAs : At w bs 0 [.map (some bm)]) (hm : w.heap[bm]? = some (mobj sv E clock)) (ks R : List (List UInt8)) (vf : (List UInt8) → Bool) (hM : MapOf E clock ks vf) (he : usort leS ks = R) (hE : ks.length ≤ 1000000) :
    Ret Tryz.prog 122 [.func (.func 146) #[] #[pt bs 0]] w (fun v w' => ∃ (a' : Option Addr) (c' : Nat), v = .slice a' R.length c' ∧ R.length ≤ c' ∧ St w [] w' [.row (.slice a' R.length c') 9 1 R.length ((R).map sv)]) :=
  (sortedS_ok bs bm clock E w hAs hm hM.wf (Nat.le_trans hM.len hE)).mono fun v w' ⟨D, a', c', hF, hv, hc, hS⟩ => by
    obtain ⟨e1, e2⟩ := hM.sorted ordS hF
    rw [he] at e1 e2
    rw [e1, e2] at hS
    exact ⟨a', c', by rw [hv, e2], by rw [← e2]; exact hc, hS⟩

theorem keysOfI_ok (bs bm clock : Nat) (E : List (MB Int)) (w : World) (hAs : At w bs 0 [.map (some bm)]) (hm : w.heap[bm]? = some (mobj iv E clock)) (ks R : List Int) (vf : Int → Bool) (hM : MapOf E clock ks vf) (he : usort leI ks = R) (hE : ks.length ≤ 1000000) :
    Ret Tryz.prog 127 [.func (.func 148) #[] #[pt bs 0]] w (fun v w' => ∃ (a' : Option Addr) (c' : Nat), v = .slice a' R.length c' ∧ R.length ≤ c' ∧ St w [] w' [.row (.slice a' R.length c') 3 1 R.length ((R).map iv)]) :=
  (sortedI_ok bs bm clock E w hAs hm hM.wf (Nat.le_trans hM.len hE)).mono fun v w' ⟨D, a', c', hF, hv, hc, hS⟩ => by
    obtain ⟨e1, e2⟩ := hM.sorted ordI hF
    rw [he] at e1 e2
    rw [e1, e2] at hS
    exact ⟨a', c', by rw [hv, e2], by rw [← e2]; exact hc, hS⟩

set_option maxHeartbeats 4000000 in
theorem roleSets_ok (rs : List RuleD) (pa : Option Addr) (n pc : Nat) (w : World) (hrs : Row w pa (rs.flatMap RuleD.v)) (hl : rs.length = n) (hn : n ≤ 140737488351232) (hall : ∀ r ∈ rs, RuleAt w r) (hok : ∀ r ∈ rs, ruleE r = 0) (h100 : rs.length ≤ 100) :
    Ret Tryz.prog 79 [.agg #[.slice pa n pc]] w (fun v w' => ∃ (S : List (Sl (List UInt8))) (a : Option Addr) (c : Nat) (LT : List Kw.Item), SetsT LT S ∧ S.map (·.xs) = setsL (wR rs) ∧ (∀ s ∈ S, s.xs.length ≤ s.c) ∧ v = .slice a S.length c ∧ S.length ≤ c ∧ St w [] w' (.row (.slice a S.length c) 36 1 S.length (S.map Sl.v) :: LT)) := by
  subst hl
  have hRl := wR_len hok h100
  refine enter Tryz.func79 rfl Tryz.ntmps79 rfl ?_
  have hS := St.refl w []
  refine zS<|zR<|zB (v := .agg _) hS rfl rfl fun b1 w1 hS2=>zq 1 rfl<|zN<|zT<|zS<|zR<|zX (x_makeMap sv hS2) ?_; rintro _ w3 ⟨bM, rfl, hS4⟩
  change St _ _ _ (.blk bM (mobj sv [] 0) :: _) at hS4
  refine zq 1 rfl<|zN<|zT<|zS<|zS<|zR<|zF fa24_0 rfl ti22.und rfl (hS4.heap Z1) rfl rfl rfl<|zV (r_len (T := 22) rfl ti22.und rfl _ rfl)<|zq 1 rfl<|zN<|zT<|zI ?_
  refine c_loopE [2, 3, 18, 19] (fun d e w' => ∃ (k : Nat) (E : List (MB (List UInt8))) (c : Nat), Kw.look e 20 = vi k ∧ d = rs.length - k ∧ St w [] w' [.blk bM (mobj sv E c), .blk b1 (cl [.slice pa rs.length pc] 24)] ∧ (k ≤ rs.length) ∧ (MapOf E c (rolesIn (rs.take k)) (fun _ => true))) (rs.length - 0) ?_ ?_
  · exact ⟨0, [], 0, rfl, rfl, hS4, Nat.zero_le _, MapOf.zero⟩
  · rintro d9 e6 w7 ⟨k, E, c, hc0_20, rfl, hS8, hk, hM⟩ -
    refine c_set (d := 20) hc0_20<|zS<|zR ?_
    refine wl_dec (r_lss rfl rfl) rfl (fun h3_0 => ?_) (fun h3_0 => ?_)
    · refine zN<|zT<|zS<|zt rfl<|zK<|zT<|zS<|zI<|zS ?_
      have hgk := hall (gt rs k) (gt_mem rs k Om)
      have hszk := rule_sz (hok (gt rs k) (gt_mem rs k Om))
      refine zR<|zV (r_ixF rule_v8 ti22.und ti50 rfl rfl (hrs.st hS8) Ln Sd (by decide)) ?_; refine zV (r_loadF rule_v8 ti50 ag50 rfl (hrs.st hS8) Sd (by decide)) ?_; refine zA (C := [.bool false, .slice none 0 0, .slice none 0 0, .slice none 0 0, .int .i64 0, .int .i64 0, .int .i64 0, .string ⟨#[]⟩]) hS8 ti50 rfl fun b5 w10 hS11=> ?_; refine wl_exs (x_storeW [] hS11 ti50 rfl rfl Ln Ln On) rfl ?_; intro w12 hS13; simp only [ca, na] at hS13; refine zN<|zT<|zS<|zS<|zR<|zF fa50_1 rfl ti36.und rfl (hS13.heap Z0) rfl rfl rfl<|zV (r_len (T := 36) rfl ti36.und rfl _ rfl)<|zq 1 rfl<|zN<|zT<|zI ?_
      refine c_loopE [2, 3, 5, 18, 19, 20, 25, 26] (fun d e w' => ∃ (i : Nat) (E : List (MB (List UInt8))) (c : Nat), Kw.look e 27 = vi i ∧ d = (gt rs k).ro.length - i ∧ St w [] w' [.blk b5 (cl (gt rs k).v 50), .blk bM (mobj sv E c), .blk b1 (cl [.slice pa rs.length pc] 24)] ∧ (i ≤ (gt rs k).ro.length) ∧ (MapOf E c (rolesIn (rs.take k) ++ (gt rs k).ro.take i) (fun _ => true))) ((gt rs k).ro.length - 0) ?_ ?_
      · exact ⟨0, E, c, rfl, rfl, hS13, Nat.zero_le _, hM.to (by simp)⟩
      · rintro d17 e14 w15 ⟨i, E, c, hc1_27, rfl, hS16, hi, hM⟩ -
        refine c_set (d := 27) hc1_27<|zS<|zR ?_
        refine wl_dec (r_lss rfl rfl) rfl (fun h6_0 => ?_) (fun h6_0 => ?_)
        · refine zN<|zT<|zS<|zt rfl<|zK<|zT<|zS<|zI<|zS<|zR<|zV (r_ixS ti36.und ti9 rfl rfl (hgk.h1.st hS16) Sd Ln) ?_
          refine zV (r_loadS1 ti9.und rfl rfl (hgk.h1.st hS16) (by rw [Nat.mul_one]; exact map_gt _ _ _ Sd)) ?_; refine zq 1 rfl<|zN<|zT<|zR<|zq 2 rfl<|zY (x_mapPutB (f := sv) (vf := (fun _ => true)) [_] hS16 (keyStr ti9.und) hM ti142.und rfl rfl rfl rfl) ?_
          rintro w18 ⟨E21, c21, hM20, hS19⟩
          simp only [ca, na] at hS19; refine zN<|zJ<|zT<|zR<|zV (r_addn (b := 1) rfl rfl Om)<|zq 1 rfl<|zN<|zT ?_
          exact ⟨(gt rs k).ro.length - (i + 1), _, by omega, rfl, ⟨i + 1, _, _, rfl, rfl, hS19, by omega, hM20.to (by rw [take_gt _ _ Om, List.append_assoc])⟩, ⟨rfl, rfl, rfl, rfl, rfl, rfl, rfl, rfl, trivial⟩⟩
        refine zN<|zT<|zS<|zf rfl<|zO<|zM<|zM<|c_inE<|zT<|zS ?_
        obtain rfl : i = (gt rs k).ro.length := by omega
        rw [List.take_length] at hM
        refine zR<|zF fa50_7 rfl ti9.und rfl (hS16.heap Z0) rfl rfl rfl ?_
        refine wl_dec (r_neqStrL rfl rfl) rfl (fun h10_2 => ?_) (fun h10_2 => ?_)
        · refine zN<|zT<|zt rfl<|zR<|zq 1 rfl<|zF fa50_7 rfl ti9.und rfl (hS16.heap Z0) rfl rfl rfl<|zY (x_mapPutB (f := sv) (vf := (fun _ => true)) [_] hS16 (keyStr ti9.und) hM ti142.und rfl rfl rfl rfl) ?_
          rintro w22 ⟨E25, c25, hM24, hS23⟩
          simp only [ca, na] at hS23; refine zN<|zJ<|zT<|zR<|zV (r_addn (b := 1) rfl rfl Om)<|zq 1 rfl<|zN<|zT ?_
          exact ⟨rs.length - (k + 1), _, by omega, rfl, ⟨k + 1, _, _, rfl, rfl, hS23.drop1, by omega, hM24.to (by unfold rolesIn; rw [flat_step rs Om, rolesR_y (by assumption), List.append_assoc])⟩, ⟨rfl, rfl, rfl, rfl, trivial⟩⟩
        refine zN<|zT<|zf rfl<|zK<|zJ<|zT<|zR<|zV (r_addn (b := 1) rfl rfl Om)<|zq 1 rfl<|zN<|zT ?_
        exact ⟨rs.length - (k + 1), _, by omega, rfl, ⟨k + 1, _, _, rfl, rfl, hS16.drop1, by omega, hM.to (by unfold rolesIn; rw [flat_step rs Om, rolesR_n (Classical.not_not.1 (by assumption))])⟩, ⟨rfl, rfl, rfl, rfl, trivial⟩⟩
    refine zN<|zT<|zS<|zf rfl<|zO<|zM<|zM<|c_inE<|zT<|zS ?_
    obtain rfl : k = rs.length := by omega
    rw [List.take_length] at hM
    have hrl := rolesIn_len hok h100
    refine zR<|zq 1 rfl<|zC fn123 rfl (keysFS_ok bM _) ?_; rintro _ w26 ⟨bs, rfl, hx27⟩
    have hS28 := hS8.call hx27
    simp only [ca, na] at hS28; refine zC fn122 rfl (keysOfS_ok bs bM _ _ _ (at_all (hS28.heap Z0)) (hS28.heap Z1) _ (wR rs) _ hM rfl Om) ?_; rintro _ w29 ⟨aR, cR, rfl, hcR, hx30⟩
    have hS31 := hS28.call hx30
    simp only [ca, na] at hS31; refine zq 1 rfl<|zN<|zT<|zS<|zR<|zX (x_lit (vs := [.slice none 0 0]) hS31 ti75.und ti36 rfl rfl rfl (by intro c hc; simp only [List.mem_cons, List.not_mem_nil, or_false] at hc; rcases hc with rfl <;> rfl) (by decide)) ?_; rintro _ w32 ⟨b44, rfl, hS33⟩; refine zq 1 rfl<|zN<|zT<|zS<|zS ?_
    have hS34 := St.toRow (l1 := []) (sz := 1) (n := 1) (cap := 1) hS33 (by decide) (by decide) rfl
    simp only [ca, na] at hS34; refine zR<|zq 1 rfl<|zV (r_len (T := 36) rfl ti36.und rfl _ rfl)<|zq 1 rfl<|zN<|zT<|zI ?_
    refine c_loopE [2, 8, 45, 46] (fun d e w' => ∃ (i : Nat) (S : List (Sl (List UInt8))) (a9 : Option Addr) (c9 : Nat) (LT : List Kw.Item), Kw.look e 47 = vi i ∧ Kw.look e 9 = .slice a9 S.length c9 ∧ d = (wR rs).length - i ∧ St w [] w' (.row (.slice a9 S.length c9) 36 1 S.length ((S).map Sl.v) :: .row (.slice aR (wR rs).length cR) 9 1 (wR rs).length ((wR rs).map sv) :: LT) ∧ (i ≤ (wR rs).length) ∧ (SetsT LT S) ∧ (S.map (·.xs) = setsA (wR rs) i) ∧ (∀ s ∈ S, s.xs.length ≤ s.c) ∧ (S.length ≤ c9)) ((wR rs).length - 0) ?_ ?_
    · exact ⟨0, [⟨none, 0, []⟩], _, 1, [], rfl, rfl, rfl, (hS34.perm ((List.Perm.cons _ ((List.Perm.cons _ ((List.Perm.cons _ (List.Perm.refl _)).trans (List.perm_middle (l₁ := [_, _])).symm)).trans (List.perm_middle (l₁ := [_, _])).symm)).trans (List.perm_middle (l₁ := [_, _])).symm)).drop1.drop1.drop1, Nat.zero_le _, SetsT.empty, rfl, by intro s hs; rw [List.mem_singleton.1 hs]; exact Nat.le_refl _, Nat.le_refl _⟩
    · rintro d38 e35 w36 ⟨i, S, a9, c9, LT, hc2_47, hc2_9, rfl, hS37, hi, hT, hX, hcp, h9⟩ -
      refine c_set (d := 47) hc2_47<|c_set (d := 9) hc2_9<|zS<|zR ?_
      refine wl_dec (r_lss rfl rfl) rfl (fun h16_0 => ?_) (fun h16_0 => ?_)
      · refine zN<|zT<|zS<|zt rfl<|zK<|zT<|zS<|zI<|zS<|zR<|zV (r_ixS ti36.und ti9 rfl rfl (St.rowAt hS37 Z1) Sd Ln) ?_
        refine zV (r_loadS1 ti9.und rfl rfl (St.rowAt hS37 Z1) (by rw [Nat.mul_one]; exact map_gt _ _ _ Sd)) ?_; refine zq 1 rfl<|zN<|zT ?_
        have hbd := sl_len hX
        have hbA := setsA_len (wR rs) i
        refine zR<|zq 2 rfl<|zX (x_lit (vs := [.string _]) hS37 ti36.und ti9 rfl rfl rfl (by intro c hc; simp only [List.mem_cons, List.not_mem_nil, or_false] at hc; rcases hc with rfl <;> rfl) (by decide)) ?_; rintro _ w39 ⟨b53, rfl, hS40⟩; refine zX (x_lit (vs := [.slice _ _ _]) hS40 ti75.und ti36 rfl rfl rfl (by intro c hc; simp only [List.mem_cons, List.not_mem_nil, or_false] at hc; rcases hc with rfl <;> rfl) (by decide)) ?_; rintro _ w41 ⟨b54, rfl, hS42⟩; refine zX (x_append [_, _] hS42 ti75.und ti36 rfl (by decide) rfl rfl (Row.of_at (at_all (hS42.heap Z0))) Ln Oc Sd Sd _ rfl) ?_; rintro _ w43 ⟨aq45, cq45, rfl, hcq45, hS44⟩; simp only [ca, na] at hS44; refine zq 1 rfl<|zN<|zJ<|zT<|zR<|zV (r_addn (b := 1) rfl rfl Om)<|zq 1 rfl<|zN<|zT ?_
        have el : (S ++ [(⟨some ⟨b53, 0, none⟩, 1, [gt (wR rs) i]⟩ : Sl (List UInt8))]).length = S.length + 1 := by simp
        have hS46 := St.reRow1 (k := (S ++ [(⟨some ⟨b53, 0, none⟩, 1, [gt (wR rs) i]⟩ : Sl (List UInt8))]).length) (zs := (S ++ [(⟨some ⟨b53, 0, none⟩, 1, [gt (wR rs) i]⟩ : Sl (List UInt8))]).map Sl.v) (hS44.perm (List.Perm.cons _ ((List.Perm.cons _ ((List.Perm.cons _ (List.Perm.refl _)).trans (List.perm_middle (l₁ := [_])).symm)).trans (List.perm_middle (l₁ := [_])).symm))).drop1 el (by rw [List.map_append]; rfl)
        exact ⟨(wR rs).length - (i + 1), _, by omega, rfl, ⟨i + 1, S ++ [(⟨some ⟨b53, 0, none⟩, 1, [gt (wR rs) i]⟩ : Sl (List UInt8))], aq45, cq45, _, rfl, congrArg (fun n => Value.slice aq45 n cq45) el.symm, rfl, hS46, by omega, hT.addB (xs := [gt (wR rs) i]), sets_xs hX (setsA_step Om), sets_cap hcp (Nat.le_refl _), by rw [el]; exact hcq45⟩, ⟨rfl, rfl, rfl, rfl, trivial⟩⟩
      refine zN<|zT<|zS<|zf rfl<|zO<|zM<|zM<|c_inE<|zT<|zS<|zS ?_
      obtain rfl : i = (wR rs).length := by omega
      refine zR<|zq 1 rfl<|zV (r_len (T := 36) rfl ti36.und rfl _ rfl)<|zq 1 rfl<|zN<|zT<|zI ?_
      refine c_loopE [2, 8, 57, 58] (fun d e w' => ∃ (i : Nat) (S : List (Sl (List UInt8))) (a9 : Option Addr) (c9 : Nat) (LT : List Kw.Item), Kw.look e 59 = vi i ∧ Kw.look e 9 = .slice a9 S.length c9 ∧ d = (wR rs).length - i ∧ St w [] w' (.row (.slice a9 S.length c9) 36 1 S.length ((S).map Sl.v) :: .row (.slice aR (wR rs).length cR) 9 1 (wR rs).length ((wR rs).map sv) :: LT) ∧ (i ≤ (wR rs).length) ∧ (SetsT LT S) ∧ (S.map (·.xs) = setsB (wR rs) i 0) ∧ (∀ s ∈ S, s.xs.length ≤ s.c) ∧ (S.length ≤ c9)) ((wR rs).length - 0) ?_ ?_
      · exact ⟨0, S, a9, c9, LT, rfl, rfl, rfl, hS37, Nat.zero_le _, hT, by rw [setsB_zero]; exact hX, hcp, h9⟩
      · rintro d50 e47 w48 ⟨i, S, a9, c9, LT, hc3_59, hc3_9, rfl, hS49, hi, hT, hX, hcp, h9⟩ -
        refine c_set (d := 59) hc3_59<|c_set (d := 9) hc3_9<|zS<|zR ?_
        refine wl_dec (r_lss rfl rfl) rfl (fun h21_0 => ?_) (fun h21_0 => ?_)
        · refine zN<|zT<|zS<|zt rfl<|zK<|zT<|zS<|zI<|zS<|zR<|zq 1 rfl<|zV (r_ixS ti36.und ti9 rfl rfl (St.rowAt hS49 Z1) Sd Ln) ?_
          refine zV (r_loadS1 ti9.und rfl rfl (St.rowAt hS49 Z1) (by rw [Nat.mul_one]; exact map_gt _ _ _ Sd)) ?_; refine zq 2 rfl<|zN<|zT<|zS<|zR<|zq 2 rfl<|zV (r_addn (b := 1) rfl rfl Om)<|zV (r_sl_l (l := i + 1) ti36.und ti9 rfl rfl Om)<|zV (r_len (T := 36) rfl ti36.und rfl _ rfl)<|zq 1 rfl<|zN<|zT<|zI ?_
          refine c_loopE [2, 8, 13, 57, 58, 59, 67, 68] (fun d e w' => ∃ (j : Nat) (S : List (Sl (List UInt8))) (a9 : Option Addr) (c9 : Nat) (LT : List Kw.Item), Kw.look e 69 = vi j ∧ Kw.look e 9 = .slice a9 S.length c9 ∧ d = (wR rs).length - (i + 1) - j ∧ St w [] w' (.row (.slice a9 S.length c9) 36 1 S.length ((S).map Sl.v) :: .row (.slice aR (wR rs).length cR) 9 1 (wR rs).length ((wR rs).map sv) :: LT) ∧ (j ≤ (wR rs).length - (i + 1)) ∧ (SetsT LT S) ∧ (S.map (·.xs) = setsB (wR rs) i j) ∧ (∀ s ∈ S, s.xs.length ≤ s.c) ∧ (S.length ≤ c9)) ((wR rs).length - (i + 1) - 0) ?_ ?_
          · exact ⟨0, S, a9, c9, LT, rfl, rfl, rfl, hS49, Nat.zero_le _, hT, hX, hcp, h9⟩
          · rintro d54 e51 w52 ⟨j, S, a9, c9, LT, hc4_69, hc4_9, rfl, hS53, hj, hT, hX, hcp, h9⟩ -
            refine c_set (d := 69) hc4_69<|c_set (d := 9) hc4_9<|zS<|zR ?_
            refine wl_dec (r_lss rfl rfl) rfl (fun h24_0 => ?_) (fun h24_0 => ?_)
            · refine zN<|zT<|zS<|zt rfl<|zK<|zT<|zS<|zI<|zS<|zR<|zV (r_ixS ti36.und ti9 rfl rfl (Row.dropM (St.rowAt hS53 Z1) (c := cR) Om (i + 1)) Sd Ln) ?_
              refine zV (r_loadS1 ti9.und rfl rfl (Row.dropM (St.rowAt hS53 Z1) (c := cR) Om (i + 1)) (by rw [Nat.mul_one]; exact map_gt _ _ _ Sd)) ?_; refine zq 1 rfl<|zN<|zT ?_
              have hbd := sl_len hX
              have hbB := setsB_len (R := (wR rs)) (i := i) j Om hRl
              refine zR<|zq 3 rfl<|zX (x_lit (vs := [.string _, .string _]) hS53 ti36.und ti9 rfl rfl rfl (by intro c hc; simp only [List.mem_cons, List.not_mem_nil, or_false] at hc; rcases hc with rfl | rfl <;> rfl) (by decide)) ?_; rintro _ w55 ⟨b76, rfl, hS56⟩; refine zX (x_lit (vs := [.slice _ _ _]) hS56 ti75.und ti36 rfl rfl rfl (by intro c hc; simp only [List.mem_cons, List.not_mem_nil, or_false] at hc; rcases hc with rfl <;> rfl) (by decide)) ?_; rintro _ w57 ⟨b77, rfl, hS58⟩; refine zX (x_append [_, _] hS58 ti75.und ti36 rfl (by decide) rfl rfl (Row.of_at (at_all (hS58.heap Z0))) Ln Oc Sd Sd _ rfl) ?_; rintro _ w59 ⟨aq61, cq61, rfl, hcq61, hS60⟩; simp only [ca, na] at hS60; refine zq 1 rfl<|zN<|zJ<|zT<|zR<|zV (r_addn (b := 1) rfl rfl Om)<|zq 1 rfl<|zN<|zT ?_
              have el : (S ++ [(⟨some ⟨b76, 0, none⟩, 2, [gt (wR rs) i, gt (wR rs) (i + 1 + j)]⟩ : Sl (List UInt8))]).length = S.length + 1 := by simp
              have egd := gt_dropW (wR rs) (i + 1) j Om
              rw [egd] at hS60
              have hS62 := St.reRow1 (k := (S ++ [(⟨some ⟨b76, 0, none⟩, 2, [gt (wR rs) i, gt (wR rs) (i + 1 + j)]⟩ : Sl (List UInt8))]).length) (zs := (S ++ [(⟨some ⟨b76, 0, none⟩, 2, [gt (wR rs) i, gt (wR rs) (i + 1 + j)]⟩ : Sl (List UInt8))]).map Sl.v) (hS60.perm (List.Perm.cons _ ((List.Perm.cons _ ((List.Perm.cons _ (List.Perm.refl _)).trans (List.perm_middle (l₁ := [_])).symm)).trans (List.perm_middle (l₁ := [_])).symm))).drop1 el (by rw [List.map_append]; rfl)
              exact ⟨(wR rs).length - (i + 1) - (j + 1), _, by omega, rfl, ⟨j + 1, S ++ [(⟨some ⟨b76, 0, none⟩, 2, [gt (wR rs) i, gt (wR rs) (i + 1 + j)]⟩ : Sl (List UInt8))], aq61, cq61, _, rfl, congrArg (fun n => Value.slice aq61 n cq61) el.symm, rfl, hS62, by omega, hT.addB (xs := [gt (wR rs) i, gt (wR rs) (i + 1 + j)]), sets_xs hX (setsB_in Om), sets_cap hcp (Nat.le_refl _), by rw [el]; exact hcq61⟩, ⟨rfl, rfl, rfl, rfl, rfl, rfl, rfl, rfl, trivial⟩⟩
            refine zN<|zT<|zS<|zf rfl<|zO<|zM<|zM<|c_inE<|zJ<|zT<|zR<|zV (r_addn (b := 1) rfl rfl Om)<|zq 1 rfl<|zN<|zT ?_
            obtain rfl : j = (wR rs).length - (i + 1) := by omega
            exact ⟨(wR rs).length - (i + 1), _, by omega, rfl, ⟨i + 1, S, _, _, _, rfl, rfl, rfl, hS53, by omega, hT, by rw [setsB_out Om]; exact hX, hcp, h9⟩, ⟨rfl, rfl, rfl, rfl, trivial⟩⟩
        refine zN<|zT<|zS<|zf rfl<|zO<|zM<|zM<|c_inE<|zT<|zS<|zS ?_
        obtain rfl : i = (wR rs).length := by omega
        have hbd := sl_len hX
        have hbB := setsB_len (R := (wR rs)) 0 (Nat.le_refl _) hRl
        refine zR<|zq 1 rfl<|zV (r_len (T := 36) rfl ti36.und rfl _ rfl) ?_
        refine wl_dec (r_geq rfl rfl) rfl (fun h29_2 => ?_) (fun h29_2 => ?_)
        · refine zN<|zT<|zt rfl<|zR<|zq 2 rfl<|zX (x_lit (vs := [.slice _ _ _]) hS49 ti75.und ti36 rfl rfl rfl (by intro c hc; simp only [List.mem_cons, List.not_mem_nil, or_false] at hc; rcases hc with rfl <;> rfl) (by decide)) ?_
          rintro _ w63 ⟨b86, rfl, hS64⟩; refine zX (x_append [_] hS64 ti75.und ti36 rfl (by decide) rfl rfl (Row.of_at (at_all (hS64.heap Z0))) Ln Oc Sd Sd _ rfl) ?_; rintro _ w65 ⟨aq67, cq67, rfl, hcq67, hS66⟩; simp only [ca, na] at hS66; refine zq 1 rfl<|zN<|zT<|zS<|zR<|zq 2 rfl<|zN<|zT<|zU ?_
          have el : (S ++ [(⟨aR, cR, (wR rs)⟩ : Sl (List UInt8))]).length = S.length + 1 := by simp
          have hS68 := St.reRow1 (k := (S ++ [(⟨aR, cR, (wR rs)⟩ : Sl (List UInt8))]).length) (zs := (S ++ [(⟨aR, cR, (wR rs)⟩ : Sl (List UInt8))]).map Sl.v) hS66.drop1 el (by rw [List.map_append]; rfl)
          refine ret1 Tryz.results79 ?_
          exact ⟨S ++ [(⟨aR, cR, (wR rs)⟩ : Sl (List UInt8))], aq67, cq67, _, hT.add rfl, sets_xs hX (by unfold setsL; rw [if_pos Om]), sets_cap hcp hcR, congrArg (fun n => Value.slice aq67 n cq67) el.symm, by rw [el]; exact hcq67, hS68⟩
        refine zN<|zT<|zf rfl<|zK<|zT<|zS<|zR<|zq 2 rfl<|zN<|zT<|zU<|ret1 Tryz.results79 ?_
        exact ⟨S, a9, c9, LT, hT, by rw [hX]; unfold setsL; rw [if_neg Om, List.append_nil], hcp, rfl, h9, (hS49.perm ((List.Perm.cons _ (List.Perm.refl _)).trans (List.perm_middle (l₁ := [_])).symm)).drop1⟩

end Go.Proofs.YtmonnmndphlkaaaGreat
end
section
namespace Go.Proofs.YtmonnmndphlkaaaGreat
open Go.Kw
set_option linter.unusedVariables false
set_option linter.unusedSimpArgs false
set_option maxRecDepth 100000
theorem labDel_ok (q : List UInt8) (v : Bool) (w : World) :
    Ret Tryz.prog 126 [sv q, .bool v] w (fun r w' => (v = false ∧ r = .bool true ∧ St w [] w' []) ∨ (v = true ∧ r = .bool false ∧ St w [] w' [])) := by
  refine enter Tryz.func126 rfl Tryz.ntmps126 rfl ?_
  have hS := St.refl w []
  refine zS<|zR<|zq 1 rfl<|zN<|zT<|zS<|zR<|zq 3 rfl<|zN<|zT<|zU<|ret1 Tryz.results126 ?_
  cases v with
  | false => exact .inl ⟨rfl, rfl, hS.fin⟩
  | true => exact .inr ⟨rfl, rfl, hS.fin⟩

theorem delF_ok_c0 {p : Prop} (h : p := by exact ⟨E.length - (D ++ [e]).length, _, by rw [List.length_append, List.length_singleton]; omega, rfl, ⟨D ++ [e], rfl, hF, List.nodup_append.2 ⟨hdn, by simp, fun a ha b hb h => hnd ((List.mem_singleton.1 hb) ▸ h ▸ ha)⟩, fun x hx => (List.mem_append.1 hx).elim (hsub x) (fun h => (List.mem_singleton.1 h) ▸ delTo_sub e he)⟩, ⟨rfl, rfl, rfl, trivial⟩⟩) : p := h
theorem delF_ok (bM clock : Nat) (E : List (MB (List UInt8))) (w : World) (hm : w.heap[bM]? = some (mobj sv E clock)) (hwf : WfM E clock) :
    Ret Tryz.prog 125 [.map (some bM), .func (.func 126) #[] #[]] w (fun v w' => v = .tuple #[] ∧ St w [bM] w' [.blk bM (mobj sv (E.filter (·.v)) clock)]) := by
  refine enter Tryz.func125 rfl Tryz.ntmps125 rfl ?_
  have hS : St w [bM] w [.blk bM (mobj sv E clock)] := St.own hm
  refine zS<|zR<|zq 1 rfl<|zX (x_range (E := E) hS ti142.und rfl (hS.heap Z0)) ?_; rintro _ w1 ⟨it, rfl, hS2⟩; refine zN<|zT<|zI ?_
  refine c_loopE [0, 1, 7] (fun d e w' => ∃ (D : List (MB (List UInt8))), d = E.length - D.length ∧ St w [bM] w' [.blk it (iterO bM clock D), .blk bM (mobj sv (delTo E D) clock)] ∧ (D.Nodup) ∧ (∀ x ∈ D, x ∈ E)) (E.length - 0) ?_ ?_
  · exact ⟨[], rfl, by rw [delTo_nil]; exact hS2, List.nodup_nil, fun x h => by cases h⟩
  · rintro d6 e3 w4 ⟨D, rfl, hS5, hdn, hsub⟩ -
    refine zS<|zR<|zX (x_next (E := delTo E D) (E0 := E) (done := D) (b := bM) (f := sv) [] hS5 hwf delTo_sub rfl (hS5.heap Z1) hsub) ?_
    rintro _ w7 (⟨rfl, hall, hS8⟩ | ⟨e, he, hnd, rfl, hS8⟩)
    · simp only [ca, na] at hS8
      refine zq 1 rfl<|zN<|zT<|zS<|zf rfl<|zO<|zM<|zM<|c_inE<|ret0n Tryz.results125 ?_
      rw [delTo_all hall] at hS8
      exact ⟨rfl, hS8.drop1⟩
    · simp only [ca, na] at hS8
      refine zq 1 rfl<|zN<|zT<|zS<|zt rfl<|zK<|zT<|zI<|zS<|zR<|zV (r_entry (e := e) (done := D) (b := bM) (f := sv) (hwf.filt _) rfl (hS8.heap Z0) (hS8.heap Z1) he)<|zq 4 rfl<|zN<|zT<|zS<|zR<|zV (r_move rfl)<|zq 2 rfl<|wl_call (r_callDyn fn126 rfl rfl) rfl (labDel_ok e.k e.v _) ?_
      rintro _ w9 (⟨hv, rfl, hx10⟩ | ⟨hv, rfl, hx10⟩)
      · have hS11 := hS8.ext hx10
        refine zN<|zT<|zt rfl<|zR<|zq 2 rfl<|zX (x_mapDel (f := sv) (q := e.k) [_] hS11 (keyStr ti9.und) (hwf.filt _) rfl ti142.und rfl rfl (getM_in (hwf.filt _) he) _ rfl) ?_; rintro _ w12 ⟨rfl, hS13⟩; simp only [ca, na] at hS13
        rw [delTo_drop hwf (delTo_sub e he) hv] at hS13
        refine zN<|zJ<|zT ?_
        have hlt := done_lt hdn hsub (delTo_sub e he) hnd
        have hF := hS13; exact delF_ok_c0
      have hS11 := hS8.ext hx10; refine zN<|zT<|zf rfl<|zK<|zJ<|zT ?_
      have hlt := done_lt hdn hsub (delTo_sub e he) hnd
      rw [← delTo_keep (E := E) (D := D) hv] at hS11
      have hF := hS11; exact delF_ok_c0

end Go.Proofs.YtmonnmndphlkaaaGreat
end
