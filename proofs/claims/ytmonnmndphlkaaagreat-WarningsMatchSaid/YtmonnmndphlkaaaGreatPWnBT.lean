/- What the law's proof leans on. No condition. -/
import Derived.Test.YtmonnmndphlkaaaGreatPWnAI
import Derived.Test.YtmonnmndphlkaaaGreatPWnBQ
import Derived.Test.YtmonnmndphlkaaaGreatPWnBM
import Derived.Test.YtmonnmndphlkaaaGreatPWnBS
section
namespace Go.Proofs.YtmonnmndphlkaaaGreat
open Go.Kw
set_option linter.unusedVariables false
set_option linter.unusedSimpArgs false
set_option maxRecDepth 100000
set_option maxHeartbeats 1000000 in
theorem worldOf_ok (rs : List RuleD) (pa : Option Addr) (n pc : Nat) (w : World) (hrs : Row w pa (rs.flatMap RuleD.v)) (hl : rs.length = n) (hn : n ≤ 140737488351232) (hall : ∀ r ∈ rs, RuleAt w r) :
    Ret Tryz.prog 24 [.agg #[.slice pa n pc]] w (fun v w' => (¬ polE rs = 0 ∧ v = .tuple #[.slice none 0 0, .int .i64 (polE rs)] ∧ St w [] w' []) ∨ ((polE rs = 0 ∧ 100000 < wTot rs) ∧ v = .tuple #[.slice none 0 0, vi 5] ∧ St w [] w' []) ∨ ((polE rs = 0 ∧ wTot rs ≤ 100000) ∧ (∃ (qs : List WA) (a : Option Addr) (c : Nat) (LT : List Kw.Item), AsksT LT qs ∧ qs.map WA.b = worldB (wL rs) (wH rs) (setsL (wR rs)) ∧ (∀ q ∈ qs, q.ro.length ≤ q.rc) ∧ v = .tuple #[.slice a qs.length c, vi 0] ∧ qs.length ≤ c ∧ St w [] w' (.row (.slice a qs.length c) 40 68 qs.length (qs.flatMap WA.v) :: LT)))) := by
  subst hl
  refine enter Tryz.func24 rfl Tryz.ntmps24 rfl ?_
  have hS := St.refl w []
  refine zS<|zR<|zB (v := .agg _) hS rfl rfl fun b1 w1 hS2=>zq 2 rfl<|zN<|zT<|zS<|zS<|zR<|zV (r_loadB ti24 ag24 rfl (hS2.heap Z0) Ln) ?_; refine zE fn51 rfl hS2 (check_ok rs pa rs.length pc _ (hrs.st hS2) rfl hn (fun r hr' => (hall r hr').st hS2)) fun w3 hS5=>zq 1 rfl<|zN<|zT<|zS<|zR<|zq 1 rfl ?_
  refine wl_dec (r_neq rfl rfl) rfl (fun h2_1 => ?_) (fun h2_1 => ?_)
  · refine zN<|zT<|zt rfl<|zS<|zR<|zq 3 rfl<|zN<|zT<|zU<|zL<|ret2 Tryz.results24 rfl rfl ?_
    exact .inl ⟨h2_1, rfl, hS5.fin⟩
  refine zN<|zT<|zf rfl<|zK<|zT<|zS ?_
  have hp0 : polE rs = 0 := Classical.not_not.1 h2_1
  obtain ⟨h100, hok⟩ := polE_zero hp0
  refine zR<|zV (r_loadB ti24 ag24 rfl (hS5.heap Z0) Ln) ?_; refine zC fn52 rfl (world_ok rs pa rs.length pc _ (hrs.st hS5) rfl hn (fun r hr' => (hall r hr').st hS5) hok h100) ?_
  rintro _ w6 (⟨hbig, rfl, hx7⟩ | ⟨hle, S, qs, aQ, cQ, LT, hT, hX, hcp, hqs, rfl, hcQ, hx7⟩)
  · have hS8 := hS5.ext hx7
    refine zq 5 rfl<|zN<|zT<|zS<|zS<|zR<|zq 2 rfl<|zN<|zT<|zt rfl<|zS<|zR<|zq 2 rfl<|zN<|zT<|zU<|zL<|ret2 Tryz.results24 rfl rfl ?_
    exact .inr (.inl ⟨⟨hp0, hbig⟩, rfl, hS8.fin⟩)
  have hS8 := St.callT (X := [_]) (LT := LT) hS5 hx7
  simp only [ca, na] at hS8; refine zq 5 rfl<|zN<|zT<|zS<|zS<|zR<|zq 2 rfl<|zN<|zT<|zf rfl<|zK<|zT<|zS<|zR<|zq 3 rfl<|zN<|zT<|zU<|ret2 Tryz.results24 rfl rfl ?_
  subst hqs
  exact .inr (.inr ⟨⟨hp0, hle⟩, _, aQ, cQ, LT, AsksT.of hT, (aS_b _ _ _).trans (by rw [hX]), aS_rc hcp, rfl, hcQ, (hS8.perm ((List.Perm.cons _ (List.Perm.refl _)).trans (List.perm_middle (l₁ := [_])).symm)).drop1⟩)

end Go.Proofs.YtmonnmndphlkaaaGreat
end
section
namespace Go.Proofs.YtmonnmndphlkaaaGreat
open Go.Kw
set_option linter.unusedVariables false
set_option linter.unusedSimpArgs false
set_option maxRecDepth 100000
theorem rWorld_ok_c0 {p : Prop} (h : p := by exact ⟨0, a10, c10, rfl, by rw [eX]; rfl, rfl, by rw [eX]; exact hF, Nat.zero_le _, by rw [eX]; exact h10⟩) : p := h
set_option maxHeartbeats 16000000 in
theorem rWorld_ok (rs : List RuleD) (pa : Option Addr) (n pc : Nat) (w : World) (hrs : Row w pa (rs.flatMap RuleD.v)) (hl : rs.length = n) (hn : n ≤ 140737488351232) (hall : ∀ r ∈ rs, RuleAt w r) (hok : ∀ r ∈ rs, ruleE r = 0) (h100 : rs.length ≤ 100) :
    Ret Tryz.prog 9 [.agg #[.slice pa n pc]] w (fun v w' => (100000 < wTot rs ∧ v = .tuple #[.slice none 0 0, .bool false] ∧ St w [] w' []) ∨ (wTot rs ≤ 100000 ∧ (∃ (qs : List WA) (a : Option Addr) (c : Nat) (LT : List Kw.Item), AsksT LT qs ∧ qs.map WA.b = worldB (wL rs) (wH rs) (setsL (wR rs)) ∧ (∀ q ∈ qs, q.ro.length ≤ q.rc) ∧ v = .tuple #[.slice a qs.length c, .bool true] ∧ qs.length ≤ c ∧ St w [] w' (.row (.slice a qs.length c) 40 68 qs.length (qs.flatMap WA.v) :: LT)))) := by
  subst hl
  have hRl := wR_len hok h100
  have hLl := wL_len hok h100
  have hHl := wH_len h100
  refine enter Tryz.func9 rfl Tryz.ntmps9 rfl ?_
  have hS := St.refl w []
  refine zS<|zR<|zB (v := .agg _) hS rfl rfl fun b1 w1 hS2=>zq 2 rfl<|zN<|zT<|zS<|zR<|zq 2 rfl<|zN<|zT<|zS<|zR<|zX (x_lit (vs := [.int .i64 0]) hS2 ti48.und ti3 rfl rfl rfl (by intro c hc; simp only [List.mem_cons, List.not_mem_nil, or_false] at hc; rcases hc with rfl <;> rfl) (by decide)) ?_; rintro _ w3 ⟨b30, rfl, hS4⟩; refine zq 1 rfl<|zN<|zT<|zS ?_
  have hS5 := St.toRow (l1 := []) (sz := 1) (n := 1) (cap := 1) hS4 (by decide) (by decide) rfl
  simp only [ca, na] at hS5
  have hS6 := St.nilRow (E := 9) (sz := 1) hS5
  have hS7 := St.nilRow (E := 9) (sz := 1) hS6
  refine zR<|zq 1 rfl<|zX (x_lit (vs := [.string ⟨#[]⟩, .string ⟨#[120]⟩]) hS7 ti36.und ti9 rfl rfl rfl (by intro c hc; simp only [List.mem_cons, List.not_mem_nil, or_false] at hc; rcases hc with rfl | rfl <;> rfl) (by decide)) ?_; rintro _ w8 ⟨b32, rfl, hS9⟩; refine zX (x_append [_, _] hS9 ti36.und ti9 rfl (by decide) rfl rfl (Row.of_at (at_all (hS9.heap Z0))) Ln Oc Sd Sd _ rfl) ?_; rintro _ w10 ⟨aq12, cq12, rfl, hcq12, hS11⟩; simp only [ca, na] at hS11; refine zq 1 rfl<|zN<|zT<|zS<|zS<|zR<|zF fa24_0 rfl ti22.und rfl (hS11.heap Z4) rfl rfl rfl<|zV (r_len (T := 22) rfl ti22.und rfl _ rfl)<|zq 1 rfl<|zN<|zT<|zI ?_
  refine c_loopE [2, 3, 35, 36] (fun d e w' => ∃ (k : Nat) (a4 : Option Addr) (c4 : Nat) (a5 : Option Addr) (c5 : Nat) (a6 : Option Addr) (c6 : Nat), Kw.look e 37 = vi k ∧ Kw.look e 4 = .slice a4 ((rolesIn (rs.take k))).length c4 ∧ Kw.look e 5 = .slice a5 ((labsR (rs.take k))).length c5 ∧ Kw.look e 6 = .slice a6 ((hoursIn (rs.take k))).length c6 ∧ d = rs.length - k ∧ St w [] w' [.row (.slice a4 ((rolesIn (rs.take k))).length c4) 9 1 ((rolesIn (rs.take k))).length (((rolesIn (rs.take k))).map sv), .row (.slice a5 ((labsR (rs.take k))).length c5) 9 1 ((labsR (rs.take k))).length (((labsR (rs.take k))).map sv), .row (.slice a6 ((hoursIn (rs.take k))).length c6) 3 1 ((hoursIn (rs.take k))).length (((hoursIn (rs.take k))).map iv), .blk b1 (cl [.slice pa rs.length pc] 24)] ∧ (k ≤ rs.length)) (rs.length - 0) ?_ ?_
  · exact ⟨0, _, _, _, _, _, _, rfl, rfl, rfl, rfl, rfl, hS11.drop1, Nat.zero_le _⟩
  · rintro d16 e13 w14 ⟨k, a4, c4, a5, c5, a6, c6, hc0_37, hc0_4, hc0_5, hc0_6, rfl, hS15, hk⟩ -
    refine c_set (d := 37) hc0_37<|c_set (d := 4) hc0_4<|c_set (d := 5) hc0_5<|c_set (d := 6) hc0_6<|zS<|zR ?_
    refine wl_dec (r_lss rfl rfl) rfl (fun h5_0 => ?_) (fun h5_0 => ?_)
    · refine zN<|zT<|zS<|zt rfl<|zK<|zT<|zS<|zI<|zS ?_
      have hgk := hall (gt rs k) (gt_mem rs k Om)
      have hszk := rule_sz (hok (gt rs k) (gt_mem rs k Om))
      have hb4 := rolesK_len (k := k) hok h100
      have hb5 := labsK_len (k := k) hok h100
      have hb6 := hoursK_len (rs := rs) (k := k) h100
      refine zR<|zV (r_ixF rule_v8 ti22.und ti50 rfl rfl (hrs.st hS15) Ln Sd (by decide)) ?_; refine zV (r_loadF rule_v8 ti50 ag50 rfl (hrs.st hS15) Sd (by decide)) ?_; refine zA (C := [.bool false, .slice none 0 0, .slice none 0 0, .slice none 0 0, .int .i64 0, .int .i64 0, .int .i64 0, .string ⟨#[]⟩]) hS15 ti50 rfl fun bb8 w17 hS18=> ?_; refine wl_exs (x_storeW [] hS18 ti50 rfl rfl Ln Ln On) rfl ?_; intro w19 hS20; simp only [ca, na] at hS20; refine zN<|zT<|zS<|zR<|zq 1 rfl<|zF fa50_1 rfl ti36.und rfl (hS20.heap Z0) rfl rfl rfl<|zX (x_append [_] hS20 ti36.und ti9 rfl (by decide) rfl rfl (hgk.h1.st hS20) Ln (one_map _ fun _ => rfl) Sd Sd _ rfl) ?_; rintro _ w21 ⟨aq23, cq23, rfl, hcq23, hS22⟩; simp only [ca, na] at hS22; refine zq 1 rfl<|zN<|zT ?_
      refine c_cutE [2, 3, 5, 6, 8, 35, 36, 37] (fun e w' => ∃ (a4 : Option Addr) (c4 : Nat), Kw.look e 4 = .slice a4 ((rolesIn (rs.take (k + 1)))).length c4 ∧ St w [] w' [.row (.slice a4 ((rolesIn (rs.take (k + 1)))).length c4) 9 1 ((rolesIn (rs.take (k + 1)))).length (((rolesIn (rs.take (k + 1)))).map sv), .row (.slice a5 ((labsR (rs.take k))).length c5) 9 1 ((labsR (rs.take k))).length (((labsR (rs.take k))).map sv), .row (.slice a6 ((hoursIn (rs.take k))).length c6) 3 1 ((hoursIn (rs.take k))).length (((hoursIn (rs.take k))).map iv), .blk bb8 (cl (gt rs k).v 50), .blk b1 (cl [.slice pa rs.length pc] 24)]) ?_ ?_
      · refine zS<|zR<|zF fa50_7 rfl ti9.und rfl (hS22.heap Z0) rfl rfl rfl ?_
        refine wl_dec (r_neqStrL rfl rfl) rfl (fun h8_2 => ?_) (fun h8_2 => ?_)
        · refine zN<|zT<|zt rfl<|zR<|zq 1 rfl<|zF fa50_7 rfl ti9.und rfl (hS22.heap Z0) rfl rfl rfl<|zX (x_lit (vs := [.string _]) hS22 ti36.und ti9 rfl rfl rfl (by intro c hc; simp only [List.mem_cons, List.not_mem_nil, or_false] at hc; rcases hc with rfl <;> rfl) (by decide)) ?_
          rintro _ w28 ⟨b51, rfl, hS29⟩; refine zX (x_append [_, _] hS29 ti36.und ti9 rfl (by decide) rfl rfl (Row.of_at (at_all (hS29.heap Z0))) Ln Oc Sd Sd _ rfl) ?_; rintro _ w30 ⟨aq32, cq32, rfl, hcq32, hS31⟩; simp only [ca, na] at hS31; refine zq 1 rfl<|zN<|zT ?_
          have eY33 : (rolesIn (rs.take (k + 1))) = (rolesIn (rs.take k)) ++ (gt rs k).ro ++ [(gt rs k).ofr] := rolesK_y Om (by assumption)
          have hS34 := St.reRow1 (k := ((rolesIn (rs.take (k + 1)))).length) (zs := ((rolesIn (rs.take (k + 1)))).map sv) (hS31.perm ((List.Perm.cons _ (List.Perm.refl _)).trans (List.perm_middle (l₁ := [_, _])).symm)) (by rw [eY33]; simp only [List.length_append, List.length_cons, List.length_nil, Nat.add_assoc, Nat.zero_add]) (by rw [eY33]; simp only [List.map_append, List.map_cons, List.map_nil, List.append_assoc])
          exact ⟨_, rfl, ⟨_, _, congrArg (fun n => Value.slice aq32 n cq32) (Eq.symm (by rw [eY33]; simp only [List.length_append, List.length_cons, List.length_nil, Nat.add_assoc, Nat.zero_add])), (hS34.perm ((List.Perm.cons _ (List.Perm.cons _ ((List.Perm.cons _ ((List.Perm.cons _ (List.Perm.refl _)).trans (List.perm_middle (l₁ := [_])).symm)).trans (List.perm_middle (l₁ := [_])).symm))).trans (List.perm_middle (l₁ := [_])).symm)).drop1⟩, ⟨rfl, rfl, rfl, rfl, rfl, rfl, rfl, rfl, trivial⟩⟩
        refine zN<|zT<|zf rfl<|zK<|zT ?_
        have eY35 : (rolesIn (rs.take (k + 1))) = (rolesIn (rs.take k)) ++ (gt rs k).ro := rolesK_n Om (Classical.not_not.1 (by assumption))
        have hS36 := St.reRow1 (k := ((rolesIn (rs.take (k + 1)))).length) (zs := ((rolesIn (rs.take (k + 1)))).map sv) (hS22.perm ((List.Perm.cons _ (List.Perm.refl _)).trans (List.perm_middle (l₁ := [_])).symm)) (by rw [eY35]; simp only [List.length_append, List.length_cons, List.length_nil, Nat.add_assoc, Nat.zero_add]) (by rw [eY35]; simp only [List.map_append, List.map_cons, List.map_nil, List.append_assoc])
        exact ⟨_, rfl, ⟨_, _, congrArg (fun n => Value.slice aq23 n cq23) (Eq.symm (by rw [eY35]; simp only [List.length_append, List.length_cons, List.length_nil, Nat.add_assoc, Nat.zero_add])), (hS36.perm (List.Perm.cons _ ((List.Perm.cons _ ((List.Perm.cons _ (List.Perm.refl _)).trans (List.perm_middle (l₁ := [_])).symm)).trans (List.perm_middle (l₁ := [_])).symm)))⟩, ⟨rfl, rfl, rfl, rfl, rfl, rfl, rfl, rfl, trivial⟩⟩
      · rintro e24 w25 ⟨a4, c4, hc27_4, hS26⟩ -
        refine c_set (d := 4) hc27_4<|zS<|zS<|zR<|zF fa50_3 rfl ti36.und rfl (hS26.heap Z3) rfl rfl rfl<|zV (r_len (T := 36) rfl ti36.und rfl _ rfl)<|zq 1 rfl<|zN<|zT<|zI ?_
        refine c_loopE [2, 3, 4, 6, 8, 35, 36, 37, 54, 55] (fun d e w' => ∃ (i : Nat) (a5 : Option Addr) (c5 : Nat), Kw.look e 56 = vi i ∧ Kw.look e 5 = .slice a5 ((labsR (rs.take k) ++ ((gt rs k).las.take i).flatMap labsX)).length c5 ∧ d = (gt rs k).las.length - i ∧ St w [] w' [.row (.slice a5 ((labsR (rs.take k) ++ ((gt rs k).las.take i).flatMap labsX)).length c5) 9 1 ((labsR (rs.take k) ++ ((gt rs k).las.take i).flatMap labsX)).length (((labsR (rs.take k) ++ ((gt rs k).las.take i).flatMap labsX)).map sv), .row (.slice a4 ((rolesIn (rs.take (k + 1)))).length c4) 9 1 ((rolesIn (rs.take (k + 1)))).length (((rolesIn (rs.take (k + 1)))).map sv), .row (.slice a6 ((hoursIn (rs.take k))).length c6) 3 1 ((hoursIn (rs.take k))).length (((hoursIn (rs.take k))).map iv), .blk bb8 (cl (gt rs k).v 50), .blk b1 (cl [.slice pa rs.length pc] 24)] ∧ (i ≤ (gt rs k).las.length)) ((gt rs k).las.length - 0) ?_ ?_
        · have eX : (labsR (rs.take k) ++ ((gt rs k).las.take 0).flatMap labsX) = (labsR (rs.take k)) := by simp
          exact ⟨0, a5, c5, rfl, by rw [eX]; rfl, rfl, by rw [eX]; exact (hS26.perm ((List.Perm.cons _ (List.Perm.refl _)).trans (List.perm_middle (l₁ := [_])).symm)), Nat.zero_le _⟩
        · rintro d40 e37 w38 ⟨i, a5, c5, hc1_56, hc1_5, rfl, hS39, hi⟩ -
          refine c_set (d := 56) hc1_56<|c_set (d := 5) hc1_5<|zS<|zR ?_
          refine wl_dec (r_lss rfl rfl) rfl (fun h11_0 => ?_) (fun h11_0 => ?_)
          · refine zN<|zT<|zS<|zt rfl<|zK<|zT<|zS<|zI<|zS<|zR<|zV (r_ixS ti36.und ti9 rfl rfl (hgk.h3.st hS39) Sd Ln) ?_
            refine zV (r_loadS1 ti9.und rfl rfl (hgk.h3.st hS39) (by rw [Nat.mul_one]; exact map_gt _ _ _ Sd)) ?_; refine zq 1 rfl<|zN<|zT<|zS ?_
            have hhl := headS_p (rule_las (hok (gt rs k) (gt_mem rs k Om)) _ (gt_mem (gt rs k).las i Om))
            have hbi := lasX_len (l := (gt rs k).las) (i := i) hszk.2.2
            have hbl : (labsR (rs.take k) ++ ((gt rs k).las.take i).flatMap labsX).length ≤ 4000 := by rw [List.length_append]; omega
            refine zR<|zq 1 rfl<|zC fn27 rfl (cutSuffix_ok (gt (gt rs k).las i) _ (hgk.ok.ll _ (gt_mem _ _ Om))) ?_
            rintro _ w41 (⟨hs, rfl, hx42⟩ | ⟨hs, rfl, hx42⟩)
            · have hS43 := hS39.ext hx42
              refine zq 5 rfl<|zN<|zT<|zS<|zS<|zR<|zq 2 rfl<|zN<|zT<|zf rfl<|zK<|zT<|zS<|zR<|zq 2 rfl<|zV (r_addStrL (by simp only [List.length_append, List.length_cons, List.length_nil]; omega) rfl rfl) ?_; refine zX (x_lit (vs := [.string _, .string _]) hS43 ti36.und ti9 rfl rfl rfl (by intro c hc; simp only [List.mem_cons, List.not_mem_nil, or_false] at hc; rcases hc with rfl | rfl <;> rfl) (by decide)) ?_; rintro _ w44 ⟨b74, rfl, hS45⟩; refine zV (r_len (T := 36) rfl ti36.und rfl _ rfl)<|zq 1 rfl<|zN<|zT<|zI ?_
              refine c_loopE [2, 3, 4, 6, 8, 35, 36, 37, 54, 55, 56, 74, 75] (fun d e w' => ∃ (t : Nat) (a5 : Option Addr) (c5 : Nat), Kw.look e 76 = vi t ∧ Kw.look e 5 = .slice a5 (((labsR (rs.take k) ++ ((gt rs k).las.take i).flatMap labsX) ++ ([headS (gt (gt rs k).las i), longS (gt (gt rs k).las i)].take t).filter nameE)).length c5 ∧ d = 2 - t ∧ St w [] w' [.blk b74 (cl ([headS (gt (gt rs k).las i), longS (gt (gt rs k).las i)].map sv) 9), .row (.slice a5 (((labsR (rs.take k) ++ ((gt rs k).las.take i).flatMap labsX) ++ ([headS (gt (gt rs k).las i), longS (gt (gt rs k).las i)].take t).filter nameE)).length c5) 9 1 (((labsR (rs.take k) ++ ((gt rs k).las.take i).flatMap labsX) ++ ([headS (gt (gt rs k).las i), longS (gt (gt rs k).las i)].take t).filter nameE)).length ((((labsR (rs.take k) ++ ((gt rs k).las.take i).flatMap labsX) ++ ([headS (gt (gt rs k).las i), longS (gt (gt rs k).las i)].take t).filter nameE)).map sv), .row (.slice a4 ((rolesIn (rs.take (k + 1)))).length c4) 9 1 ((rolesIn (rs.take (k + 1)))).length (((rolesIn (rs.take (k + 1)))).map sv), .row (.slice a6 ((hoursIn (rs.take k))).length c6) 3 1 ((hoursIn (rs.take k))).length (((hoursIn (rs.take k))).map iv), .blk bb8 (cl (gt rs k).v 50), .blk b1 (cl [.slice pa rs.length pc] 24)] ∧ (t ≤ 2)) (2 - 0) ?_ ?_
              · have eX : ((labsR (rs.take k) ++ ((gt rs k).las.take i).flatMap labsX) ++ ([headS (gt (gt rs k).las i), longS (gt (gt rs k).las i)].take 0).filter nameE) = (labsR (rs.take k) ++ ((gt rs k).las.take i).flatMap labsX) := by simp
                exact ⟨0, a5, c5, rfl, by rw [eX]; rfl, rfl, by rw [eX]; exact hS45, Nat.zero_le _⟩
              · rintro d49 e46 w47 ⟨t, a5, c5, hc2_76, hc2_5, rfl, hS48, ht⟩ -
                refine c_set (d := 76) hc2_76<|c_set (d := 5) hc2_5<|zS<|zR ?_
                refine wl_dec (r_lss rfl rfl) rfl (fun h17_0 => ?_) (fun h17_0 => ?_)
                · refine zN<|zT<|zS<|zt rfl<|zK<|zT<|zS<|zI<|zS<|zR<|zV (r_ixB ti36.und ti9 rfl rfl Sd) ?_
                  refine zV (r_loadB1 ti9.und rfl rfl (hS48.heap Z0) (map_gt sv [headS (gt (gt rs k).las i), longS (gt (gt rs k).las i)] t (by simp only [List.length_cons, List.length_nil]; omega))) ?_; refine zq 1 rfl<|zN<|zT<|zS ?_
                  have hft := filt_le (p := nameE) (l := [headS (gt (gt rs k).las i), longS (gt (gt rs k).las i)]) (i := t) rfl
                  have hbt : ((labsR (rs.take k) ++ ((gt rs k).las.take i).flatMap labsX) ++ ([headS (gt (gt rs k).las i), longS (gt (gt rs k).las i)].take t).filter nameE).length ≤ 4002 := by rw [List.length_append]; omega
                  have hgl : (gt [headS (gt (gt rs k).las i), longS (gt (gt rs k).las i)] t).length ≤ 33 := gt2_le Om (by simp only [List.length_append, List.length_cons, List.length_nil]; omega) Om
                  refine zR<|zq 1 rfl<|zC fn28 rfl (risName_br (gt [headS (gt (gt rs k).las i), longS (gt (gt rs k).las i)] t) _ Om) ?_
                  rintro _ w50 (⟨hnm, rfl, hx51⟩ | ⟨hnm, rfl, hx51⟩)
                  · have hS52 := hS48.ext hx51
                    refine zN<|zT<|zt rfl<|zR<|zq 2 rfl<|zX (x_lit (vs := [.string _]) hS52 ti36.und ti9 rfl rfl rfl (by intro c hc; simp only [List.mem_cons, List.not_mem_nil, or_false] at hc; rcases hc with rfl <;> rfl) (by decide)) ?_; rintro _ w53 ⟨b84, rfl, hS54⟩; refine zX (x_append [_, _] hS54 ti36.und ti9 rfl (by decide) rfl rfl (Row.of_at (at_all (hS54.heap Z0))) Ln Oc Sd Sd _ rfl) ?_; rintro _ w55 ⟨aq57, cq57, rfl, hcq57, hS56⟩; simp only [ca, na] at hS56; refine zq 1 rfl<|zN<|zJ<|zT<|zR<|zV (r_addn (b := 1) rfl rfl Om)<|zq 1 rfl<|zN<|zT ?_
                    have eY58 : ((labsR (rs.take k) ++ ((gt rs k).las.take i).flatMap labsX) ++ ([headS (gt (gt rs k).las i), longS (gt (gt rs k).las i)].take (t + 1)).filter nameE) = ((labsR (rs.take k) ++ ((gt rs k).las.take i).flatMap labsX) ++ ([headS (gt (gt rs k).las i), longS (gt (gt rs k).las i)].take t).filter nameE) ++ [gt [headS (gt (gt rs k).las i), longS (gt (gt rs k).las i)] t] := by rw [filt_y (show t < 2 by omega) hnm, ← List.append_assoc]
                    have hS59 := St.reRow1 (k := (((labsR (rs.take k) ++ ((gt rs k).las.take i).flatMap labsX) ++ ([headS (gt (gt rs k).las i), longS (gt (gt rs k).las i)].take (t + 1)).filter nameE)).length) (zs := (((labsR (rs.take k) ++ ((gt rs k).las.take i).flatMap labsX) ++ ([headS (gt (gt rs k).las i), longS (gt (gt rs k).las i)].take (t + 1)).filter nameE)).map sv) (hS56.perm ((List.Perm.cons _ (List.Perm.refl _)).trans (List.perm_middle (l₁ := [_, _])).symm)) (by rw [eY58]; simp only [List.length_append, List.length_cons, List.length_nil, Nat.add_assoc, Nat.zero_add]) (by rw [eY58]; simp only [List.map_append, List.map_cons, List.map_nil, List.append_assoc])
                    exact ⟨2 - (t + 1), _, by omega, rfl, ⟨t + 1, _, _, rfl, congrArg (fun n => Value.slice aq57 n cq57) (Eq.symm (by rw [eY58]; simp only [List.length_append, List.length_cons, List.length_nil, Nat.add_assoc, Nat.zero_add])), rfl, (hS59.perm ((List.Perm.cons _ ((List.Perm.cons _ (List.Perm.refl _)).trans (List.perm_middle (l₁ := [_])).symm)).trans (List.perm_middle (l₁ := [_])).symm)).drop1, by omega⟩, ⟨rfl, rfl, rfl, rfl, rfl, rfl, rfl, rfl, rfl, rfl, rfl, rfl, rfl, trivial⟩⟩
                  have hS52 := hS48.ext hx51; refine zN<|zT<|zf rfl<|zK<|zJ<|zT<|zR<|zV (r_addn (b := 1) rfl rfl Om)<|zq 1 rfl<|zN<|zT ?_
                  have eX : ((labsR (rs.take k) ++ ((gt rs k).las.take i).flatMap labsX) ++ ([headS (gt (gt rs k).las i), longS (gt (gt rs k).las i)].take (t + 1)).filter nameE) = ((labsR (rs.take k) ++ ((gt rs k).las.take i).flatMap labsX) ++ ([headS (gt (gt rs k).las i), longS (gt (gt rs k).las i)].take t).filter nameE) := by rw [filt_n (show t < 2 by omega) hnm]
                  exact ⟨2 - (t + 1), _, by omega, rfl, ⟨t + 1, a5, c5, rfl, by rw [eX]; rfl, rfl, by rw [eX]; exact hS52, by omega⟩, ⟨rfl, rfl, rfl, rfl, rfl, rfl, rfl, rfl, rfl, rfl, rfl, rfl, rfl, trivial⟩⟩
                refine zN<|zT<|zS<|zf rfl<|zO<|zM<|zM<|c_inE<|zJ<|zT<|zR<|zV (r_addn (b := 1) rfl rfl Om)<|zq 1 rfl<|zN<|zT ?_
                obtain rfl : t = 2 := by omega
                have eX : (labsR (rs.take k) ++ ((gt rs k).las.take (i + 1)).flatMap labsX) = ((labsR (rs.take k) ++ ((gt rs k).las.take i).flatMap labsX) ++ ([headS (gt (gt rs k).las i), longS (gt (gt rs k).las i)].take 2).filter nameE) := by rw [flat_step _ Om, labsX_y hs, ← List.append_assoc]; rfl
                exact ⟨(gt rs k).las.length - (i + 1), _, by omega, rfl, ⟨i + 1, a5, c5, rfl, by rw [eX]; rfl, rfl, by rw [eX]; exact hS48.drop1, by omega⟩, ⟨rfl, rfl, rfl, rfl, rfl, rfl, rfl, rfl, rfl, rfl, trivial⟩⟩
            have hS43 := hS39.ext hx42; refine zq 5 rfl<|zN<|zT<|zS<|zS<|zR<|zq 2 rfl<|zN<|zT<|zt rfl<|zS<|zR<|zq 2 rfl<|zX (x_lit (vs := [.string _]) hS43 ti36.und ti9 rfl rfl rfl (by intro c hc; simp only [List.mem_cons, List.not_mem_nil, or_false] at hc; rcases hc with rfl <;> rfl) (by decide)) ?_; rintro _ w60 ⟨b69, rfl, hS61⟩; refine zX (x_append [_] hS61 ti36.und ti9 rfl (by decide) rfl rfl (Row.of_at (at_all (hS61.heap Z0))) Ln Oc Sd Sd _ rfl) ?_; rintro _ w62 ⟨aq64, cq64, rfl, hcq64, hS63⟩; simp only [ca, na] at hS63; refine zq 1 rfl<|zN<|zT<|zO<|zM<|c_inE<|zT<|zR<|zV (r_addn (b := 1) rfl rfl Om)<|zq 1 rfl<|zN<|zT ?_
            have eY65 : (labsR (rs.take k) ++ ((gt rs k).las.take (i + 1)).flatMap labsX) = (labsR (rs.take k) ++ ((gt rs k).las.take i).flatMap labsX) ++ [gt (gt rs k).las i] := by rw [flat_step _ Om, labsX_n hs, ← List.append_assoc]
            have hS66 := St.reRow1 (k := ((labsR (rs.take k) ++ ((gt rs k).las.take (i + 1)).flatMap labsX)).length) (zs := ((labsR (rs.take k) ++ ((gt rs k).las.take (i + 1)).flatMap labsX)).map sv) (hS63.perm ((List.Perm.cons _ (List.Perm.refl _)).trans (List.perm_middle (l₁ := [_])).symm)) (by rw [eY65]; simp only [List.length_append, List.length_cons, List.length_nil, Nat.add_assoc, Nat.zero_add]) (by rw [eY65]; simp only [List.map_append, List.map_cons, List.map_nil, List.append_assoc])
            exact ⟨(gt rs k).las.length - (i + 1), _, by omega, rfl, ⟨i + 1, _, _, rfl, congrArg (fun n => Value.slice aq64 n cq64) (Eq.symm (by rw [eY65]; simp only [List.length_append, List.length_cons, List.length_nil, Nat.add_assoc, Nat.zero_add])), rfl, (hS66.perm ((List.Perm.cons _ (List.Perm.refl _)).trans (List.perm_middle (l₁ := [_])).symm)).drop1, by omega⟩, ⟨rfl, rfl, rfl, rfl, rfl, rfl, rfl, rfl, rfl, rfl, trivial⟩⟩
          refine zN<|zT<|zS<|zf rfl<|zO<|zM<|zM<|c_inE<|zT<|zS ?_
          obtain rfl : i = (gt rs k).las.length := by omega
          have e5 : (labsR (rs.take (k + 1))) = (labsR (rs.take k) ++ ((gt rs k).las.take (gt rs k).las.length).flatMap labsX) := by rw [List.take_length]; exact labsK_step Om
          rw [← e5] at hS39
          refine zR<|zF fa50_4 rfl ti3.und rfl (hS39.heap Z3) rfl rfl rfl<|zF fa50_5 rfl ti3.und rfl (hS39.heap Z3) rfl rfl rfl<|zX (x_lit (vs := [.int .i64 _, .int .i64 _]) hS39 ti48.und ti3 rfl rfl rfl (by intro c hc; simp only [List.mem_cons, List.not_mem_nil, or_false] at hc; rcases hc with rfl | rfl <;> rfl) (by decide)) ?_; rintro _ w67 ⟨b92, rfl, hS68⟩; refine zV (r_len (T := 48) rfl ti48.und rfl _ rfl)<|zq 1 rfl<|zN<|zT<|zI ?_
          refine c_loopE [2, 3, 4, 5, 35, 36, 37, 92, 93] (fun d e w' => ∃ (i : Nat) (a6 : Option Addr) (c6 : Nat), Kw.look e 94 = vi i ∧ Kw.look e 6 = .slice a6 ((hoursIn (rs.take k) ++ ([(gt rs k).fr, (gt rs k).to].take i).filter (fun h => decide (h < 24)))).length c6 ∧ d = 2 - i ∧ St w [] w' [.blk b92 (cl ([(gt rs k).fr, (gt rs k).to].map iv) 3), .row (.slice a6 ((hoursIn (rs.take k) ++ ([(gt rs k).fr, (gt rs k).to].take i).filter (fun h => decide (h < 24)))).length c6) 3 1 ((hoursIn (rs.take k) ++ ([(gt rs k).fr, (gt rs k).to].take i).filter (fun h => decide (h < 24)))).length (((hoursIn (rs.take k) ++ ([(gt rs k).fr, (gt rs k).to].take i).filter (fun h => decide (h < 24)))).map iv), .row (.slice a4 ((rolesIn (rs.take (k + 1)))).length c4) 9 1 ((rolesIn (rs.take (k + 1)))).length (((rolesIn (rs.take (k + 1)))).map sv), .row (.slice a5 ((labsR (rs.take (k + 1)))).length c5) 9 1 ((labsR (rs.take (k + 1)))).length (((labsR (rs.take (k + 1)))).map sv), .blk bb8 (cl (gt rs k).v 50), .blk b1 (cl [.slice pa rs.length pc] 24)] ∧ (i ≤ 2)) (2 - 0) ?_ ?_
          · have eX : (hoursIn (rs.take k) ++ ([(gt rs k).fr, (gt rs k).to].take 0).filter (fun h => decide (h < 24))) = (hoursIn (rs.take k)) := by simp
            exact ⟨0, a6, c6, rfl, by rw [eX]; rfl, rfl, by rw [eX]; exact (hS68.perm (List.Perm.cons _ ((List.Perm.cons _ ((List.Perm.cons _ (List.Perm.refl _)).trans (List.perm_middle (l₁ := [_])).symm)).trans (List.perm_middle (l₁ := [_, _])).symm))), Nat.zero_le _⟩
          · rintro d72 e69 w70 ⟨i, a6, c6, hc3_94, hc3_6, rfl, hS71, hi⟩ -
            refine c_set (d := 94) hc3_94<|c_set (d := 6) hc3_6<|zS<|zR ?_
            refine wl_dec (r_lss rfl rfl) rfl (fun h24_0 => ?_) (fun h24_0 => ?_)
            · refine zN<|zT<|zS<|zt rfl<|zK<|zT<|zS<|zI<|zS<|zR<|zV (r_ixB ti48.und ti3 rfl rfl Sd) ?_
              refine zV (r_loadB1 ti3.und rfl rfl (hS71.heap Z0) (map_gt iv [(gt rs k).fr, (gt rs k).to] i (by simp only [List.length_cons, List.length_nil]; omega))) ?_; refine zq 1 rfl<|zN<|zT<|zS ?_
              have hft := filt_le (p := (fun h => decide (h < 24))) (l := [(gt rs k).fr, (gt rs k).to]) (i := i) rfl
              have hbt : (hoursIn (rs.take k) ++ ([(gt rs k).fr, (gt rs k).to].take i).filter (fun h => decide (h < 24))).length ≤ 203 := by rw [List.length_append]; omega
              refine zR<|zq 1 rfl ?_
              refine wl_dec (r_lss rfl rfl) rfl (fun h26_1 => ?_) (fun h26_1 => ?_)
              · refine zN<|zT<|zt rfl<|zR<|zq 2 rfl<|zX (x_lit (vs := [.int .i64 _]) hS71 ti48.und ti3 rfl rfl rfl (by intro c hc; simp only [List.mem_cons, List.not_mem_nil, or_false] at hc; rcases hc with rfl <;> rfl) (by decide)) ?_
                rintro _ w73 ⟨b102, rfl, hS74⟩; refine zX (x_append [_, _] hS74 ti48.und ti3 rfl (by decide) rfl rfl (Row.of_at (at_all (hS74.heap Z0))) Ln Oc Sd Sd _ rfl) ?_; rintro _ w75 ⟨aq77, cq77, rfl, hcq77, hS76⟩; simp only [ca, na] at hS76; refine zq 1 rfl<|zN<|zJ<|zT<|zR<|zV (r_addn (b := 1) rfl rfl Om)<|zq 1 rfl<|zN<|zT ?_
                have eY78 : (hoursIn (rs.take k) ++ ([(gt rs k).fr, (gt rs k).to].take (i + 1)).filter (fun h => decide (h < 24))) = (hoursIn (rs.take k) ++ ([(gt rs k).fr, (gt rs k).to].take i).filter (fun h => decide (h < 24))) ++ [gt [(gt rs k).fr, (gt rs k).to] i] := by rw [filt_y (show i < 2 by omega) (by simpa using h26_1), ← List.append_assoc]
                have hS79 := St.reRow1 (k := ((hoursIn (rs.take k) ++ ([(gt rs k).fr, (gt rs k).to].take (i + 1)).filter (fun h => decide (h < 24)))).length) (zs := ((hoursIn (rs.take k) ++ ([(gt rs k).fr, (gt rs k).to].take (i + 1)).filter (fun h => decide (h < 24)))).map iv) (hS76.perm ((List.Perm.cons _ (List.Perm.refl _)).trans (List.perm_middle (l₁ := [_, _])).symm)) (by rw [eY78]; simp only [List.length_append, List.length_cons, List.length_nil, Nat.add_assoc, Nat.zero_add]) (by rw [eY78]; simp only [List.map_append, List.map_cons, List.map_nil, List.append_assoc])
                exact ⟨2 - (i + 1), _, by omega, rfl, ⟨i + 1, _, _, rfl, congrArg (fun n => Value.slice aq77 n cq77) (Eq.symm (by rw [eY78]; simp only [List.length_append, List.length_cons, List.length_nil, Nat.add_assoc, Nat.zero_add])), rfl, (hS79.perm ((List.Perm.cons _ ((List.Perm.cons _ (List.Perm.refl _)).trans (List.perm_middle (l₁ := [_])).symm)).trans (List.perm_middle (l₁ := [_])).symm)).drop1, by omega⟩, ⟨rfl, rfl, rfl, rfl, rfl, rfl, rfl, rfl, rfl, trivial⟩⟩
              refine zN<|zT<|zf rfl<|zK<|zJ<|zT<|zR<|zV (r_addn (b := 1) rfl rfl Om)<|zq 1 rfl<|zN<|zT ?_
              have eX : (hoursIn (rs.take k) ++ ([(gt rs k).fr, (gt rs k).to].take (i + 1)).filter (fun h => decide (h < 24))) = (hoursIn (rs.take k) ++ ([(gt rs k).fr, (gt rs k).to].take i).filter (fun h => decide (h < 24))) := by rw [filt_n (show i < 2 by omega) (by simpa using h26_1)]
              exact ⟨2 - (i + 1), _, by omega, rfl, ⟨i + 1, a6, c6, rfl, by rw [eX]; rfl, rfl, by rw [eX]; exact hS71, by omega⟩, ⟨rfl, rfl, rfl, rfl, rfl, rfl, rfl, rfl, rfl, trivial⟩⟩
            refine zN<|zT<|zS<|zf rfl<|zO<|zM<|zM<|c_inE<|zJ<|zT<|zR<|zV (r_addn (b := 1) rfl rfl Om)<|zq 1 rfl<|zN<|zT ?_
            obtain rfl : i = 2 := by omega
            have eX : (hoursIn (rs.take (k + 1))) = (hoursIn (rs.take k) ++ ([(gt rs k).fr, (gt rs k).to].take 2).filter (fun h => decide (h < 24))) := (hoursK_step Om).trans rfl
            exact ⟨rs.length - (k + 1), _, by omega, rfl, ⟨k + 1, a4, c4, a5, c5, a6, c6, rfl, rfl, by rw [e5]; rfl, by rw [eX]; rfl, rfl, by rw [eX]; exact (hS71.perm (List.Perm.cons _ ((List.Perm.cons _ ((List.Perm.cons _ ((List.Perm.cons _ (List.Perm.refl _)).trans (List.perm_middle (l₁ := [_])).symm)).trans (List.perm_middle (l₁ := [_])).symm)).trans (List.perm_middle (l₁ := [_, _, _])).symm))).drop1.drop1, by omega⟩, ⟨rfl, rfl, rfl, rfl, trivial⟩⟩
    refine zN<|zT<|zS<|zf rfl<|zO<|zM<|zM<|c_inE<|zT<|zS ?_
    obtain rfl : k = rs.length := by omega
    rw [List.take_length] at hS15
    refine c_set (d := 4) (v := .slice a4 (rolesIn rs).length c4) (congrArg (fun l => Value.slice a4 (rolesIn l).length c4) List.take_length)<|c_set (d := 5) (v := .slice a5 (labsR rs).length c5) (congrArg (fun l => Value.slice a5 (labsR l).length c5) List.take_length)<|c_set (d := 6) (v := .slice a6 (hoursIn rs).length c6) (congrArg (fun l => Value.slice a6 (hoursIn l).length c6) List.take_length) ?_
    have hb4 := rolesIn_len hok h100
    have hb5 : (labsR rs).length ≤ 3202 := labsF_len labsX_len hok h100
    have hb6 := hoursIn_len h100
    refine zR<|zq 1 rfl ?_
    have hownhS82 := (St.get hS15 Z0).1
    refine zC fn29 rfl (sortS_ok (rolesIn rs) _ _ _ _ hownhS82 rfl Om) ?_; rintro _ w80 ⟨rfl, hx81⟩
    have hS82 := St.callM (X := [_]) (L := [_, _, _]) hS15 hx81 (fun k hk => ⟨_, List.mem_singleton.2 rfl, by simpa [Item.id] using hk⟩)
    simp only [ca, na] at hS82; refine zN<|zT ?_
    refine c_cutE [2, 3, 5, 6] (fun e w' => ∃ (a4 : Option Addr) (c4 : Nat), Kw.look e 4 = .slice a4 ((wR rs)).length c4 ∧ St w [] w' [.row (.slice a4 ((wR rs)).length c4) 9 1 ((wR rs)).length (((wR rs)).map sv), .row (.slice a5 ((labsR rs)).length c5) 9 1 ((labsR rs)).length (((labsR rs)).map sv), .row (.slice a6 ((hoursIn rs)).length c6) 3 1 ((hoursIn rs)).length (((hoursIn rs)).map iv)]) ?_ ?_
    · rcases Nat.lt_or_ge ((rolesIn rs)).length 2 with h2 | h2
      · refine zR<|zq 1 rfl<|zE fn30 rfl hS82 (compS_small _ _ _ _ h2) fun w87 hS89=>zq 1 rfl<|zN<|zT ?_
        have eW : (wR rs) = (rolesIn rs).mergeSort leS := usort_small h2
        have eW2 : ((wR rs)).length = ((rolesIn rs)).length := by rw [eW, List.length_mergeSort]
        exact ⟨_, rfl, ⟨a4, c4, by rw [eW2]; rfl, by rw [eW2, eW]; exact (hS89.perm ((List.Perm.cons _ (List.Perm.refl _)).trans (List.perm_middle (l₁ := [_, _, _])).symm)).drop1⟩, ⟨rfl, rfl, rfl, rfl, trivial⟩⟩
      obtain ⟨g, D, hga, hCl, hcc, hcm, hS90⟩ := St.rowBlkW (l1 := []) hS82 Om
      subst hga
      simp only [List.nil_append] at hS90
      refine zR<|zq 1 rfl<|zC fn30 rfl (compS_ok ((rolesIn rs).mergeSort leS) D g _ _ _ (hS90.heap Z0) (List.length_mergeSort _) h2 hcc Om) ?_; rintro _ w91 ⟨D', rfl, hD', hx92⟩
      have hS93 := St.callM (X := [_]) (L := [_, _, _]) hS90 hx92 (by simp [Item.id])
      simp only [ca, na] at hS93; refine zq 1 rfl<|zN<|zT ?_
      have hle : ((wR rs)).length ≤ ((rolesIn rs)).length := usort_len _
      have hS94 := St.toRow (l1 := []) (sz := 1) (n := ((wR rs)).length) (cap := c4) (hS93.perm ((List.Perm.cons _ (List.Perm.refl _)).trans (List.perm_middle (l₁ := [_, _, _])).symm)).drop1 Om hcm (by rw [← hCl]; exact hD')
      rw [List.take_left' (by rw [List.length_map, Nat.mul_one]; rfl)] at hS94
      exact ⟨_, rfl, ⟨some ⟨g, 0, none⟩, c4, rfl, hS94⟩, ⟨rfl, rfl, rfl, rfl, trivial⟩⟩
    · rintro e83 w84 ⟨a4, c4, hc86_4, hS85⟩ -
      refine c_set (d := 4) hc86_4<|zS<|zR<|zq 1 rfl ?_
      have hownhS97 := (St.get (hS85.perm ((List.Perm.cons _ (List.Perm.refl _)).trans (List.perm_middle (l₁ := [_])).symm)) Z0).1
      refine zC fn29 rfl (sortS_ok (labsR rs) _ _ _ _ hownhS97 rfl Om) ?_; rintro _ w95 ⟨rfl, hx96⟩
      have hS97 := St.callM (X := [_]) (L := [_, _]) (hS85.perm ((List.Perm.cons _ (List.Perm.refl _)).trans (List.perm_middle (l₁ := [_])).symm)) hx96 (fun k hk => ⟨_, List.mem_singleton.2 rfl, by simpa [Item.id] using hk⟩)
      simp only [ca, na] at hS97; refine zN<|zT ?_
      refine c_cutE [2, 3, 4, 6] (fun e w' => ∃ (a5 : Option Addr) (c5 : Nat), Kw.look e 5 = .slice a5 ((wL rs)).length c5 ∧ St w [] w' [.row (.slice a5 ((wL rs)).length c5) 9 1 ((wL rs)).length (((wL rs)).map sv), .row (.slice a4 ((wR rs)).length c4) 9 1 ((wR rs)).length (((wR rs)).map sv), .row (.slice a6 ((hoursIn rs)).length c6) 3 1 ((hoursIn rs)).length (((hoursIn rs)).map iv)]) ?_ ?_
      · rcases Nat.lt_or_ge ((labsR rs)).length 2 with h2 | h2
        · refine zR<|zq 1 rfl<|zE fn30 rfl hS97 (compS_small _ _ _ _ h2) fun w102 hS104=>zq 1 rfl<|zN<|zT ?_
          have eW : (wL rs) = (labsR rs).mergeSort leS := usort_small h2
          have eW2 : ((wL rs)).length = ((labsR rs)).length := by rw [eW, List.length_mergeSort]
          exact ⟨_, rfl, ⟨a5, c5, by rw [eW2]; rfl, by rw [eW2, eW]; exact hS104⟩, ⟨rfl, rfl, rfl, rfl, trivial⟩⟩
        obtain ⟨g, D, hga, hCl, hcc, hcm, hS105⟩ := St.rowBlkW (l1 := []) hS97 Om
        subst hga
        simp only [List.nil_append] at hS105
        refine zR<|zq 1 rfl<|zC fn30 rfl (compS_ok ((labsR rs).mergeSort leS) D g _ _ _ (hS105.heap Z0) (List.length_mergeSort _) h2 hcc Om) ?_; rintro _ w106 ⟨D', rfl, hD', hx107⟩
        have hS108 := St.callM (X := [_]) (L := [_, _]) hS105 hx107 (by simp [Item.id])
        simp only [ca, na] at hS108; refine zq 1 rfl<|zN<|zT ?_
        have hle : ((wL rs)).length ≤ ((labsR rs)).length := usort_len _
        have hS109 := St.toRow (l1 := []) (sz := 1) (n := ((wL rs)).length) (cap := c5) hS108 Om hcm (by rw [← hCl]; exact hD')
        rw [List.take_left' (by rw [List.length_map, Nat.mul_one]; rfl)] at hS109
        exact ⟨_, rfl, ⟨some ⟨g, 0, none⟩, c5, rfl, hS109⟩, ⟨rfl, rfl, rfl, rfl, trivial⟩⟩
      · rintro e98 w99 ⟨a5, c5, hc101_5, hS100⟩ -
        refine c_set (d := 5) hc101_5<|zS<|zR<|zq 1 rfl ?_
        have hownhS112 := (St.get (hS100.perm ((List.Perm.cons _ (List.Perm.refl _)).trans (List.perm_middle (l₁ := [_, _])).symm)) Z0).1
        refine zC fn31 rfl (sortI_ok (hoursIn rs) _ _ _ _ hownhS112 rfl Om) ?_; rintro _ w110 ⟨rfl, hx111⟩
        have hS112 := St.callM (X := [_]) (L := [_, _]) (hS100.perm ((List.Perm.cons _ (List.Perm.refl _)).trans (List.perm_middle (l₁ := [_, _])).symm)) hx111 (fun k hk => ⟨_, List.mem_singleton.2 rfl, by simpa [Item.id] using hk⟩)
        simp only [ca, na] at hS112; refine zN<|zT ?_
        refine c_cutE [2, 3, 4, 5] (fun e w' => ∃ (a6 : Option Addr) (c6 : Nat), Kw.look e 6 = .slice a6 ((wH rs)).length c6 ∧ St w [] w' [.row (.slice a6 ((wH rs)).length c6) 3 1 ((wH rs)).length (((wH rs)).map iv), .row (.slice a4 ((wR rs)).length c4) 9 1 ((wR rs)).length (((wR rs)).map sv), .row (.slice a5 ((wL rs)).length c5) 9 1 ((wL rs)).length (((wL rs)).map sv)]) ?_ ?_
        · rcases Nat.lt_or_ge ((hoursIn rs)).length 2 with h2 | h2
          · refine zR<|zq 1 rfl<|zE fn32 rfl hS112 (compI_small _ _ _ _ h2) fun w117 hS119=>zq 1 rfl<|zN<|zT ?_
            have eW : (wH rs) = (hoursIn rs).mergeSort leI := usort_small h2
            have eW2 : ((wH rs)).length = ((hoursIn rs)).length := by rw [eW, List.length_mergeSort]
            exact ⟨_, rfl, ⟨a6, c6, by rw [eW2]; rfl, by rw [eW2, eW]; exact (hS119.perm (List.Perm.cons _ ((List.Perm.cons _ (List.Perm.refl _)).trans (List.perm_middle (l₁ := [_])).symm)))⟩, ⟨rfl, rfl, rfl, rfl, trivial⟩⟩
          obtain ⟨g, D, hga, hCl, hcc, hcm, hS120⟩ := St.rowBlkW (l1 := []) hS112 Om
          subst hga
          simp only [List.nil_append] at hS120
          refine zR<|zq 1 rfl<|zC fn32 rfl (compI_ok ((hoursIn rs).mergeSort leI) D g _ _ _ (hS120.heap Z0) (List.length_mergeSort _) h2 hcc Om) ?_; rintro _ w121 ⟨D', rfl, hD', hx122⟩
          have hS123 := St.callM (X := [_]) (L := [_, _]) hS120 hx122 (by simp [Item.id])
          simp only [ca, na] at hS123; refine zq 1 rfl<|zN<|zT ?_
          have hle : ((wH rs)).length ≤ ((hoursIn rs)).length := usort_len _
          have hS124 := St.toRow (l1 := []) (sz := 1) (n := ((wH rs)).length) (cap := c6) (hS123.perm (List.Perm.cons _ ((List.Perm.cons _ (List.Perm.refl _)).trans (List.perm_middle (l₁ := [_])).symm))) Om hcm (by rw [← hCl]; exact hD')
          rw [List.take_left' (by rw [List.length_map, Nat.mul_one]; rfl)] at hS124
          exact ⟨_, rfl, ⟨some ⟨g, 0, none⟩, c6, rfl, hS124⟩, ⟨rfl, rfl, rfl, rfl, trivial⟩⟩
        · rintro e113 w114 ⟨a6, c6, hc116_6, hS115⟩ -
          refine c_set (d := 6) hc116_6<|zS<|zR<|zX (x_lit (vs := [.slice none 0 0]) hS115 ti75.und ti36 rfl rfl rfl (by intro c hc; simp only [List.mem_cons, List.not_mem_nil, or_false] at hc; rcases hc with rfl <;> rfl) (by decide)) ?_; rintro _ w125 ⟨b118, rfl, hS126⟩; refine zq 1 rfl<|zN<|zT<|zS<|zS ?_
          have hS127 := St.toRow (l1 := []) (sz := 1) (n := 1) (cap := 1) hS126 (by decide) (by decide) rfl
          simp only [ca, na] at hS127; refine zR<|zq 1 rfl<|zV (r_len (T := 36) rfl ti36.und rfl _ rfl)<|zq 1 rfl<|zN<|zT<|zI ?_
          refine c_loopE [2, 3, 4, 5, 6, 119, 120] (fun d e w' => ∃ (i : Nat) (S : List (Sl (List UInt8))) (a9 : Option Addr) (c9 : Nat) (LT : List Kw.Item), Kw.look e 121 = vi i ∧ Kw.look e 17 = .slice a9 S.length c9 ∧ d = (wR rs).length - i ∧ St w [] w' (.row (.slice a9 S.length c9) 36 1 S.length ((S).map Sl.v) :: .row (.slice a4 ((wR rs)).length c4) 9 1 ((wR rs)).length (((wR rs)).map sv) :: .row (.slice a5 ((wL rs)).length c5) 9 1 ((wL rs)).length (((wL rs)).map sv) :: .row (.slice a6 ((wH rs)).length c6) 3 1 ((wH rs)).length (((wH rs)).map iv) :: LT) ∧ (i ≤ (wR rs).length) ∧ (SetsT LT S) ∧ (S.map (·.xs) = setsA (wR rs) i) ∧ (∀ s ∈ S, s.xs.length ≤ s.c) ∧ (S.length ≤ c9)) ((wR rs).length - 0) ?_ ?_
          · exact ⟨0, [⟨none, 0, []⟩], _, 1, [], rfl, rfl, rfl, (hS127.perm (List.Perm.cons _ ((List.Perm.cons _ ((List.Perm.cons _ (List.Perm.refl _)).trans (List.perm_middle (l₁ := [_])).symm)).trans (List.perm_middle (l₁ := [_])).symm))), Nat.zero_le _, SetsT.empty, rfl, by intro s hs; rw [List.mem_singleton.1 hs]; exact Nat.le_refl _, Nat.le_refl _⟩
          · rintro d131 e128 w129 ⟨i, S, a9, c9, LT, hc4_121, hc4_17, rfl, hS130, hi, hT, hX, hcp, h9⟩ -
            refine c_set (d := 121) hc4_121<|c_set (d := 17) hc4_17<|zS<|zR ?_
            refine wl_dec (r_lss rfl rfl) rfl (fun h38_0 => ?_) (fun h38_0 => ?_)
            · refine zN<|zT<|zS<|zt rfl<|zK<|zT<|zS<|zI<|zS<|zR<|zV (r_ixS ti36.und ti9 rfl rfl (St.rowAt hS130 Z1) Sd Ln) ?_
              refine zV (r_loadS1 ti9.und rfl rfl (St.rowAt hS130 Z1) (by rw [Nat.mul_one]; exact map_gt _ _ _ Sd)) ?_; refine zq 1 rfl<|zN<|zT ?_
              have hbd := sl_len hX
              have hbA := setsA_len (wR rs) i
              refine zR<|zq 2 rfl<|zX (x_lit (vs := [.string _]) hS130 ti36.und ti9 rfl rfl rfl (by intro c hc; simp only [List.mem_cons, List.not_mem_nil, or_false] at hc; rcases hc with rfl <;> rfl) (by decide)) ?_; rintro _ w132 ⟨b127, rfl, hS133⟩; refine zX (x_lit (vs := [.slice _ _ _]) hS133 ti75.und ti36 rfl rfl rfl (by intro c hc; simp only [List.mem_cons, List.not_mem_nil, or_false] at hc; rcases hc with rfl <;> rfl) (by decide)) ?_; rintro _ w134 ⟨b128, rfl, hS135⟩; refine zX (x_append [_, _] hS135 ti75.und ti36 rfl (by decide) rfl rfl (Row.of_at (at_all (hS135.heap Z0))) Ln Oc Sd Sd _ rfl) ?_; rintro _ w136 ⟨aq138, cq138, rfl, hcq138, hS137⟩; simp only [ca, na] at hS137; refine zq 1 rfl<|zN<|zJ<|zT<|zR<|zV (r_addn (b := 1) rfl rfl Om)<|zq 1 rfl<|zN<|zT ?_
              have el : (S ++ [(⟨some ⟨b127, 0, none⟩, 1, [gt (wR rs) i]⟩ : Sl (List UInt8))]).length = S.length + 1 := by simp
              have hS139 := St.reRow1 (k := (S ++ [(⟨some ⟨b127, 0, none⟩, 1, [gt (wR rs) i]⟩ : Sl (List UInt8))]).length) (zs := (S ++ [(⟨some ⟨b127, 0, none⟩, 1, [gt (wR rs) i]⟩ : Sl (List UInt8))]).map Sl.v) (hS137.perm (List.Perm.cons _ ((List.Perm.cons _ ((List.Perm.cons _ ((List.Perm.cons _ ((List.Perm.cons _ (List.Perm.refl _)).trans (List.perm_middle (l₁ := [_])).symm)).trans (List.perm_middle (l₁ := [_])).symm)).trans (List.perm_middle (l₁ := [_])).symm)).trans (List.perm_middle (l₁ := [_])).symm))).drop1 el (by rw [List.map_append]; rfl)
              exact ⟨(wR rs).length - (i + 1), _, by omega, rfl, ⟨i + 1, S ++ [(⟨some ⟨b127, 0, none⟩, 1, [gt (wR rs) i]⟩ : Sl (List UInt8))], aq138, cq138, _, rfl, congrArg (fun n => Value.slice aq138 n cq138) el.symm, rfl, hS139, by omega, hT.addB (xs := [gt (wR rs) i]), sets_xs hX (setsA_step Om), sets_cap hcp (Nat.le_refl _), by rw [el]; exact hcq138⟩, ⟨rfl, rfl, rfl, rfl, rfl, rfl, rfl, trivial⟩⟩
            refine zN<|zT<|zS<|zf rfl<|zO<|zM<|zM<|c_inE<|zT<|zS<|zS ?_
            obtain rfl : i = (wR rs).length := by omega
            refine zR<|zq 1 rfl<|zV (r_len (T := 36) rfl ti36.und rfl _ rfl)<|zq 1 rfl<|zN<|zT<|zI ?_
            refine c_loopE [2, 3, 4, 5, 6, 132] (fun d e w' => ∃ (i : Nat) (S : List (Sl (List UInt8))) (a9 : Option Addr) (c9 : Nat) (LT : List Kw.Item), Kw.look e 133 = vi i ∧ Kw.look e 17 = .slice a9 S.length c9 ∧ d = (wR rs).length - i ∧ St w [] w' (.row (.slice a9 S.length c9) 36 1 S.length ((S).map Sl.v) :: .row (.slice a4 ((wR rs)).length c4) 9 1 ((wR rs)).length (((wR rs)).map sv) :: .row (.slice a5 ((wL rs)).length c5) 9 1 ((wL rs)).length (((wL rs)).map sv) :: .row (.slice a6 ((wH rs)).length c6) 3 1 ((wH rs)).length (((wH rs)).map iv) :: LT) ∧ (i ≤ (wR rs).length) ∧ (SetsT LT S) ∧ (S.map (·.xs) = setsB (wR rs) i 0) ∧ (∀ s ∈ S, s.xs.length ≤ s.c) ∧ (S.length ≤ c9)) ((wR rs).length - 0) ?_ ?_
            · exact ⟨0, S, a9, c9, LT, rfl, rfl, rfl, hS130, Nat.zero_le _, hT, by rw [setsB_zero]; exact hX, hcp, h9⟩
            · rintro d143 e140 w141 ⟨i, S, a9, c9, LT, hc5_133, hc5_17, rfl, hS142, hi, hT, hX, hcp, h9⟩ -
              refine c_set (d := 133) hc5_133<|c_set (d := 17) hc5_17<|zS<|zR ?_
              refine wl_dec (r_lss rfl rfl) rfl (fun h43_0 => ?_) (fun h43_0 => ?_)
              · refine zN<|zT<|zS<|zt rfl<|zK<|zT<|zS<|zI<|zS<|zR<|zq 2 rfl<|zN<|zT<|zS<|zR<|zq 1 rfl<|zV (r_addn (b := 1) rfl rfl Om)<|zq 1 rfl<|zN<|zT<|zI ?_
                refine c_loopE [2, 3, 4, 5, 6, 20, 132, 133] (fun d e w' => ∃ (j : Nat) (S : List (Sl (List UInt8))) (a9 : Option Addr) (c9 : Nat) (LT : List Kw.Item), Kw.look e 21 = vi (i + 1 + j) ∧ Kw.look e 17 = .slice a9 S.length c9 ∧ d = (wR rs).length - (i + 1) - j ∧ St w [] w' (.row (.slice a9 S.length c9) 36 1 S.length ((S).map Sl.v) :: .row (.slice a4 ((wR rs)).length c4) 9 1 ((wR rs)).length (((wR rs)).map sv) :: .row (.slice a5 ((wL rs)).length c5) 9 1 ((wL rs)).length (((wL rs)).map sv) :: .row (.slice a6 ((wH rs)).length c6) 3 1 ((wH rs)).length (((wH rs)).map iv) :: LT) ∧ (j ≤ (wR rs).length - (i + 1)) ∧ (SetsT LT S) ∧ (S.map (·.xs) = setsB (wR rs) i j) ∧ (∀ s ∈ S, s.xs.length ≤ s.c) ∧ (S.length ≤ c9)) ((wR rs).length - (i + 1) - 0) ?_ ?_
                · exact ⟨0, S, a9, c9, LT, rfl, rfl, rfl, hS142, Nat.zero_le _, hT, hX, hcp, h9⟩
                · rintro d147 e144 w145 ⟨j, S, a9, c9, LT, hc6_21, hc6_17, rfl, hS146, hj, hT, hX, hcp, h9⟩ -
                  refine c_set (d := 21) hc6_21<|c_set (d := 17) hc6_17<|zS<|zS<|zR<|zq 2 rfl<|zV (r_len (T := 36) rfl ti36.und rfl _ rfl) ?_
                  refine wl_dec (r_lss rfl rfl) rfl (fun h46_3 => ?_) (fun h46_3 => ?_)
                  · refine zN<|zT<|zt rfl<|zK<|zT<|zS<|zI ?_
                    have hbd := sl_len hX
                    have hbB := setsB_len (R := (wR rs)) (i := i) j Om hRl
                    refine c_drawS 11 hMixed hS146 ?_; intro w148 hS149; refine zG 0 rfl hS149 (fun wF hF => r_move (v := .slice _ _ _) rfl) ?_; refine zG 1 rfl hS149 (fun wF hF => r_move (v := .slice _ _ _) rfl) ?_; refine zG 2 rfl hS149 (fun wF hF => r_move (v := .int .i64 _) rfl) ?_; refine zG 3 rfl hS149 (fun wF hF => r_ixS ti36.und ti9 rfl rfl (St.rowAt hF Z1) Sd Ln) ?_; refine zG 4 rfl hS149 (fun wF hF => r_loadS1 ti9.und rfl rfl (St.rowAt hF Z1) (by rw [Nat.mul_one]; exact map_gt _ _ _ Sd)) ?_; refine zG 5 rfl hS149 (fun wF hF => r_move (v := .slice _ _ _) rfl) ?_; refine zG 6 rfl hS149 (fun wF hF => r_move (v := .int .i64 _) rfl) ?_; refine zG 7 rfl hS149 (fun wF hF => r_ixS ti36.und ti9 rfl rfl (St.rowAt hF Z1) Sd Ln) ?_; refine zG 8 rfl hS149 (fun wF hF => r_loadS1 ti9.und rfl rfl (St.rowAt hF Z1) (by rw [Nat.mul_one]; exact map_gt _ _ _ Sd)) ?_; refine zG1 9 ?_; refine o_exv rfl (x_lit (vs := [.string _, .string _]) hS149 ti36.und ti9 rfl rfl rfl (by intro c hc; simp only [List.mem_cons, List.not_mem_nil, or_false] at hc; rcases hc with rfl | rfl <;> rfl) (by decide)) rfl ?_; rintro _ w150 ⟨b153, rfl, hS151⟩
                    refine ⟨hS151.drop1, ?_⟩
                    refine zG1 10 ?_; refine o_exv rfl (x_lit (vs := [.slice _ _ _]) hS151 ti75.und ti36 rfl rfl rfl (by intro c hc; simp only [List.mem_cons, List.not_mem_nil, or_false] at hc; rcases hc with rfl <;> rfl) (by decide)) rfl ?_; rintro _ w152 ⟨b154, rfl, hS153⟩
                    refine ⟨hS153.drop1.drop1, ?_⟩
                    refine zGT rfl ?_; refine zX (x_append [_, _] hS153 ti75.und ti36 rfl (by decide) rfl rfl (Row.of_at (at_all (hS153.heap Z0))) Ln Oc Sd Sd _ rfl) ?_; rintro _ w154 ⟨aq156, cq156, rfl, hcq156, hS155⟩; simp only [ca, na] at hS155; refine zq 1 rfl<|zN<|zJ<|zT<|zR<|zq 1 rfl<|zV (r_addn (b := 1) rfl rfl Om)<|zq 1 rfl<|zN<|zT ?_
                    have el : (S ++ [(⟨some ⟨b153, 0, none⟩, 2, [gt (wR rs) i, gt (wR rs) (i + 1 + j)]⟩ : Sl (List UInt8))]).length = S.length + 1 := by simp
                    have hS157 := St.reRow1 (k := (S ++ [(⟨some ⟨b153, 0, none⟩, 2, [gt (wR rs) i, gt (wR rs) (i + 1 + j)]⟩ : Sl (List UInt8))]).length) (zs := (S ++ [(⟨some ⟨b153, 0, none⟩, 2, [gt (wR rs) i, gt (wR rs) (i + 1 + j)]⟩ : Sl (List UInt8))]).map Sl.v) (hS155.perm (List.Perm.cons _ ((List.Perm.cons _ ((List.Perm.cons _ ((List.Perm.cons _ ((List.Perm.cons _ (List.Perm.refl _)).trans (List.perm_middle (l₁ := [_])).symm)).trans (List.perm_middle (l₁ := [_])).symm)).trans (List.perm_middle (l₁ := [_])).symm)).trans (List.perm_middle (l₁ := [_])).symm))).drop1 el (by rw [List.map_append]; rfl)
                    exact ⟨(wR rs).length - (i + 1) - (j + 1), _, by omega, rfl, ⟨j + 1, S ++ [(⟨some ⟨b153, 0, none⟩, 2, [gt (wR rs) i, gt (wR rs) (i + 1 + j)]⟩ : Sl (List UInt8))], aq156, cq156, _, rfl, congrArg (fun n => Value.slice aq156 n cq156) el.symm, rfl, hS157, by omega, hT.addB (xs := [gt (wR rs) i, gt (wR rs) (i + 1 + j)]), sets_xs hX (setsB_in Om), sets_cap hcp (Nat.le_refl _), by rw [el]; exact hcq156⟩, ⟨rfl, rfl, rfl, rfl, rfl, rfl, rfl, rfl, trivial⟩⟩
                  refine zN<|zT<|zf rfl<|zO<|zM<|zM<|c_inE<|zJ<|zT<|zR<|zV (r_addn (b := 1) rfl rfl Om)<|zq 1 rfl<|zN<|zT ?_
                  obtain rfl : j = (wR rs).length - (i + 1) := by omega
                  exact ⟨(wR rs).length - (i + 1), _, by omega, rfl, ⟨i + 1, S, _, _, _, rfl, rfl, rfl, hS146, by omega, hT, by rw [setsB_out Om]; exact hX, hcp, h9⟩, ⟨rfl, rfl, rfl, rfl, rfl, rfl, trivial⟩⟩
              refine zN<|zT<|zS<|zf rfl<|zO<|zM<|zM<|c_inE<|zT ?_
              refine c_cutE [2, 3, 5, 6] (fun e w' => ∃ (S : List (Sl (List UInt8))) (aS_ : Option Addr) (cS : Nat) (LT : List Kw.Item), Kw.look e 17 = .slice aS_ S.length cS ∧ St w [] w' (.row (.slice aS_ S.length cS) 36 1 S.length (S.map Sl.v) :: .row (.slice a5 (wL rs).length c5) 9 1 (wL rs).length (((wL rs)).map sv) :: .row (.slice a6 (wH rs).length c6) 3 1 (wH rs).length (((wH rs)).map iv) :: LT) ∧ (SetsT LT S) ∧ (S.map (·.xs) = setsL (wR rs)) ∧ (∀ s ∈ S, s.xs.length ≤ s.c)) ?_ ?_
              · refine zS ?_
                obtain rfl : i = (wR rs).length := by omega
                have hbd := sl_len hX
                have hbB := setsB_len (R := (wR rs)) 0 (Nat.le_refl _) hRl
                refine zR<|zq 1 rfl<|zV (r_len (T := 36) rfl ti36.und rfl _ rfl) ?_
                refine wl_dec (r_gtr rfl rfl) rfl (fun h50_2 => ?_) (fun h50_2 => ?_)
                · refine zN<|zT<|zt rfl<|zR<|zq 2 rfl<|zX (x_lit (vs := [.slice _ _ _]) hS142 ti75.und ti36 rfl rfl rfl (by intro c hc; simp only [List.mem_cons, List.not_mem_nil, or_false] at hc; rcases hc with rfl <;> rfl) (by decide)) ?_
                  rintro _ w162 ⟨b162, rfl, hS163⟩; refine zX (x_append [_] hS163 ti75.und ti36 rfl (by decide) rfl rfl (Row.of_at (at_all (hS163.heap Z0))) Ln Oc Sd Sd _ rfl) ?_; rintro _ w164 ⟨aq166, cq166, rfl, hcq166, hS165⟩; simp only [ca, na] at hS165; refine zq 1 rfl<|zN<|zT ?_
                  have el : (S ++ [(⟨a4, c4, (wR rs)⟩ : Sl (List UInt8))]).length = S.length + 1 := by simp
                  have hc4 := (St.rowLen hS165 Z2).1
                  have hS167 := St.reRow1 (k := (S ++ [(⟨a4, c4, (wR rs)⟩ : Sl (List UInt8))]).length) (zs := (S ++ [(⟨a4, c4, (wR rs)⟩ : Sl (List UInt8))]).map Sl.v) (hS165.perm (List.Perm.cons _ (List.Perm.cons _ ((List.Perm.cons _ ((List.Perm.cons _ (List.Perm.refl _)).trans (List.perm_middle (l₁ := [_])).symm)).trans (List.perm_middle (l₁ := [_])).symm)))).drop1 el (by rw [List.map_append]; rfl)
                  exact ⟨_, rfl, ⟨S ++ [(⟨a4, c4, (wR rs)⟩ : Sl (List UInt8))], aq166, cq166, _, congrArg (fun n => Value.slice aq166 n cq166) el.symm, hS167, hT.add rfl, sets_xs hX (by unfold setsL; rw [if_pos Om]), sets_cap hcp hc4⟩, ⟨rfl, rfl, rfl, rfl, trivial⟩⟩
                refine zN<|zT<|zf rfl<|zK<|zT ?_
                exact ⟨_, rfl, ⟨S, a9, c9, LT, rfl, (hS142.perm ((List.Perm.cons _ (List.Perm.refl _)).trans (List.perm_middle (l₁ := [_])).symm)).drop1, hT, by rw [hX]; unfold setsL; rw [if_neg Om, List.append_nil], hcp⟩, ⟨rfl, rfl, rfl, rfl, trivial⟩⟩
              · rintro e158 w159 ⟨S, aS_, cS, LT, hc161_17, hS160, hT, hX, hcp⟩ -
                refine c_set (d := 17) hc161_17<|zS<|zS ?_
                have hSl : S.length ≤ 3000001 := by rw [sl_len hX]; exact setsL_len hRl
                have p1 : S.length * 12 ≤ 36000012 := by omega
                have p2 : S.length * 12 * (wL rs).length ≤ 36000012 * 3202 := Nat.mul_le_mul p1 hLl
                have p3 : S.length * 12 * (wL rs).length * (wH rs).length ≤ 36000012 * 3202 * 201 := Nat.mul_le_mul p2 hHl
                have hprod : S.length * 12 * (wL rs).length * (wH rs).length = S.length * (12 * ((wL rs).length * (wH rs).length)) := by rw [Nat.mul_assoc, Nat.mul_assoc]
                refine zR<|zq 1 rfl<|zV (r_len (T := 75) rfl ti75.und rfl _ rfl)<|zV (r_muln rfl rfl (Nat.le_trans p1 (by decide)))<|zq 1 rfl<|zV (r_len (T := 36) rfl ti36.und rfl _ rfl)<|zV (r_muln rfl rfl (Nat.le_trans p2 (by decide)))<|zq 1 rfl<|zV (r_len (T := 48) rfl ti48.und rfl _ rfl)<|zV (r_muln rfl rfl (Nat.le_trans p3 (by decide))) ?_
                refine wl_dec (r_gtr rfl rfl) rfl (fun h52_9 => ?_) (fun h52_9 => ?_)
                · refine zN<|zT<|zt rfl<|zS<|zR<|zq 2 rfl<|zN<|zT<|zU<|zL<|ret2 Tryz.results9 rfl rfl ?_
                  have hbig : 100000 < wTot rs := by unfold wTot; rw [← sl_len hX, ← hprod]; exact Int.ofNat_lt.1 (by assumption)
                  exact .inl ⟨hbig, rfl, hS160.fin⟩
                refine zN<|zT<|zf rfl<|zK<|zT<|zS<|zR<|zq 1 rfl<|zN<|zT<|zS<|zS ?_
                have htot : S.length * (12 * ((wL rs).length * (wH rs).length)) ≤ 100000 := by rw [← hprod]; exact Int.ofNat_le.1 (Int.not_lt.1 (by assumption))
                have hS168 := St.nilRow (E := 40) (sz := 68) hS160
                refine zR<|zq 1 rfl<|zV (r_len (T := 75) rfl ti75.und rfl _ rfl)<|zq 1 rfl<|zN<|zT<|zI ?_
                refine c_loopE [2, 3, 5, 6, 174, 175] (fun d e w' => ∃ (i : Nat) (a10 : Option Addr) (c10 : Nat), Kw.look e 176 = vi i ∧ Kw.look e 22 = .slice a10 (aS (wL rs) (wH rs) (S.take i)).length c10 ∧ d = S.length - i ∧ St w [] w' (.row (.slice a10 (aS (wL rs) (wH rs) (S.take i)).length c10) 40 68 (aS (wL rs) (wH rs) (S.take i)).length ((aS (wL rs) (wH rs) (S.take i)).flatMap WA.v) :: .row (.slice aS_ S.length cS) 36 1 S.length (S.map Sl.v) :: .row (.slice a5 (wL rs).length c5) 9 1 (wL rs).length (((wL rs)).map sv) :: .row (.slice a6 (wH rs).length c6) 3 1 (wH rs).length (((wH rs)).map iv) :: LT) ∧ (i ≤ S.length) ∧ ((aS (wL rs) (wH rs) (S.take i)).length ≤ c10)) (S.length - 0) ?_ ?_
                · exact ⟨0, none, 0, rfl, rfl, rfl, hS168, Nat.zero_le _, Nat.zero_le _⟩
                · rintro d172 e169 w170 ⟨i, a10, c10, hc7_176, hc7_22, rfl, hS171, hi, h10⟩ -
                  refine c_set (d := 176) hc7_176<|c_set (d := 22) hc7_22<|zS<|zR ?_
                  refine wl_dec (r_lss rfl rfl) rfl (fun h56_0 => ?_) (fun h56_0 => ?_)
                  · refine zN<|zT<|zS<|zt rfl<|zK<|zT<|zS<|zI<|zS<|zR<|zV (r_ixS ti75.und ti36 rfl rfl (St.rowAt hS171 Z1) Sd Ln) ?_
                    refine zV (r_loadS1 ti36.und rfl rfl (St.rowAt hS171 Z1) (by rw [Nat.mul_one]; exact map_gt _ _ _ Sd)) ?_; refine zq 1 rfl<|zN<|zT<|zS<|zR<|zq 1 rfl<|zN<|zT<|zI ?_
                    refine c_loopE [2, 3, 5, 6, 24, 174, 175, 176] (fun d e w' => ∃ (k : Nat) (a10 : Option Addr) (c10 : Nat), Kw.look e 25 = vi (k + 1) ∧ Kw.look e 22 = .slice a10 (aS (wL rs) (wH rs) (S.take i) ++ aA (gt S i) (wL rs) (wH rs) k).length c10 ∧ d = 12 - k ∧ St w [] w' (.row (.slice a10 (aS (wL rs) (wH rs) (S.take i) ++ aA (gt S i) (wL rs) (wH rs) k).length c10) 40 68 (aS (wL rs) (wH rs) (S.take i) ++ aA (gt S i) (wL rs) (wH rs) k).length ((aS (wL rs) (wH rs) (S.take i) ++ aA (gt S i) (wL rs) (wH rs) k).flatMap WA.v) :: .row (.slice aS_ S.length cS) 36 1 S.length (S.map Sl.v) :: .row (.slice a5 (wL rs).length c5) 9 1 (wL rs).length (((wL rs)).map sv) :: .row (.slice a6 (wH rs).length c6) 3 1 (wH rs).length (((wH rs)).map iv) :: LT) ∧ (k ≤ 12) ∧ ((aS (wL rs) (wH rs) (S.take i) ++ aA (gt S i) (wL rs) (wH rs) k).length ≤ c10)) (12 - 0) ?_ ?_
                    · have eX : aS (wL rs) (wH rs) (S.take i) ++ aA (gt S i) (wL rs) (wH rs) 0 = aS (wL rs) (wH rs) (S.take i) := by simp [aS, aA, aL, aH]
                      have hF := hS171; exact rWorld_ok_c0
                    · rintro d176 e173 w174 ⟨k, a10, c10, hc8_25, hc8_22, rfl, hS175, hk, h10⟩ -
                      refine c_set (d := 25) hc8_25<|c_set (d := 22) hc8_22<|zS<|zS<|zR<|zq 1 rfl ?_
                      refine wl_dec (r_leq rfl rfl) rfl (fun h59_1 => ?_) (fun h59_1 => ?_)
                      · refine zN<|zT<|zt rfl<|zK<|zT<|zS<|zI<|zS<|zR<|zq 1 rfl<|zV (r_len (T := 36) rfl ti36.und rfl _ rfl)<|zq 1 rfl<|zN<|zT<|zI ?_
                        refine c_loopE [2, 3, 5, 6, 24, 25, 174, 175, 176, 184, 185] (fun d e w' => ∃ (j : Nat) (a10 : Option Addr) (c10 : Nat), Kw.look e 186 = vi j ∧ Kw.look e 22 = .slice a10 (aS (wL rs) (wH rs) (S.take i) ++ aA (gt S i) (wL rs) (wH rs) k ++ aL (gt S i) ((k + 1 : Nat) : Int) (wH rs) ((wL rs).take j)).length c10 ∧ d = (wL rs).length - j ∧ St w [] w' (.row (.slice a10 (aS (wL rs) (wH rs) (S.take i) ++ aA (gt S i) (wL rs) (wH rs) k ++ aL (gt S i) ((k + 1 : Nat) : Int) (wH rs) ((wL rs).take j)).length c10) 40 68 (aS (wL rs) (wH rs) (S.take i) ++ aA (gt S i) (wL rs) (wH rs) k ++ aL (gt S i) ((k + 1 : Nat) : Int) (wH rs) ((wL rs).take j)).length ((aS (wL rs) (wH rs) (S.take i) ++ aA (gt S i) (wL rs) (wH rs) k ++ aL (gt S i) ((k + 1 : Nat) : Int) (wH rs) ((wL rs).take j)).flatMap WA.v) :: .row (.slice aS_ S.length cS) 36 1 S.length (S.map Sl.v) :: .row (.slice a5 (wL rs).length c5) 9 1 (wL rs).length (((wL rs)).map sv) :: .row (.slice a6 (wH rs).length c6) 3 1 (wH rs).length (((wH rs)).map iv) :: LT) ∧ (j ≤ (wL rs).length) ∧ ((aS (wL rs) (wH rs) (S.take i) ++ aA (gt S i) (wL rs) (wH rs) k ++ aL (gt S i) ((k + 1 : Nat) : Int) (wH rs) ((wL rs).take j)).length ≤ c10)) ((wL rs).length - 0) ?_ ?_
                        · have eX : aS (wL rs) (wH rs) (S.take i) ++ aA (gt S i) (wL rs) (wH rs) k ++ aL (gt S i) ((k + 1 : Nat) : Int) (wH rs) ((wL rs).take 0) = aS (wL rs) (wH rs) (S.take i) ++ aA (gt S i) (wL rs) (wH rs) k := by simp [aS, aA, aL, aH]
                          have hF := hS175; exact rWorld_ok_c0
                        · rintro d180 e177 w178 ⟨j, a10, c10, hc9_186, hc9_22, rfl, hS179, hj, h10⟩ -
                          refine c_set (d := 186) hc9_186<|c_set (d := 22) hc9_22<|zS<|zR ?_
                          refine wl_dec (r_lss rfl rfl) rfl (fun h62_0 => ?_) (fun h62_0 => ?_)
                          · refine zN<|zT<|zS<|zt rfl<|zK<|zT<|zS<|zI<|zS<|zR<|zV (r_ixS ti36.und ti9 rfl rfl (St.rowAt hS179 Z2) Sd Ln) ?_
                            refine zV (r_loadS1 ti9.und rfl rfl (St.rowAt hS179 Z2) (by rw [Nat.mul_one]; exact map_gt _ _ _ Sd)) ?_; refine zq 1 rfl<|zN<|zT<|zS<|zR<|zq 1 rfl<|zV (r_len (T := 48) rfl ti48.und rfl _ rfl)<|zq 1 rfl<|zN<|zT<|zI ?_
                            refine c_loopE [2, 3, 5, 6, 24, 25, 27, 174, 175, 176, 184, 185, 186, 190, 191] (fun d e w' => ∃ (m : Nat) (a10 : Option Addr) (c10 : Nat), Kw.look e 192 = vi m ∧ Kw.look e 22 = .slice a10 (aS (wL rs) (wH rs) (S.take i) ++ aA (gt S i) (wL rs) (wH rs) k ++ aL (gt S i) ((k + 1 : Nat) : Int) (wH rs) ((wL rs).take j) ++ aH (gt S i) ((k + 1 : Nat) : Int) (gt (wL rs) j) ((wH rs).take m)).length c10 ∧ d = (wH rs).length - m ∧ St w [] w' (.row (.slice a10 (aS (wL rs) (wH rs) (S.take i) ++ aA (gt S i) (wL rs) (wH rs) k ++ aL (gt S i) ((k + 1 : Nat) : Int) (wH rs) ((wL rs).take j) ++ aH (gt S i) ((k + 1 : Nat) : Int) (gt (wL rs) j) ((wH rs).take m)).length c10) 40 68 (aS (wL rs) (wH rs) (S.take i) ++ aA (gt S i) (wL rs) (wH rs) k ++ aL (gt S i) ((k + 1 : Nat) : Int) (wH rs) ((wL rs).take j) ++ aH (gt S i) ((k + 1 : Nat) : Int) (gt (wL rs) j) ((wH rs).take m)).length ((aS (wL rs) (wH rs) (S.take i) ++ aA (gt S i) (wL rs) (wH rs) k ++ aL (gt S i) ((k + 1 : Nat) : Int) (wH rs) ((wL rs).take j) ++ aH (gt S i) ((k + 1 : Nat) : Int) (gt (wL rs) j) ((wH rs).take m)).flatMap WA.v) :: .row (.slice aS_ S.length cS) 36 1 S.length (S.map Sl.v) :: .row (.slice a5 (wL rs).length c5) 9 1 (wL rs).length (((wL rs)).map sv) :: .row (.slice a6 (wH rs).length c6) 3 1 (wH rs).length (((wH rs)).map iv) :: LT) ∧ (m ≤ (wH rs).length) ∧ ((aS (wL rs) (wH rs) (S.take i) ++ aA (gt S i) (wL rs) (wH rs) k ++ aL (gt S i) ((k + 1 : Nat) : Int) (wH rs) ((wL rs).take j) ++ aH (gt S i) ((k + 1 : Nat) : Int) (gt (wL rs) j) ((wH rs).take m)).length ≤ c10)) ((wH rs).length - 0) ?_ ?_
                            · have eX : aS (wL rs) (wH rs) (S.take i) ++ aA (gt S i) (wL rs) (wH rs) k ++ aL (gt S i) ((k + 1 : Nat) : Int) (wH rs) ((wL rs).take j) ++ aH (gt S i) ((k + 1 : Nat) : Int) (gt (wL rs) j) ((wH rs).take 0) = aS (wL rs) (wH rs) (S.take i) ++ aA (gt S i) (wL rs) (wH rs) k ++ aL (gt S i) ((k + 1 : Nat) : Int) (wH rs) ((wL rs).take j) := by simp [aS, aA, aL, aH]
                              have hF := hS179; exact rWorld_ok_c0
                            · rintro d184 e181 w182 ⟨m, a10, c10, hc10_192, hc10_22, rfl, hS183, hm, h10⟩ -
                              refine c_set (d := 192) hc10_192<|c_set (d := 22) hc10_22<|zS<|zR ?_
                              refine wl_dec (r_lss rfl rfl) rfl (fun h65_0 => ?_) (fun h65_0 => ?_)
                              · refine zN<|zT<|zS<|zt rfl<|zK<|zT<|zS<|zI<|zS<|zR<|zV (r_ixS ti48.und ti3 rfl rfl (St.rowAt hS183 Z3) Sd Ln) ?_
                                refine zV (r_loadS1 ti3.und rfl rfl (St.rowAt hS183 Z3) (by rw [Nat.mul_one]; exact map_gt _ _ _ Sd)) ?_; refine zq 1 rfl<|zN<|zT ?_
                                have hrg := wH_rng hok _ (gt_mem (wH rs) m Om)
                                have hpre := pre_le (s := gt S i) (act := ((k + 1 : Nat) : Int)) (l := gt (wL rs) j) (i := i) (k := k) (j := j) (m := m) htot Om Om
                                have hxl : (aS (wL rs) (wH rs) (S.take i) ++ aA (gt S i) (wL rs) (wH rs) k ++ aL (gt S i) ((k + 1 : Nat) : Int) (wH rs) ((wL rs).take j) ++ aH (gt S i) ((k + 1 : Nat) : Int) (gt (wL rs) j) ((wH rs).take m)).length ≤ 400000 := by simp only [List.length_append]; omega
                                refine zR<|zq 5 rfl<|zV (r_muli rfl rfl Om Om)<|zV (r_buildP (ps := [(1, Sl.v (gt S i)), (2, vi (k + 1)), (3, sv (gt (wL rs) j)), (5, .int .i64 (3600 * gt (wH rs) m))]) (out := WA.v (askOf (gt S i) ((k + 1 : Nat) : Int) (gt (wL rs) j) (gt (wH rs) m))) pl40 ti40 rfl rfl)<|zX (x_litA1 hS183 ti26.und ti40 rfl (wa_v68 _) rfl (by decide) (by decide)) ?_; rintro _ w185 ⟨b203, rfl, hS186⟩; refine zX (x_append [_] hS186 ti26.und ti40 rfl (by decide) rfl rfl (Row.of_at (at_all (hS186.heap Z0))) (wa_v68 _) (one_wa _) Sd Sd _ rfl) ?_; rintro _ w187 ⟨aq189, cq189, rfl, hcq189, hS188⟩; simp only [ca, na] at hS188; refine zq 1 rfl<|zN<|zJ<|zT<|zR<|zV (r_addn (b := 1) rfl rfl Om)<|zq 1 rfl<|zN<|zT ?_
                                have eX : aS (wL rs) (wH rs) (S.take i) ++ aA (gt S i) (wL rs) (wH rs) k ++ aL (gt S i) ((k + 1 : Nat) : Int) (wH rs) ((wL rs).take j) ++ aH (gt S i) ((k + 1 : Nat) : Int) (gt (wL rs) j) ((wH rs).take (m + 1)) = (aS (wL rs) (wH rs) (S.take i) ++ aA (gt S i) (wL rs) (wH rs) k ++ aL (gt S i) ((k + 1 : Nat) : Int) (wH rs) ((wL rs).take j) ++ aH (gt S i) ((k + 1 : Nat) : Int) (gt (wL rs) j) ((wH rs).take m)) ++ [askOf (gt S i) ((k + 1 : Nat) : Int) (gt (wL rs) j) (gt (wH rs) m)] := by rw [aH_step Om, ← List.append_assoc]
                                have el : (aS (wL rs) (wH rs) (S.take i) ++ aA (gt S i) (wL rs) (wH rs) k ++ aL (gt S i) ((k + 1 : Nat) : Int) (wH rs) ((wL rs).take j) ++ aH (gt S i) ((k + 1 : Nat) : Int) (gt (wL rs) j) ((wH rs).take (m + 1))).length = (aS (wL rs) (wH rs) (S.take i) ++ aA (gt S i) (wL rs) (wH rs) k ++ aL (gt S i) ((k + 1 : Nat) : Int) (wH rs) ((wL rs).take j) ++ aH (gt S i) ((k + 1 : Nat) : Int) (gt (wL rs) j) ((wH rs).take m)).length + 1 := by rw [eX, List.length_append]; rfl
                                have hS190 := St.reRow1 (k := (aS (wL rs) (wH rs) (S.take i) ++ aA (gt S i) (wL rs) (wH rs) k ++ aL (gt S i) ((k + 1 : Nat) : Int) (wH rs) ((wL rs).take j) ++ aH (gt S i) ((k + 1 : Nat) : Int) (gt (wL rs) j) ((wH rs).take (m + 1))).length) (zs := (aS (wL rs) (wH rs) (S.take i) ++ aA (gt S i) (wL rs) (wH rs) k ++ aL (gt S i) ((k + 1 : Nat) : Int) (wH rs) ((wL rs).take j) ++ aH (gt S i) ((k + 1 : Nat) : Int) (gt (wL rs) j) ((wH rs).take (m + 1))).flatMap WA.v) hS188.drop1 el (by rw [eX, List.flatMap_append]; simp)
                                exact ⟨(wH rs).length - (m + 1), _, by omega, rfl, ⟨m + 1, aq189, cq189, rfl, congrArg (fun n => Value.slice aq189 n cq189) el.symm, rfl, hS190, by omega, by rw [el]; exact hcq189⟩, ⟨rfl, rfl, rfl, rfl, rfl, rfl, rfl, rfl, rfl, rfl, rfl, rfl, rfl, rfl, rfl, trivial⟩⟩
                              refine zN<|zT<|zS<|zf rfl<|zO<|zM<|zM<|c_inE<|zJ<|zT ?_
                              obtain rfl : m = (wH rs).length := by omega
                              refine zR<|zV (r_addn (b := 1) rfl rfl Om)<|zq 1 rfl<|zN<|zT ?_
                              have eX : aS (wL rs) (wH rs) (S.take i) ++ aA (gt S i) (wL rs) (wH rs) k ++ aL (gt S i) ((k + 1 : Nat) : Int) (wH rs) ((wL rs).take (j + 1)) = aS (wL rs) (wH rs) (S.take i) ++ aA (gt S i) (wL rs) (wH rs) k ++ aL (gt S i) ((k + 1 : Nat) : Int) (wH rs) ((wL rs).take j) ++ aH (gt S i) ((k + 1 : Nat) : Int) (gt (wL rs) j) ((wH rs).take (wH rs).length) := by rw [aL_step Om, List.take_length, ← List.append_assoc]
                              exact ⟨(wL rs).length - (j + 1), _, by omega, rfl, ⟨j + 1, a10, c10, rfl, by rw [eX]; rfl, rfl, by rw [eX]; exact hS183, by omega, by rw [eX]; exact h10⟩, ⟨rfl, rfl, rfl, rfl, rfl, rfl, rfl, rfl, rfl, rfl, rfl, trivial⟩⟩
                          refine zN<|zT<|zS<|zf rfl<|zO<|zM<|zM<|c_inE<|zJ<|zT ?_
                          obtain rfl : j = (wL rs).length := by omega
                          refine zR<|zq 1 rfl<|zV (r_addn (b := 1) rfl rfl Om)<|zq 1 rfl<|zN<|zT ?_
                          have eX : aS (wL rs) (wH rs) (S.take i) ++ aA (gt S i) (wL rs) (wH rs) (k + 1) = aS (wL rs) (wH rs) (S.take i) ++ aA (gt S i) (wL rs) (wH rs) k ++ aL (gt S i) ((k + 1 : Nat) : Int) (wH rs) ((wL rs).take (wL rs).length) := by rw [aA_step, List.take_length, ← List.append_assoc]
                          exact ⟨12 - (k + 1), _, by omega, rfl, ⟨k + 1, a10, c10, rfl, by rw [eX]; rfl, rfl, by rw [eX]; exact hS179, by omega, by rw [eX]; exact h10⟩, ⟨rfl, rfl, rfl, rfl, rfl, rfl, rfl, rfl, trivial⟩⟩
                      refine zN<|zT<|zf rfl<|zO<|zM<|zM<|c_inE<|zJ<|zT ?_
                      obtain rfl : k = 12 := by omega
                      refine zR<|zV (r_addn (b := 1) rfl rfl Om)<|zq 1 rfl<|zN<|zT ?_
                      have eX : aS (wL rs) (wH rs) (S.take (i + 1)) = aS (wL rs) (wH rs) (S.take i) ++ aA (gt S i) (wL rs) (wH rs) 12 := aS_step Om
                      exact ⟨S.length - (i + 1), _, by omega, rfl, ⟨i + 1, a10, c10, rfl, by rw [eX]; rfl, rfl, by rw [eX]; exact hS175, by omega, by rw [eX]; exact h10⟩, ⟨rfl, rfl, rfl, rfl, rfl, rfl, trivial⟩⟩
                  refine zN<|zT<|zS<|zf rfl<|zO<|zM<|zM<|c_inE<|zT<|zS ?_
                  obtain rfl : i = S.length := by omega
                  refine zR<|zq 3 rfl<|zN<|zT<|zU<|ret2 Tryz.results9 rfl rfl ?_
                  have hle : wTot rs ≤ 100000 := by unfold wTot; rw [← sl_len hX]; exact htot
                  exact .inr ⟨hle, aS (wL rs) (wH rs) (S.take S.length), a10, c10, LT, by rw [List.take_length]; exact AsksT.of hT, by rw [List.take_length, aS_b, hX], by rw [List.take_length]; exact aS_rc hcp, rfl, h10, (hS171.perm ((List.Perm.cons _ ((List.Perm.cons _ ((List.Perm.cons _ (List.Perm.refl _)).trans (List.perm_middle (l₁ := [_])).symm)).trans (List.perm_middle (l₁ := [_])).symm)).trans (List.perm_middle (l₁ := [_])).symm)).drop1.drop1.drop1⟩

end Go.Proofs.YtmonnmndphlkaaaGreat
end
