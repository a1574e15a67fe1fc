/- What the law's proof leans on. No condition. -/
import Derived.Test.YtmonnmndphlkaaaGreatPWnAI
import Derived.Test.YtmonnmndphlkaaaGreatPWnBX
import Derived.Test.YtmonnmndphlkaaaGreatPWnBY
section
namespace Go.Proofs.YtmonnmndphlkaaaGreat
open Go.Kw
set_option linter.unusedVariables false
set_option linter.unusedSimpArgs false
set_option maxRecDepth 100000
theorem cloneI_ok (xs : List Int) (a : Option Addr) (n c : Nat) (w : World) (hb : Row w a (xs.map iv)) (hl : xs.length = n) (hn : n ≤ 4398046511104) :
    Ret Tryz.prog 75 [.slice a n c] w (fun v w' => ∃ a' c', v = .slice a' n c' ∧ n ≤ c' ∧ St w [] w' [.row (.slice a' n c') 3 1 n ((xs).map iv)]) := by
  refine enter Tryz.func75 rfl Tryz.ntmps75 rfl ?_
  have hS := St.refl w []
  refine zS<|zR<|zq 1 rfl<|zN<|zT<|zS<|zS<|zR<|zq 1 rfl ?_
  refine wl_dec (r_eqlSn ti48.und rfl rfl) rfl (fun h1_1 => ?_) (fun h1_1 => ?_)
  · refine zN<|zT<|zt rfl<|zS<|zR<|zq 1 rfl<|zN<|zT<|zU<|zL<|ret1 Tryz.results75 ?_
    have h0 : xs = [] := by cases xs with | nil => rfl | cons x l => exact absurd (by subst h1_1; exact row_none hb) (by simp)
    subst h0
    obtain rfl : n = 0 := hl.symm
    exact ⟨none, 0, rfl, Nat.le_refl _, hS.nilRow⟩
  refine zN<|zT<|zf rfl<|zK<|zT<|zS<|zR<|zX (x_lit (vs := []) hS ti48.und ti3 rfl rfl rfl one_nil (by decide)) ?_; rintro _ w1 ⟨b5, rfl, hS2⟩
  have hS3 := St.toRow (l1 := []) (sz := 1) (n := 0) (cap := 0) hS2 (Nat.le_refl _) (by decide) rfl
  simp only [List.nil_append, Nat.zero_mul, List.take_zero] at hS3
  refine zq 1 rfl<|zX (x_append [] hS3 ti48.und ti3 rfl (by decide) rfl rfl (hb.st hS3) Ln (one_map xs fun _ => rfl) Om Om _ rfl) ?_; rintro _ w4 ⟨aq6, cq6, rfl, hcq6, hS5⟩; simp only [ca, na] at hS5; refine zq 1 rfl<|zN<|zT<|zU<|ret1 Tryz.results75 ?_
  rw [Nat.zero_add] at *
  exact ⟨_, _, rfl, hcq6, hS5⟩

theorem set_1 (r : RuleD) (a : Option Addr) (c : Nat) : r.v.set 1 (.slice a r.ro.length c) = (r.at a r.aa r.la c r.ak r.lc).v := rfl
theorem set_2 (r : RuleD) (a b : Option Addr) (c d : Nat) : (r.at b r.aa r.la d r.ak r.lc).v.set 2 (.slice a r.acs.length c) = (r.at b a r.la d c r.lc).v := rfl
theorem set_3 (r : RuleD) (a b e : Option Addr) (c d f : Nat) : (r.at b e r.la d f r.lc).v.set 3 (.slice a r.las.length c) = (r.at b e a d f c).v := rfl

set_option maxHeartbeats 1000000 in
theorem cloneRule_ok (r : RuleD) (w : World) (hg : RuleAt w r) (he : ruleE r = 0) :
    Ret Tryz.prog 41 [.agg r.v.toArray] w (fun v w' => ∃ (a1 a2 a3 : Option Addr) (c1 c2 c3 : Nat), v = .agg (r.at a1 a2 a3 c1 c2 c3).v.toArray ∧ r.ro.length ≤ c1 ∧ r.acs.length ≤ c2 ∧ r.las.length ≤ c3 ∧ St w [] w' [.row (.slice a1 r.ro.length c1) 9 1 r.ro.length ((r.ro).map sv), .row (.slice a2 r.acs.length c2) 3 1 r.acs.length ((r.acs).map iv), .row (.slice a3 r.las.length c3) 9 1 r.las.length ((r.las).map sv)]) := by
  have hln := rule_lens he
  refine enter Tryz.func41 rfl Tryz.ntmps41 rfl ?_
  have hS := St.refl w []
  refine zS<|zR<|zB (v := .agg _) hS rfl rfl fun b1 w1 hS2=>zA (C := [.bool false, .slice none 0 0, .slice none 0 0, .slice none 0 0, .int .i64 0, .int .i64 0, .int .i64 0, .string ⟨#[]⟩]) hS2 ti50 rfl fun b2 w3 hS4=>zN<|zT<|zS<|c_drawS 10 hMixed hS4 ?_; intro w5 hS6; refine zG 0 rfl hS6 (fun wF hF => r_field fa50_1 rfl) ?_; refine zG 1 rfl hS6 (fun wF hF => r_loadB1 ti36.und rfl rfl (hF.heap Z1) rfl) ?_; refine zG 3 rfl hS6 (fun wF hF => r_field fa50_2 rfl) ?_; refine zG 4 rfl hS6 (fun wF hF => r_loadB1 ti48.und rfl rfl (hF.heap Z1) rfl) ?_; refine zG 6 rfl hS6 (fun wF hF => r_field fa50_3 rfl) ?_; refine zG 7 rfl hS6 (fun wF hF => r_loadB1 ti36.und rfl rfl (hF.heap Z1) rfl) ?_; refine zG1 2 ?_; refine o_call rfl (r_call fn25 rfl rfl) rfl (cloneS_ok r.ro r.ra r.ro.length r.rc _ (hg.h1.st hS6) rfl Om) ?_; rintro _ w7 ⟨a1, c1, rfl, hc1, hx8⟩
  have hS9 := hS6.call hx8
  simp only [ca, na] at hS9
  refine ⟨hS9.drop1, ?_⟩
  refine zG 9 rfl hS9.drop1 (fun wF hF => r_field fa50_1 rfl) ?_; refine zG1 5 ?_; refine o_call rfl (r_call fn75 rfl rfl) rfl (cloneI_ok r.acs r.aa r.acs.length r.ak _ (hg.h2.st hS9) rfl Om) ?_; rintro _ w10 ⟨a2, c2, rfl, hc2, hx11⟩
  have hS12 := hS9.call hx11
  simp only [ca, na] at hS12
  refine ⟨hS12.drop1.drop1, ?_⟩
  refine zG1 8 ?_; refine o_call rfl (r_call fn25 rfl rfl) rfl (cloneS_ok r.las r.la r.las.length r.lc _ (hg.h3.st hS12) rfl Om) ?_; rintro _ w13 ⟨a3, c3, rfl, hc3, hx14⟩
  have hS15 := hS12.call hx14
  simp only [ca, na] at hS15
  refine ⟨hS15.drop1.drop1.drop1, ?_⟩
  refine zGT rfl ?_; refine zY (x_store1 (o := 1) (v := .slice a1 r.ro.length c1) [_, _, _, _] hS15 ti36 rfl rfl rfl (by rw [rule_v8]; decide)) ?_; intro w16 hS17; simp only [ca, na] at hS17
  rw [set_1] at hS17
  refine zV (r_field fa50_2 rfl)<|zY (x_store1 (o := 2) (v := .slice a2 r.acs.length c2) [_, _, _, _] hS17 ti48 rfl rfl rfl (by rw [rule_v8]; decide)) ?_; intro w18 hS19; simp only [ca, na] at hS19
  rw [set_2] at hS19
  refine zV (r_field fa50_3 rfl)<|zY (x_store1 (o := 3) (v := .slice a3 r.las.length c3) [_, _, _, _] hS19 ti36 rfl rfl rfl (by rw [rule_v8]; decide)) ?_; intro w20 hS21; simp only [ca, na] at hS21
  rw [set_3] at hS21
  refine zN<|zT<|zS<|zR<|zV (r_loadB ti50 ag50 rfl (hS21.heap Z4) rfl)<|zY (x_storeW [_, _, _] hS21 ti50 rfl rfl rfl rfl (one_rule _)) ?_; intro w22 hS23; simp only [ca, na] at hS23; refine zN<|zT<|zU<|retc Tryz.results41 ⟨_, rfl, run_loadVar_blk ti50 ag50 (hS23.heap Z3) rfl⟩ ?_
  exact ⟨a1, a2, a3, c1, c2, c3, rfl, hc1, hc2, hc3, (hS23.perm ((List.Perm.cons _ ((List.Perm.cons _ ((List.Perm.cons _ ((List.Perm.cons _ (List.Perm.refl _)).trans (List.perm_middle (l₁ := [_])).symm)).trans (List.perm_middle (l₁ := [_, _])).symm)).trans (List.perm_middle (l₁ := [_, _, _])).symm)).trans (List.perm_middle (l₁ := [_, _, _])).symm)).drop1.drop1⟩

theorem deleteR_ok (l : List RuleD) (D : List Value) (g n c i : Nat) (w : World) (hb : w.heap[g]? = some (cl (l.flatMap RuleD.v ++ D) 50)) (hl : l.length = n) (hi : i < n) (hnc : n ≤ c) (hn : n ≤ 1000) (hC : (l.flatMap RuleD.v ++ D).length = c * 8) :
    Ret Tryz.prog 42 [.slice (some ⟨g, 0, none⟩) n c, vi i, vi (i + 1)] w (fun v w' => ∃ D', v = .slice (some ⟨g, 0, none⟩) (n - 1) c ∧ ((l.eraseIdx i).flatMap RuleD.v ++ D').length = c * 8 ∧ St w [g] w' [.blk g (cl ((l.eraseIdx i).flatMap RuleD.v ++ D') 50)]) := by
  refine enter Tryz.func42 rfl Tryz.ntmps42 rfl ?_
  have hS : St w [g] w [.blk g (cl ((l).flatMap RuleD.v ++ D) 50)] := St.own hb
  refine zS<|zR<|zq 1 rfl<|zN<|zT<|zS<|zR<|zq 4 rfl<|zV (r_len (T := 22) rfl ti22.und rfl _ rfl)<|zV (r_sl_lhm (l := i) (h := i + 1) (m := n) ti22.und ti50 rfl rfl rfl rfl Om Om Om)<|zN<|zT<|zS<|zS<|zR<|zq 2 rfl<|wl_dec_f (r_eql rfl rfl) rfl Om<|zN<|zT<|zf rfl<|zK<|zT<|zS<|zR ?_; refine zq 1 rfl<|zV (r_len (T := 22) rfl ti22.und rfl _ rfl)<|zq 1 rfl<|zN<|zT<|zS<|c_drawSF 6 hMixed hS hS.drop1 ?_; intro w1 hS2; refine zG 0 rfl hS2.drop1 (fun wF hF => r_move (v := .slice _ _ _) rfl) ?_; refine zG 1 rfl hS2.drop1 (fun wF hF => r_move (v := .int .i64 _) rfl) ?_; refine zG 2 rfl hS2.drop1 (fun wF hF => r_sl_h ti22.und ti50 rfl rfl Om) ?_; refine zG 3 rfl hS2.drop1 (fun wF hF => r_move (v := .slice _ _ _) rfl) ?_; refine zG 4 rfl hS2.drop1 (fun wF hF => r_move (v := .int .i64 _) rfl) ?_; refine zG 5 rfl hS2.drop1 (fun wF hF => r_sl_l ti22.und ti50 rfl rfl Om) ?_; refine zGT rfl ?_; refine zX (x_appendIn (n := i) (m := n - (i + 1)) [] hS2 ti22.und ti50 (by decide) rfl rfl (Row.from8 (Row.ahead (hS2.heap Z0)) Om (i + 1)) (by rw [rflat_len, List.length_drop, hl]) (one_flat _) Om hC _ rfl) ?_; rintro _ w3 ⟨rfl, hS4⟩; simp only [ca, na] at hS4
  obtain ⟨D1, hD1, hD1l⟩ := splice_rule (D := D) (l := l) (i := i) Om
  rw [hD1] at hS4
  refine zq 1 rfl<|zN<|zT<|zS<|zR<|zq 2 rfl<|zV (r_len (T := 22) rfl ti22.und rfl _ rfl)<|zq 1 rfl<|zV (r_slZ2 (m := i + (n - (i + 1))) (h' := n) ti22.und ti50 rfl rfl rfl Om Om Om)<|zX (x_clearW (T := 22) (n := n - (i + (n - (i + 1)))) (c := c - (i + (n - (i + 1)))) (o := (i + (n - (i + 1))) * 8) (sz := 8) (X := (l.eraseIdx i).flatMap RuleD.v) (Y := D1) [] hS4 rfl ti22.und ti50 (one_rule default) rfl rfl (by rw [rflat_len, List.length_eraseIdx_of_lt Om, hl]; omega) Om _ rfl) ?_; rintro _ w5 ⟨rfl, D', hD', hS6⟩; simp only [ca, na] at hS6; refine zN<|zT<|zS<|zR<|zq 2 rfl<|zN<|zT<|zU<|ret1 Tryz.results42 ?_
  exact ⟨_, congrArg (fun z => Value.slice (some ⟨g, 0, none⟩) z c) Om, by rw [List.length_append, rflat_len, hl] at hC; rw [List.length_append, hD', hD1l, rflat_len, List.length_eraseIdx_of_lt Om, hl]; omega, hS6⟩

theorem deleteRow_ok (l : List RuleD) (a : Option Addr) (n c i : Nat) (w : World) (hS : w.ownsRow 0 50 8 (.slice a n c) n (l.flatMap RuleD.v)) (hl : l.length = n) (hi : i < n) (hn : n ≤ 1000) :
    Ret Tryz.prog 42 [.slice a n c, vi i, vi (i + 1)] w (fun v w' => v = .slice a (l.eraseIdx i).length c ∧ St w (Value.slice a n c).ownBlock.toList w' [.row (.slice a (l.eraseIdx i).length c) 50 8 (l.eraseIdx i).length ((l.eraseIdx i).flatMap RuleD.v)]) := by
  rw [List.length_eraseIdx_of_lt (by omega), hl]
  obtain ⟨hlen, ⟨_, h⟩ | ⟨g, cap, cur, hv, hbase, hb, h1, h2, h3, h4⟩⟩ := id hS
  · omega
  · simp only [Value.slice.injEq] at hv
    obtain ⟨rfl, _, rfl⟩ := hv
    have hcur : l.flatMap RuleD.v ++ cur.toList.drop (n * 8) = cur.toList := by rw [← h4, List.take_append_drop]
    have hC : (l.flatMap RuleD.v ++ cur.toList.drop (n * 8)).length = c * 8 := by rw [hcur]; simpa using h3
    have hb' : w.heap[g]? = some (cl (l.flatMap RuleD.v ++ cur.toList.drop (n * 8)) 50) := by rw [hcur]; simpa using hb
    refine (deleteR_ok l _ g n c i w hb' hl hi h1 hn hC).mono fun v w' ⟨D', hv, hD, hS'⟩ => ⟨hv, ?_⟩
    have hT := St.toRow (l1 := []) (l2 := []) (sz := 8) (n := n - 1) (cap := c) hS' (by omega) h2 hD
    rw [List.take_left' (by rw [rflat_len, List.length_eraseIdx_of_lt (by omega), hl])] at hT
    exact hT

end Go.Proofs.YtmonnmndphlkaaaGreat
end
section
namespace Go.Proofs.YtmonnmndphlkaaaGreat
open Go.Kw
set_option linter.unusedVariables false
set_option linter.unusedSimpArgs false
set_option maxRecDepth 100000
theorem Trim_ok_c0 {p : Prop} (h : p := by exact ⟨m + 1, _, Nat.lt_succ_self _, rfl, ⟨m, _, false, lt, rfl, rfl, rfl, hF.drop1, .inl ⟨rfl, rfl, rfl, by omega, no_go hno (by first | (rw [hkd]; exact go_no3 (Classical.not_not.1 h17_4)) | (rw [hkd]; exact go_0))⟩⟩, ⟨rfl, rfl, rfl, rfl, trivial⟩⟩) : p := h
theorem Trim_ok_c1 {p : Prop} (h : p := by exact ⟨(lt.eraseIdx m).length + 1, _, (by show (lt.eraseIdx m).length + 1 < lt.length + 1; have := last_lt hlk; rw [List.length_eraseIdx_of_lt this]; omega), rfl, ⟨true, aP, cP, lt.eraseIdx m, rfl, rfl, hF, by have := last_lt hlk; rw [List.length_eraseIdx_of_lt this]; omega, hT2.erase, fun t ht => htr t (trim_step hlk ht), fun h => by cases h⟩, ⟨rfl, rfl, rfl, rfl, trivial⟩⟩) : p := h
set_option maxHeartbeats 4000000 in
theorem Trim_ok (rs : List RuleD) (pa : Option Addr) (pc : Nat) (w : World) (hrs : Row w pa (rs.flatMap RuleD.v)) (hall : ∀ r ∈ rs, RuleAt w r) (h6 : rs.length ≤ 6) :
    Ret Tryz.prog 18 [.agg #[.slice pa rs.length pc]] w (fun v w' => (¬ polE rs = 0 ∧ v = .tuple #[.agg #[.slice none 0 0], .int .i64 (polE rs)] ∧ St w [] w' []) ∨ ((polE rs = 0 ∧ 100000 < wTot rs) ∧ v = .tuple #[.agg #[.slice none 0 0], vi 5] ∧ St w [] w' []) ∨ ((polE rs = 0 ∧ wTot rs ≤ 100000) ∧ ∃ (ls : List RuleD) (a : Option Addr) (c : Nat) (LT : List Kw.Item), ls.length ≤ 6 ∧ RulesT LT ls ∧ TrimR (worldBs rs) (rs.map nrm) (ls.map nrm) ∧ v = .tuple #[.agg #[.slice a ls.length c], vi 0] ∧ St w [] w' (.row (.slice a ls.length c) 50 8 ls.length ((ls).flatMap RuleD.v) :: LT))) := by
  refine enter Tryz.func18 rfl Tryz.ntmps18 rfl ?_
  have hS := St.refl w []
  refine zS<|zR<|zB (v := .agg _) hS rfl rfl fun b1 w1 hS2=>zA (C := [.slice none 0 0]) hS2 ti24 rfl fun b2 w3 hS4=>zq 1 rfl<|zN<|zT<|zS<|zR<|zV (r_loadB ti24 ag24 rfl (hS4.heap Z1) Ln) ?_; refine zC fn24 rfl (worldOf_ok rs pa rs.length pc _ (hrs.st hS4) rfl Om (fun r hr => (hall r hr).st hS4)) ?_
  rintro _ w5 (⟨hp, rfl, hx6⟩ | ⟨hp, rfl, hx6⟩ | ⟨hp, qs, aQ, cQ, LT, hA, hb, hrc, rfl, hcQ, hx6⟩)
  · have hS7 := hS4.ext hx6
    refine zq 5 rfl<|zN<|zT<|zS<|zS<|zR<|zq 1 rfl<|wl_dec_t (r_neq rfl rfl) rfl hp<|zN<|zT<|zt rfl<|zS<|zR<|zV (r_buildZ pl24 ti24)<|zq 1 rfl ?_; refine wl_exs (x_storeW [] hS7 ti24 rfl rfl Ln Ln On) rfl ?_; intro w8 hS9; simp only [ca, na] at hS9; refine zq 1 rfl<|zN<|zT<|zU<|zL<|ret2 Tryz.results18 ⟨_, rfl, run_loadVar_blk ti24 ag24 (hS9.heap Z0) Ln⟩ rfl ?_
    first | exact .inl ⟨hp, rfl, hS9.fin⟩ | exact .inr (.inl ⟨hp, rfl, hS9.fin⟩)
  · have hS7 := hS4.ext hx6
    refine zq 5 rfl<|zN<|zT<|zS<|zS<|zR<|zq 1 rfl<|wl_dec_t (r_neq rfl rfl) rfl (by decide)<|zN<|zT<|zt rfl<|zS<|zR<|zV (r_buildZ pl24 ti24)<|zq 1 rfl ?_; refine wl_exs (x_storeW [] hS7 ti24 rfl rfl Ln Ln On) rfl ?_; intro w10 hS11; simp only [ca, na] at hS11; refine zq 1 rfl<|zN<|zT<|zU<|zL<|ret2 Tryz.results18 ⟨_, rfl, run_loadVar_blk ti24 ag24 (hS11.heap Z0) Ln⟩ rfl ?_
    first | exact .inl ⟨hp, rfl, hS11.fin⟩ | exact .inr (.inl ⟨hp, rfl, hS11.fin⟩)
  have hS7 := St.callT (X := [_]) (LT := LT) hS4 hx6
  simp only [ca, na] at hS7; refine zq 5 rfl<|zN<|zT<|zS<|zS<|zR<|zq 1 rfl<|wl_dec_f (r_neq rfl rfl) rfl (by decide)<|zN<|zT<|zf rfl<|zK<|zT<|zS ?_
  have hw := wok_of hall (polE_zero hp.1).2 (polE_zero hp.1).1 hb hrc
  have hql : qs.length ≤ 100000 := by have := asks_len hb; have := hp.2; unfold wTot at this; omega
  have hb : qs.map WA.b = (worldBs rs) := hb
  refine zR<|zV (r_buildZ pl24 ti24)<|zA (C := [.slice none 0 0]) hS7 ti24 rfl fun b6 w12 hS13=> ?_; refine wl_exs (x_storeW [] hS13 ti24 rfl rfl Ln Ln On) rfl ?_; intro w14 hS15; simp only [ca, na] at hS15; refine zN<|zT<|zS<|zS<|zR<|zF fa24_0 rfl ti22.und rfl (hS15.heap Z3) rfl rfl rfl<|zV (r_len (T := 22) rfl ti22.und rfl _ rfl)<|zq 1 rfl<|zN<|zT<|zI ?_
  refine c_loopE [2, 3, 4, 6, 24, 25] (fun d e w' => ∃ (k : Nat) (aO : Option Addr) (cO : Nat) (ls : List RuleD) (LT2 : List Kw.Item), Kw.look e 26 = vi k ∧ d = rs.length - k ∧ St w [] w' (.row (.slice aO ls.length cO) 50 8 ls.length ((ls).flatMap RuleD.v) :: .blk b6 (cl [.slice aO ls.length cO] 24) :: .row (.slice aQ qs.length cQ) 40 68 qs.length (qs.flatMap WA.v) :: .blk b2 (cl [.slice none 0 0] 24) :: .blk b1 (cl [.slice pa rs.length pc] 24) :: LT2) ∧ (k ≤ rs.length) ∧ (ls.length = k) ∧ (ls.map nrm = (rs.take k).map nrm) ∧ (RulesT LT2 ls) ∧ (AsksT LT2 qs)) (rs.length - 0) ?_ ?_
  · have hS99 := St.nilRow (E := 50) (sz := 8) hS15
    exact ⟨0, none, 0, [], LT, rfl, rfl, hS99, Nat.zero_le _, rfl, rfl, RulesT.nil, hA⟩
  · rintro d19 e16 w17 ⟨k, aO, cO, ls, LT2, hc0_26, rfl, hS18, hk, hlk, hmap, hT, hA2⟩ -
    refine c_set (d := 26) hc0_26<|zS<|zR ?_
    refine wl_dec (r_lss rfl rfl) rfl (fun h6_0 => ?_) (fun h6_0 => ?_)
    · refine zN<|zT<|zS<|zt rfl<|zK<|zT<|zS<|zI<|zS ?_
      have hgk := hall (gt rs k) (gt_mem rs k Om)
      have hge := (polE_zero hp.1).2 _ (gt_mem rs k Om)
      refine zR<|zV (r_ixF rule_v8 ti22.und ti50 rfl rfl (hrs.st hS18) Ln Sd (by decide)) ?_; refine zV (r_loadF rule_v8 ti50 ag50 rfl (hrs.st hS18) Sd (by decide)) ?_; refine zA (C := [.bool false, .slice none 0 0, .slice none 0 0, .slice none 0 0, .int .i64 0, .int .i64 0, .int .i64 0, .string ⟨#[]⟩]) hS18 ti50 rfl fun bb8 w20 hS21=>zY (x_storeW [] hS21 ti50 rfl rfl rfl rfl (one_rule _)) ?_; intro w22 hS23; simp only [ca, na] at hS23; refine zN<|zT<|c_drawS 5 hMixed hS23 ?_; intro w24 hS25; refine zG 0 rfl hS25 (fun wF hF => r_field fa24_0 rfl) ?_; refine zG 1 rfl hS25 (fun wF hF => r_loadB1 ti22.und rfl rfl (hF.heap Z2) rfl) ?_; refine zG 2 rfl hS25 (fun wF hF => r_loadB ti50 ag50 rfl (hF.heap Z0) rfl) ?_; refine zG1 3 ?_; refine o_call rfl (r_call fn41 rfl rfl) rfl (cloneRule_ok (gt rs k) _ (hgk.st hS25) hge) ?_; rintro _ w26 ⟨a1, a2, a3, c1, c2, c3, rfl, hc1, hc2, hc3, hx27⟩
      have hS28 := hS25.call hx27
      simp only [ca, na] at hS28
      refine ⟨hS28.drop1.drop1.drop1, ?_⟩
      refine zG1 4 ?_; refine o_exv rfl (x_litA1 hS28 ti22.und ti50 rfl (rule_v8 _) rfl (by decide) (by decide)) rfl ?_; rintro _ w29 ⟨b34, rfl, hS30⟩
      refine ⟨hS30.drop1.drop1.drop1.drop1, ?_⟩
      refine zGT rfl ?_; refine zX (x_append [_, _, _, _, _] hS30 ti22.und ti50 rfl (by decide) rfl rfl (Row.of_at (at_all (hS30.heap Z0))) (rule_v8 _) (one_rule _) Sd Sd _ rfl) ?_; rintro _ w31 ⟨aq33, cq33, rfl, hcq33, hS32⟩; simp only [ca, na] at hS32; refine zV (r_field fa24_0 rfl)<|zY (x_store1 [_, _, _, _, _, _] hS32 ti22 rfl rfl rfl (by simp)) ?_; intro w34 hS35; simp only [ca, na] at hS35; refine zN<|zJ<|zT<|zR<|zV (r_addn (b := 1) rfl rfl Om)<|zq 1 rfl<|zN<|zT ?_
      have el : (ls ++ [((gt rs k).at a1 a2 a3 c1 c2 c3)]).length = ls.length + 1 := by rw [List.length_append]; rfl
      have hS36 := St.reRow1 (k := (ls ++ [((gt rs k).at a1 a2 a3 c1 c2 c3)]).length) (zs := (ls ++ [((gt rs k).at a1 a2 a3 c1 c2 c3)]).flatMap RuleD.v) (hS35.perm (List.Perm.cons _ ((List.Perm.cons _ ((List.Perm.cons _ ((List.Perm.cons _ ((List.Perm.cons _ ((List.Perm.cons _ ((List.Perm.cons _ (List.Perm.refl _)).trans (List.perm_middle (l₁ := [_, _, _])).symm)).trans (List.perm_middle (l₁ := [_, _, _])).symm)).trans (List.perm_middle (l₁ := [_, _, _])).symm)).trans (List.perm_middle (l₁ := [_, _, _])).symm)).trans (List.perm_middle (l₁ := [_, _, _])).symm)).trans (List.perm_middle (l₁ := [_, _, _])).symm))).drop1.drop1 el (by rw [List.flatMap_append]; simp)
      rw [← el] at hS36
      exact ⟨rs.length - (k + 1), _, by omega, rfl, ⟨k + 1, _, _, _, _, rfl, rfl, hS36, by omega, by rw [el, hlk], nrm_snoc Om hmap (nrm_at _ _ _ _ _ _ _), hT.add (hgk.ok.at hc1 hc2 hc3), hA2.more (fun x hx => by simp [hx])⟩, ⟨rfl, rfl, rfl, rfl, rfl, rfl, trivial⟩⟩
    refine zN<|zT<|zS<|zf rfl<|zO<|zM<|zM<|c_inE<|zT<|zS<|zS ?_
    obtain rfl : k = rs.length := by omega
    rw [List.take_length] at hmap
    refine zR<|zq 1 rfl<|zN<|zT<|zI ?_
    refine c_loopE [2, 3, 4, 6] (fun d e w' => ∃ (sh : Bool) (aP : Option Addr) (cP : Nat) (lt : List RuleD), Kw.look e 9 = .bool sh ∧ d = cond sh (lt.length + 1) 0 ∧ St w [] w' (.row (.slice aP lt.length cP) 50 8 lt.length ((lt).flatMap RuleD.v) :: .blk b6 (cl [.slice aP lt.length cP] 24) :: .row (.slice aQ qs.length cQ) 40 68 qs.length (qs.flatMap WA.v) :: .blk b2 (cl [.slice none 0 0] 24) :: .blk b1 (cl [.slice pa rs.length pc] 24) :: LT2) ∧ (lt.length ≤ 6) ∧ (RulesT LT2 lt) ∧ (∀ t, TrimR (worldBs rs) (lt.map nrm) t → TrimR (worldBs rs) (rs.map nrm) t) ∧ (sh = false → LastK lt (worldBs rs) lt.length (-1))) (ls.length + 1) ?_ ?_
    · exact ⟨true, aO, cO, ls, rfl, rfl, hS18, by omega, hT, fun t ht => by rw [← hmap]; exact ht, fun h => by cases h⟩
    · rintro d40 e37 w38 ⟨sh, aP, cP, lt, hc1_9, rfl, hS39, hle, hT2, htr, hsh⟩ -
      refine c_set (d := 9) hc1_9<|zS<|zS ?_
      rcases bool_cases sh with rfl | rfl
      · refine zR<|zq 1 rfl<|zN<|zT<|zt rfl<|zK<|zT<|zI<|zS<|zR<|zq 1 rfl<|zN<|zT<|zS<|zR<|zF fa24_0 rfl ti22.und rfl (hS39.heap Z1) rfl rfl rfl<|zV (r_len (T := 22) rfl ti22.und rfl _ rfl)<|zV (r_subi rfl rfl Om Om)<|zq 1 rfl<|zN<|zT<|zI ?_
        refine c_loopE [2, 3, 4, 6] (fun d e w' => ∃ (j : Nat) (z : Int) (s2 : Bool) (l2 : List RuleD), Kw.look e 10 = .int .i64 z ∧ Kw.look e 9 = .bool s2 ∧ d = cond s2 0 (j + 1) ∧ St w [] w' (.row (.slice aP l2.length cP) 50 8 l2.length ((l2).flatMap RuleD.v) :: .blk b6 (cl [.slice aP l2.length cP] 24) :: .row (.slice aQ qs.length cQ) 40 68 qs.length (qs.flatMap WA.v) :: .blk b2 (cl [.slice none 0 0] 24) :: .blk b1 (cl [.slice pa rs.length pc] 24) :: LT2) ∧ ((s2 = false ∧ lt = l2 ∧ z = (j : Int) - 1 ∧ j ≤ lt.length ∧ ∀ i, j ≤ i → i < lt.length → ¬ goW (kindW lt (worldBs rs) i)) ∨ (s2 = true ∧ ∃ m : Nat, LastK lt (worldBs rs) lt.length (m : Int) ∧ l2 = lt.eraseIdx m))) (lt.length + 1) ?_ ?_
        · exact ⟨lt.length, _, false, lt, rfl, rfl, rfl, hS39, .inl ⟨rfl, rfl, rfl, Nat.le_refl _, fun i h1 h2 => absurd h2 Om⟩⟩
        · rintro d44 e41 w42 ⟨j, z, s2, l2, hc2_10, hc2_9, rfl, hS43, hin⟩ -
          refine c_set (d := 10) hc2_10<|c_set (d := 9) hc2_9<|zS<|zS ?_
          rcases hin with ⟨rfl, rfl, rfl, hjl, hno⟩ | ⟨rfl, m, hlk, rfl⟩
          · refine zR<|zq 1 rfl ?_
            refine wl_dec (r_geq rfl rfl) rfl (fun h14_1 => ?_) (fun h14_1 => ?_)
            · refine zq 4 rfl<|zN<|zT<|zt rfl<|zK<|zT<|zS<|zI<|zS ?_
              obtain ⟨m, rfl⟩ : ∃ m, j = m + 1 := ⟨j - 1, by omega⟩
              refine c_set (d := 10) (v := vi m) (congrArg (Value.int .i64) Om)<|zR<|zV (r_loadB ti24 ag24 rfl (hS43.heap Z1) Ln) ?_; refine zq 2 rfl<|zC fn40 rfl (warning_ok lt aP cP qs aQ cQ (worldBs rs) m _ (St.rowAt hS43 Z0) Om (hT2 _ (hS43.hold fun x hx => by simp [hx])) (St.rowAt hS43 Z2) (hA2 _ (hS43.hold fun x hx => by simp [hx])) hw hb hql Om) ?_
              rintro _ w45 (⟨kd, hk0, hkd, rfl, hx46⟩ | ⟨hkd, rfl, hx46⟩)
              · have hS47 := hS43.ext hx46
                refine zq 3 rfl<|zA (C := [.int .i64 0, .int .i64 0, .int .i64 0]) hS47 ti62 rfl fun b11 w48 hS49=>zY (x_storeW [] hS49 ti62 rfl rfl (by first | rfl | exact wv_3 _) rfl (by first | exact one_wv _ | exact one_w0)) ?_; intro w50 hS51; simp only [ca, na] at hS51; refine zq 1 rfl<|zN<|zT<|zS<|zR<|zq 2 rfl<|wl_val (r_field fa62_1 rfl) rfl<|wl_val (r_loadB1 ti3.und rfl rfl (hS51.heap Z0) rfl) rfl ?_
                refine wl_dec (r_neq rfl rfl) rfl (fun h17_4 => ?_) (fun h17_4 => ?_)
                · refine zq 1 rfl<|zN<|zT<|zt rfl<|zS<|zR<|zF fa24_0 rfl ti22.und rfl (hS51.heap Z2) rfl rfl rfl<|zq 2 rfl<|zV (r_addn (b := 1) rfl rfl Om) ?_
                  have hownhS54 := (St.get (hS51.perm ((List.Perm.cons _ (List.Perm.refl _)).trans (List.perm_middle (l₁ := [_])).symm)) Z0).1
                  refine zC fn42 rfl (deleteRow_ok lt _ _ _ m _ hownhS54 rfl Om Om) ?_; rintro _ w52 ⟨rfl, hx53⟩
                  have hS54 := St.callM (X := [_]) (L := (_ :: _ :: _ :: _ :: _ :: LT2)) (hS51.perm ((List.Perm.cons _ (List.Perm.refl _)).trans (List.perm_middle (l₁ := [_])).symm)) hx53 (fun k hk => ⟨_, List.mem_singleton.2 rfl, by simpa [Item.id] using hk⟩)
                  simp only [ca, na] at hS54; refine zV (r_field fa24_0 rfl)<|zY (x_store1 [_, _] hS54 ti22 rfl rfl rfl (by simp)) ?_; intro w55 hS56; simp only [ca, na] at hS56; refine zN<|zT<|zR<|zq 1 rfl<|zN<|zJ<|zT<|zR<|zq 1 rfl<|zV (r_subi rfl rfl Om Om)<|zq 1 rfl<|zN<|zT ?_
                  exact ⟨0, _, Nat.succ_pos _, rfl, ⟨0, _, true, lt.eraseIdx m, rfl, rfl, rfl, (hS56.perm ((List.Perm.cons _ (List.Perm.refl _)).trans (List.perm_middle (l₁ := [_])).symm)).drop1, .inr ⟨rfl, m, .inr ⟨m, rfl, by omega, (by rw [hkd]; exact go_of hk0 (by rw [← hkd]; exact kind_le _ _ _) h17_4), fun i h1 h2 => hno i Om h2⟩, rfl⟩⟩, ⟨rfl, rfl, rfl, rfl, trivial⟩⟩
                refine zq 1 rfl<|zN<|zT<|zf rfl<|zK<|zJ<|zT<|zR<|zq 1 rfl<|zV (r_subi rfl rfl Om Om)<|zq 1 rfl<|zN<|zT ?_
                have hF := hS51; exact Trim_ok_c0
              have hS47 := hS43.ext hx46; refine zq 3 rfl<|zA (C := [.int .i64 0, .int .i64 0, .int .i64 0]) hS47 ti62 rfl fun b11 w57 hS58=>zY (x_storeW [] hS58 ti62 rfl rfl (by first | rfl | exact wv_3 _) rfl (by first | exact one_wv _ | exact one_w0)) ?_; intro w59 hS60; simp only [ca, na] at hS60; refine zq 1 rfl<|zN<|zT<|zS<|zR<|zq 6 rfl<|zN<|zT<|zf rfl<|zK<|zJ<|zT<|zR<|zq 1 rfl<|zV (r_subi rfl rfl Om Om)<|zq 1 rfl<|zN<|zT ?_
              have hF := hS60; exact Trim_ok_c0
            refine zq 4 rfl<|zN<|zT<|zf rfl<|zO<|zM<|zM<|c_inE<|zJ<|zT ?_
            exact ⟨0, _, Nat.succ_pos _, rfl, ⟨false, aP, cP, lt, rfl, rfl, hS43, hle, hT2, htr, fun _ => last_none (fun i _ h2 => hno i Om h2)⟩, ⟨rfl, rfl, rfl, rfl, trivial⟩⟩
          refine zR<|zq 1 rfl ?_
          refine wl_dec (r_geq rfl rfl) rfl (fun h14_1 => ?_) (fun h14_1 => ?_)
          · refine zq 4 rfl<|zN<|zT<|zf rfl<|zO<|zM<|zM<|c_inE<|zJ<|zT ?_
            have hF := hS43; exact Trim_ok_c1
          refine zq 4 rfl<|zN<|zT<|zf rfl<|zO<|zM<|zM<|c_inE<|zJ<|zT ?_
          have hF := hS43; exact Trim_ok_c1
      refine zR<|zq 1 rfl<|zN<|zT<|zf rfl<|zO<|zM<|zM<|c_inE<|zT<|zS<|zR<|zV (r_loadB ti24 ag24 rfl (hS39.heap Z1) Ln) ?_; refine wl_exs (x_storeW [_, _, _] hS39 ti24 rfl rfl Ln Ln On) rfl ?_; intro w61 hS62; simp only [ca, na] at hS62; refine zq 1 rfl<|zN<|zT<|zU<|ret2 Tryz.results18 ⟨_, rfl, run_loadVar_blk ti24 ag24 (hS62.heap Z3) Ln⟩ rfl ?_
      exact .inr (.inr ⟨hp, lt, aP, cP, LT2, by omega, hT2, htr _ (trim_done (hsh rfl)), rfl, (hS62.perm ((List.Perm.cons _ ((List.Perm.cons _ ((List.Perm.cons _ ((List.Perm.cons _ (List.Perm.refl _)).trans (List.perm_middle (l₁ := [_])).symm)).trans (List.perm_middle (l₁ := [_])).symm)).trans (List.perm_middle (l₁ := [_])).symm)).trans (List.perm_middle (l₁ := [_])).symm)).drop1.drop1.drop1.drop1⟩)

end Go.Proofs.YtmonnmndphlkaaaGreat
end
