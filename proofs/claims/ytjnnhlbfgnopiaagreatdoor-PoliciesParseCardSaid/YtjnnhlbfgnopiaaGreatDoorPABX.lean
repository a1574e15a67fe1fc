/- What the law's proof leans on. No condition. -/
import Derived.Test.YtjnnhlbfgnopiaaGreatDoorPAAH
import Derived.Test.YtjnnhlbfgnopiaaGreatDoorPABW
namespace Go.Proofs.YtjnnhlbfgnopiaaGreatDoor
open Go.Kw
set_option linter.unusedVariables false
set_option linter.unusedSimpArgs false
set_option maxRecDepth 100000
theorem eqTr_t (xs : List (List UInt8)) (a1 a2 : Option Addr) (n1 n2 c1 c2 : Nat) (w : World) (h1 : Row w a1 (xs.map sv)) (h2 : Row w a2 (xs.map sv)) (l1 : xs.length = n1) (l2 : xs.length = n2) (hn : n1 ≤ 140737488351232) :
    Ret Tryz.prog 27 [.slice a1 n1 c1, .slice a2 n2 c2] w (fun v w' => v = .bool true ∧ St w [] w' []) := by
  subst l1; subst l2
  refine enter Tryz.func27 rfl Tryz.ntmps27 rfl ?_
  have hS := St.refl w []
  refine zS<|zR<|zq 1 rfl<|zN<|zT<|zS<|zS<|zR<|zq 1 rfl<|zV (r_len (T := 42) rfl ti42.und rfl _ rfl)<|zq 1 rfl<|zV (r_len (T := 42) rfl ti42.und rfl _ rfl)<|wl_dec_f (r_neq rfl rfl) rfl Om<|zN<|zT<|zf rfl<|zK<|zT<|zS<|zS<|zR<|zq 1 rfl<|zV (r_len (T := 42) rfl ti42.und rfl _ rfl)<|zq 1 rfl<|zN ?_; refine zT<|zI ?_
  refine c_loopE [0, 1, 12] (fun d e w' => ∃ (k : Nat), Kw.look e 13 = vi k ∧ d = xs.length - k ∧ St w [] w' [] ∧ (k ≤ xs.length)) (xs.length - 0) ?_ ?_
  · exact ⟨0, rfl, rfl, hS, Nat.zero_le _⟩
  · rintro d4 e1 w2 ⟨k, hc0_13, rfl, hS3, hk⟩ -
    refine c_set (d := 13) hc0_13<|zS<|zR ?_
    refine wl_dec (r_lss rfl rfl) rfl (fun h4_0 => ?_) (fun h4_0 => ?_)
    · refine zN<|zT<|zS<|zt rfl<|zK<|zT<|zS<|zI<|zS<|zR<|zq 2 rfl<|zN<|zT<|zS<|c_drawS 8 hMixed hS3 ?_
      intro w5 hS6; refine zG 0 rfl hS6 (fun wF hF => r_move (v := .slice _ _ _) rfl) ?_; refine zG 1 rfl hS6 (fun wF hF => r_move (v := .int .i64 _) rfl) ?_; refine zG 2 rfl hS6 (fun wF hF => r_ixS ti42.und ti9 rfl rfl (h1.st hF) Om (by rw [List.length_map]; omega)) ?_; refine zG 3 rfl hS6 (fun wF hF => r_loadS1 ti9.und rfl rfl (h1.st hF) (by rw [Nat.mul_one]; exact map_gt _ _ _ Sd)) ?_; refine zG 4 rfl hS6 (fun wF hF => r_move (v := .slice _ _ _) rfl) ?_; refine zG 5 rfl hS6 (fun wF hF => r_move (v := .int .i64 _) rfl) ?_; refine zG 6 rfl hS6 (fun wF hF => r_ixS ti42.und ti9 rfl rfl (h2.st hF) Om (by rw [List.length_map]; omega)) ?_; refine zG 7 rfl hS6 (fun wF hF => r_loadS1 ti9.und rfl rfl (h2.st hF) (by rw [Nat.mul_one]; exact map_gt _ _ _ Sd)) ?_; refine zGT rfl ?_; refine wl_dec_f (r_neqStrL rfl rfl) rfl (not_not_intro rfl)<|zN<|zT<|zf rfl<|zK<|zJ<|zT<|zR<|zV (r_addn (b := 1) rfl rfl Om)<|zq 1 rfl<|zN<|zT ?_
      exact ⟨xs.length - (k + 1), _, by omega, rfl, ⟨k + 1, rfl, rfl, hS6, by omega⟩, ⟨rfl, rfl, rfl, trivial⟩⟩
    refine zN<|zT<|zS<|zf rfl<|zO<|zM<|zM<|c_inE<|zT<|zS<|zR<|zq 1 rfl<|zN<|zT<|zU<|ret1 Tryz.results27 ?_
    exact ⟨rfl, hS3.fin⟩

theorem eqIr_t (xs : List Int) (a1 a2 : Option Addr) (n1 n2 c1 c2 : Nat) (w : World) (h1 : Row w a1 (xs.map iv)) (h2 : Row w a2 (xs.map iv)) (l1 : xs.length = n1) (l2 : xs.length = n2) (hn : n1 ≤ 140737488351232) :
    Ret Tryz.prog 28 [.slice a1 n1 c1, .slice a2 n2 c2] w (fun v w' => v = .bool true ∧ St w [] w' []) := by
  refine enter Tryz.func28 rfl Tryz.ntmps28 rfl ?_
  have hS := St.refl w []
  refine zS<|zR<|zq 1 rfl<|zN<|zT<|zS<|zS<|zR<|zq 1 rfl<|zV (r_len (T := 49) rfl ti49.und rfl _ rfl)<|zq 1 rfl<|zV (r_len (T := 49) rfl ti49.und rfl _ rfl)<|wl_dec_f (r_neq rfl rfl) rfl Om<|zN<|zT<|zf rfl<|zK<|zT<|zS<|zS<|zR<|zq 1 rfl<|zV (r_len (T := 49) rfl ti49.und rfl _ rfl)<|zq 1 rfl<|zN ?_; refine zT<|zI ?_
  refine c_loopE [0, 1, 12] (fun d e w' => ∃ (k : Nat), Kw.look e 13 = vi k ∧ d = n1 - k ∧ St w [] w' [] ∧ (k ≤ n1)) (n1 - 0) ?_ ?_
  · exact ⟨0, rfl, rfl, hS, Nat.zero_le _⟩
  · rintro d4 e1 w2 ⟨k, hc0_13, rfl, hS3, hk⟩ -
    refine c_set (d := 13) hc0_13<|zS<|zR ?_
    refine wl_dec (r_lss rfl rfl) rfl (fun h4_0 => ?_) (fun h4_0 => ?_)
    · refine zN<|zT<|zS<|zt rfl<|zK<|zT<|zS<|zI<|zS<|zR<|zq 2 rfl<|zN<|zT<|zS<|c_drawS 8 hMixed hS3 ?_
      intro w5 hS6; refine zG 0 rfl hS6 (fun wF hF => r_move (v := .slice _ _ _) rfl) ?_; refine zG 1 rfl hS6 (fun wF hF => r_move (v := .int .i64 _) rfl) ?_; refine zG 2 rfl hS6 (fun wF hF => r_ixS ti49.und ti3 rfl rfl (h1.st hF) Om (by rw [List.length_map]; omega)) ?_; refine zG 3 rfl hS6 (fun wF hF => r_loadS1 ti3.und rfl rfl (h1.st hF) (by rw [Nat.mul_one]; exact map_gt _ _ _ Sd)) ?_; refine zG 4 rfl hS6 (fun wF hF => r_move (v := .slice _ _ _) rfl) ?_; refine zG 5 rfl hS6 (fun wF hF => r_move (v := .int .i64 _) rfl) ?_; refine zG 6 rfl hS6 (fun wF hF => r_ixS ti49.und ti3 rfl rfl (h2.st hF) Om (by rw [List.length_map]; omega)) ?_; refine zG 7 rfl hS6 (fun wF hF => r_loadS1 ti3.und rfl rfl (h2.st hF) (by rw [Nat.mul_one]; exact map_gt _ _ _ Sd)) ?_; refine zGT rfl ?_; refine wl_dec_f (r_neq rfl rfl) rfl (not_not_intro rfl)<|zN<|zT<|zf rfl<|zK<|zJ<|zT<|zR<|zV (r_addn (b := 1) rfl rfl Om)<|zq 1 rfl<|zN<|zT ?_
      exact ⟨n1 - (k + 1), _, by omega, rfl, ⟨k + 1, rfl, rfl, hS6, by omega⟩, ⟨rfl, rfl, rfl, trivial⟩⟩
    refine zN<|zT<|zS<|zf rfl<|zO<|zM<|zM<|c_inE<|zT<|zS<|zR<|zq 1 rfl<|zN<|zT<|zU<|ret1 Tryz.results28 ?_
    exact ⟨rfl, hS3.fin⟩

theorem map_nrmR_gt {xs ys : List RuleD} (h : xs.map nrmR = ys.map nrmR) {k : Nat} (hk : k < xs.length) : nrmR (gt xs k) = nrmR (gt ys k) := by
  have hl : xs.length = ys.length := by have := congrArg List.length h; simpa using this
  have := congrArg (fun l => l[k]?) h
  simp only [List.getElem?_map, List.getElem?_eq_getElem hk, List.getElem?_eq_getElem (hl ▸ hk), Option.map_some, Option.some.injEq] at this
  rw [gt_eq xs k hk, gt_eq ys k (hl ▸ hk)]; exact this

set_option maxHeartbeats 2000000 in
theorem sameRuleY_t (r s : RuleD) (w : World) (hr : RuleAt w r) (hs : RuleAt w s) (he : nrmR r = nrmR s) :
    Ret Tryz.prog 26 [.agg r.v.toArray, .agg s.v.toArray] w (fun v w' => v = .bool true ∧ St w [] w' []) := by
  refine enter Tryz.func26 rfl Tryz.ntmps26 rfl ?_
  have hS := St.refl w []
  refine zS<|zR<|zB (v := .agg _) hS rfl rfl fun b2 w1 hS2=>zB (v := .agg _) hS2 rfl rfl fun b3 w3 hS4=>zq 1 rfl<|zN<|zT<|zS<|zR<|zF fa51_0 rfl ti4.und rfl (hS4.heap Z1) rfl rfl rfl<|zF fa51_0 rfl ti4.und rfl (hS4.heap Z0) rfl rfl rfl<|wl_dec_t (r_eqlBool ti4.und rfl rfl) rfl (show (nrmR r).dn = (nrmR s).dn by rw [he]) ?_; refine zq 1 rfl<|wl_val (r_field fa51_1 rfl) rfl<|wl_val (r_loadB1 ti42.und rfl rfl (hS4.heap Z1) rfl) rfl<|wl_val (r_field fa51_1 rfl) rfl<|wl_val (r_loadB1 ti42.und rfl rfl (hS4.heap Z0) rfl) rfl<|zE fn27 rfl hS4 (eqTr_t r.ro _ _ _ _ _ _ _ (hr.h1.st hS4) (by rw [show r.ro = s.ro from (show (nrmR r).ro = (nrmR s).ro by rw [he])]; exact hs.h1.st hS4) rfl (by rw [show r.ro = s.ro from (show (nrmR r).ro = (nrmR s).ro by rw [he])]) hr.ok.rn) fun w5 hS7=> ?_; refine zq 2 rfl<|wl_val (r_field fa51_2 rfl) rfl<|wl_val (r_loadB1 ti49.und rfl rfl (hS7.heap Z1) rfl) rfl<|wl_val (r_field fa51_2 rfl) rfl<|wl_val (r_loadB1 ti49.und rfl rfl (hS7.heap Z0) rfl) rfl<|zE fn28 rfl hS7 (eqIr_t r.acs _ _ _ _ _ _ _ (hr.h2.st hS7) (by rw [show r.acs = s.acs from (show (nrmR r).acs = (nrmR s).acs by rw [he])]; exact hs.h2.st hS7) rfl (by rw [show r.acs = s.acs from (show (nrmR r).acs = (nrmR s).acs by rw [he])]) hr.ok.an) fun w8 hS10=> ?_; refine zq 2 rfl<|wl_val (r_field fa51_3 rfl) rfl<|wl_val (r_loadB1 ti42.und rfl rfl (hS10.heap Z1) rfl) rfl<|wl_val (r_field fa51_3 rfl) rfl<|wl_val (r_loadB1 ti42.und rfl rfl (hS10.heap Z0) rfl) rfl<|zE fn27 rfl hS10 (eqTr_t r.las _ _ _ _ _ _ _ (hr.h3.st hS10) (by rw [show r.las = s.las from (show (nrmR r).las = (nrmR s).las by rw [he])]; exact hs.h3.st hS10) rfl (by rw [show r.las = s.las from (show (nrmR r).las = (nrmR s).las by rw [he])]) hr.ok.ln) fun w11 hS13=> ?_
  refine zq 2 rfl<|wl_val (r_field fa51_4 rfl) rfl<|wl_val (r_loadB1 ti3.und rfl rfl (hS13.heap Z1) rfl) rfl<|wl_val (r_field fa51_4 rfl) rfl<|wl_val (r_loadB1 ti3.und rfl rfl (hS13.heap Z0) rfl) rfl<|wl_dec_t (r_eql rfl rfl) rfl (show (nrmR r).fr = (nrmR s).fr by rw [he]) ?_; refine zq 2 rfl<|wl_val (r_field fa51_5 rfl) rfl<|wl_val (r_loadB1 ti3.und rfl rfl (hS13.heap Z1) rfl) rfl<|wl_val (r_field fa51_5 rfl) rfl<|wl_val (r_loadB1 ti3.und rfl rfl (hS13.heap Z0) rfl) rfl<|wl_dec_t (r_eql rfl rfl) rfl (show (nrmR r).to = (nrmR s).to by rw [he]) ?_; refine zq 2 rfl<|wl_val (r_field fa51_6 rfl) rfl<|wl_val (r_loadB1 ti3.und rfl rfl (hS13.heap Z1) rfl) rfl<|wl_val (r_field fa51_6 rfl) rfl<|wl_val (r_loadB1 ti3.und rfl rfl (hS13.heap Z0) rfl) rfl<|wl_dec_t (r_eql rfl rfl) rfl (show (nrmR r).nd = (nrmR s).nd by rw [he]) ?_; refine zq 2 rfl<|wl_val (r_field fa51_7 rfl) rfl<|wl_val (r_loadB1 ti9.und rfl rfl (hS13.heap Z1) rfl) rfl<|wl_val (r_field fa51_7 rfl) rfl<|wl_val (r_loadB1 ti9.und rfl rfl (hS13.heap Z0) rfl) rfl<|wl_dec_t (r_eqlStrL rfl rfl) rfl (show (nrmR r).ofr = (nrmR s).ofr by rw [he]) ?_; refine zq 2 rfl<|zN<|zT<|zU<|ret1 Tryz.results26 ?_
  exact ⟨rfl, hS13.fin⟩

set_option maxHeartbeats 2000000 in
theorem eqRulesY_t (xs ys : List RuleD) (a1 a2 : Option Addr) (c1 c2 : Nat) (w : World) (h1 : Row w a1 (xs.flatMap RuleD.v)) (h2 : Row w a2 (ys.flatMap RuleD.v)) (hA : ∀ q ∈ xs, RuleAt w q) (hB : ∀ q ∈ ys, RuleAt w q) (hb : xs.map nrmR = ys.map nrmR) (hn : xs.length ≤ 1000000) :
    Ret Tryz.prog 25 [.slice a1 xs.length c1, .slice a2 ys.length c2, .func (.func 26) #[] #[]] w (fun v w' => v = .bool true ∧ St w [] w' []) := by
  have hl : xs.length = ys.length := by have := congrArg List.length hb; simpa using this
  refine enter Tryz.func25 rfl Tryz.ntmps25 rfl ?_
  have hS := St.refl w []
  refine zS<|zR<|zq 1 rfl<|zN<|zT<|zS<|zS<|zR<|zq 1 rfl<|zV (r_len (T := 23) rfl ti23.und rfl _ rfl)<|zq 1 rfl<|zV (r_len (T := 23) rfl ti23.und rfl _ rfl)<|wl_dec_f (r_neq rfl rfl) rfl Om<|zN<|zT<|zf rfl<|zK<|zT<|zS<|zS<|zR<|zq 1 rfl<|zV (r_len (T := 23) rfl ti23.und rfl _ rfl)<|zq 1 rfl<|zN ?_; refine zT<|zI ?_
  refine c_loopE [1, 2, 15, 16] (fun d e w' => ∃ (k : Nat), Kw.look e 17 = vi k ∧ d = xs.length - k ∧ St w [] w' [] ∧ (k ≤ xs.length)) (xs.length - 0) ?_ ?_
  · exact ⟨0, rfl, rfl, hS.fin, Nat.zero_le _⟩
  · rintro d4 e1 w2 ⟨k, hc0_17, rfl, hS3, hk⟩ -
    refine c_set (d := 17) hc0_17<|zS<|zR ?_
    refine wl_dec (r_lss rfl rfl) rfl (fun h4_0 => ?_) (fun h4_0 => ?_)
    · refine zN<|zT<|zS<|zt rfl<|zK<|zT<|zS<|zI<|zS<|zR<|zq 1 rfl<|zV (r_ixF rule_v8 ti23.und ti51 rfl rfl (h1.st hS3) Ln Sd (by decide)) ?_
      refine zV (r_loadF rule_v8 ti51 ag51 rfl (h1.st hS3) Sd (by decide)) ?_; refine zA (C := [.bool false, .slice none 0 0, .slice none 0 0, .slice none 0 0, .int .i64 0, .int .i64 0, .int .i64 0, .string ⟨#[]⟩]) hS3 ti51 rfl fun bb8 w5 hS6=>zq 1 rfl<|zY (x_storeW [] hS6 ti51 rfl rfl (rule_v8 _) rfl (one_rule _)) ?_; intro w7 hS8; simp only [ca, na] at hS8; refine zN<|zT<|zS<|zR<|zq 2 rfl<|zV (r_ixF rule_v8 ti23.und ti51 rfl rfl (h2.st hS8) Ln Sd (by decide)) ?_; refine zV (r_loadF rule_v8 ti51 ag51 rfl (h2.st hS8) Sd (by decide)) ?_; refine zA (C := [.bool false, .slice none 0 0, .slice none 0 0, .slice none 0 0, .int .i64 0, .int .i64 0, .int .i64 0, .string ⟨#[]⟩]) hS8 ti51 rfl fun b9 w9 hS10=>zY (x_storeW [] hS10 ti51 rfl rfl (rule_v8 _) rfl (one_rule _)) ?_; intro w11 hS12; simp only [ca, na] at hS12; refine zN<|zT<|zS<|zR<|zV (r_move rfl)<|zV (r_loadB ti51 ag51 rfl (hS12.heap Z1) (rule_v8 _))<|zV (r_loadB ti51 ag51 rfl (hS12.heap Z0) (rule_v8 _))<|wl_call (r_callDyn fn26 rfl rfl) rfl (sameRuleY_t (gt xs k) (gt ys k) _ ((hA _ (gt_mem xs k Om)).st hS12) ((hB _ (gt_mem ys k Om)).st hS12) (map_nrmR_gt hb Om)) ?_; rintro _ w13 ⟨rfl, hx14⟩; have hS15 := hS12.ext hx14; refine zq 1 rfl<|zN<|zT<|zf rfl<|zK<|zJ<|zT<|zR<|zV (r_addn (b := 1) rfl rfl Om)<|zq 1 rfl<|zN<|zT ?_
      exact ⟨xs.length - (k + 1), _, by omega, rfl, ⟨k + 1, rfl, rfl, hS15.fin, by omega⟩, ⟨rfl, rfl, rfl, rfl, trivial⟩⟩
    refine zN<|zT<|zS<|zf rfl<|zO<|zM<|zM<|c_inE<|zT<|zS<|zR<|zq 1 rfl<|zN<|zT<|zU<|ret1 Tryz.results25 ?_
    exact ⟨rfl, hS3.fin⟩

theorem samePolicyY_t (xs ys : List RuleD) (a1 a2 : Option Addr) (c1 c2 : Nat) (w : World) (h1 : Row w a1 (xs.flatMap RuleD.v)) (h2 : Row w a2 (ys.flatMap RuleD.v)) (hA : ∀ q ∈ xs, RuleAt w q) (hB : ∀ q ∈ ys, RuleAt w q) (hb : xs.map nrmR = ys.map nrmR) (hn : xs.length ≤ 1000000) :
    Ret Tryz.prog 8 [.agg #[.slice a1 xs.length c1], .agg #[.slice a2 ys.length c2]] w (fun v w' => v = .bool true ∧ St w [] w' []) := by
  refine enter Tryz.func8 rfl Tryz.ntmps8 rfl ?_
  have hS := St.refl w []
  refine zS<|zR<|zB (v := .agg _) hS rfl rfl fun b2 w1 hS2=>zB (v := .agg _) hS2 rfl rfl fun b3 w3 hS4=>zq 1 rfl<|zN<|zT<|zS<|zR<|zF fa25_0 rfl ti23.und rfl (hS4.heap Z1) rfl rfl rfl<|zF fa25_0 rfl ti23.und rfl (hS4.heap Z0) rfl rfl rfl<|zE fn25 rfl hS4 (eqRulesY_t xs ys _ _ _ _ _ (h1.st hS4) (h2.st hS4) (fun q hq => (hA q hq).st hS4) (fun q hq => (hB q hq).st hS4) hb hn) fun w5 hS7=>zq 1 rfl<|zN<|zT<|zU<|ret1 Tryz.results8 ?_
  exact ⟨rfl, hS7.fin⟩

theorem polT_len {l : List UInt8} {rs : List RuleD} {n : Nat} (h : PolT l rs n 0) : rs.length ≤ 100 := by
  rcases h with ⟨_, rfl, _, h⟩ | ⟨_, _, _, _, rfl, h⟩ | ⟨_, _, _, he, rfl⟩
  · exact Nat.zero_le _
  · exact Nat.zero_le _
  · rw [if_pos he.symm]; exact (polE_zero he.symm).1

end Go.Proofs.YtjnnhlbfgnopiaaGreatDoor
