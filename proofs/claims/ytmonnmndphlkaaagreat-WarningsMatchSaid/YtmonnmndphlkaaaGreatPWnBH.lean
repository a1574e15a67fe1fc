/- What the law's proof leans on. No condition. -/
import Derived.Test.YtmonnmndphlkaaaGreatPWnAI
import Derived.Test.YtmonnmndphlkaaaGreatPWnBD
import Derived.Test.YtmonnmndphlkaaaGreatPWnBG
namespace Go.Proofs.YtmonnmndphlkaaaGreat
open Go.Kw
set_option linter.unusedVariables false
set_option linter.unusedSimpArgs false
set_option maxRecDepth 100000
theorem check_ok_c0 {p : Prop} (h : p := by first | exact ⟨congrArg (Value.int .i64) (polE_big Om).symm, hF.fin⟩ | exact ⟨congrArg (Value.int .i64) (polE_at Om Om hok h7_1).symm, hF.fin⟩ | (obtain rfl : k = rs.length := Om; exact ⟨congrArg (Value.int .i64) (polE_ok Om hok).symm, hF.fin⟩)) : p := h
theorem check_ok (rs : List RuleD) (pa : Option Addr) (n pc : Nat) (w : World) (hrs : Row w pa (rs.flatMap RuleD.v)) (hl : rs.length = n) (hn : n ≤ 140737488351232) (hall : ∀ r ∈ rs, RuleAt w r) :
    Ret Tryz.prog 51 [.agg #[.slice pa n pc]] w (fun v w' => v = .int .i64 (polE rs) ∧ St w [] w' []) := by
  subst hl
  refine enter Tryz.func51 rfl Tryz.ntmps51 rfl ?_
  have hS := St.refl w []
  refine zS<|zR<|zB (v := .agg _) hS rfl rfl fun b1 w1 hS2=>zq 1 rfl<|zN<|zT<|zS<|zS<|zR<|zF fa24_0 rfl ti22.und rfl (hS2.heap Z0) rfl rfl rfl<|zV (r_len (T := 22) rfl ti22.und rfl _ rfl) ?_
  refine wl_dec (r_gtr rfl rfl) rfl (fun h1_3 => ?_) (fun h1_3 => ?_)
  · refine zN<|zT<|zt rfl<|zS<|zR<|zq 1 rfl<|zN<|zT<|zU<|zL<|ret1 Tryz.results51 ?_
    have hF := hS2; exact check_ok_c0
  refine zN<|zT<|zf rfl<|zK<|zT<|zS<|zS<|zR<|zF fa24_0 rfl ti22.und rfl (hS2.heap Z0) rfl rfl rfl<|zV (r_len (T := 22) rfl ti22.und rfl _ rfl)<|zq 1 rfl<|zN<|zT<|zI ?_
  refine c_loopE [11, 12] (fun d e w' => ∃ (k : Nat), Kw.look e 13 = vi k ∧ d = rs.length - k ∧ St w [] w' [] ∧ (k ≤ rs.length) ∧ (∀ i, i < k → ruleE (gt rs i) = 0)) (rs.length - 0) ?_ ?_
  · exact ⟨0, rfl, rfl, hS2.fin, Nat.zero_le _, fun i hi => by omega⟩
  · rintro d6 e3 w4 ⟨k, hc0_13, rfl, hS5, hk, hok⟩ -
    refine c_set (d := 13) hc0_13<|zS<|zR ?_
    refine wl_dec (r_lss rfl rfl) rfl (fun h4_0 => ?_) (fun h4_0 => ?_)
    · refine zN<|zT<|zS<|zt rfl<|zK<|zT<|zS<|zI<|zS<|zR<|zV (r_ixF rule_v8 ti22.und ti50 rfl rfl (hrs.st hS5) Ln Sd (by decide)) ?_
      refine zV (r_loadF rule_v8 ti50 ag50 rfl (hrs.st hS5) Sd (by decide)) ?_; refine zA (C := [.bool false, .slice none 0 0, .slice none 0 0, .slice none 0 0, .int .i64 0, .int .i64 0, .int .i64 0, .string ⟨#[]⟩]) hS5 ti50 rfl fun b4 w7 hS8=>zY (x_storeW [] hS8 ti50 rfl rfl rfl rfl (one_rule _)) ?_; intro w9 hS10; simp only [ca, na] at hS10; refine zN<|zT<|zS ?_
      have hgk := (hall (gt rs k) (gt_mem rs k Om)).st hS10
      refine zR<|zV (r_loadB ti50 ag50 rfl (hS10.heap Z0) Ln) ?_; refine zE fn78 rfl hS10 (ruleFault_ok (gt rs k) _ hgk.ok hgk.h1 hgk.h2 hgk.h3) fun w11 hS13=>zq 1 rfl<|zN<|zT<|zS<|zR<|zq 1 rfl ?_
      refine wl_dec (r_neq rfl rfl) rfl (fun h7_1 => ?_) (fun h7_1 => ?_)
      · refine zN<|zT<|zt rfl<|zS<|zR<|zq 2 rfl<|zN<|zT<|zU<|zH<|zL<|zL<|zH<|zL<|ret1 Tryz.results51 ?_
        have hF := hS13; exact check_ok_c0
      refine zN<|zT<|zf rfl<|zK<|zJ<|zT<|zR<|zV (r_addn (b := 1) rfl rfl Om)<|zq 1 rfl<|zN<|zT ?_
      exact ⟨rs.length - (k + 1), _, by omega, rfl, ⟨k + 1, rfl, rfl, hS13.fin, by omega, ok_step hok (Decidable.of_not_not h7_1)⟩, ⟨rfl, rfl, trivial⟩⟩
    refine zN<|zT<|zS<|zf rfl<|zO<|zM<|zM<|c_inE<|zT<|zS<|zR<|zq 1 rfl<|zN<|zT<|zU<|ret1 Tryz.results51 ?_
    have hF := hS5; exact check_ok_c0

theorem rcheck_ok_c0 {p : Prop} (h : p := by first | exact ⟨congrArg (Value.int .i64) (polE_big Om).symm, hF.fin⟩ | exact ⟨congrArg (Value.int .i64) (polE_at Om Om hok h7_1).symm, hF.fin⟩ | (obtain rfl : k = rs.length := Om; exact ⟨congrArg (Value.int .i64) (polE_ok Om hok).symm, hF.fin⟩)) : p := h
theorem rcheck_ok (rs : List RuleD) (pa : Option Addr) (n pc : Nat) (w : World) (hrs : Row w pa (rs.flatMap RuleD.v)) (hl : rs.length = n) (hn : n ≤ 140737488351232) (hall : ∀ r ∈ rs, RuleAt w r) :
    Ret Tryz.prog 8 [.agg #[.slice pa n pc]] w (fun v w' => v = .int .i64 (polE rs) ∧ St w [] w' []) := by
  subst hl
  refine enter Tryz.func8 rfl Tryz.ntmps8 rfl ?_
  have hS := St.refl w []
  refine zS<|zR<|zB (v := .agg _) hS rfl rfl fun b1 w1 hS2=>zq 1 rfl<|zN<|zT<|zS<|zS<|zR<|zF fa24_0 rfl ti22.und rfl (hS2.heap Z0) rfl rfl rfl<|zV (r_len (T := 22) rfl ti22.und rfl _ rfl) ?_
  refine wl_dec (r_gtr rfl rfl) rfl (fun h1_3 => ?_) (fun h1_3 => ?_)
  · refine zN<|zT<|zt rfl<|zS<|zR<|zq 1 rfl<|zN<|zT<|zU<|zL<|ret1 Tryz.results8 ?_
    have hF := hS2; exact rcheck_ok_c0
  refine zN<|zT<|zf rfl<|zK<|zT<|zS<|zS<|zR<|zF fa24_0 rfl ti22.und rfl (hS2.heap Z0) rfl rfl rfl<|zV (r_len (T := 22) rfl ti22.und rfl _ rfl)<|zq 1 rfl<|zN<|zT<|zI ?_
  refine c_loopE [11, 12] (fun d e w' => ∃ (k : Nat), Kw.look e 13 = vi k ∧ d = rs.length - k ∧ St w [] w' [] ∧ (k ≤ rs.length) ∧ (∀ i, i < k → ruleE (gt rs i) = 0)) (rs.length - 0) ?_ ?_
  · exact ⟨0, rfl, rfl, hS2.fin, Nat.zero_le _, fun i hi => by omega⟩
  · rintro d6 e3 w4 ⟨k, hc0_13, rfl, hS5, hk, hok⟩ -
    refine c_set (d := 13) hc0_13<|zS<|zR ?_
    refine wl_dec (r_lss rfl rfl) rfl (fun h4_0 => ?_) (fun h4_0 => ?_)
    · refine zN<|zT<|zS<|zt rfl<|zK<|zT<|zS<|zI<|zS<|zR<|zV (r_ixF rule_v8 ti22.und ti50 rfl rfl (hrs.st hS5) Ln Sd (by decide)) ?_
      refine zV (r_loadF rule_v8 ti50 ag50 rfl (hrs.st hS5) Sd (by decide)) ?_; refine zA (C := [.bool false, .slice none 0 0, .slice none 0 0, .slice none 0 0, .int .i64 0, .int .i64 0, .int .i64 0, .string ⟨#[]⟩]) hS5 ti50 rfl fun b4 w7 hS8=>zY (x_storeW [] hS8 ti50 rfl rfl rfl rfl (one_rule _)) ?_; intro w9 hS10; simp only [ca, na] at hS10; refine zN<|zT<|zS ?_
      have hgk := (hall (gt rs k) (gt_mem rs k Om)).st hS10
      refine zR<|zV (r_loadB ti50 ag50 rfl (hS10.heap Z0) Ln) ?_; refine zE fn26 rfl hS10 (ruleError_ok (gt rs k) _ hgk.ok hgk.h1 hgk.h2 hgk.h3) fun w11 hS13=>zq 1 rfl<|zN<|zT<|zS<|zR<|zq 1 rfl ?_
      refine wl_dec (r_neq rfl rfl) rfl (fun h7_1 => ?_) (fun h7_1 => ?_)
      · refine zN<|zT<|zt rfl<|zS<|zR<|zq 2 rfl<|zN<|zT<|zU<|zH<|zL<|zL<|zH<|zL<|ret1 Tryz.results8 ?_
        have hF := hS13; exact rcheck_ok_c0
      refine zN<|zT<|zf rfl<|zK<|zJ<|zT<|zR<|zV (r_addn (b := 1) rfl rfl Om)<|zq 1 rfl<|zN<|zT ?_
      exact ⟨rs.length - (k + 1), _, by omega, rfl, ⟨k + 1, rfl, rfl, hS13.fin, by omega, ok_step hok (Decidable.of_not_not h7_1)⟩, ⟨rfl, rfl, trivial⟩⟩
    refine zN<|zT<|zS<|zf rfl<|zO<|zM<|zM<|c_inE<|zT<|zS<|zR<|zq 1 rfl<|zN<|zT<|zU<|ret1 Tryz.results8 ?_
    have hF := hS5; exact rcheck_ok_c0

theorem always_ok (n : Int) (w : World) :
    Ret Tryz.prog 37 [.int .i64 n] w (fun v w' => v = .bool true ∧ St w [] w' []) := by
  refine enter Tryz.func37 rfl Tryz.ntmps37 rfl ?_
  have hS := St.refl w []
  refine zS<|zR<|zq 1 rfl<|zN<|zT<|zS<|zR<|zq 1 rfl<|zN<|zT<|zU<|ret1 Tryz.results37 ?_
  exact ⟨rfl, hS.fin⟩

theorem decide_ok_c0 {p : Prop} (h : p := by first | exact ⟨false, _, 0, [], rfl, .inl ⟨k, by omega, hmt, hdn, fun j hj hm => hbest.1 j hj hm, rfl, rfl, rfl, rfl⟩, hF.fin⟩ | exact ⟨false, -1, 0, [], rfl, .inr ⟨_, hbest, .inl ⟨rfl, rfl, rfl, rfl, rfl⟩⟩, hF.fin⟩ | exact ⟨true, _, _, _, rfl, .inr ⟨_, hbest, .inr ⟨j, rfl, rfl, rfl, rfl, rfl⟩⟩, hF.fin⟩) : p := h
theorem decide_ok_c1 {p : Prop} (h : p := by exact ⟨rs.length - (k + 1), _, by omega, rfl, ⟨k + 1, _, rfl, rfl, rfl, hF.drop1, by omega, (by first | exact best_skip hbest hmt | exact best_first hbest hmt hdn | exact best_keep hbest hdn h8_11 | exact best_new hbest hmt hdn h8_11)⟩, ⟨rfl, rfl, rfl, rfl, rfl, rfl, trivial⟩⟩) : p := h
set_option maxHeartbeats 4000000 in
theorem decide_ok (rs : List RuleD) (pa : Option Addr) (n pc : Nat) (q : AskD) (w : World) (hrs : Row w pa (rs.flatMap RuleD.v)) (hl : rs.length = n) (hn : n ≤ 140737488351232) (hall : ∀ r ∈ rs, RuleAt w r) (hq : AskOk q) (hr : Row w q.ra (q.ro.map sv)) (ht0 : 0 ≤ q.tm) (ht1 : q.tm ≤ 1099511627776) :
    Ret Tryz.prog 36 [.agg #[.slice pa n pc], .agg q.v.toArray, .func (.func 37) #[] #[]] w (fun v w' => ∃ al ru nd fr, v = .agg (decV al ru nd fr).toArray ∧ DecR rs q al ru nd fr ∧ St w [] w' []) := by
  subst hl
  have hac := hq.ac
  have hkey := hq.key
  have hdet := hq.det
  refine enter Tryz.func36 rfl Tryz.ntmps36 rfl ?_
  have hS := St.refl w []
  refine zS<|zR<|zB (v := .agg _) hS rfl rfl fun b3 w1 hS2=>zB (v := .agg _) hS2 rfl rfl fun b4 w3 hS4=>zA (C := [.bool false, .int .i64 0, .int .i64 0, .string ⟨#[]⟩]) hS4 ti52 rfl fun b6 w5 hS6=>zN<|zT<|zS<|zR<|zq 1 rfl<|zN<|zT<|zS<|zS<|zR<|zF fa24_0 rfl ti22.und rfl (hS6.heap Z2) rfl rfl rfl<|zV (r_len (T := 22) rfl ti22.und rfl _ rfl)<|zq 1 rfl<|zN<|zT<|zI ?_
  refine c_loopE [2, 3, 4, 6, 12, 13] (fun d e w' => ∃ (k : Nat) (best : Int), Kw.look e 14 = vi k ∧ Kw.look e 7 = .int .i64 best ∧ d = rs.length - k ∧ St w [] w' [.blk b6 (cl [.bool false, .int .i64 0, .int .i64 0, .string ⟨#[]⟩] 52), .blk b4 (cl q.v 40), .blk b3 (cl [.slice pa rs.length pc] 24)] ∧ (k ≤ rs.length) ∧ (BestR rs q k best)) (rs.length - 0) ?_ ?_
  · exact ⟨0, -1, rfl, rfl, rfl, hS6, Nat.zero_le _, best_zero rs q⟩
  · rintro d10 e7 w8 ⟨k, best, hc0_14, hc0_7, rfl, hS9, hk, hbest⟩ -
    refine c_set (d := 14) hc0_14<|c_set (d := 7) hc0_7<|zS<|zR ?_
    refine wl_dec (r_lss rfl rfl) rfl (fun h3_0 => ?_) (fun h3_0 => ?_)
    · refine zN<|zT<|zS<|zt rfl<|zK<|zT<|zS<|zI<|zS<|zR<|zq 1 rfl<|zV (r_ixF rule_v8 ti22.und ti50 rfl rfl (hrs.st hS9) Ln Sd (by decide)) ?_
      refine zV (r_loadF rule_v8 ti50 ag50 rfl (hrs.st hS9) Sd (by decide)) ?_; refine zA (C := [.bool false, .slice none 0 0, .slice none 0 0, .slice none 0 0, .int .i64 0, .int .i64 0, .int .i64 0, .string ⟨#[]⟩]) hS9 ti50 rfl fun b9 w11 hS12=>zq 1 rfl<|zY (x_storeW [] hS12 ti50 rfl rfl rfl rfl (one_rule _)) ?_; intro w13 hS14; simp only [ca, na] at hS14; refine zN<|zT<|zS<|zS ?_
      have hgk := hall (gt rs k) (gt_mem rs k Om)
      refine zR<|zV (r_move rfl)<|zq 1 rfl<|wl_call (r_callDyn fn37 rfl rfl) rfl (always_ok _ _) ?_; rintro _ w15 ⟨rfl, hx16⟩; have hS17 := hS14.ext hx16; refine zq 2 rfl<|wl_val (r_loadB ti50 ag50 rfl (hS17.heap Z0) Ln) rfl ?_; refine wl_val (r_loadB ti40 ag40 rfl (hS17.heap Z2) Ln) rfl ?_; refine zC fn68 rfl ((meets_ok (gt rs k) q _ (hgk.st hS17).ok (hgk.st hS17).h1 (hgk.st hS17).h2 (hgk.st hS17).h3 hq (hr.st hS17) ht0 ht1).br) ?_
      rintro _ w18 (⟨hmt, rfl, hx19⟩ | ⟨hmt, rfl, hx19⟩)
      · have hS20 := hS17.ext hx19
        refine zq 2 rfl<|zN<|zT<|zf rfl<|zK<|zT<|zS<|zS ?_
        rcases bool_cases (gt rs k).dn with hdn | hdn
        · refine zR<|zV (r_field fa50_0 rfl)<|zV (r_loadB1 ti4.und rfl rfl (hS20.heap Z0) (by first | exact rule_dn_t hdn | exact rule_dn_f hdn)) ?_
          refine zN<|zT<|zt rfl<|zS<|zR<|zq 1 rfl<|zV (r_buildP (ps := [(1, .int .i64 _)]) (out := [.bool false, .int .i64 _, .int .i64 0, .string ⟨#[]⟩]) pl52 ti52 rfl rfl) ?_; refine wl_exs (x_storeW [_] hS20 ti52 rfl rfl rfl rfl On) rfl ?_; intro w21 hS22; simp only [ca, na] at hS22; refine zN<|zT<|zU<|zL<|zH<|zL<|zL<|zH<|zL<|retc Tryz.results36 ⟨_, rfl, run_loadVar_blk ti52 ag52 (hS22.heap Z1) rfl⟩ ?_
          have hF := hS22; exact decide_ok_c0
        refine zR<|zV (r_field fa50_0 rfl)<|zV (r_loadB1 ti4.und rfl rfl (hS20.heap Z0) (by first | exact rule_dn_t hdn | exact rule_dn_f hdn)) ?_; refine zN<|zT<|zf rfl<|zK<|zT<|zS ?_
        rcases best_or hbest with rfl | ⟨j, rfl, hj⟩
        · refine c_drawS 11 hMixed hS20 ?_
          intro w23 hS24; refine zG 0 rfl hS24 (fun wF hF => r_move (v := .int .i64 _) rfl) ?_; refine g_dec_t 1 rfl (by decide +kernel) rfl (fun _ _ _ _ h => h) hS24 (fun wF hF => r_lss rfl rfl) (by decide)<|zG 2 rfl hS24 (fun wF hF => r_move (v := .bool _) rfl) ?_; refine zGN 3 rfl rfl hS24 ?_; refine zGN 4 rfl rfl hS24 ?_; refine zGN 5 rfl rfl hS24 ?_; refine zGN 6 rfl rfl hS24 ?_; refine zGN 7 rfl rfl hS24 ?_; refine zGN 8 rfl rfl hS24 ?_; refine zGN 9 rfl rfl hS24 ?_; refine zGN 10 rfl rfl hS24 ?_; refine zGT rfl ?_; refine zq 2 rfl<|zN<|zT<|zt rfl<|zR<|zq 2 rfl<|zN<|zJ<|zT<|zR<|zV (r_addn (b := 1) rfl rfl Om)<|zq 1 rfl<|zN<|zT ?_
          have hF := hS24; exact decide_ok_c1
        refine c_drawS 11 hMixed hS20 ?_; intro w25 hS26; refine zG 0 rfl hS26 (fun wF hF => r_move (v := .int .i64 _) rfl) ?_; refine g_dec_f 1 rfl (by decide +kernel) rfl (fun _ _ _ _ h => h) hS26 (fun wF hF => r_lss rfl rfl) Om<|zG 2 rfl hS26 (fun wF hF => r_move (v := .bool _) rfl) ?_; refine zG 3 rfl hS26 (fun wF hF => r_field fa50_6 rfl) ?_; refine zG 4 rfl hS26 (fun wF hF => r_loadB1 ti3.und rfl rfl (hF.heap Z0) rfl) ?_; refine zG 5 rfl hS26 (fun wF hF => r_field fa24_0 rfl) ?_; refine zG 6 rfl hS26 (fun wF hF => r_loadB1 ti22.und rfl rfl (hF.heap Z3) rfl) ?_; refine zG 7 rfl hS26 (fun wF hF => r_move (v := .int .i64 _) rfl) ?_; refine zG 8 rfl hS26 (fun wF hF => r_ixF rule_v8 ti22.und ti50 rfl rfl (hrs.st hF) Ln Sd (by decide)) ?_; refine zG 9 rfl hS26 (fun wF hF => r_fieldF rule_v8 fa50_6 rfl (hrs.st hF) Sd (by decide)) ?_; refine zG 10 rfl hS26 (fun wF hF => r_loadFF (off := 6) rule_v8 ti3.und rfl rfl (hrs.st hF) Sd (by decide) rfl) ?_; refine zGT rfl ?_
        refine wl_dec (r_lss rfl rfl) rfl (fun h8_11 => ?_) (fun h8_11 => ?_)
        · refine zq 1 rfl<|zN<|zT<|zt rfl<|zR<|zq 2 rfl<|zN<|zJ<|zT<|zR<|zV (r_addn (b := 1) rfl rfl Om)<|zq 1 rfl<|zN<|zT ?_
          have hF := hS26; exact decide_ok_c1
        refine zq 1 rfl<|zN<|zT<|zf rfl<|zK<|zJ<|zT<|zR<|zV (r_addn (b := 1) rfl rfl Om)<|zq 1 rfl<|zN<|zT ?_
        have hF := hS26; exact decide_ok_c1
      have hS20 := hS17.ext hx19; refine zq 2 rfl<|zN<|zT<|zt rfl<|zO<|zM<|c_inE<|zT<|zR<|zV (r_addn (b := 1) rfl rfl Om)<|zq 1 rfl<|zN<|zT ?_
      have hF := hS20; exact decide_ok_c1
    refine zN<|zT<|zS<|zf rfl<|zO<|zM<|zM<|c_inE<|zT<|zS<|zS ?_
    rcases best_or hbest with rfl | ⟨j, rfl, hj⟩
    · obtain rfl : k = rs.length := by omega
      refine zR<|zq 1 rfl<|wl_dec_t (r_lss rfl rfl) rfl (by decide)<|zN<|zT<|zt rfl<|zS<|zR<|zV (r_buildP (ps := [(1, .int .i64 (-1))]) (out := [.bool false, .int .i64 (-1), .int .i64 0, .string ⟨#[]⟩]) pl52 ti52 rfl rfl) ?_; refine wl_exs (x_storeW [] hS9 ti52 rfl rfl rfl rfl On) rfl ?_; intro w27 hS28; simp only [ca, na] at hS28; refine zN<|zT<|zU<|zL<|retc Tryz.results36 ⟨_, rfl, run_loadVar_blk ti52 ag52 (hS28.heap Z0) rfl⟩ ?_
      have hF := hS28; exact decide_ok_c0
    obtain rfl : k = rs.length := by omega
    refine zR<|zq 1 rfl<|wl_dec_f (r_lss rfl rfl) rfl Om<|zN<|zT<|zf rfl<|zK<|zT<|zS<|zR<|zF fa24_0 rfl ti22.und rfl (hS9.heap Z2) rfl rfl rfl<|zq 1 rfl<|zV (r_ixF rule_v8 ti22.und ti50 rfl rfl (hrs.st hS9) Ln Sd (by decide)) ?_; refine zV (r_loadF rule_v8 ti50 ag50 rfl (hrs.st hS9) Sd (by decide)) ?_; refine zA (C := [.bool false, .slice none 0 0, .slice none 0 0, .slice none 0 0, .int .i64 0, .int .i64 0, .int .i64 0, .string ⟨#[]⟩]) hS9 ti50 rfl fun b10 w29 hS30=>zY (x_storeW [] hS30 ti50 rfl rfl rfl rfl (one_rule _)) ?_; intro w31 hS32; simp only [ca, na] at hS32; refine zN<|zT<|zS<|zR<|zq 1 rfl<|zF fa50_6 rfl ti3.und rfl (hS32.heap Z0) rfl rfl rfl<|zF fa50_7 rfl ti9.und rfl (hS32.heap Z0) rfl rfl rfl<|zV (r_buildF (vs := [.bool true, .int .i64 _, .int .i64 _, .string _]) (out := [.bool true, .int .i64 _, .int .i64 _, .string _]) pl52 ti52 rfl rfl (by intro i hi; match i, hi with | 0, _ => rfl | 1, _ => rfl | 2, _ => rfl | 3, _ => rfl) rfl) ?_; refine wl_exs (x_storeW [_] hS32 ti52 rfl rfl rfl rfl On) rfl ?_; intro w33 hS34; simp only [ca, na] at hS34; refine zN<|zT<|zU<|retc Tryz.results36 ⟨_, rfl, run_loadVar_blk ti52 ag52 (hS34.heap Z1) rfl⟩ ?_
    have hF := hS34; exact decide_ok_c0

end Go.Proofs.YtmonnmndphlkaaaGreat
