/- What the law's proof leans on. No condition. -/
import Derived.Test.YtmonnmndphlkaaaGreatPWnAI
import Derived.Test.YtmonnmndphlkaaaGreatPWnBT
import Derived.Test.YtmonnmndphlkaaaGreatPWnBV
import Derived.Test.YtmonnmndphlkaaaGreatPWnBW
section
namespace Go.Proofs.YtmonnmndphlkaaaGreat
open Go.Kw
set_option linter.unusedVariables false
set_option linter.unusedSimpArgs false
set_option maxRecDepth 100000
theorem decP_ok (rs : List RuleD) (pa : Option Addr) (n pc : Nat) (x : WA) (w : World) (hrs : Row w pa (rs.flatMap RuleD.v)) (hl : rs.length = n) (hn : n ≤ 140737488351232) (hall : ∀ r ∈ rs, RuleAt w r) (hw : WOk x) (hr : Row w x.ra (x.ro.map sv)) : Ret Tryz.prog 36 [.agg #[.slice pa n pc], .agg x.v.toArray, .func (.func 37) #[] #[]] w (fun v w' => ∃ ru, v = .agg (decV (decB rs x.b).1 ru (decB rs x.b).2.1 (decB rs x.b).2.2).toArray ∧ St w [] w' []) :=
  (decide_ok rs pa n pc x.q w hrs hl hn hall hw.ok hr hw.t0 hw.t1).mono fun v w' ⟨al, ru, nd, fr, hv, hd, hS⟩ => ⟨ru, by rw [decB_of hd]; exact hv, hS⟩

theorem rdecP_ok (rs : List RuleD) (pa : Option Addr) (n pc : Nat) (x : WA) (w : World) (hrs : Row w pa (rs.flatMap RuleD.v)) (hl : rs.length = n) (hn : n ≤ 140737488351232) (hall : ∀ r ∈ rs, RuleAt w r) (hw : WOk x) (hr : Row w x.ra (x.ro.map sv)) (hok : ∀ r ∈ rs, ruleE r = 0) : Ret Tryz.prog 15 [.agg #[.slice pa n pc], .agg x.v.toArray] w (fun v w' => ∃ ru, v = .agg (decV (decB rs x.b).1 ru (decB rs x.b).2.1 (decB rs x.b).2.2).toArray ∧ St w [] w' []) :=
  (rdecide_ok rs pa n pc x.q w hrs hl hn hall hw.ok hr hw.t0 hw.t1 hok).mono fun v w' ⟨al, ru, nd, fr, hv, hd, hS⟩ => ⟨ru, by rw [decB_of hd]; exact hv, hS⟩

theorem meetP_ok (r : RuleD) (x : WA) (w : World) (hg : RuleAt w r) (hw : WOk x) (hr : Row w x.ra (x.ro.map sv)) : Ret Tryz.prog 68 [.agg r.v.toArray, .agg x.v.toArray] w (fun v w' => v = .bool (meetE r x.q) ∧ St w [] w' []) :=
  meets_ok r x.q w hg.ok hg.h1 hg.h2 hg.h3 hw.ok hr hw.t0 hw.t1

theorem rmeetP_ok (r : RuleD) (x : WA) (w : World) (hg : RuleAt w r) (hw : WOk x) (hr : Row w x.ra (x.ro.map sv)) (he : ruleE r = 0) : Ret Tryz.prog 39 [.agg r.v.toArray, .agg x.v.toArray] w (fun v w' => v = .bool (meetE r x.q) ∧ St w [] w' []) :=
  rmeets_ok r x.q w hg.ok hg.h1 hg.h2 hg.h3 hw.ok hr hw.t0 hw.t1 he

theorem sameDec_ok (al al2 : Bool) (ru nd ru2 nd2 : Int) (fr fr2 : List UInt8) (w : World) :
    Ret Tryz.prog 35 [.agg (decV al ru nd fr).toArray, .agg (decV al2 ru2 nd2 fr2).toArray] w (fun v w' => (((al, nd, fr) : DB) = (al2, nd2, fr2) ∧ v = .bool true ∧ St w [] w' []) ∨ (¬ ((al, nd, fr) : DB) = (al2, nd2, fr2) ∧ v = .bool false ∧ St w [] w' [])) := by
  refine enter Tryz.func35 rfl Tryz.ntmps35 rfl ?_
  have hS := St.refl w []
  refine zS<|zR<|zB (v := .agg _) hS rfl rfl fun b2 w1 hS2=>zB (v := .agg _) hS2 rfl rfl fun b3 w3 hS4=>zq 1 rfl<|zN<|zT<|zS<|zR<|zF fa52_0 rfl ti4.und rfl (hS4.heap Z1) rfl rfl rfl<|zF fa52_0 rfl ti4.und rfl (hS4.heap Z0) rfl rfl rfl ?_
  refine wl_dec (r_eqlBool ti4.und rfl rfl) rfl (fun h1_4 => ?_) (fun h1_4 => ?_)
  · refine zq 1 rfl<|wl_val (r_field fa52_2 rfl) rfl<|wl_val (r_loadB1 ti3.und rfl rfl (hS4.heap Z1) rfl) rfl<|wl_val (r_field fa52_2 rfl) rfl<|wl_val (r_loadB1 ti3.und rfl rfl (hS4.heap Z0) rfl) rfl ?_
    refine wl_dec (r_eql rfl rfl) rfl (fun h1_10 => ?_) (fun h1_10 => ?_)
    · refine zq 2 rfl<|wl_val (r_field fa52_3 rfl) rfl<|wl_val (r_loadB1 ti9.und rfl rfl (hS4.heap Z1) rfl) rfl<|wl_val (r_field fa52_3 rfl) rfl<|wl_val (r_loadB1 ti9.und rfl rfl (hS4.heap Z0) rfl) rfl ?_
      refine wl_dec (r_eqlStrL rfl rfl) rfl (fun h1_17 => ?_) (fun h1_17 => ?_)
      · refine zq 2 rfl<|zN<|zT<|zU<|ret1 Tryz.results35 ?_
        first | exact .inl ⟨by simp_all, rfl, hS4.fin⟩ | exact .inr ⟨by simp_all, rfl, hS4.fin⟩
      refine zq 2 rfl<|zN<|zT<|zU<|ret1 Tryz.results35 ?_
      first | exact .inl ⟨by simp_all, rfl, hS4.fin⟩ | exact .inr ⟨by simp_all, rfl, hS4.fin⟩
    refine zq 9 rfl<|zN<|zT<|zU<|ret1 Tryz.results35 ?_
    first | exact .inl ⟨by simp_all, rfl, hS4.fin⟩ | exact .inr ⟨by simp_all, rfl, hS4.fin⟩
  refine zq 15 rfl<|zN<|zT<|zU<|ret1 Tryz.results35 ?_
  first | exact .inl ⟨by simp_all, rfl, hS4.fin⟩ | exact .inr ⟨by simp_all, rfl, hS4.fin⟩

theorem clo1_ok (k m bk : Nat) (w : World) (hk : At w bk 0 [vi m]) :
    Ret Tryz.prog 74 [vi k, pt bk 0] w (fun v w' => v = .bool (decide (¬ k = m)) ∧ St w [] w' []) := by
  refine enter Tryz.func74 rfl Tryz.ntmps74 rfl ?_
  have hS := St.refl w []
  refine zS<|zR<|zq 1 rfl<|zN<|zT<|zS<|zR<|zq 1 rfl<|zV (r_loadAt1 (j := 0) ti3.und rfl rfl (hk.st hS) rfl rfl)<|zV (r_neq rfl rfl)<|zq 1 rfl<|zN<|zT<|zU<|ret1 Tryz.results74 ?_
  exact ⟨congrArg Value.bool (decide_eq_decide.2 Om), hS.fin⟩

theorem decideM_ok_c0 {p : Prop} (h : p := by first | exact ⟨false, _, 0, [], rfl, .inl ⟨k, by omega, mm_y (of_decide_eq_true hne) hmt, hdn, fun j hj hm => hbest.1 j hj hm, rfl, rfl, rfl, rfl⟩, hF.fin⟩ | exact ⟨false, -1, 0, [], rfl, .inr ⟨_, hbest, .inl ⟨rfl, rfl, rfl, rfl, rfl⟩⟩, hF.fin⟩ | exact ⟨true, _, _, _, rfl, .inr ⟨_, hbest, .inr ⟨j, rfl, rfl, rfl, rfl, rfl⟩⟩, hF.fin⟩) : p := h
theorem decideM_ok_c1 {p : Prop} (h : p := by exact ⟨rs.length - (k + 1), _, by omega, rfl, ⟨k + 1, _, rfl, rfl, rfl, hF.drop1, by omega, (by first | exact besta_skip hbest (mm_m (by simpa using hne)) | exact besta_skip hbest (mm_n hmt) | exact besta_first hbest (mm_y (of_decide_eq_true hne) hmt) hdn | exact besta_keep hbest hdn h8_11 | exact besta_new hbest (mm_y (of_decide_eq_true hne) hmt) hdn h8_11)⟩, ⟨rfl, rfl, rfl, rfl, rfl, rfl, trivial⟩⟩) : p := h
set_option maxHeartbeats 4000000 in
theorem decideM_ok (rs : List RuleD) (pa : Option Addr) (n pc : Nat) (q : AskD) (m bk : Nat) (w : World) (hrs : Row w pa (rs.flatMap RuleD.v)) (hl : rs.length = n) (hn : n ≤ 140737488351232) (hall : ∀ r ∈ rs, RuleAt w r) (hq : AskOk q) (hr : Row w q.ra (q.ro.map sv)) (ht0 : 0 ≤ q.tm) (ht1 : q.tm ≤ 1099511627776) (hk : At w bk 0 [vi m]) :
    Ret Tryz.prog 36 [.agg #[.slice pa n pc], .agg q.v.toArray, .func (.func 74) #[] #[pt bk 0]] w (fun v w' => ∃ al ru nd fr, v = .agg (decV al ru nd fr).toArray ∧ DecM rs m q al ru nd fr ∧ St w [] w' []) := by
  subst hl
  have hac := hq.ac
  have hkey := hq.key
  have hdet := hq.det
  refine enter Tryz.func36 rfl Tryz.ntmps36 rfl ?_
  have hS := St.refl w []
  refine zS<|zR<|zB (v := .agg _) hS rfl rfl fun b3 w1 hS2=>zB (v := .agg _) hS2 rfl rfl fun b4 w3 hS4=>zA (C := [.bool false, .int .i64 0, .int .i64 0, .string ⟨#[]⟩]) hS4 ti52 rfl fun b6 w5 hS6=>zN<|zT<|zS<|zR<|zq 1 rfl<|zN<|zT<|zS<|zS<|zR<|zF fa24_0 rfl ti22.und rfl (hS6.heap Z2) rfl rfl rfl<|zV (r_len (T := 22) rfl ti22.und rfl _ rfl)<|zq 1 rfl<|zN<|zT<|zI ?_
  refine c_loopE [2, 3, 4, 6, 12, 13] (fun d e w' => ∃ (k : Nat) (best : Int), Kw.look e 14 = vi k ∧ Kw.look e 7 = .int .i64 best ∧ d = rs.length - k ∧ St w [] w' [.blk b6 (cl [.bool false, .int .i64 0, .int .i64 0, .string ⟨#[]⟩] 52), .blk b4 (cl q.v 40), .blk b3 (cl [.slice pa rs.length pc] 24)] ∧ (k ≤ rs.length) ∧ (BestM rs m q k best)) (rs.length - 0) ?_ ?_
  · exact ⟨0, -1, rfl, rfl, rfl, hS6, Nat.zero_le _, besta_zero _ _ _⟩
  · rintro d10 e7 w8 ⟨k, best, hc0_14, hc0_7, rfl, hS9, hkl, hbest⟩ -
    refine c_set (d := 14) hc0_14<|c_set (d := 7) hc0_7<|zS<|zR ?_
    refine wl_dec (r_lss rfl rfl) rfl (fun h3_0 => ?_) (fun h3_0 => ?_)
    · refine zN<|zT<|zS<|zt rfl<|zK<|zT<|zS<|zI<|zS<|zR<|zq 1 rfl<|zV (r_ixF rule_v8 ti22.und ti50 rfl rfl (hrs.st hS9) Ln Sd (by decide)) ?_
      refine zV (r_loadF rule_v8 ti50 ag50 rfl (hrs.st hS9) Sd (by decide)) ?_; refine zA (C := [.bool false, .slice none 0 0, .slice none 0 0, .slice none 0 0, .int .i64 0, .int .i64 0, .int .i64 0, .string ⟨#[]⟩]) hS9 ti50 rfl fun b9 w11 hS12=>zq 1 rfl<|zY (x_storeW [] hS12 ti50 rfl rfl rfl rfl (one_rule _)) ?_; intro w13 hS14; simp only [ca, na] at hS14; refine zN<|zT<|zS<|zS ?_
      have hgk := hall (gt rs k) (gt_mem rs k Om)
      refine zR<|zV (r_move rfl)<|zq 1 rfl<|wl_call (r_callDyn fn74 rfl rfl) rfl ((clo1_ok k m bk _ (hk.st hS14)).br) ?_
      rintro _ w15 (⟨hne, rfl, hx16⟩ | ⟨hne, rfl, hx16⟩)
      · have hS17 := hS14.ext hx16
        refine zq 2 rfl<|wl_val (r_loadB ti50 ag50 rfl (hS17.heap Z0) Ln) rfl ?_; refine wl_val (r_loadB ti40 ag40 rfl (hS17.heap Z2) Ln) rfl ?_; refine zC fn68 rfl ((meets_ok (gt rs k) q _ (hgk.st hS17).ok (hgk.st hS17).h1 (hgk.st hS17).h2 (hgk.st hS17).h3 hq (hr.st hS17) ht0 ht1).br) ?_
        rintro _ w18 (⟨hmt, rfl, hx19⟩ | ⟨hmt, rfl, hx19⟩)
        · have hS20 := hS17.ext hx19
          refine zq 2 rfl<|zN<|zT<|zf rfl<|zK<|zT<|zS<|zS ?_
          rcases bool_cases (gt rs k).dn with hdn | hdn
          · refine zR<|zV (r_field fa50_0 rfl)<|zV (r_loadB1 ti4.und rfl rfl (hS20.heap Z0) (by first | exact rule_dn_t hdn | exact rule_dn_f hdn)) ?_
            refine zN<|zT<|zt rfl<|zS<|zR<|zq 1 rfl<|zV (r_buildP (ps := [(1, .int .i64 _)]) (out := [.bool false, .int .i64 _, .int .i64 0, .string ⟨#[]⟩]) pl52 ti52 rfl rfl) ?_; refine wl_exs (x_storeW [_] hS20 ti52 rfl rfl rfl rfl On) rfl ?_; intro w21 hS22; simp only [ca, na] at hS22; refine zN<|zT<|zU<|zL<|zH<|zL<|zL<|zH<|zL<|retc Tryz.results36 ⟨_, rfl, run_loadVar_blk ti52 ag52 (hS22.heap Z1) rfl⟩ ?_
            have hF := hS22; exact decideM_ok_c0
          refine zR<|zV (r_field fa50_0 rfl)<|zV (r_loadB1 ti4.und rfl rfl (hS20.heap Z0) (by first | exact rule_dn_t hdn | exact rule_dn_f hdn)) ?_; refine zN<|zT<|zf rfl<|zK<|zT<|zS ?_
          rcases besta_or hbest with rfl | ⟨j, rfl, hj⟩
          · refine c_drawS 11 hMixed hS20 ?_
            intro w23 hS24; refine zG 0 rfl hS24 (fun wF hF => r_move (v := .int .i64 _) rfl) ?_; refine g_dec_t 1 rfl (by decide +kernel) rfl (fun _ _ _ _ h => h) hS24 (fun wF hF => r_lss rfl rfl) (by decide)<|zG 2 rfl hS24 (fun wF hF => r_move (v := .bool _) rfl) ?_; refine zGN 3 rfl rfl hS24 ?_; refine zGN 4 rfl rfl hS24 ?_; refine zGN 5 rfl rfl hS24 ?_; refine zGN 6 rfl rfl hS24 ?_; refine zGN 7 rfl rfl hS24 ?_; refine zGN 8 rfl rfl hS24 ?_; refine zGN 9 rfl rfl hS24 ?_; refine zGN 10 rfl rfl hS24 ?_; refine zGT rfl ?_; refine zq 2 rfl<|zN<|zT<|zt rfl<|zR<|zq 2 rfl<|zN<|zJ<|zT<|zR<|zV (r_addn (b := 1) rfl rfl Om)<|zq 1 rfl<|zN<|zT ?_
            have hF := hS24; exact decideM_ok_c1
          refine c_drawS 11 hMixed hS20 ?_; intro w25 hS26; refine zG 0 rfl hS26 (fun wF hF => r_move (v := .int .i64 _) rfl) ?_; refine g_dec_f 1 rfl (by decide +kernel) rfl (fun _ _ _ _ h => h) hS26 (fun wF hF => r_lss rfl rfl) Om<|zG 2 rfl hS26 (fun wF hF => r_move (v := .bool _) rfl) ?_; refine zG 3 rfl hS26 (fun wF hF => r_field fa50_6 rfl) ?_; refine zG 4 rfl hS26 (fun wF hF => r_loadB1 ti3.und rfl rfl (hF.heap Z0) rfl) ?_; refine zG 5 rfl hS26 (fun wF hF => r_field fa24_0 rfl) ?_; refine zG 6 rfl hS26 (fun wF hF => r_loadB1 ti22.und rfl rfl (hF.heap Z3) rfl) ?_; refine zG 7 rfl hS26 (fun wF hF => r_move (v := .int .i64 _) rfl) ?_; refine zG 8 rfl hS26 (fun wF hF => r_ixF rule_v8 ti22.und ti50 rfl rfl (hrs.st hF) Ln Sd (by decide)) ?_; refine zG 9 rfl hS26 (fun wF hF => r_fieldF rule_v8 fa50_6 rfl (hrs.st hF) Sd (by decide)) ?_; refine zG 10 rfl hS26 (fun wF hF => r_loadFF (off := 6) rule_v8 ti3.und rfl rfl (hrs.st hF) Sd (by decide) rfl) ?_; refine zGT rfl ?_
          refine wl_dec (r_lss rfl rfl) rfl (fun h8_11 => ?_) (fun h8_11 => ?_)
          · refine zq 1 rfl<|zN<|zT<|zt rfl<|zR<|zq 2 rfl<|zN<|zJ<|zT<|zR<|zV (r_addn (b := 1) rfl rfl Om)<|zq 1 rfl<|zN<|zT ?_
            have hF := hS26; exact decideM_ok_c1
          refine zq 1 rfl<|zN<|zT<|zf rfl<|zK<|zJ<|zT<|zR<|zV (r_addn (b := 1) rfl rfl Om)<|zq 1 rfl<|zN<|zT ?_
          have hF := hS26; exact decideM_ok_c1
        have hS20 := hS17.ext hx19; refine zq 2 rfl<|zN<|zT<|zt rfl<|zO<|zM<|c_inE<|zT<|zR<|zV (r_addn (b := 1) rfl rfl Om)<|zq 1 rfl<|zN<|zT ?_
        have hF := hS20; exact decideM_ok_c1
      have hS17 := hS14.ext hx16; refine zq 7 rfl<|zN<|zT<|zt rfl<|zO<|zM<|c_inE<|zT<|zR<|zV (r_addn (b := 1) rfl rfl Om)<|zq 1 rfl<|zN<|zT ?_
      have hF := hS17; exact decideM_ok_c1
    refine zN<|zT<|zS<|zf rfl<|zO<|zM<|zM<|c_inE<|zT<|zS<|zS ?_
    rcases besta_or hbest with rfl | ⟨j, rfl, hj⟩
    · obtain rfl : k = rs.length := by omega
      refine zR<|zq 1 rfl<|wl_dec_t (r_lss rfl rfl) rfl (by decide)<|zN<|zT<|zt rfl<|zS<|zR<|zV (r_buildP (ps := [(1, .int .i64 (-1))]) (out := [.bool false, .int .i64 (-1), .int .i64 0, .string ⟨#[]⟩]) pl52 ti52 rfl rfl) ?_; refine wl_exs (x_storeW [] hS9 ti52 rfl rfl rfl rfl On) rfl ?_; intro w27 hS28; simp only [ca, na] at hS28; refine zN<|zT<|zU<|zL<|retc Tryz.results36 ⟨_, rfl, run_loadVar_blk ti52 ag52 (hS28.heap Z0) rfl⟩ ?_
      have hF := hS28; exact decideM_ok_c0
    obtain rfl : k = rs.length := by omega
    refine zR<|zq 1 rfl<|wl_dec_f (r_lss rfl rfl) rfl Om<|zN<|zT<|zf rfl<|zK<|zT<|zS<|zR<|zF fa24_0 rfl ti22.und rfl (hS9.heap Z2) rfl rfl rfl<|zq 1 rfl<|zV (r_ixF rule_v8 ti22.und ti50 rfl rfl (hrs.st hS9) Ln Sd (by decide)) ?_; refine zV (r_loadF rule_v8 ti50 ag50 rfl (hrs.st hS9) Sd (by decide)) ?_; refine zA (C := [.bool false, .slice none 0 0, .slice none 0 0, .slice none 0 0, .int .i64 0, .int .i64 0, .int .i64 0, .string ⟨#[]⟩]) hS9 ti50 rfl fun b10 w29 hS30=>zY (x_storeW [] hS30 ti50 rfl rfl rfl rfl (one_rule _)) ?_; intro w31 hS32; simp only [ca, na] at hS32; refine zN<|zT<|zS<|zR<|zq 1 rfl<|zF fa50_6 rfl ti3.und rfl (hS32.heap Z0) rfl rfl rfl<|zF fa50_7 rfl ti9.und rfl (hS32.heap Z0) rfl rfl rfl<|zV (r_buildF (vs := [.bool true, .int .i64 _, .int .i64 _, .string _]) (out := [.bool true, .int .i64 _, .int .i64 _, .string _]) pl52 ti52 rfl rfl (by intro i hi; match i, hi with | 0, _ => rfl | 1, _ => rfl | 2, _ => rfl | 3, _ => rfl) rfl) ?_; refine wl_exs (x_storeW [_] hS32 ti52 rfl rfl rfl rfl On) rfl ?_; intro w33 hS34; simp only [ca, na] at hS34; refine zN<|zT<|zU<|retc Tryz.results36 ⟨_, rfl, run_loadVar_blk ti52 ag52 (hS34.heap Z1) rfl⟩ ?_
    have hF := hS34; exact decideM_ok_c0

theorem decMP_ok (rs : List RuleD) (pa : Option Addr) (n pc : Nat) (x : WA) (m bk : Nat) (w : World) (hrs : Row w pa (rs.flatMap RuleD.v)) (hl : rs.length = n) (hn : n ≤ 140737488351232) (hall : ∀ r ∈ rs, RuleAt w r) (hw : WOk x) (hr : Row w x.ra (x.ro.map sv)) (hk : At w bk 0 [vi m]) (hm : m < rs.length) : Ret Tryz.prog 36 [.agg #[.slice pa n pc], .agg x.v.toArray, .func (.func 74) #[] #[pt bk 0]] w (fun v w' => ∃ ru, v = .agg (decV (decB (rs.eraseIdx m) x.b).1 ru (decB (rs.eraseIdx m) x.b).2.1 (decB (rs.eraseIdx m) x.b).2.2).toArray ∧ St w [] w' []) :=
  (decideM_ok rs pa n pc x.q m bk w hrs hl hn hall hw.ok hr hw.t0 hw.t1 hk).mono fun v w' ⟨al, ru, nd, fr, hv, hd, hS⟩ => ⟨ru, by rw [decB_m hm hd]; exact hv, hS⟩

end Go.Proofs.YtmonnmndphlkaaaGreat
end
section
namespace Go.Proofs.YtmonnmndphlkaaaGreat
open Go.Kw
set_option linter.unusedVariables false
set_option linter.unusedSimpArgs false
set_option maxRecDepth 100000
theorem warning_ok_c0 {p : Prop} (h : p := by first | exact .inl ⟨1, by decide, kind_1 hN, rfl, hF.fin⟩ | exact .inl ⟨2, by decide, kind_2 hN hD, rfl, hF.fin⟩ | exact .inl ⟨3, by decide, kind_3 hN hD (all_y hdn Om Om Om Om), rfl, hF.fin⟩ | exact .inr ⟨kind_0 hN hD (all_n fun h => by have h1 := h.1; have h2 := h.2; first | omega | (rw [hdn] at h1; cases h1)), rfl, hF.fin⟩) : p := h
set_option maxHeartbeats 4000000 in
theorem warning_ok (rs : List RuleD) (pa : Option Addr) (pc : Nat) (qs : List WA) (aW : Option Addr) (cW : Nat) (B : List BQ) (i : Nat) (w : World) (hrs : Row w pa (rs.flatMap RuleD.v)) (hn : rs.length ≤ 100) (hall : ∀ r ∈ rs, RuleAt w r) (hq : Row w aW (qs.flatMap WA.v)) (hqa : ∀ q ∈ qs, Row w q.ra (q.ro.map sv)) (hqw : ∀ q ∈ qs, WOk q) (hb : qs.map WA.b = B) (hql : qs.length ≤ 100000) (hi : i < rs.length) :
    Ret Tryz.prog 40 [.agg #[.slice pa rs.length pc], .slice aW qs.length cW, vi i] w (fun v w' => (∃ k : Nat, 0 < k ∧ kindW rs B i = k ∧ v = .tuple #[.agg (wv (i, k)).toArray, .bool true] ∧ St w [] w' []) ∨ (kindW rs B i = 0 ∧ v = .tuple #[.agg #[vi 0, vi 0, vi 0], .bool false] ∧ St w [] w' [])) := by
  have hgi := hall (gt rs i) (gt_mem rs i hi)
  refine enter Tryz.func40 rfl Tryz.ntmps40 rfl ?_
  have hS := St.refl w []
  refine zS<|zR<|zB (v := .agg _) hS rfl rfl fun b3 w1 hS2=>zB (v := .int .i64 _) hS2 rfl rfl fun b5 w3 hS4=>zA (C := [.int .i64 0, .int .i64 0, .int .i64 0]) hS4 ti62 rfl fun b6 w5 hS6=>zq 1 rfl<|zN<|zT<|zS<|zR<|zq 2 rfl<|zN<|zT<|zS<|zR<|zF fa24_0 rfl ti22.und rfl (hS6.heap Z2) rfl rfl rfl<|zV (r_loadB1 ti3.und rfl rfl (hS6.heap Z1) rfl)<|zV (r_ixF rule_v8 ti22.und ti50 rfl rfl (hrs.st hS6) Ln Sd (by decide)) ?_; refine zV (r_loadF rule_v8 ti50 ag50 rfl (hrs.st hS6) Sd (by decide)) ?_; refine zA (C := [.bool false, .slice none 0 0, .slice none 0 0, .slice none 0 0, .int .i64 0, .int .i64 0, .int .i64 0, .string ⟨#[]⟩]) hS6 ti50 rfl fun b10 w7 hS8=>zY (x_storeW [] hS8 ti50 rfl rfl rfl rfl (one_rule _)) ?_; intro w9 hS10; simp only [ca, na] at hS10; refine zN<|zT<|zS<|zS<|zR<|zq 1 rfl<|zV (r_len (T := 26) rfl ti26.und rfl _ rfl)<|zq 1 rfl<|zN<|zT<|zI ?_
  refine c_loopE [3, 5, 6, 7, 10, 20, 21] (fun d e w' => ∃ (j : Nat) (nv : Bool), Kw.look e 22 = vi j ∧ Kw.look e 8 = .bool nv ∧ Kw.look e 9 = .bool true ∧ d = qs.length - j ∧ St w [] w' [.blk b10 (cl (gt rs i).v 50), .blk b6 (cl [vi 0, vi 0, vi 0] 62), .blk b5 (cl [vi i] 3), .blk b3 (cl [.slice pa rs.length pc] 24)] ∧ (j ≤ qs.length) ∧ (nv = (B.take j).all (nevF rs i)) ∧ ((B.take j).all (deaF rs i) = true)) (qs.length - 0) ?_ ?_
  · exact ⟨0, true, rfl, rfl, rfl, rfl, hS10, Nat.zero_le _, by simp, by simp⟩
  · rintro d14 e11 w12 ⟨j, nv, hc0_22, hc0_8, hc0_9, rfl, hS13, hj, hnv, hdd⟩ -
    refine c_set (d := 22) hc0_22<|c_set (d := 8) hc0_8<|c_set (d := 9) hc0_9<|zS<|zR ?_
    refine wl_dec (r_lss rfl rfl) rfl (fun h4_0 => ?_) (fun h4_0 => ?_)
    · refine zN<|zT<|zS<|zt rfl<|zK<|zT<|zS<|zI<|zS<|zR<|zV (r_ixF wa_v68 ti26.und ti40 rfl rfl (hq.st hS13) Ln Sd (by decide)) ?_
      refine zV (r_loadF wa_v68 ti40 ag40 rfl (hq.st hS13) Sd (by decide)) ?_; refine zA (C := [.int .u8 0, .int .u8 0, .int .u8 0, .int .u8 0, .int .u8 0, .int .u8 0, .int .u8 0, .int .u8 0, .int .u8 0, .int .u8 0, .int .u8 0, .int .u8 0, .int .u8 0, .int .u8 0, .int .u8 0, .int .u8 0, .slice none 0 0, .int .i64 0, .string ⟨#[]⟩, .int .u8 0, .int .u8 0, .int .u8 0, .int .u8 0, .int .u8 0, .int .u8 0, .int .u8 0, .int .u8 0, .int .u8 0, .int .u8 0, .int .u8 0, .int .u8 0, .int .u8 0, .int .u8 0, .int .u8 0, .int .u8 0, .int .i64 0, .int .u8 0, .int .u8 0, .int .u8 0, .int .u8 0, .int .u8 0, .int .u8 0, .int .u8 0, .int .u8 0, .int .u8 0, .int .u8 0, .int .u8 0, .int .u8 0, .int .u8 0, .int .u8 0, .int .u8 0, .int .u8 0, .int .u8 0, .int .u8 0, .int .u8 0, .int .u8 0, .int .u8 0, .int .u8 0, .int .u8 0, .int .u8 0, .int .u8 0, .int .u8 0, .int .u8 0, .int .u8 0, .int .u8 0, .int .u8 0, .int .u8 0, .int .u8 0]) hS13 ti40 rfl fun b12 w15 hS16=>zY (x_storeW [] hS16 ti40 rfl rfl (wa_v68 _) rfl (one_wa _)) ?_; intro w17 hS18; simp only [ca, na] at hS18; refine zN<|zT<|zS<|zS<|zR<|zV (r_loadB ti50 ag50 rfl (hS18.heap Z1) Ln) ?_; refine zV (r_loadB ti40 ag40 rfl (hS18.heap Z0) (wa_v68 _))<|zC fn68 rfl ((meetP_ok (gt rs i) (gt qs j) _ (hgi.st hS18) (hqw _ (gt_mem qs j Om)) ((hqa _ (gt_mem qs j Om)).st hS18)).br) ?_
      rintro _ w19 (⟨hmt, rfl, hx20⟩ | ⟨hmt, rfl, hx20⟩)
      · have hS21 := hS18.ext hx20
        refine zq 1 rfl<|zN<|zT<|zf rfl<|zK<|zT<|zS<|zR<|zq 1 rfl<|zN<|zT<|zS<|zR<|zV (r_loadB ti24 ag24 rfl (hS21.heap Z4) Ln) ?_; refine zV (r_loadB ti40 ag40 rfl (hS21.heap Z0) (wa_v68 _))<|zV (r_makeF (vs := [pt b5 0]) rfl)<|zC fn36 rfl (decMP_ok rs pa rs.length pc (gt qs j) i b5 _ (hrs.st hS21) rfl Om (fun r hr' => (hall r hr').st hS21) (hqw _ (gt_mem qs j Om)) ((hqa _ (gt_mem qs j Om)).st hS21) (at_all (hS21.heap Z3)) hi) ?_; rintro _ w22 ⟨ru1, rfl, hx23⟩; have hS24 := hS21.ext hx23; refine zA (C := [.bool false, .int .i64 0, .int .i64 0, .string ⟨#[]⟩]) hS24 ti52 rfl fun b13 w25 hS26=>zY (x_storeW [] hS26 ti52 rfl rfl rfl rfl one_dec) ?_; intro w27 hS28; simp only [ca, na] at hS28; refine zN<|zT<|zS<|c_drawS 4 hMixed hS28 ?_; intro w29 hS30; refine zG 0 rfl hS30 (fun wF hF => r_loadB ti24 ag24 rfl (hF.heap Z5) Ln) ?_; refine zG 1 rfl hS30 (fun wF hF => r_loadB ti40 ag40 rfl (hF.heap Z1) (wa_v68 _)) ?_; refine zG 3 rfl hS30 (fun wF hF => r_loadB ti52 ag52 rfl (hF.heap Z0) rfl) ?_; refine zG1 2 ?_; refine o_call rfl (r_call fn36 rfl rfl) rfl (decP_ok rs pa rs.length pc (gt qs j) _ (hrs.st hS30) rfl Om (fun r hr' => (hall r hr').st hS30) (hqw _ (gt_mem qs j Om)) ((hqa _ (gt_mem qs j Om)).st hS30)) ?_; rintro _ w31 ⟨ru2, rfl, hx32⟩; have hS33 := hS30.ext hx32
        refine ⟨hS33, ?_⟩
        refine zGT rfl ?_; refine zC fn35 rfl (sameDec_ok _ _ _ _ _ _ _ _ _) ?_
        rintro _ w34 (⟨hd, rfl, hx35⟩ | ⟨hd, rfl, hx35⟩)
        · have hS36 := hS33.ext hx35
          refine zq 1 rfl<|zN<|zT<|zf rfl<|zK<|zJ<|zT<|zR<|zV (r_addn (b := 1) rfl rfl Om)<|zq 1 rfl<|zN<|zT ?_
          exact ⟨qs.length - (j + 1), _, by omega, rfl, ⟨j + 1, _, rfl, rfl, rfl, rfl, hS36.drop1.drop1, by omega, (by first | exact nev_n hb Om hnv hmt | exact nev_y hb Om hmt), (by first | exact dea_n hi hb Om hdd hmt | exact dea_y hb Om hdd hd)⟩, ⟨rfl, rfl, rfl, rfl, rfl, rfl, rfl, trivial⟩⟩
        have hS36 := hS33.ext hx35; refine zq 1 rfl<|zN<|zT<|zt rfl<|zS<|zR<|zq 1 rfl<|zN<|zT<|zO<|c_inF rfl<|zM<|zM<|c_inE<|zT<|zS ?_
        have hN := nev_f hb Om hmt (i := i)
        have hD := dea_f hb Om hd (i := i)
        refine zR<|zV (r_loadB1 ti3.und rfl rfl (hS36.heap Z4) rfl)<|zV (r_buildP (ps := [(0, .int .i64 _), (2, .int .i64 (-1))]) (out := [.int .i64 _, .int .i64 0, .int .i64 (-1)]) pl62 ti62 rfl rfl)<|zA (C := [.int .i64 0, .int .i64 0, .int .i64 0]) hS36 ti62 rfl fun b14 w37 hS38=> ?_; refine wl_exs (x_storeW [] hS38 ti62 rfl rfl Ln Ln On) rfl ?_; intro w39 hS40; simp only [ca, na] at hS40; refine zN<|zT<|zS<|zI<|zS<|zR<|zq 2 rfl<|zN<|zT<|zf rfl<|zS<|zR<|zq 2 rfl<|zN<|zT<|zf rfl<|zS ?_
        rcases bool_cases (gt rs i).dn with hdn | hdn
        · refine zR<|zV (r_field fa50_0 rfl)<|zV (r_loadB1 ti4.und rfl rfl (hS40.heap Z3) (by first | exact rule_dn_t hdn | exact rule_dn_f hdn)) ?_
          refine zq 25 rfl<|zN<|zT<|zf rfl<|zS<|zR<|zV (r_buildZ pl62 ti62) ?_; refine wl_exs (x_storeW [_, _, _, _] hS40 ti62 rfl rfl Ln Ln On) rfl ?_; intro w41 hS42; simp only [ca, na] at hS42; refine zq 1 rfl<|zN<|zT<|zU<|zH<|zL<|ret2 Tryz.results40 ⟨_, rfl, run_loadVar_blk ti62 ag62 (hS42.heap Z4) Ln⟩ rfl ?_
          have hF := hS42; exact warning_ok_c0
        refine zR<|zV (r_field fa50_0 rfl)<|zV (r_loadB1 ti4.und rfl rfl (hS40.heap Z3) (by first | exact rule_dn_t hdn | exact rule_dn_f hdn)) ?_; refine zq 2 rfl<|wl_val (r_field fa50_1 rfl) rfl<|wl_val (r_loadB1 ti36.und rfl rfl (hS40.heap Z3) rfl) rfl<|wl_val (r_len (T := 36) rfl ti36.und rfl _ rfl) rfl ?_
        refine wl_dec (r_eql rfl rfl) rfl (fun h18_7 => ?_) (fun h18_7 => ?_)
        · refine zq 2 rfl<|wl_val (r_field fa50_2 rfl) rfl<|wl_val (r_loadB1 ti48.und rfl rfl (hS40.heap Z3) rfl) rfl<|wl_val (r_len (T := 48) rfl ti48.und rfl _ rfl) rfl ?_
          refine wl_dec (r_eql rfl rfl) rfl (fun h18_13 => ?_) (fun h18_13 => ?_)
          · refine zq 2 rfl<|wl_val (r_field fa50_3 rfl) rfl<|wl_val (r_loadB1 ti36.und rfl rfl (hS40.heap Z3) rfl) rfl<|wl_val (r_len (T := 36) rfl ti36.und rfl _ rfl) rfl ?_
            refine wl_dec (r_eql rfl rfl) rfl (fun h18_19 => ?_) (fun h18_19 => ?_)
            · refine zq 2 rfl<|wl_val (r_field fa50_6 rfl) rfl<|wl_val (r_loadB1 ti3.und rfl rfl (hS40.heap Z3) rfl) rfl ?_
              refine wl_dec (r_eql rfl rfl) rfl (fun h18_24 => ?_) (fun h18_24 => ?_)
              · refine zq 2 rfl<|zN<|zT<|zt rfl<|zR<|zV (r_field fa62_1 rfl)<|zY (x_store1 [] hS40 ti3 rfl rfl rfl (by simp)) ?_
                intro w43 hS44; simp only [ca, na] at hS44; refine zN<|zJ<|zT<|zS<|zR<|zV (r_loadB ti62 ag62 rfl (hS44.heap Z0) Ln) ?_; refine wl_exs (x_storeW [_, _, _, _] hS44 ti62 rfl rfl Ln Ln On) rfl ?_; intro w45 hS46; simp only [ca, na] at hS46; refine zq 1 rfl<|zN<|zT<|zU<|ret2 Tryz.results40 ⟨_, rfl, run_loadVar_blk ti62 ag62 (hS46.heap Z4) Ln⟩ rfl ?_
                have hF := hS46; exact warning_ok_c0
              refine zq 2 rfl<|zN<|zT<|zf rfl<|zS<|zR<|zV (r_buildZ pl62 ti62) ?_; refine wl_exs (x_storeW [_, _, _, _] hS40 ti62 rfl rfl Ln Ln On) rfl ?_; intro w47 hS48; simp only [ca, na] at hS48; refine zq 1 rfl<|zN<|zT<|zU<|zH<|zL<|ret2 Tryz.results40 ⟨_, rfl, run_loadVar_blk ti62 ag62 (hS48.heap Z4) Ln⟩ rfl ?_
              have hF := hS48; exact warning_ok_c0
            refine zq 7 rfl<|zN<|zT<|zf rfl<|zS<|zR<|zV (r_buildZ pl62 ti62) ?_; refine wl_exs (x_storeW [_, _, _, _] hS40 ti62 rfl rfl Ln Ln On) rfl ?_; intro w49 hS50; simp only [ca, na] at hS50; refine zq 1 rfl<|zN<|zT<|zU<|zH<|zL<|ret2 Tryz.results40 ⟨_, rfl, run_loadVar_blk ti62 ag62 (hS50.heap Z4) Ln⟩ rfl ?_
            have hF := hS50; exact warning_ok_c0
          refine zq 13 rfl<|zN<|zT<|zf rfl<|zS<|zR<|zV (r_buildZ pl62 ti62) ?_; refine wl_exs (x_storeW [_, _, _, _] hS40 ti62 rfl rfl Ln Ln On) rfl ?_; intro w51 hS52; simp only [ca, na] at hS52; refine zq 1 rfl<|zN<|zT<|zU<|zH<|zL<|ret2 Tryz.results40 ⟨_, rfl, run_loadVar_blk ti62 ag62 (hS52.heap Z4) Ln⟩ rfl ?_
          have hF := hS52; exact warning_ok_c0
        refine zq 19 rfl<|zN<|zT<|zf rfl<|zS<|zR<|zV (r_buildZ pl62 ti62) ?_; refine wl_exs (x_storeW [_, _, _, _] hS40 ti62 rfl rfl Ln Ln On) rfl ?_; intro w53 hS54; simp only [ca, na] at hS54; refine zq 1 rfl<|zN<|zT<|zU<|zH<|zL<|ret2 Tryz.results40 ⟨_, rfl, run_loadVar_blk ti62 ag62 (hS54.heap Z4) Ln⟩ rfl ?_
        have hF := hS54; exact warning_ok_c0
      have hS21 := hS18.ext hx20; refine zq 1 rfl<|zN<|zT<|zt rfl<|zO<|zM<|c_inE<|zT<|zR<|zV (r_addn (b := 1) rfl rfl Om)<|zq 1 rfl<|zN<|zT ?_
      exact ⟨qs.length - (j + 1), _, by omega, rfl, ⟨j + 1, _, rfl, rfl, rfl, rfl, hS21.drop1, by omega, (by first | exact nev_n hb Om hnv hmt | exact nev_y hb Om hmt), (by first | exact dea_n hi hb Om hdd hmt | exact dea_y hb Om hdd hd)⟩, ⟨rfl, rfl, rfl, rfl, rfl, rfl, rfl, trivial⟩⟩
    refine zN<|zT<|zS<|zf rfl<|zO<|zM<|zM<|c_inE<|zT<|zS ?_
    obtain rfl : j = qs.length := by omega
    have hN := nev_all hb hnv
    have hD := dea_all hb hdd
    refine zR<|zV (r_loadB1 ti3.und rfl rfl (hS13.heap Z2) rfl)<|zV (r_buildP (ps := [(0, .int .i64 _), (2, .int .i64 (-1))]) (out := [.int .i64 _, .int .i64 0, .int .i64 (-1)]) pl62 ti62 rfl rfl)<|zA (C := [.int .i64 0, .int .i64 0, .int .i64 0]) hS13 ti62 rfl fun b14 w55 hS56=> ?_; refine wl_exs (x_storeW [] hS56 ti62 rfl rfl Ln Ln On) rfl ?_; intro w57 hS58; simp only [ca, na] at hS58; refine zN<|zT<|zS<|zI<|zS ?_
    rcases bool_cases nv with rfl | rfl
    · refine zR<|zq 2 rfl<|zN<|zT<|zt rfl<|zR<|zV (r_field fa62_1 rfl)<|zY (x_store1 [] hS58 ti3 rfl rfl rfl (by simp)) ?_
      intro w59 hS60; simp only [ca, na] at hS60; refine zN<|zJ<|zT<|zS<|zR<|zV (r_loadB ti62 ag62 rfl (hS60.heap Z0) Ln) ?_; refine wl_exs (x_storeW [_, _] hS60 ti62 rfl rfl Ln Ln On) rfl ?_; intro w61 hS62; simp only [ca, na] at hS62; refine zq 1 rfl<|zN<|zT<|zU<|ret2 Tryz.results40 ⟨_, rfl, run_loadVar_blk ti62 ag62 (hS62.heap Z2) Ln⟩ rfl ?_
      have hF := hS62; exact warning_ok_c0
    refine zR<|zq 2 rfl<|zN<|zT<|zf rfl<|zS<|zR<|zq 2 rfl<|zN<|zT<|zt rfl<|zR<|zV (r_field fa62_1 rfl)<|zY (x_store1 [] hS58 ti3 rfl rfl rfl (by simp)) ?_; intro w63 hS64; simp only [ca, na] at hS64; refine zN<|zJ<|zT<|zS<|zR<|zV (r_loadB ti62 ag62 rfl (hS64.heap Z0) Ln) ?_; refine wl_exs (x_storeW [_, _] hS64 ti62 rfl rfl Ln Ln On) rfl ?_; intro w65 hS66; simp only [ca, na] at hS66; refine zq 1 rfl<|zN<|zT<|zU<|ret2 Tryz.results40 ⟨_, rfl, run_loadVar_blk ti62 ag62 (hS66.heap Z2) Ln⟩ rfl ?_
    have hF := hS66; exact warning_ok_c0

end Go.Proofs.YtmonnmndphlkaaaGreat
end
section
namespace Go.Proofs.YtmonnmndphlkaaaGreat
open Go.Kw
set_option linter.unusedVariables false
set_option linter.unusedSimpArgs false
set_option maxRecDepth 100000
set_option maxHeartbeats 4000000 in
theorem Lint_ok (rs : List RuleD) (pa : Option Addr) (pc : Nat) (w : World) (hrs : Row w pa (rs.flatMap RuleD.v)) (hall : ∀ r ∈ rs, RuleAt w r) (h6 : rs.length ≤ 6) :
    Ret Tryz.prog 17 [.agg #[.slice pa rs.length pc]] w (fun v w' => (¬ polE rs = 0 ∧ v = .tuple #[.slice none 0 0, .int .i64 (polE rs)] ∧ St w [] w' []) ∨ ((polE rs = 0 ∧ 100000 < wTot rs) ∧ v = .tuple #[.slice none 0 0, vi 5] ∧ St w [] w' []) ∨ ((polE rs = 0 ∧ wTot rs ≤ 100000) ∧ ∃ (a : Option Addr) (c : Nat), v = .tuple #[.slice a (lintW rs (worldBs rs) rs.length).length c, vi 0] ∧ St w [] w' [.row (.slice a (lintW rs (worldBs rs) rs.length).length c) 62 3 (lintW rs (worldBs rs) rs.length).length ((lintW rs (worldBs rs) rs.length).flatMap wv)])) := by
  refine enter Tryz.func17 rfl Tryz.ntmps17 rfl ?_
  have hS := St.refl w []
  refine zS<|zR<|zB (v := .agg _) hS rfl rfl fun b1 w1 hS2=>zq 2 rfl<|zN<|zT<|zS<|zR<|zV (r_loadB ti24 ag24 rfl (hS2.heap Z0) Ln) ?_; refine zC fn24 rfl (worldOf_ok rs pa rs.length pc _ (hrs.st hS2) rfl Om (fun r hr => (hall r hr).st hS2)) ?_
  rintro _ w3 (⟨hp, rfl, hx4⟩ | ⟨hp, rfl, hx4⟩ | ⟨hp, qs, aQ, cQ, LT, hA, hb, hrc, rfl, hcQ, hx4⟩)
  · have hS5 := hS2.ext hx4
    refine zq 5 rfl<|zN<|zT<|zS<|zS<|zR<|zq 1 rfl<|wl_dec_t (r_neq rfl rfl) rfl hp<|zN<|zT<|zt rfl<|zS<|zR<|zq 3 rfl<|zN<|zT<|zU<|zL<|ret2 Tryz.results17 rfl rfl ?_
    first | exact .inl ⟨hp, rfl, hS5.fin⟩ | exact .inr (.inl ⟨hp, rfl, hS5.fin⟩)
  · have hS5 := hS2.ext hx4
    refine zq 5 rfl<|zN<|zT<|zS<|zS<|zR<|zq 1 rfl<|wl_dec_t (r_neq rfl rfl) rfl (by decide)<|zN<|zT<|zt rfl<|zS<|zR<|zq 3 rfl<|zN<|zT<|zU<|zL<|ret2 Tryz.results17 rfl rfl ?_
    first | exact .inl ⟨hp, rfl, hS5.fin⟩ | exact .inr (.inl ⟨hp, rfl, hS5.fin⟩)
  have hS5 := St.callT (X := [_]) (LT := LT) hS2 hx4
  simp only [ca, na] at hS5; refine zq 5 rfl<|zN<|zT<|zS<|zS<|zR<|zq 1 rfl<|wl_dec_f (r_neq rfl rfl) rfl (by decide)<|zN<|zT<|zf rfl<|zK<|zT<|zS ?_
  have hw := wok_of hall (polE_zero hp.1).2 (polE_zero hp.1).1 hb hrc
  have hql : qs.length ≤ 100000 := by have := asks_len hb; have := hp.2; unfold wTot at this; omega
  have hb : qs.map WA.b = (worldBs rs) := hb
  refine zR<|zq 1 rfl<|zN<|zT<|zS<|zS<|zR<|zF fa24_0 rfl ti22.und rfl (hS5.heap Z1) rfl rfl rfl<|zV (r_len (T := 22) rfl ti22.und rfl _ rfl)<|zq 1 rfl<|zN<|zT<|zI ?_
  refine c_loopE [1, 2, 3, 4, 20] (fun d e w' => ∃ (k : Nat) (a6 : Option Addr) (c6 : Nat), Kw.look e 21 = vi k ∧ Kw.look e 6 = .slice a6 (lintW rs (worldBs rs) k).length c6 ∧ d = rs.length - k ∧ St w [] w' (.row (.slice a6 (lintW rs (worldBs rs) k).length c6) 62 3 (lintW rs (worldBs rs) k).length ((lintW rs (worldBs rs) k).flatMap wv) :: .row (.slice aQ qs.length cQ) 40 68 qs.length (qs.flatMap WA.v) :: .blk b1 (cl [.slice pa rs.length pc] 24) :: LT) ∧ (k ≤ rs.length)) (rs.length - 0) ?_ ?_
  · have hS99 := St.nilRow (E := 62) (sz := 3) hS5
    exact ⟨0, none, 0, rfl, rfl, rfl, hS99, Nat.zero_le _⟩
  · rintro d9 e6 w7 ⟨k, a6, c6, hc0_21, hc0_6, rfl, hS8, hk⟩ -
    refine c_set (d := 21) hc0_21<|c_set (d := 6) hc0_6<|zS<|zR ?_
    refine wl_dec (r_lss rfl rfl) rfl (fun h6_0 => ?_) (fun h6_0 => ?_)
    · refine zN<|zT<|zS<|zt rfl<|zK<|zT<|zS<|zI<|zS<|zR<|zq 2 rfl<|zN<|zT<|zS<|zR<|zV (r_loadB ti24 ag24 rfl (hS8.heap Z2) Ln) ?_
      refine zq 2 rfl<|zC fn40 rfl (warning_ok rs pa pc qs aQ cQ (worldBs rs) k _ (hrs.st hS8) Om (fun r hr => (hall r hr).st hS8) (St.rowAt hS8 Z1) (hA _ (hS8.hold fun x hx => by simp [hx])) hw hb hql Om) ?_
      rintro _ w10 (⟨kd, hk0, hkd, rfl, hx11⟩ | ⟨hkd, rfl, hx11⟩)
      · have hS12 := hS8.ext hx11
        refine zq 3 rfl<|zA (C := [.int .i64 0, .int .i64 0, .int .i64 0]) hS12 ti62 rfl fun bb8 w13 hS14=>zY (x_storeW [] hS14 ti62 rfl rfl (by first | rfl | exact wv_3 _) rfl (by first | exact one_wv _ | exact one_wv (0, 0) | exact one_w0)) ?_; intro w15 hS16; simp only [ca, na] at hS16; refine zq 1 rfl<|zN<|zT<|zS<|zR<|zq 1 rfl<|zN<|zT<|zt rfl ?_
        have hll := lint_len rs (worldBs rs) k
        refine zR<|zq 1 rfl<|zV (r_loadB ti62 ag62 rfl (hS16.heap Z0) rfl)<|zX (x_litA1 hS16 ti55.und ti62 rfl (wv_3 _) rfl (by decide) (by decide)) ?_; rintro _ w17 ⟨b34, rfl, hS18⟩; refine zX (x_append [_, _] hS18 ti55.und ti62 rfl (by decide) rfl rfl (Row.of_at (at_all (hS18.heap Z0))) (wv_3 _) (one_wv _) Sd Sd _ rfl) ?_; rintro _ w19 ⟨aq21, cq21, rfl, hcq21, hS20⟩; simp only [ca, na] at hS20; refine zq 1 rfl<|zN<|zJ<|zT<|zR<|zV (r_addn (b := 1) rfl rfl Om)<|zq 1 rfl<|zN<|zT ?_
        have eX : (lintW rs (worldBs rs) (k + 1)) = (lintW rs (worldBs rs) k) ++ [(k, kd)] := lint_y hkd hk0
        have el : (lintW rs (worldBs rs) (k + 1)).length = (lintW rs (worldBs rs) k).length + 1 := by rw [eX, List.length_append]; rfl
        have hS22 := St.reRow1 (k := (lintW rs (worldBs rs) (k + 1)).length) (zs := (lintW rs (worldBs rs) (k + 1)).flatMap wv) hS20.drop1.drop1 el (by rw [eX, List.flatMap_append]; simp)
        exact ⟨rs.length - (k + 1), _, by omega, rfl, ⟨k + 1, aq21, cq21, rfl, congrArg (fun n => Value.slice aq21 n cq21) el.symm, rfl, hS22, by omega⟩, ⟨rfl, rfl, rfl, rfl, rfl, trivial⟩⟩
      have hS12 := hS8.ext hx11; refine zq 3 rfl<|zA (C := [.int .i64 0, .int .i64 0, .int .i64 0]) hS12 ti62 rfl fun bb8 w23 hS24=>zY (x_storeW [] hS24 ti62 rfl rfl (by first | rfl | exact wv_3 _) rfl (by first | exact one_wv _ | exact one_wv (0, 0) | exact one_w0)) ?_; intro w25 hS26; simp only [ca, na] at hS26; refine zq 1 rfl<|zN<|zT<|zS<|zR<|zq 1 rfl<|zN<|zT<|zf rfl<|zK<|zJ<|zT<|zR<|zV (r_addn (b := 1) rfl rfl Om)<|zq 1 rfl<|zN<|zT ?_
      have eX : (lintW rs (worldBs rs) (k + 1)) = (lintW rs (worldBs rs) k) := lint_n hkd
      exact ⟨rs.length - (k + 1), _, by omega, rfl, ⟨k + 1, a6, c6, rfl, by rw [eX]; rfl, rfl, by rw [eX]; exact hS26.drop1, by omega⟩, ⟨rfl, rfl, rfl, rfl, rfl, trivial⟩⟩
    refine zN<|zT<|zS<|zf rfl<|zO<|zM<|zM<|c_inE<|zT<|zS<|zR<|zq 3 rfl<|zN<|zT<|zU<|ret2 Tryz.results17 rfl rfl ?_
    obtain rfl : k = rs.length := by omega
    exact .inr (.inr ⟨hp, a6, c6, rfl, (St.front [_] (hS8.perm ((List.Perm.cons _ ((List.Perm.cons _ (List.Perm.refl _)).trans (List.perm_middle (l₁ := [_])).symm)).trans (List.perm_middle (l₁ := [_])).symm)).drop1.drop1)⟩)

end Go.Proofs.YtmonnmndphlkaaaGreat
end
