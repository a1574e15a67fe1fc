/- What the law's proof leans on. No condition. -/
import Derived.Test.YtmonnmndphlkaaaGreatPWnAI
import Derived.Test.YtmonnmndphlkaaaGreatPWnBH
import Derived.Test.YtmonnmndphlkaaaGreatPWnBU
namespace Go.Proofs.YtmonnmndphlkaaaGreat
open Go.Kw
set_option linter.unusedVariables false
set_option linter.unusedSimpArgs false
set_option maxRecDepth 100000
theorem nd_skip {rs : List RuleD} {q : AskD} {k : Nat} (h : ∀ i, i < k → meetE (gt rs i) q = true → (gt rs i).dn = false) (hm : meetE (gt rs k) q = false) : ∀ i, i < k + 1 → meetE (gt rs i) q = true → (gt rs i).dn = false := fun i hi hm' => by
  by_cases e : i = k
  · subst e; rw [hm] at hm'; cases hm'
  · exact h i (by omega) hm'
theorem nd_meet {rs : List RuleD} {q : AskD} {k : Nat} (h : ∀ i, i < k → meetE (gt rs i) q = true → (gt rs i).dn = false) (hd : (gt rs k).dn = false) : ∀ i, i < k + 1 → meetE (gt rs i) q = true → (gt rs i).dn = false := fun i hi hm' => by
  by_cases e : i = k
  · subst e; exact hd
  · exact h i (by omega) hm'

theorem rdecide_ok_c0 {p : Prop} (h : p := by first | exact ⟨false, _, 0, [], rfl, .inl ⟨k, by omega, hmt, hdn, fun j hj hm => hnd j hj hm, rfl, rfl, rfl, rfl⟩, hF.fin⟩ | exact ⟨al, b, nd, fr, rfl, dec_of hbest hdc, hF.fin⟩) : p := h
theorem rdecide_ok_c1 {p : Prop} (h : p := by exact ⟨rs.length - (k + 1), _, by omega, rfl, ⟨k + 1, rfl, rfl, hF.drop1, by omega, (by first | exact nd_skip hnd hmt | exact nd_meet hnd hdn)⟩, ⟨rfl, rfl, rfl, rfl, rfl, rfl, trivial⟩⟩) : p := h
theorem rdecide_ok_c2 {p : Prop} (h : p := by exact ⟨rs.length - (k + 1), _, by omega, rfl, ⟨k + 1, _, _, _, _, rfl, rfl, hF.drop1, by omega, (by first | exact upd_new hbest hdc hmt (hnd k Om hmt) (.inl h12_6) | exact upd_new hbest hdc hmt (hnd k Om hmt) (.inr h12_12) | exact upd_keep hbest hdc (hnd k Om hmt) h12_6 h12_12 | exact best_skip hbest hmt), (by first | exact hdc | exact .inr ⟨k, rfl, rfl, rfl, rfl⟩)⟩, ⟨rfl, rfl, rfl, rfl, rfl, trivial⟩⟩) : p := h
set_option maxHeartbeats 4000000 in
theorem rdecide_ok (rs : List RuleD) (pa : Option Addr) (n pc : Nat) (q : AskD) (w : World) (hrs : Row w pa (rs.flatMap RuleD.v)) (hl : rs.length = n) (hn : n ≤ 140737488351232) (hall : ∀ r ∈ rs, RuleAt w r) (hq : AskOk q) (hr : Row w q.ra (q.ro.map sv)) (ht0 : 0 ≤ q.tm) (ht1 : q.tm ≤ 1099511627776) (hall0 : ∀ r ∈ rs, ruleE r = 0) :
    Ret Tryz.prog 15 [.agg #[.slice pa n pc], .agg q.v.toArray] w (fun v w' => ∃ al ru nd fr, v = .agg (decV al ru nd fr).toArray ∧ DecR rs q al ru nd fr ∧ St w [] w' []) := by
  subst hl
  have hac := hq.ac
  have hkey := hq.key
  have hdet := hq.det
  refine enter Tryz.func15 rfl Tryz.ntmps15 rfl ?_
  have hS := St.refl w []
  refine zS<|zR<|zB (v := .agg _) hS rfl rfl fun b2 w1 hS2=>zB (v := .agg _) hS2 rfl rfl fun b3 w3 hS4=>zA (C := [.bool false, .int .i64 0, .int .i64 0, .string ⟨#[]⟩]) hS4 ti52 rfl fun b4 w5 hS6=>zN<|zT<|zS<|zR<|zV (r_buildP (ps := [(1, .int .i64 (-1))]) (out := [.bool false, .int .i64 (-1), .int .i64 0, .string ⟨#[]⟩]) pl52 ti52 rfl rfl)<|zA (C := [.bool false, .int .i64 0, .int .i64 0, .string ⟨#[]⟩]) hS6 ti52 rfl fun b5 w7 hS8=> ?_; refine wl_exs (x_storeW [] hS8 ti52 rfl rfl rfl rfl On) rfl ?_; intro w9 hS10; simp only [ca, na] at hS10; refine zN<|zT<|zS<|zS<|zR<|zF fa24_0 rfl ti22.und rfl (hS10.heap Z3) rfl rfl rfl<|zV (r_len (T := 22) rfl ti22.und rfl _ rfl)<|zq 1 rfl<|zN<|zT<|zI ?_
  refine c_loopE [2, 3, 4, 5, 12, 13] (fun d e w' => ∃ (k : Nat), Kw.look e 14 = vi k ∧ d = rs.length - k ∧ St w [] w' [.blk b5 (cl (decV false (-1) 0 []) 52), .blk b4 (cl [.bool false, .int .i64 0, .int .i64 0, .string ⟨#[]⟩] 52), .blk b3 (cl q.v 40), .blk b2 (cl [.slice pa rs.length pc] 24)] ∧ (k ≤ rs.length) ∧ (∀ i, i < k → meetE (gt rs i) q = true → (gt rs i).dn = false)) (rs.length - 0) ?_ ?_
  · exact ⟨0, rfl, rfl, hS10, Nat.zero_le _, fun i hi => by omega⟩
  · rintro d14 e11 w12 ⟨k, hc0_14, rfl, hS13, hk, hnd⟩ -
    refine c_set (d := 14) hc0_14<|zS<|zR ?_
    refine wl_dec (r_lss rfl rfl) rfl (fun h3_0 => ?_) (fun h3_0 => ?_)
    · refine zN<|zT<|zS<|zt rfl<|zK<|zT<|zS<|zI<|zS<|zR<|zq 1 rfl<|zV (r_ixF rule_v8 ti22.und ti50 rfl rfl (hrs.st hS13) Ln Sd (by decide)) ?_
      refine zV (r_loadF rule_v8 ti50 ag50 rfl (hrs.st hS13) Sd (by decide)) ?_; refine zA (C := [.bool false, .slice none 0 0, .slice none 0 0, .slice none 0 0, .int .i64 0, .int .i64 0, .int .i64 0, .string ⟨#[]⟩]) hS13 ti50 rfl fun b7 w15 hS16=>zq 1 rfl<|zY (x_storeW [] hS16 ti50 rfl rfl rfl rfl (one_rule _)) ?_; intro w17 hS18; simp only [ca, na] at hS18; refine zN<|zT<|zS<|zS ?_
      have hgk := hall (gt rs k) (gt_mem rs k Om)
      refine zR<|zV (r_loadB ti50 ag50 rfl (hS18.heap Z0) Ln) ?_; refine zV (r_loadB ti40 ag40 rfl (hS18.heap Z3) Ln) ?_; refine zC fn39 rfl ((rmeets_ok (gt rs k) q _ (hgk.st hS18).ok (hgk.st hS18).h1 (hgk.st hS18).h2 (hgk.st hS18).h3 hq (hr.st hS18) ht0 ht1 (hall0 (gt rs k) (gt_mem rs k Om))).br) ?_
      rintro _ w19 (⟨hmt, rfl, hx20⟩ | ⟨hmt, rfl, hx20⟩)
      · have hS21 := hS18.ext hx20
        refine zq 1 rfl<|zN<|zT<|zf rfl<|zK<|zT<|zS ?_
        rcases bool_cases (gt rs k).dn with hdn | hdn
        · refine zR<|zV (r_field fa50_0 rfl)<|zV (r_loadB1 ti4.und rfl rfl (hS21.heap Z0) (by first | exact rule_dn_t hdn | exact rule_dn_f hdn)) ?_
          refine zN<|zT<|zt rfl<|zS<|zR<|zq 1 rfl<|zV (r_buildP (ps := [(1, .int .i64 _)]) (out := [.bool false, .int .i64 _, .int .i64 0, .string ⟨#[]⟩]) pl52 ti52 rfl rfl) ?_; refine wl_exs (x_storeW [_, _] hS21 ti52 rfl rfl rfl rfl On) rfl ?_; intro w22 hS23; simp only [ca, na] at hS23; refine zN<|zT<|zU<|zH<|zL<|zL<|zH<|zL<|retc Tryz.results15 ⟨_, rfl, run_loadVar_blk ti52 ag52 (hS23.heap Z2) rfl⟩ ?_
          have hF := hS23; exact rdecide_ok_c0
        refine zR<|zV (r_field fa50_0 rfl)<|zV (r_loadB1 ti4.und rfl rfl (hS21.heap Z0) (by first | exact rule_dn_t hdn | exact rule_dn_f hdn)) ?_; refine zN<|zT<|zf rfl<|zK<|zJ<|zT<|zR<|zV (r_addn (b := 1) rfl rfl Om)<|zq 1 rfl<|zN<|zT ?_
        have hF := hS21; exact rdecide_ok_c1
      have hS21 := hS18.ext hx20; refine zq 1 rfl<|zN<|zT<|zt rfl<|zO<|zM<|c_inE<|zT<|zR<|zV (r_addn (b := 1) rfl rfl Om)<|zq 1 rfl<|zN<|zT ?_
      have hF := hS21; exact rdecide_ok_c1
    refine zN<|zT<|zS<|zf rfl<|zO<|zM<|zM<|c_inE<|zT<|zS<|zS ?_
    obtain rfl : k = rs.length := by omega
    refine zR<|zF fa24_0 rfl ti22.und rfl (hS13.heap Z3) rfl rfl rfl<|zV (r_len (T := 22) rfl ti22.und rfl _ rfl)<|zq 1 rfl<|zN<|zT<|zI ?_
    refine c_loopE [3, 4, 5, 29, 30] (fun d e w' => ∃ (k : Nat) (b : Int) (al : Bool) (nd : Int) (fr : List UInt8), Kw.look e 31 = vi k ∧ d = rs.length - k ∧ St w [] w' [.blk b5 (cl (decV al b nd fr) 52), .blk b4 (cl [.bool false, .int .i64 0, .int .i64 0, .string ⟨#[]⟩] 52), .blk b3 (cl q.v 40)] ∧ (k ≤ rs.length) ∧ (BestR rs q k b) ∧ (DecC rs b al nd fr)) (rs.length - 0) ?_ ?_
    · exact ⟨0, -1, false, 0, [], rfl, rfl, (hS13.perm ((List.Perm.cons _ (List.Perm.refl _)).trans (List.perm_middle (l₁ := [_, _, _])).symm)).drop1, Nat.zero_le _, best_zero rs q, .inl ⟨rfl, rfl, rfl, rfl⟩⟩
    · rintro d27 e24 w25 ⟨k, b, al, nd, fr, hc1_31, rfl, hS26, hk, hbest, hdc⟩ -
      refine c_set (d := 31) hc1_31<|zS<|zR ?_
      refine wl_dec (r_lss rfl rfl) rfl (fun h10_0 => ?_) (fun h10_0 => ?_)
      · refine zN<|zT<|zS<|zt rfl<|zK<|zT<|zS<|zI<|zS<|zR<|zq 1 rfl<|zV (r_ixF rule_v8 ti22.und ti50 rfl rfl (hrs.st hS26) Ln Sd (by decide)) ?_
        refine zV (r_loadF rule_v8 ti50 ag50 rfl (hrs.st hS26) Sd (by decide)) ?_; refine zA (C := [.bool false, .slice none 0 0, .slice none 0 0, .slice none 0 0, .int .i64 0, .int .i64 0, .int .i64 0, .string ⟨#[]⟩]) hS26 ti50 rfl fun b9 w28 hS29=>zq 1 rfl<|zY (x_storeW [] hS29 ti50 rfl rfl rfl rfl (one_rule _)) ?_; intro w30 hS31; simp only [ca, na] at hS31; refine zN<|zT<|zS ?_
        have hgk := hall (gt rs k) (gt_mem rs k Om)
        refine zR<|zV (r_loadB ti50 ag50 rfl (hS31.heap Z0) Ln) ?_; refine zV (r_loadB ti40 ag40 rfl (hS31.heap Z3) Ln) ?_; refine zC fn39 rfl ((rmeets_ok (gt rs k) q _ (hgk.st hS31).ok (hgk.st hS31).h1 (hgk.st hS31).h2 (hgk.st hS31).h3 hq (hr.st hS31) ht0 ht1 (hall0 (gt rs k) (gt_mem rs k Om))).br) ?_
        rintro _ w32 (⟨hmt, rfl, hx33⟩ | ⟨hmt, rfl, hx33⟩)
        · have hS34 := hS31.ext hx33
          refine zq 1 rfl<|wl_val (r_field fa52_1 rfl) rfl<|wl_val (r_loadB1 ti3.und rfl rfl (hS34.heap Z1) rfl) rfl ?_
          refine wl_dec (r_lss rfl rfl) rfl (fun h12_6 => ?_) (fun h12_6 => ?_)
          · refine zq 8 rfl<|zN<|zT<|zt rfl<|zR<|zq 1 rfl<|zF fa50_6 rfl ti3.und rfl (hS34.heap Z0) rfl rfl rfl<|zF fa50_7 rfl ti9.und rfl (hS34.heap Z0) rfl rfl rfl<|zV (r_buildF (vs := [.bool true, .int .i64 _, .int .i64 _, .string _]) (out := [.bool true, .int .i64 _, .int .i64 _, .string _]) pl52 ti52 rfl rfl (by intro i hi; match i, hi with | 0, _ => rfl | 1, _ => rfl | 2, _ => rfl | 3, _ => rfl) rfl) ?_
            refine wl_exs (x_storeW [_] hS34 ti52 rfl rfl rfl rfl On) rfl ?_; intro w35 hS36; simp only [ca, na] at hS36; refine zN<|zJ<|zT<|zR<|zV (r_addn (b := 1) rfl rfl Om)<|zq 1 rfl<|zN<|zT ?_
            have hF := hS36; exact rdecide_ok_c2
          refine zq 1 rfl<|wl_val (r_field fa50_6 rfl) rfl<|wl_val (r_loadB1 ti3.und rfl rfl (hS34.heap Z0) rfl) rfl<|wl_val (r_field fa52_2 rfl) rfl<|wl_val (r_loadB1 ti3.und rfl rfl (hS34.heap Z1) rfl) rfl ?_
          refine wl_dec (r_lss rfl rfl) rfl (fun h12_12 => ?_) (fun h12_12 => ?_)
          · refine zq 2 rfl<|zN<|zT<|zt rfl<|zR<|zq 1 rfl<|zF fa50_6 rfl ti3.und rfl (hS34.heap Z0) rfl rfl rfl<|zF fa50_7 rfl ti9.und rfl (hS34.heap Z0) rfl rfl rfl<|zV (r_buildF (vs := [.bool true, .int .i64 _, .int .i64 _, .string _]) (out := [.bool true, .int .i64 _, .int .i64 _, .string _]) pl52 ti52 rfl rfl (by intro i hi; match i, hi with | 0, _ => rfl | 1, _ => rfl | 2, _ => rfl | 3, _ => rfl) rfl) ?_
            refine wl_exs (x_storeW [_] hS34 ti52 rfl rfl rfl rfl On) rfl ?_; intro w37 hS38; simp only [ca, na] at hS38; refine zN<|zJ<|zT<|zR<|zV (r_addn (b := 1) rfl rfl Om)<|zq 1 rfl<|zN<|zT ?_
            have hF := hS38; exact rdecide_ok_c2
          refine zq 2 rfl<|zN<|zT<|zf rfl<|zK<|zJ<|zT<|zR<|zV (r_addn (b := 1) rfl rfl Om)<|zq 1 rfl<|zN<|zT ?_
          have hF := hS34; exact rdecide_ok_c2
        have hS34 := hS31.ext hx33; refine zq 12 rfl<|zN<|zT<|zf rfl<|zK<|zJ<|zT<|zR<|zV (r_addn (b := 1) rfl rfl Om)<|zq 1 rfl<|zN<|zT ?_
        have hF := hS34; exact rdecide_ok_c2
      refine zN<|zT<|zS<|zf rfl<|zO<|zM<|zM<|c_inE<|zT<|zS ?_
      obtain rfl : k = rs.length := by omega
      refine zR<|zV (r_loadB ti52 ag52 rfl (hS26.heap Z0) rfl)<|zY (x_storeW [_] hS26 ti52 rfl rfl rfl rfl one_dec) ?_; intro w39 hS40; simp only [ca, na] at hS40; refine zN<|zT<|zU<|retc Tryz.results15 ⟨_, rfl, run_loadVar_blk ti52 ag52 (hS40.heap Z1) rfl⟩ ?_
      have hF := hS40; exact rdecide_ok_c0

end Go.Proofs.YtmonnmndphlkaaaGreat
