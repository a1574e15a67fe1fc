/- What the law's proof leans on. No condition. -/
import Derived.Test.YtmonnmndphlkaaaGreatPWnAI
import Derived.Test.YtmonnmndphlkaaaGreatPWnCB
import Derived.Test.YtmonnmndphlkaaaGreatPWnBT
namespace Go.Proofs.YtmonnmndphlkaaaGreat
open Go.Kw
set_option linter.unusedVariables false
set_option linter.unusedSimpArgs false
set_option maxRecDepth 100000
theorem rTrim_ok_c0 {p : Prop} (h : p := by exact ⟨(lintW ls (worldBs rs) ls.length).length - (k + 1), _, by omega, rfl, ⟨k + 1, _, rfl, rfl, rfl, hF.drop1, by omega, by first | exact lastx_y hX Om | exact lastx_n hX Om⟩, ⟨rfl, rfl, rfl, rfl, rfl, trivial⟩⟩) : p := h
set_option maxHeartbeats 4000000 in
theorem rTrim_ok (rs : List RuleD) (pa : Option Addr) (pc : Nat) (w : World) (hrs : Row w pa (rs.flatMap RuleD.v)) (hall : ∀ r ∈ rs, RuleAt w r) (h6 : rs.length ≤ 6) (hoks : ∀ r ∈ rs, ruleE r = 0) (hle : wTot rs ≤ 100000) :
    Ret Tryz.prog 22 [.agg #[.slice pa rs.length pc]] w (fun v w' => ∃ (ls : List RuleD) (a : Option Addr) (c : Nat) (LT : List Kw.Item), ls.length ≤ 6 ∧ (∀ r ∈ ls, r ∈ rs) ∧ ((ls = rs ∧ a = pa) ∨ RowH LT a (ls.flatMap RuleD.v)) ∧ TrimR (worldBs rs) (rs.map nrm) (ls.map nrm) ∧ v = .agg #[.slice a ls.length c] ∧ St w [] w' LT) := by
  have h100 : rs.length ≤ 100 := by omega
  refine enter Tryz.func22 rfl Tryz.ntmps22 rfl ?_
  have hS := St.refl w []
  refine zS<|zR<|zB (v := .agg _) hS rfl rfl fun b1 w1 hS2=>zA (C := [.slice none 0 0]) hS2 ti24 rfl fun b2 w3 hS4=>zN<|zT<|zS<|zR<|zV (r_loadB ti24 ag24 rfl (hS4.heap Z1) Ln) ?_; refine zC fn9 rfl (rWorld_ok rs pa rs.length pc _ (hrs.st hS4) rfl Om (fun r hr => (hall r hr).st hS4) hoks h100) ?_
  rintro _ w5 (⟨hbig, rfl, hx6⟩ | ⟨_, qs, aQ, cQ, LT, hA, hb, hrc, rfl, hcQ, hx6⟩)
  · exact absurd hle Om
  have hS7 := St.callT (X := [_]) (LT := LT) hS4 hx6
  simp only [ca, na] at hS7; refine zq 5 rfl<|zN<|zT<|zI ?_
  refine c_loopE [1, 2, 3] (fun d e w' => ∃ (aP : Option Addr) (cP : Nat) (ls : List RuleD) (LT2 : List Kw.Item), d = ls.length ∧ St w [] w' (.row (.slice aQ qs.length cQ) 40 68 qs.length (qs.flatMap WA.v) :: .blk b1 (cl [.slice aP ls.length cP] 24) :: .blk b2 (cl [.slice none 0 0] 24) :: LT2) ∧ (ls.length ≤ 6) ∧ (∀ r ∈ ls, r ∈ rs) ∧ ((ls = rs ∧ aP = pa) ∨ RowH LT2 aP (ls.flatMap RuleD.v)) ∧ (∀ t, TrimR (worldBs rs) (ls.map nrm) t → TrimR (worldBs rs) (rs.map nrm) t) ∧ (AsksT LT2 qs)) (rs.length) ?_ ?_
  · have hw := wok_of hall hoks h100 hb hrc
    have hql : qs.length ≤ 100000 := by have := asks_len hb; unfold wTot at hle; omega
    have hb : qs.map WA.b = (worldBs rs) := hb
    exact ⟨pa, pc, rs, LT, rfl, (hS7.perm (List.Perm.cons _ ((List.Perm.cons _ (List.Perm.refl _)).trans (List.perm_middle (l₁ := [_])).symm))), h6, fun r hr => hr, .inl ⟨rfl, rfl⟩, fun t ht => ht, hA⟩
  · rintro d11 e8 w9 ⟨aP, cP, ls, LT2, rfl, hS10, hl6, hsub, hrw, htr, hA2⟩ -
    have hw := wok_of hall hoks h100 hb hrc
    have hql : qs.length ≤ 100000 := by have := asks_len hb; unfold wTot at hle; omega
    have hb : qs.map WA.b = (worldBs rs) := hb
    refine zI<|zS ?_
    have hll := lint_len ls (worldBs rs) ls.length
    refine zR<|zq 1 rfl<|zN<|zT<|zS<|zS<|zR<|zV (r_loadB ti24 ag24 rfl (hS10.heap Z1) Ln) ?_; refine zq 1 rfl<|zC fn20 rfl (rLint_ok ls aP cP qs aQ cQ (worldBs rs) _ (rowh hrw (hrs.st hS10) (hS10.hold fun x hx => by simp [hx])) Om (fun r hr' => (hall r (hsub r hr')).st hS10) (St.rowAt hS10 Z0) (hA2 _ (hS10.hold fun x hx => by simp [hx])) hw hb hql (fun r hr' => hoks r (hsub r hr'))) ?_; rintro _ w12 ⟨aX, cX, rfl, hx13⟩
    have hS14 := hS10.call hx13
    simp only [ca, na] at hS14; refine zV (r_len (T := 55) rfl ti55.und rfl _ rfl)<|zq 1 rfl<|zN<|zT<|zI ?_
    refine c_loopE [1, 2, 3, 15, 16] (fun d e w' => ∃ (k : Nat) (t : Int), Kw.look e 17 = vi k ∧ Kw.look e 5 = .int .i64 t ∧ d = (lintW ls (worldBs rs) ls.length).length - k ∧ St w [] w' (.row (.slice aX (lintW ls (worldBs rs) ls.length).length cX) 62 3 (lintW ls (worldBs rs) ls.length).length ((lintW ls (worldBs rs) ls.length).flatMap wv) :: .row (.slice aQ qs.length cQ) 40 68 qs.length (qs.flatMap WA.v) :: .blk b1 (cl [.slice aP ls.length cP] 24) :: .blk b2 (cl [.slice none 0 0] 24) :: LT2) ∧ (k ≤ (lintW ls (worldBs rs) ls.length).length) ∧ (LastX (lintW ls (worldBs rs) ls.length) k t)) ((lintW ls (worldBs rs) ls.length).length - 0) ?_ ?_
    · exact ⟨0, -1, rfl, rfl, rfl, hS14, Nat.zero_le _, lastx_0 _⟩
    · rintro d18 e15 w16 ⟨k, t, hc1_17, hc1_5, rfl, hS17, hk, hX⟩ -
      refine c_set (d := 17) hc1_17<|c_set (d := 5) hc1_5<|zS<|zR ?_
      refine wl_dec (r_lss rfl rfl) rfl (fun h4_0 => ?_) (fun h4_0 => ?_)
      · refine zN<|zT<|zS<|zt rfl<|zK<|zT<|zS<|zI<|zS<|zR<|zV (r_ixF wv_3 ti55.und ti62 rfl rfl (St.rowAt hS17 Z0) Ln Sd (by decide)) ?_
        refine zV (r_loadF wv_3 ti62 ag62 rfl (St.rowAt hS17 Z0) Sd (by decide)) ?_; refine zA (C := [.int .i64 0, .int .i64 0, .int .i64 0]) hS17 ti62 rfl fun b7 w19 hS20=>zY (x_storeW [] hS20 ti62 rfl rfl (wv_3 _) rfl (one_wv _)) ?_; intro w21 hS22; simp only [ca, na] at hS22; refine zN<|zT<|zS<|zR<|zF fa62_1 rfl ti3.und rfl (hS22.heap Z0) rfl rfl rfl ?_
        refine wl_dec (r_neq rfl rfl) rfl (fun h6_2 => ?_) (fun h6_2 => ?_)
        · refine zN<|zT<|zt rfl<|zR<|zF fa62_0 rfl ti3.und rfl (hS22.heap Z0) rfl rfl rfl<|zq 1 rfl<|zN<|zJ<|zT<|zR<|zV (r_addn (b := 1) rfl rfl Om)<|zq 1 rfl<|zN<|zT ?_
          have hF := hS22; exact rTrim_ok_c0
        refine zN<|zT<|zf rfl<|zK<|zJ<|zT<|zR<|zV (r_addn (b := 1) rfl rfl Om)<|zq 1 rfl<|zN<|zT ?_
        have hF := hS22; exact rTrim_ok_c0
      refine zN<|zT<|zS<|zf rfl<|zO<|zM<|zM<|c_inE<|zT<|zS<|zS ?_
      obtain rfl : k = (lintW ls (worldBs rs) ls.length).length := by omega
      have hlk := last_of hX
      refine zR<|zq 1 rfl ?_
      refine wl_dec (r_lss rfl rfl) rfl (fun h9_1 => ?_) (fun h9_1 => ?_)
      · refine zN<|zT<|zt rfl<|zS<|zR<|zV (r_loadB ti24 ag24 rfl (hS17.heap Z2) Ln) ?_
        refine wl_exs (x_storeW [_, _, _] hS17 ti24 rfl rfl Ln Ln On) rfl ?_; intro w23 hS24; simp only [ca, na] at hS24; refine zN<|zT<|zU<|zL<|zH<|zL<|zH<|retc Tryz.results22 ⟨_, rfl, run_loadVar_blk ti24 ag24 (hS24.heap Z3) rfl⟩ ?_
        obtain rfl := last_neg hlk (by assumption)
        exact ⟨ls, aP, cP, LT2, hl6, hsub, hrw, htr _ (trim_done hlk), rfl, hS24.drop1.drop1.drop1.drop1⟩
      refine zN<|zT<|zf rfl<|zK<|zT ?_
      obtain ⟨t', rfl⟩ : ∃ i : Nat, t = (i : Int) := ⟨t.toNat, Om⟩
      refine zR<|zV (r_loadB ti24 ag24 rfl (hS17.heap Z2) Ln) ?_; refine zq 1 rfl<|zC fn47 rfl (without_ok ls aP ls.length cP t' _ (rowh hrw (hrs.st hS17) (hS17.hold fun x hx => by simp [hx])) rfl (last_lt hlk) Om) ?_; rintro _ w25 ⟨aN, cN, rfl, hx26⟩
      have hS27 := hS17.call hx26
      simp only [ca, na] at hS27; refine wl_exs (x_storeW [_, _, _] hS27 ti24 rfl rfl Ln Ln On) rfl ?_; intro w28 hS29; simp only [ca, na] at hS29; refine zN<|zJ<|zT ?_
      exact ⟨(ls.eraseIdx t').length, _, (by have := last_lt hlk; rw [List.length_eraseIdx_of_lt this]; omega), rfl, ⟨aN, cN, ls.eraseIdx t', _, rfl, (hS29.perm ((List.Perm.cons _ ((List.Perm.cons _ ((List.Perm.cons _ ((List.Perm.cons _ (List.Perm.refl _)).trans (List.perm_middle (l₁ := [_])).symm)).trans (List.perm_middle (l₁ := [_])).symm)).trans (List.perm_middle (l₁ := [_])).symm)).trans (List.perm_middle (l₁ := [_])).symm)).drop1, by have := last_lt hlk; rw [List.length_eraseIdx_of_lt this]; omega, fun r hr => hsub r (List.mem_of_mem_eraseIdx hr), .inr .own, fun t ht => htr t (trim_step hlk ht), hA2.more fun x hx => .tail _ hx⟩, ⟨rfl, rfl, rfl, trivial⟩⟩

end Go.Proofs.YtmonnmndphlkaaaGreat
