/- What the law's proof leans on. No condition. -/
import Derived.Test.YtmonnmndphlkaaaGreatPWnAI
import Derived.Test.YtmonnmndphlkaaaGreatPWnBP
import Derived.Test.YtmonnmndphlkaaaGreatPWnBM
namespace Go.Proofs.YtmonnmndphlkaaaGreat
open Go.Kw
set_option linter.unusedVariables false
set_option linter.unusedSimpArgs false
set_option maxRecDepth 100000
theorem world_ok_c0 {p : Prop} (h : p := by exact ⟨0, a10, c10, rfl, by rw [eX]; rfl, rfl, by rw [eX]; exact hF, Nat.zero_le _, by rw [eX]; exact h10⟩) : p := h
set_option maxHeartbeats 8000000 in
theorem world_ok (rs : List RuleD) (pa : Option Addr) (n pc : Nat) (w : World) (hrs : Row w pa (rs.flatMap RuleD.v)) (hl : rs.length = n) (hn : n ≤ 140737488351232) (hall : ∀ r ∈ rs, RuleAt w r) (hok : ∀ r ∈ rs, ruleE r = 0) (h100 : rs.length ≤ 100) :
    Ret Tryz.prog 52 [.agg #[.slice pa n pc]] w (fun v w' => (100000 < wTot rs ∧ v = .tuple #[.slice none 0 0, .bool false] ∧ St w [] w' []) ∨ (wTot rs ≤ 100000 ∧ ∃ (S : List (Sl (List UInt8))) (qs : List WA) (a : Option Addr) (c : Nat) (LT : List Kw.Item), SetsT LT S ∧ S.map (·.xs) = setsL (wR rs) ∧ (∀ s ∈ S, s.xs.length ≤ s.c) ∧ qs = aS (wL rs) (wH rs) S ∧ v = .tuple #[.slice a qs.length c, .bool true] ∧ qs.length ≤ c ∧ St w [] w' (.row (.slice a qs.length c) 40 68 qs.length (qs.flatMap WA.v) :: LT))) := by
  subst hl
  have hRl := wR_len hok h100
  have hLl := wL_len hok h100
  have hHl := wH_len h100
  refine enter Tryz.func52 rfl Tryz.ntmps52 rfl ?_
  have hS := St.refl w []
  refine zS<|zR<|zB (v := .agg _) hS rfl rfl fun b1 w1 hS2=>zq 2 rfl<|zN<|zT ?_
  refine c_cutE [2, 3] (fun e w' => ∃ (S : List (Sl (List UInt8))) (aS_ : Option Addr) (cS : Nat) (aL_ : Option Addr) (cL : Nat) (aH_ : Option Addr) (cH : Nat) (LT : List Kw.Item), Kw.look e 4 = .slice aS_ S.length cS ∧ Kw.look e 5 = .slice aL_ (wL rs).length cL ∧ Kw.look e 6 = .slice aH_ (wH rs).length cH ∧ St w [] w' (.row (.slice aS_ S.length cS) 36 1 S.length (S.map Sl.v) :: .row (.slice aL_ (wL rs).length cL) 9 1 (wL rs).length (((wL rs)).map sv) :: .row (.slice aH_ (wH rs).length cH) 3 1 (wH rs).length (((wH rs)).map iv) :: LT) ∧ (SetsT LT S) ∧ (S.map (·.xs) = setsL (wR rs)) ∧ (∀ s ∈ S, s.xs.length ≤ s.c)) ?_ ?_
  · refine c_drawS 5 hMixed hS2 ?_
    intro w7 hS8; refine zG 0 rfl hS8 (fun wF hF => r_loadB ti24 ag24 rfl (hF.heap Z0) Ln) ?_; refine zG 2 rfl hS8 (fun wF hF => r_loadB ti24 ag24 rfl (hF.heap Z0) Ln) ?_; refine zG 4 rfl hS8 (fun wF hF => r_loadB ti24 ag24 rfl (hF.heap Z0) Ln) ?_; refine zG1 1 ?_; refine o_call rfl (r_call fn79 rfl rfl) rfl (roleSets_ok rs pa rs.length pc _ (hrs.st hS8) rfl hn (fun r hr => (hall r hr).st hS8) hok h100) ?_; rintro _ w9 ⟨S, aS_, cS, LT, hT, hX, hcp, rfl, hcS, hx10⟩
    have hS11 := St.callT (X := [_]) (LT := LT) hS8 hx10
    simp only [ca, na] at hS11
    refine ⟨(St.front [_] hS11.drop1), ?_⟩
    refine zG1 3 ?_; refine o_call rfl (r_call fn80 rfl rfl) rfl (labels_ok rs pa rs.length pc _ (hrs.st hS11) rfl hn (fun r hr => (hall r hr).st hS11) hok h100) ?_; rintro _ w12 ⟨aL_, cL, rfl, hcL, hx13⟩
    have hS14 := hS11.call hx13
    simp only [ca, na] at hS14
    refine ⟨(St.front [_] hS14.drop1.drop1), ?_⟩
    refine zGT rfl ?_; refine zC fn81 rfl (hoursOf_ok rs pa rs.length pc _ (hrs.st hS14) rfl hn (fun r hr => (hall r hr).st hS14) hok h100) ?_; rintro _ w15 ⟨aH_, cH, rfl, hcH, hx16⟩
    have hS17 := hS14.call hx16
    simp only [ca, na] at hS17; refine zq 3 rfl<|zN<|zT ?_
    exact ⟨_, rfl, ⟨S, aS_, cS, aL_, cL, aH_, cH, LT, rfl, rfl, rfl, (hS17.perm ((List.Perm.cons _ ((List.Perm.cons _ ((List.Perm.cons _ (List.Perm.refl _)).trans (List.perm_middle (l₁ := [_])).symm)).trans (List.perm_middle (l₁ := [_, _])).symm)).trans (List.perm_middle (l₁ := [_, _, _])).symm)).drop1, hT, hX, hcp⟩, ⟨rfl, rfl, trivial⟩⟩
  · rintro e3 w4 ⟨S, aS_, cS, aL_, cL, aH_, cH, LT, hc6_4, hc6_5, hc6_6, hS5, hT, hX, hcp⟩ -
    refine c_set (d := 4) hc6_4<|c_set (d := 5) hc6_5<|c_set (d := 6) hc6_6<|zS<|zR<|zq 1 rfl<|zN<|zT<|zS<|zS ?_
    have hSl : S.length ≤ 3000001 := by rw [sl_len hX]; exact setsL_len hRl
    have hbn := gt3_le (B := 3000001) hSl (show (wL rs).length ≤ _ by omega) (show (wH rs).length ≤ _ by omega)
    refine zR<|zq 1 rfl<|zV (r_len (T := 75) rfl ti75.und rfl _ rfl)<|zq 1 rfl<|zV (r_len (T := 36) rfl ti36.und rfl _ rfl)<|zq 1 rfl<|zV (r_len (T := 48) rfl ti48.und rfl _ rfl)<|zV (r_buildA (vs := [.int .i64 _, .int .i64 _, .int .i64 _]) ti115 ti3 rfl rfl rfl (by intro c hc; simp only [List.mem_cons, List.not_mem_nil, or_false] at hc; rcases hc with rfl | rfl | rfl <;> rfl)) ?_; refine zq 1 rfl<|zN<|zT<|zI ?_
    refine c_loopE [4, 5, 6, 30] (fun d e w' => ∃ (i sz : Nat), Kw.look e 31 = vi i ∧ Kw.look e 7 = vi sz ∧ d = 3 - i ∧ St w [] w' (.row (.slice aS_ S.length cS) 36 1 S.length (S.map Sl.v) :: .row (.slice aL_ (wL rs).length cL) 9 1 (wL rs).length (((wL rs)).map sv) :: .row (.slice aH_ (wH rs).length cH) 3 1 (wH rs).length (((wH rs)).map iv) :: LT) ∧ (i ≤ 3) ∧ (sz = prodTo S.length (wL rs).length (wH rs).length i) ∧ (sz ≤ 100000)) (3 - 0) ?_ ?_
    · exact ⟨0, 12, rfl, rfl, rfl, hS5, by omega, rfl, by omega⟩
    · rintro d21 e18 w19 ⟨i, sz, hc0_31, hc0_7, rfl, hS20, hi, hpr, hsz⟩ -
      refine c_set (d := 31) hc0_31<|c_set (d := 7) hc0_7<|zS<|zR ?_
      refine wl_dec (r_lss rfl rfl) rfl (fun h4_0 => ?_) (fun h4_0 => ?_)
      · refine zN<|zT<|zS<|zt rfl<|zK<|zT<|zS<|zI<|zS<|zR<|zV (r_index1 ti115.und ti3 rfl rfl rfl Om (map_gt (fun n : Nat => vi n) [S.length, (wL rs).length, (wH rs).length] i (by simp only [List.length_cons, List.length_nil]; omega))) ?_
        refine zq 1 rfl<|zN<|zT<|zS<|zR<|zq 2 rfl<|zV (r_muln rfl rfl (by have hmm := Nat.mul_le_mul hsz (hbn i Om); omega)) ?_; refine zq 1 rfl<|zN<|zT<|zS<|zR<|zq 1 rfl ?_
        refine wl_dec (r_gtr rfl rfl) rfl (fun h7_1 => ?_) (fun h7_1 => ?_)
        · refine zN<|zT<|zt rfl<|zS<|zR<|zq 2 rfl<|zN<|zT<|zU<|zH<|zL<|zL<|zH<|zL<|ret2 Tryz.results52 rfl rfl ?_
          have hbig : 100000 < wTot rs := by have := prod_big (i := i + 1) (ns := S.length) (nl := (wL rs).length) (nh := (wH rs).length) (by rw [sl_len hX]; exact setsL_pos _) (wL_pos rs) (wH_pos rs) Om (by rw [prod_step Om, ← hpr]; exact Int.ofNat_lt.1 (by assumption)); unfold wTot; rw [← sl_len hX]; exact this
          exact .inl ⟨hbig, rfl, hS20.fin⟩
        refine zN<|zT<|zf rfl<|zK<|zJ<|zT<|zR<|zV (r_addn (b := 1) rfl rfl Om)<|zq 1 rfl<|zN<|zT ?_
        exact ⟨3 - (i + 1), _, by omega, rfl, ⟨i + 1, _, rfl, rfl, rfl, hS20, by omega, by rw [prod_step Om, ← hpr], by omega⟩, ⟨rfl, rfl, rfl, rfl, trivial⟩⟩
      refine zN<|zT<|zS<|zf rfl<|zO<|zM<|zM<|c_inE<|zT<|zS ?_
      obtain rfl : i = 3 := by omega
      rw [prod_all] at hpr
      have htot : S.length * (12 * ((wL rs).length * (wH rs).length)) ≤ 100000 := by omega
      refine zR<|zq 1 rfl<|zX (x_make_row hS20 ti26.und ti40 rfl rfl Sd Sd) ?_; rintro _ w22 ⟨a41, rfl, hS23⟩; refine zq 1 rfl<|zN<|zT<|zS<|zS<|zR<|zq 1 rfl<|zV (r_len (T := 75) rfl ti75.und rfl _ rfl)<|zq 1 rfl<|zN<|zT<|zI ?_
      refine c_loopE [2, 3, 5, 6, 42, 43] (fun d e w' => ∃ (i : Nat) (a10 : Option Addr) (c10 : Nat), Kw.look e 44 = vi i ∧ Kw.look e 10 = .slice a10 (aS (wL rs) (wH rs) (S.take i)).length c10 ∧ d = S.length - i ∧ St w [] w' (.row (.slice a10 (aS (wL rs) (wH rs) (S.take i)).length c10) 40 68 (aS (wL rs) (wH rs) (S.take i)).length ((aS (wL rs) (wH rs) (S.take i)).flatMap WA.v) :: .row (.slice aS_ S.length cS) 36 1 S.length (S.map Sl.v) :: .row (.slice aL_ (wL rs).length cL) 9 1 (wL rs).length (((wL rs)).map sv) :: .row (.slice aH_ (wH rs).length cH) 3 1 (wH rs).length (((wH rs)).map iv) :: LT) ∧ (i ≤ S.length) ∧ ((aS (wL rs) (wH rs) (S.take i)).length ≤ c10)) (S.length - 0) ?_ ?_
      · exact ⟨0, _, _, rfl, rfl, rfl, hS23, Nat.zero_le _, Nat.zero_le _⟩
      · rintro d27 e24 w25 ⟨i, a10, c10, hc1_44, hc1_10, rfl, hS26, hi, h10⟩ -
        refine c_set (d := 44) hc1_44<|c_set (d := 10) hc1_10<|zS<|zR ?_
        refine wl_dec (r_lss rfl rfl) rfl (fun h12_0 => ?_) (fun h12_0 => ?_)
        · refine zN<|zT<|zS<|zt rfl<|zK<|zT<|zS<|zI<|zS<|zR<|zV (r_ixS ti75.und ti36 rfl rfl (St.rowAt hS26 Z1) Sd Ln) ?_
          refine zV (r_loadS1 ti36.und rfl rfl (St.rowAt hS26 Z1) (by rw [Nat.mul_one]; exact map_gt _ _ _ Sd)) ?_; refine zq 1 rfl<|zN<|zT<|zS<|zR<|zq 1 rfl<|zN<|zT<|zI ?_
          refine c_loopE [2, 3, 5, 6, 12, 42, 43, 44] (fun d e w' => ∃ (k : Nat) (a10 : Option Addr) (c10 : Nat), Kw.look e 13 = vi (k + 1) ∧ Kw.look e 10 = .slice a10 (aS (wL rs) (wH rs) (S.take i) ++ aA (gt S i) (wL rs) (wH rs) k).length c10 ∧ d = 12 - k ∧ St w [] w' (.row (.slice a10 (aS (wL rs) (wH rs) (S.take i) ++ aA (gt S i) (wL rs) (wH rs) k).length c10) 40 68 (aS (wL rs) (wH rs) (S.take i) ++ aA (gt S i) (wL rs) (wH rs) k).length ((aS (wL rs) (wH rs) (S.take i) ++ aA (gt S i) (wL rs) (wH rs) k).flatMap WA.v) :: .row (.slice aS_ S.length cS) 36 1 S.length (S.map Sl.v) :: .row (.slice aL_ (wL rs).length cL) 9 1 (wL rs).length (((wL rs)).map sv) :: .row (.slice aH_ (wH rs).length cH) 3 1 (wH rs).length (((wH rs)).map iv) :: LT) ∧ (k ≤ 12) ∧ ((aS (wL rs) (wH rs) (S.take i) ++ aA (gt S i) (wL rs) (wH rs) k).length ≤ c10)) (12 - 0) ?_ ?_
          · have eX : aS (wL rs) (wH rs) (S.take i) ++ aA (gt S i) (wL rs) (wH rs) 0 = aS (wL rs) (wH rs) (S.take i) := by simp [aS, aA, aL, aH]
            have hF := hS26; exact world_ok_c0
          · rintro d31 e28 w29 ⟨k, a10, c10, hc2_13, hc2_10, rfl, hS30, hk, h10⟩ -
            refine c_set (d := 13) hc2_13<|c_set (d := 10) hc2_10<|zS<|zS<|zR<|zq 1 rfl ?_
            refine wl_dec (r_leq rfl rfl) rfl (fun h15_1 => ?_) (fun h15_1 => ?_)
            · refine zN<|zT<|zt rfl<|zK<|zT<|zS<|zI<|zS<|zR<|zq 1 rfl<|zV (r_len (T := 36) rfl ti36.und rfl _ rfl)<|zq 1 rfl<|zN<|zT<|zI ?_
              refine c_loopE [2, 3, 5, 6, 12, 13, 42, 43, 44, 52, 53] (fun d e w' => ∃ (j : Nat) (a10 : Option Addr) (c10 : Nat), Kw.look e 54 = vi j ∧ Kw.look e 10 = .slice a10 (aS (wL rs) (wH rs) (S.take i) ++ aA (gt S i) (wL rs) (wH rs) k ++ aL (gt S i) ((k + 1 : Nat) : Int) (wH rs) ((wL rs).take j)).length c10 ∧ d = (wL rs).length - j ∧ St w [] w' (.row (.slice a10 (aS (wL rs) (wH rs) (S.take i) ++ aA (gt S i) (wL rs) (wH rs) k ++ aL (gt S i) ((k + 1 : Nat) : Int) (wH rs) ((wL rs).take j)).length c10) 40 68 (aS (wL rs) (wH rs) (S.take i) ++ aA (gt S i) (wL rs) (wH rs) k ++ aL (gt S i) ((k + 1 : Nat) : Int) (wH rs) ((wL rs).take j)).length ((aS (wL rs) (wH rs) (S.take i) ++ aA (gt S i) (wL rs) (wH rs) k ++ aL (gt S i) ((k + 1 : Nat) : Int) (wH rs) ((wL rs).take j)).flatMap WA.v) :: .row (.slice aS_ S.length cS) 36 1 S.length (S.map Sl.v) :: .row (.slice aL_ (wL rs).length cL) 9 1 (wL rs).length (((wL rs)).map sv) :: .row (.slice aH_ (wH rs).length cH) 3 1 (wH rs).length (((wH rs)).map iv) :: LT) ∧ (j ≤ (wL rs).length) ∧ ((aS (wL rs) (wH rs) (S.take i) ++ aA (gt S i) (wL rs) (wH rs) k ++ aL (gt S i) ((k + 1 : Nat) : Int) (wH rs) ((wL rs).take j)).length ≤ c10)) ((wL rs).length - 0) ?_ ?_
              · have eX : aS (wL rs) (wH rs) (S.take i) ++ aA (gt S i) (wL rs) (wH rs) k ++ aL (gt S i) ((k + 1 : Nat) : Int) (wH rs) ((wL rs).take 0) = aS (wL rs) (wH rs) (S.take i) ++ aA (gt S i) (wL rs) (wH rs) k := by simp [aS, aA, aL, aH]
                have hF := hS30; exact world_ok_c0
              · rintro d35 e32 w33 ⟨j, a10, c10, hc3_54, hc3_10, rfl, hS34, hj, h10⟩ -
                refine c_set (d := 54) hc3_54<|c_set (d := 10) hc3_10<|zS<|zR ?_
                refine wl_dec (r_lss rfl rfl) rfl (fun h18_0 => ?_) (fun h18_0 => ?_)
                · refine zN<|zT<|zS<|zt rfl<|zK<|zT<|zS<|zI<|zS<|zR<|zV (r_ixS ti36.und ti9 rfl rfl (St.rowAt hS34 Z2) Sd Ln) ?_
                  refine zV (r_loadS1 ti9.und rfl rfl (St.rowAt hS34 Z2) (by rw [Nat.mul_one]; exact map_gt _ _ _ Sd)) ?_; refine zq 1 rfl<|zN<|zT<|zS<|zR<|zq 1 rfl<|zV (r_len (T := 48) rfl ti48.und rfl _ rfl)<|zq 1 rfl<|zN<|zT<|zI ?_
                  refine c_loopE [2, 3, 5, 6, 12, 13, 15, 42, 43, 44, 52, 53, 54, 58, 59] (fun d e w' => ∃ (m : Nat) (a10 : Option Addr) (c10 : Nat), Kw.look e 60 = vi m ∧ Kw.look e 10 = .slice a10 (aS (wL rs) (wH rs) (S.take i) ++ aA (gt S i) (wL rs) (wH rs) k ++ aL (gt S i) ((k + 1 : Nat) : Int) (wH rs) ((wL rs).take j) ++ aH (gt S i) ((k + 1 : Nat) : Int) (gt (wL rs) j) ((wH rs).take m)).length c10 ∧ d = (wH rs).length - m ∧ St w [] w' (.row (.slice a10 (aS (wL rs) (wH rs) (S.take i) ++ aA (gt S i) (wL rs) (wH rs) k ++ aL (gt S i) ((k + 1 : Nat) : Int) (wH rs) ((wL rs).take j) ++ aH (gt S i) ((k + 1 : Nat) : Int) (gt (wL rs) j) ((wH rs).take m)).length c10) 40 68 (aS (wL rs) (wH rs) (S.take i) ++ aA (gt S i) (wL rs) (wH rs) k ++ aL (gt S i) ((k + 1 : Nat) : Int) (wH rs) ((wL rs).take j) ++ aH (gt S i) ((k + 1 : Nat) : Int) (gt (wL rs) j) ((wH rs).take m)).length ((aS (wL rs) (wH rs) (S.take i) ++ aA (gt S i) (wL rs) (wH rs) k ++ aL (gt S i) ((k + 1 : Nat) : Int) (wH rs) ((wL rs).take j) ++ aH (gt S i) ((k + 1 : Nat) : Int) (gt (wL rs) j) ((wH rs).take m)).flatMap WA.v) :: .row (.slice aS_ S.length cS) 36 1 S.length (S.map Sl.v) :: .row (.slice aL_ (wL rs).length cL) 9 1 (wL rs).length (((wL rs)).map sv) :: .row (.slice aH_ (wH rs).length cH) 3 1 (wH rs).length (((wH rs)).map iv) :: LT) ∧ (m ≤ (wH rs).length) ∧ ((aS (wL rs) (wH rs) (S.take i) ++ aA (gt S i) (wL rs) (wH rs) k ++ aL (gt S i) ((k + 1 : Nat) : Int) (wH rs) ((wL rs).take j) ++ aH (gt S i) ((k + 1 : Nat) : Int) (gt (wL rs) j) ((wH rs).take m)).length ≤ c10)) ((wH rs).length - 0) ?_ ?_
                  · have eX : aS (wL rs) (wH rs) (S.take i) ++ aA (gt S i) (wL rs) (wH rs) k ++ aL (gt S i) ((k + 1 : Nat) : Int) (wH rs) ((wL rs).take j) ++ aH (gt S i) ((k + 1 : Nat) : Int) (gt (wL rs) j) ((wH rs).take 0) = aS (wL rs) (wH rs) (S.take i) ++ aA (gt S i) (wL rs) (wH rs) k ++ aL (gt S i) ((k + 1 : Nat) : Int) (wH rs) ((wL rs).take j) := by simp [aS, aA, aL, aH]
                    have hF := hS34; exact world_ok_c0
                  · rintro d39 e36 w37 ⟨m, a10, c10, hc4_60, hc4_10, rfl, hS38, hm, h10⟩ -
                    refine c_set (d := 60) hc4_60<|c_set (d := 10) hc4_10<|zS<|zR ?_
                    refine wl_dec (r_lss rfl rfl) rfl (fun h21_0 => ?_) (fun h21_0 => ?_)
                    · refine zN<|zT<|zS<|zt rfl<|zK<|zT<|zS<|zI<|zS<|zR<|zV (r_ixS ti48.und ti3 rfl rfl (St.rowAt hS38 Z3) Sd Ln) ?_
                      refine zV (r_loadS1 ti3.und rfl rfl (St.rowAt hS38 Z3) (by rw [Nat.mul_one]; exact map_gt _ _ _ Sd)) ?_; refine zq 1 rfl<|zN<|zT ?_
                      have hrg := wH_rng hok _ (gt_mem (wH rs) m Om)
                      have hpre := pre_le (s := gt S i) (act := ((k + 1 : Nat) : Int)) (l := gt (wL rs) j) (i := i) (k := k) (j := j) (m := m) htot Om Om
                      have hxl : (aS (wL rs) (wH rs) (S.take i) ++ aA (gt S i) (wL rs) (wH rs) k ++ aL (gt S i) ((k + 1 : Nat) : Int) (wH rs) ((wL rs).take j) ++ aH (gt S i) ((k + 1 : Nat) : Int) (gt (wL rs) j) ((wH rs).take m)).length ≤ 400000 := by simp only [List.length_append]; omega
                      refine zR<|zq 5 rfl<|zV (r_muli rfl rfl Om Om)<|zV (r_buildP (ps := [(1, Sl.v (gt S i)), (2, vi (k + 1)), (3, sv (gt (wL rs) j)), (5, .int .i64 (3600 * gt (wH rs) m))]) (out := WA.v (askOf (gt S i) ((k + 1 : Nat) : Int) (gt (wL rs) j) (gt (wH rs) m))) pl40 ti40 rfl rfl)<|zX (x_litA1 hS38 ti26.und ti40 rfl (wa_v68 _) rfl (by decide) (by decide)) ?_; rintro _ w40 ⟨b71, rfl, hS41⟩; refine zX (x_append [_] hS41 ti26.und ti40 rfl (by decide) rfl rfl (Row.of_at (at_all (hS41.heap Z0))) (wa_v68 _) (one_wa _) Sd Sd _ rfl) ?_; rintro _ w42 ⟨aq44, cq44, rfl, hcq44, hS43⟩; simp only [ca, na] at hS43; refine zq 1 rfl<|zN<|zJ<|zT<|zR<|zV (r_addn (b := 1) rfl rfl Om)<|zq 1 rfl<|zN<|zT ?_
                      have eX : aS (wL rs) (wH rs) (S.take i) ++ aA (gt S i) (wL rs) (wH rs) k ++ aL (gt S i) ((k + 1 : Nat) : Int) (wH rs) ((wL rs).take j) ++ aH (gt S i) ((k + 1 : Nat) : Int) (gt (wL rs) j) ((wH rs).take (m + 1)) = (aS (wL rs) (wH rs) (S.take i) ++ aA (gt S i) (wL rs) (wH rs) k ++ aL (gt S i) ((k + 1 : Nat) : Int) (wH rs) ((wL rs).take j) ++ aH (gt S i) ((k + 1 : Nat) : Int) (gt (wL rs) j) ((wH rs).take m)) ++ [askOf (gt S i) ((k + 1 : Nat) : Int) (gt (wL rs) j) (gt (wH rs) m)] := by rw [aH_step Om, ← List.append_assoc]
                      have el : (aS (wL rs) (wH rs) (S.take i) ++ aA (gt S i) (wL rs) (wH rs) k ++ aL (gt S i) ((k + 1 : Nat) : Int) (wH rs) ((wL rs).take j) ++ aH (gt S i) ((k + 1 : Nat) : Int) (gt (wL rs) j) ((wH rs).take (m + 1))).length = (aS (wL rs) (wH rs) (S.take i) ++ aA (gt S i) (wL rs) (wH rs) k ++ aL (gt S i) ((k + 1 : Nat) : Int) (wH rs) ((wL rs).take j) ++ aH (gt S i) ((k + 1 : Nat) : Int) (gt (wL rs) j) ((wH rs).take m)).length + 1 := by rw [eX, List.length_append]; rfl
                      have hS45 := St.reRow1 (k := (aS (wL rs) (wH rs) (S.take i) ++ aA (gt S i) (wL rs) (wH rs) k ++ aL (gt S i) ((k + 1 : Nat) : Int) (wH rs) ((wL rs).take j) ++ aH (gt S i) ((k + 1 : Nat) : Int) (gt (wL rs) j) ((wH rs).take (m + 1))).length) (zs := (aS (wL rs) (wH rs) (S.take i) ++ aA (gt S i) (wL rs) (wH rs) k ++ aL (gt S i) ((k + 1 : Nat) : Int) (wH rs) ((wL rs).take j) ++ aH (gt S i) ((k + 1 : Nat) : Int) (gt (wL rs) j) ((wH rs).take (m + 1))).flatMap WA.v) hS43.drop1 el (by rw [eX, List.flatMap_append]; simp)
                      exact ⟨(wH rs).length - (m + 1), _, by omega, rfl, ⟨m + 1, aq44, cq44, rfl, congrArg (fun n => Value.slice aq44 n cq44) el.symm, rfl, hS45, by omega, by rw [el]; exact hcq44⟩, ⟨rfl, rfl, rfl, rfl, rfl, rfl, rfl, rfl, rfl, rfl, rfl, rfl, rfl, rfl, rfl, trivial⟩⟩
                    refine zN<|zT<|zS<|zf rfl<|zO<|zM<|zM<|c_inE<|zJ<|zT ?_
                    obtain rfl : m = (wH rs).length := by omega
                    refine zR<|zV (r_addn (b := 1) rfl rfl Om)<|zq 1 rfl<|zN<|zT ?_
                    have eX : aS (wL rs) (wH rs) (S.take i) ++ aA (gt S i) (wL rs) (wH rs) k ++ aL (gt S i) ((k + 1 : Nat) : Int) (wH rs) ((wL rs).take (j + 1)) = aS (wL rs) (wH rs) (S.take i) ++ aA (gt S i) (wL rs) (wH rs) k ++ aL (gt S i) ((k + 1 : Nat) : Int) (wH rs) ((wL rs).take j) ++ aH (gt S i) ((k + 1 : Nat) : Int) (gt (wL rs) j) ((wH rs).take (wH rs).length) := by rw [aL_step Om, List.take_length, ← List.append_assoc]
                    exact ⟨(wL rs).length - (j + 1), _, by omega, rfl, ⟨j + 1, a10, c10, rfl, by rw [eX]; rfl, rfl, by rw [eX]; exact hS38, by omega, by rw [eX]; exact h10⟩, ⟨rfl, rfl, rfl, rfl, rfl, rfl, rfl, rfl, rfl, rfl, rfl, trivial⟩⟩
                refine zN<|zT<|zS<|zf rfl<|zO<|zM<|zM<|c_inE<|zJ<|zT ?_
                obtain rfl : j = (wL rs).length := by omega
                refine zR<|zq 1 rfl<|zV (r_addn (b := 1) rfl rfl Om)<|zq 1 rfl<|zN<|zT ?_
                have eX : aS (wL rs) (wH rs) (S.take i) ++ aA (gt S i) (wL rs) (wH rs) (k + 1) = aS (wL rs) (wH rs) (S.take i) ++ aA (gt S i) (wL rs) (wH rs) k ++ aL (gt S i) ((k + 1 : Nat) : Int) (wH rs) ((wL rs).take (wL rs).length) := by rw [aA_step, List.take_length, ← List.append_assoc]
                exact ⟨12 - (k + 1), _, by omega, rfl, ⟨k + 1, a10, c10, rfl, by rw [eX]; rfl, rfl, by rw [eX]; exact hS34, by omega, by rw [eX]; exact h10⟩, ⟨rfl, rfl, rfl, rfl, rfl, rfl, rfl, rfl, trivial⟩⟩
            refine zN<|zT<|zf rfl<|zO<|zM<|zM<|c_inE<|zJ<|zT ?_
            obtain rfl : k = 12 := by omega
            refine zR<|zV (r_addn (b := 1) rfl rfl Om)<|zq 1 rfl<|zN<|zT ?_
            have eX : aS (wL rs) (wH rs) (S.take (i + 1)) = aS (wL rs) (wH rs) (S.take i) ++ aA (gt S i) (wL rs) (wH rs) 12 := aS_step Om
            exact ⟨S.length - (i + 1), _, by omega, rfl, ⟨i + 1, a10, c10, rfl, by rw [eX]; rfl, rfl, by rw [eX]; exact hS30, by omega, by rw [eX]; exact h10⟩, ⟨rfl, rfl, rfl, rfl, rfl, rfl, trivial⟩⟩
        refine zN<|zT<|zS<|zf rfl<|zO<|zM<|zM<|c_inE<|zT<|zS ?_
        obtain rfl : i = S.length := by omega
        refine zR<|zq 3 rfl<|zN<|zT<|zU<|ret2 Tryz.results52 rfl rfl ?_
        have hle : wTot rs ≤ 100000 := by unfold wTot; rw [← sl_len hX]; exact htot
        exact .inr ⟨hle, S, aS (wL rs) (wH rs) (S.take S.length), a10, c10, LT, hT, hX, hcp, by rw [List.take_length], rfl, h10, (hS26.perm ((List.Perm.cons _ ((List.Perm.cons _ ((List.Perm.cons _ (List.Perm.refl _)).trans (List.perm_middle (l₁ := [_])).symm)).trans (List.perm_middle (l₁ := [_])).symm)).trans (List.perm_middle (l₁ := [_])).symm)).drop1.drop1.drop1⟩

end Go.Proofs.YtmonnmndphlkaaaGreat
