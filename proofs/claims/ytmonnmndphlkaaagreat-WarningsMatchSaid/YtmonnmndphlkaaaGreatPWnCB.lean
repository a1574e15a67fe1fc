/- What the law's proof leans on. No condition. -/
import Derived.Test.YtmonnmndphlkaaaGreatPWnAI
import Derived.Test.YtmonnmndphlkaaaGreatPWnBZ
import Derived.Test.YtmonnmndphlkaaaGreatPWnCA
import Derived.Test.YtmonnmndphlkaaaGreatPWnBY
import Derived.Test.YtmonnmndphlkaaaGreatPWnBR
section
namespace Go.Proofs.YtmonnmndphlkaaaGreat
open Go.Kw
set_option linter.unusedVariables false
set_option linter.unusedSimpArgs false
set_option maxRecDepth 100000
theorem cloneR_ok (l : List RuleD) (a : Option Addr) (n c : Nat) (w : World) (hb : Row w a (l.flatMap RuleD.v)) (hl : l.length = n) (hn : n ≤ 1000) :
    Ret Tryz.prog 77 [.slice a n c] w (fun v w' => ∃ a' c', v = .slice a' n c' ∧ n ≤ c' ∧ St w [] w' [.row (.slice a' n c') 50 8 n ((l).flatMap RuleD.v)]) := by
  refine enter Tryz.func77 rfl Tryz.ntmps77 rfl ?_
  have hS := St.refl w []
  refine zS<|zR<|zq 1 rfl<|zN<|zT<|zS<|zS<|zR<|zq 1 rfl ?_
  refine wl_dec (r_eqlSn ti22.und rfl rfl) rfl (fun h1_1 => ?_) (fun h1_1 => ?_)
  · refine zN<|zT<|zt rfl<|zS<|zR<|zq 1 rfl<|zN<|zT<|zU<|zL<|ret1 Tryz.results77 ?_
    have h0 : l = [] := by cases l with | nil => rfl | cons x y => exact absurd (by subst h1_1; exact row_none hb) (by simp [RuleD.v])
    subst h0
    obtain rfl : n = 0 := hl.symm
    exact ⟨none, 0, rfl, Nat.le_refl _, hS.nilRow⟩
  refine zN<|zT<|zf rfl<|zK<|zT<|zS<|zR<|zX (x_lit0 hS ti22.und ti50) ?_; rintro _ w1 ⟨b5, rfl, hS2⟩; refine zq 1 rfl<|zX (x_append [] hS2 ti22.und ti50 rfl (by decide) rfl rfl (hb.st hS2) (by rw [rflat_len, hl]) (one_flat _) Om Om _ rfl) ?_; rintro _ w3 ⟨aq5, cq5, rfl, hcq5, hS4⟩; simp only [ca, na] at hS4; refine zq 1 rfl<|zN<|zT<|zU<|ret1 Tryz.results77 ?_
  rw [Nat.zero_add] at *
  exact ⟨_, _, rfl, hcq5, hS4⟩

theorem without_ok (rs : List RuleD) (pa : Option Addr) (n pc i : Nat) (w : World) (hrs : Row w pa (rs.flatMap RuleD.v)) (hl : rs.length = n) (hi : i < n) (hn : n ≤ 100) :
    Ret Tryz.prog 47 [.agg #[.slice pa n pc], vi i] w (fun v w' => ∃ (a : Option Addr) (c : Nat), v = .agg #[.slice a (rs.eraseIdx i).length c] ∧ St w [] w' [.row (.slice a (rs.eraseIdx i).length c) 50 8 (rs.eraseIdx i).length ((rs.eraseIdx i).flatMap RuleD.v)]) := by
  subst hl
  refine enter Tryz.func47 rfl Tryz.ntmps47 rfl ?_
  have hS := St.refl w []
  refine zS<|zR<|zB (v := .agg _) hS rfl rfl fun b2 w1 hS2=>zA (C := [.slice none 0 0]) hS2 ti24 rfl fun b4 w3 hS4=>zN<|zT<|zS<|zR<|zF fa24_0 rfl ti22.und rfl (hS4.heap Z1) rfl rfl rfl<|zC fn77 rfl (cloneR_ok rs pa rs.length pc _ (hrs.st hS4) rfl Om) ?_; rintro _ w5 ⟨aC, cC, rfl, hcC, hx6⟩
  have hS7 := hS4.call hx6
  simp only [ca, na] at hS7; refine zq 2 rfl<|zV (r_addn (b := 1) rfl rfl Om) ?_
  have hownhS10 := (St.get hS7 Z0).1
  refine zC fn42 rfl (deleteRow_ok rs _ _ _ i _ hownhS10 rfl Om Om) ?_; rintro _ w8 ⟨rfl, hx9⟩
  have hS10 := St.callM (X := [_]) (L := [_, _]) hS7 hx9 (fun k hk => ⟨_, List.mem_singleton.2 rfl, by simpa [Item.id] using hk⟩)
  simp only [ca, na] at hS10; refine zV (r_buildF (vs := [.slice _ _ _]) (out := [.slice _ _ _]) pl24 ti24 rfl rfl (by intro i hi; match i, hi with | 0, _ => rfl) rfl) ?_; refine wl_exs (x_storeW [_] hS10 ti24 rfl rfl Ln Ln On) rfl ?_; intro w11 hS12; simp only [ca, na] at hS12; refine zN<|zT<|zU<|retc Tryz.results47 ⟨_, rfl, run_loadVar_blk ti24 ag24 (hS12.heap Z1) Ln⟩ ?_
  exact ⟨aC, cC, rfl, (hS12.perm ((List.Perm.cons _ ((List.Perm.cons _ (List.Perm.refl _)).trans (List.perm_middle (l₁ := [_])).symm)).trans (List.perm_middle (l₁ := [_])).symm)).drop1.drop1⟩

theorem otherwise_ok_c0 {p : Prop} (h : p := by first | exact .inl ⟨db_eq (Classical.not_not.1 h2_4) (Classical.not_not.1 h2_10) (Classical.not_not.1 h2_17), rfl, hF.fin⟩ | exact .inr ⟨db_1 h2_4, rfl, hF.fin⟩ | exact .inr ⟨db_2 h2_10, rfl, hF.fin⟩ | exact .inr ⟨db_3 h2_17, rfl, hF.fin⟩) : p := h
set_option maxHeartbeats 2000000 in
theorem otherwise_ok (rs : List RuleD) (pa : Option Addr) (pc : Nat) (rt : List RuleD) (ta : Option Addr) (n tc : Nat) (x : WA) (w : World) (hrs : Row w pa (rs.flatMap RuleD.v)) (hall : ∀ r ∈ rs, RuleAt w r) (hoks : ∀ r ∈ rs, ruleE r = 0) (hn : rs.length ≤ 100) (hrt : Row w ta (rt.flatMap RuleD.v)) (hallt : ∀ r ∈ rt, RuleAt w r) (hokt : ∀ r ∈ rt, ruleE r = 0) (hln : rt.length = n) (hnt : n ≤ 100) (hw : WOk x) (hr : Row w x.ra (x.ro.map sv)) :
    Ret Tryz.prog 46 [.agg #[.slice pa rs.length pc], .agg #[.slice ta n tc], .agg x.v.toArray] w (fun v w' => (decB rs x.b = decB rt x.b ∧ v = .bool false ∧ St w [] w' []) ∨ (¬ decB rs x.b = decB rt x.b ∧ v = .bool true ∧ St w [] w' [])) := by
  subst hln
  refine enter Tryz.func46 rfl Tryz.ntmps46 rfl ?_
  have hS := St.refl w []
  refine zS<|zR<|zB (v := .agg _) hS rfl rfl fun b3 w1 hS2=>zB (v := .agg _) hS2 rfl rfl fun b4 w3 hS4=>zB (v := .agg _) hS4 rfl rfl fun b5 w5 hS6=>zq 1 rfl<|zN<|zT<|zS<|c_drawS 8 hMixed hS6 ?_; intro w7 hS8; refine zG 0 rfl hS8 (fun wF hF => r_loadB ti24 ag24 rfl (hF.heap Z2) Ln) ?_; refine zG 1 rfl hS8 (fun wF hF => r_loadB ti40 ag40 rfl (hF.heap Z0) (wa_v68 _)) ?_; refine zG 3 rfl hS8 (fun wF hF => r_loadB ti24 ag24 rfl (hF.heap Z1) Ln) ?_; refine zG 4 rfl hS8 (fun wF hF => r_loadB ti40 ag40 rfl (hF.heap Z0) (wa_v68 _)) ?_; refine g_all (rs := [2, 6, 7]) (by decide +kernel) (by decide +kernel) rfl ?_
  simp only [List.forall_mem_cons, List.not_mem_nil, false_imp_iff, implies_true, and_true]
  refine ⟨?_, ?_, ?_⟩
  · refine o_call rfl (r_call fn15 rfl rfl) rfl (rdecP_ok rs pa rs.length pc x _ (hrs.st hS8) rfl Om (fun r hr' => (hall r hr').st hS8) hw (hr.st hS8) hoks) ?_
    rintro _ w9 ⟨ru1, rfl, hx10⟩; have hS11 := hS8.ext hx10
    refine ⟨hS11, ?_⟩
    refine g_all (rs := [5, 6, 7]) (by decide +kernel) (by decide +kernel) rfl ?_
    simp only [List.forall_mem_cons, List.not_mem_nil, false_imp_iff, implies_true, and_true]
    refine ⟨?_, ?_, ?_⟩
    · refine o_call rfl (r_call fn15 rfl rfl) rfl (rdecP_ok rt ta rt.length tc x _ (hrt.st hS11) rfl Om (fun r hr' => (hallt r hr').st hS11) hw (hr.st hS11) hokt) ?_
      rintro _ w12 ⟨ru2, rfl, hx13⟩; have hS14 := hS11.ext hx13
      refine ⟨hS14, ?_⟩
      refine g_all (rs := [6, 7]) (by decide +kernel) (by decide +kernel) rfl ?_
      simp only [List.forall_mem_cons, List.not_mem_nil, false_imp_iff, implies_true, and_true]
      refine ⟨?_, ?_⟩
      · refine o_exv rfl (x_alloc (C := [.bool false, .int .i64 0, .int .i64 0, .string ⟨#[]⟩]) hS14 ti52 rfl) rfl ?_
        rintro _ w15 ⟨b7, rfl, hS16⟩
        refine ⟨hS16.drop1, ?_⟩
        refine zG1 7 ?_; refine o_exv rfl (x_alloc (C := [.bool false, .int .i64 0, .int .i64 0, .string ⟨#[]⟩]) hS16 ti52 rfl) rfl ?_; rintro _ w17 ⟨bb8, rfl, hS18⟩
        refine ⟨hS18.drop1.drop1, ?_⟩
        refine zGT rfl ?_; refine zY (x_storeW [_] hS18 ti52 rfl rfl rfl rfl one_dec) ?_; intro w19 hS20; simp only [ca, na] at hS20; refine zY (x_storeW [] hS20 ti52 rfl rfl rfl rfl one_dec) ?_; intro w21 hS22; simp only [ca, na] at hS22; refine zN<|zT<|zS<|zR<|zF fa52_0 rfl ti4.und rfl (hS22.heap Z1) rfl rfl rfl<|zF fa52_0 rfl ti4.und rfl (hS22.heap Z0) rfl rfl rfl ?_
        refine wl_dec (r_neqBool ti4.und rfl rfl) rfl (fun h2_4 => ?_) (fun h2_4 => ?_)
        · refine zq 15 rfl<|zN<|zT<|zU<|ret1 Tryz.results46 ?_
          have hF := hS22; exact otherwise_ok_c0
        refine zq 1 rfl<|wl_val (r_field fa52_2 rfl) rfl<|wl_val (r_loadB1 ti3.und rfl rfl (hS22.heap Z1) rfl) rfl<|wl_val (r_field fa52_2 rfl) rfl<|wl_val (r_loadB1 ti3.und rfl rfl (hS22.heap Z0) rfl) rfl ?_
        refine wl_dec (r_neq rfl rfl) rfl (fun h2_10 => ?_) (fun h2_10 => ?_)
        · refine zq 9 rfl<|zN<|zT<|zU<|ret1 Tryz.results46 ?_
          have hF := hS22; exact otherwise_ok_c0
        refine zq 2 rfl<|wl_val (r_field fa52_3 rfl) rfl<|wl_val (r_loadB1 ti9.und rfl rfl (hS22.heap Z1) rfl) rfl<|wl_val (r_field fa52_3 rfl) rfl<|wl_val (r_loadB1 ti9.und rfl rfl (hS22.heap Z0) rfl) rfl ?_
        refine wl_dec (r_neqStrL rfl rfl) rfl (fun h2_17 => ?_) (fun h2_17 => ?_)
        · refine zq 2 rfl<|zN<|zT<|zU<|ret1 Tryz.results46 ?_
          have hF := hS22; exact otherwise_ok_c0
        refine zq 2 rfl<|zN<|zT<|zU<|ret1 Tryz.results46 ?_
        have hF := hS22; exact otherwise_ok_c0
      · refine o_exv rfl (x_alloc (C := [.bool false, .int .i64 0, .int .i64 0, .string ⟨#[]⟩]) hS14 ti52 rfl) rfl ?_
        rintro _ w23 ⟨bb8, rfl, hS24⟩
        refine ⟨hS24.drop1, ?_⟩
        refine zG1 6 ?_; refine o_exv rfl (x_alloc (C := [.bool false, .int .i64 0, .int .i64 0, .string ⟨#[]⟩]) hS24 ti52 rfl) rfl ?_; rintro _ w25 ⟨b7, rfl, hS26⟩
        refine ⟨hS26.drop1.drop1, ?_⟩
        refine zGT rfl ?_; refine zY (x_storeW [] hS26 ti52 rfl rfl rfl rfl one_dec) ?_; intro w27 hS28; simp only [ca, na] at hS28; refine zY (x_storeW [_] hS28 ti52 rfl rfl rfl rfl one_dec) ?_; intro w29 hS30; simp only [ca, na] at hS30; refine zN<|zT<|zS<|zR<|zF fa52_0 rfl ti4.und rfl (hS30.heap Z0) rfl rfl rfl<|zF fa52_0 rfl ti4.und rfl (hS30.heap Z1) rfl rfl rfl ?_
        refine wl_dec (r_neqBool ti4.und rfl rfl) rfl (fun h2_4 => ?_) (fun h2_4 => ?_)
        · refine zq 15 rfl<|zN<|zT<|zU<|ret1 Tryz.results46 ?_
          have hF := hS30; exact otherwise_ok_c0
        refine zq 1 rfl<|wl_val (r_field fa52_2 rfl) rfl<|wl_val (r_loadB1 ti3.und rfl rfl (hS30.heap Z0) rfl) rfl<|wl_val (r_field fa52_2 rfl) rfl<|wl_val (r_loadB1 ti3.und rfl rfl (hS30.heap Z1) rfl) rfl ?_
        refine wl_dec (r_neq rfl rfl) rfl (fun h2_10 => ?_) (fun h2_10 => ?_)
        · refine zq 9 rfl<|zN<|zT<|zU<|ret1 Tryz.results46 ?_
          have hF := hS30; exact otherwise_ok_c0
        refine zq 2 rfl<|wl_val (r_field fa52_3 rfl) rfl<|wl_val (r_loadB1 ti9.und rfl rfl (hS30.heap Z0) rfl) rfl<|wl_val (r_field fa52_3 rfl) rfl<|wl_val (r_loadB1 ti9.und rfl rfl (hS30.heap Z1) rfl) rfl ?_
        refine wl_dec (r_neqStrL rfl rfl) rfl (fun h2_17 => ?_) (fun h2_17 => ?_)
        · refine zq 2 rfl<|zN<|zT<|zU<|ret1 Tryz.results46 ?_
          have hF := hS30; exact otherwise_ok_c0
        refine zq 2 rfl<|zN<|zT<|zU<|ret1 Tryz.results46 ?_
        have hF := hS30; exact otherwise_ok_c0
    · refine o_exv rfl (x_alloc (C := [.bool false, .int .i64 0, .int .i64 0, .string ⟨#[]⟩]) hS11 ti52 rfl) rfl ?_
      rintro _ w31 ⟨b7, rfl, hS32⟩
      refine ⟨hS32.drop1, ?_⟩
      refine g_all (rs := [5, 7]) (by decide +kernel) (by decide +kernel) rfl ?_
      simp only [List.forall_mem_cons, List.not_mem_nil, false_imp_iff, implies_true, and_true]
      refine ⟨?_, ?_⟩
      · refine o_call rfl (r_call fn15 rfl rfl) rfl (rdecP_ok rt ta rt.length tc x _ (hrt.st hS32) rfl Om (fun r hr' => (hallt r hr').st hS32) hw (hr.st hS32) hokt) ?_
        rintro _ w33 ⟨ru2, rfl, hx34⟩; have hS35 := hS32.ext hx34
        refine ⟨hS35.drop1, ?_⟩
        refine zG1 7 ?_; refine o_exv rfl (x_alloc (C := [.bool false, .int .i64 0, .int .i64 0, .string ⟨#[]⟩]) hS35 ti52 rfl) rfl ?_; rintro _ w36 ⟨bb8, rfl, hS37⟩
        refine ⟨hS37.drop1.drop1, ?_⟩
        refine zGT rfl ?_; refine zY (x_storeW [_] hS37 ti52 rfl rfl rfl rfl one_dec) ?_; intro w38 hS39; simp only [ca, na] at hS39; refine zY (x_storeW [] hS39 ti52 rfl rfl rfl rfl one_dec) ?_; intro w40 hS41; simp only [ca, na] at hS41; refine zN<|zT<|zS<|zR<|zF fa52_0 rfl ti4.und rfl (hS41.heap Z1) rfl rfl rfl<|zF fa52_0 rfl ti4.und rfl (hS41.heap Z0) rfl rfl rfl ?_
        refine wl_dec (r_neqBool ti4.und rfl rfl) rfl (fun h2_4 => ?_) (fun h2_4 => ?_)
        · refine zq 15 rfl<|zN<|zT<|zU<|ret1 Tryz.results46 ?_
          have hF := hS41; exact otherwise_ok_c0
        refine zq 1 rfl<|wl_val (r_field fa52_2 rfl) rfl<|wl_val (r_loadB1 ti3.und rfl rfl (hS41.heap Z1) rfl) rfl<|wl_val (r_field fa52_2 rfl) rfl<|wl_val (r_loadB1 ti3.und rfl rfl (hS41.heap Z0) rfl) rfl ?_
        refine wl_dec (r_neq rfl rfl) rfl (fun h2_10 => ?_) (fun h2_10 => ?_)
        · refine zq 9 rfl<|zN<|zT<|zU<|ret1 Tryz.results46 ?_
          have hF := hS41; exact otherwise_ok_c0
        refine zq 2 rfl<|wl_val (r_field fa52_3 rfl) rfl<|wl_val (r_loadB1 ti9.und rfl rfl (hS41.heap Z1) rfl) rfl<|wl_val (r_field fa52_3 rfl) rfl<|wl_val (r_loadB1 ti9.und rfl rfl (hS41.heap Z0) rfl) rfl ?_
        refine wl_dec (r_neqStrL rfl rfl) rfl (fun h2_17 => ?_) (fun h2_17 => ?_)
        · refine zq 2 rfl<|zN<|zT<|zU<|ret1 Tryz.results46 ?_
          have hF := hS41; exact otherwise_ok_c0
        refine zq 2 rfl<|zN<|zT<|zU<|ret1 Tryz.results46 ?_
        have hF := hS41; exact otherwise_ok_c0
      · refine o_exv rfl (x_alloc (C := [.bool false, .int .i64 0, .int .i64 0, .string ⟨#[]⟩]) hS32 ti52 rfl) rfl ?_
        rintro _ w42 ⟨bb8, rfl, hS43⟩
        refine ⟨hS43.drop1.drop1, ?_⟩
        refine zG1 5 ?_; refine o_call rfl (r_call fn15 rfl rfl) rfl (rdecP_ok rt ta rt.length tc x _ (hrt.st hS43) rfl Om (fun r hr' => (hallt r hr').st hS43) hw (hr.st hS43) hokt) ?_; rintro _ w44 ⟨ru2, rfl, hx45⟩; have hS46 := hS43.ext hx45
        refine ⟨hS46.drop1.drop1, ?_⟩
        refine zGT rfl ?_; refine zY (x_storeW [_] hS46 ti52 rfl rfl rfl rfl one_dec) ?_; intro w47 hS48; simp only [ca, na] at hS48; refine zY (x_storeW [] hS48 ti52 rfl rfl rfl rfl one_dec) ?_; intro w49 hS50; simp only [ca, na] at hS50; refine zN<|zT<|zS<|zR<|zF fa52_0 rfl ti4.und rfl (hS50.heap Z1) rfl rfl rfl<|zF fa52_0 rfl ti4.und rfl (hS50.heap Z0) rfl rfl rfl ?_
        refine wl_dec (r_neqBool ti4.und rfl rfl) rfl (fun h2_4 => ?_) (fun h2_4 => ?_)
        · refine zq 15 rfl<|zN<|zT<|zU<|ret1 Tryz.results46 ?_
          have hF := hS50; exact otherwise_ok_c0
        refine zq 1 rfl<|wl_val (r_field fa52_2 rfl) rfl<|wl_val (r_loadB1 ti3.und rfl rfl (hS50.heap Z1) rfl) rfl<|wl_val (r_field fa52_2 rfl) rfl<|wl_val (r_loadB1 ti3.und rfl rfl (hS50.heap Z0) rfl) rfl ?_
        refine wl_dec (r_neq rfl rfl) rfl (fun h2_10 => ?_) (fun h2_10 => ?_)
        · refine zq 9 rfl<|zN<|zT<|zU<|ret1 Tryz.results46 ?_
          have hF := hS50; exact otherwise_ok_c0
        refine zq 2 rfl<|wl_val (r_field fa52_3 rfl) rfl<|wl_val (r_loadB1 ti9.und rfl rfl (hS50.heap Z1) rfl) rfl<|wl_val (r_field fa52_3 rfl) rfl<|wl_val (r_loadB1 ti9.und rfl rfl (hS50.heap Z0) rfl) rfl ?_
        refine wl_dec (r_neqStrL rfl rfl) rfl (fun h2_17 => ?_) (fun h2_17 => ?_)
        · refine zq 2 rfl<|zN<|zT<|zU<|ret1 Tryz.results46 ?_
          have hF := hS50; exact otherwise_ok_c0
        refine zq 2 rfl<|zN<|zT<|zU<|ret1 Tryz.results46 ?_
        have hF := hS50; exact otherwise_ok_c0
    · refine o_exv rfl (x_alloc (C := [.bool false, .int .i64 0, .int .i64 0, .string ⟨#[]⟩]) hS11 ti52 rfl) rfl ?_
      rintro _ w51 ⟨bb8, rfl, hS52⟩
      refine ⟨hS52.drop1, ?_⟩
      refine g_all (rs := [5, 6]) (by decide +kernel) (by decide +kernel) rfl ?_
      simp only [List.forall_mem_cons, List.not_mem_nil, false_imp_iff, implies_true, and_true]
      refine ⟨?_, ?_⟩
      · refine o_call rfl (r_call fn15 rfl rfl) rfl (rdecP_ok rt ta rt.length tc x _ (hrt.st hS52) rfl Om (fun r hr' => (hallt r hr').st hS52) hw (hr.st hS52) hokt) ?_
        rintro _ w53 ⟨ru2, rfl, hx54⟩; have hS55 := hS52.ext hx54
        refine ⟨hS55.drop1, ?_⟩
        refine zG1 6 ?_; refine o_exv rfl (x_alloc (C := [.bool false, .int .i64 0, .int .i64 0, .string ⟨#[]⟩]) hS55 ti52 rfl) rfl ?_; rintro _ w56 ⟨b7, rfl, hS57⟩
        refine ⟨hS57.drop1.drop1, ?_⟩
        refine zGT rfl ?_; refine zY (x_storeW [] hS57 ti52 rfl rfl rfl rfl one_dec) ?_; intro w58 hS59; simp only [ca, na] at hS59; refine zY (x_storeW [_] hS59 ti52 rfl rfl rfl rfl one_dec) ?_; intro w60 hS61; simp only [ca, na] at hS61; refine zN<|zT<|zS<|zR<|zF fa52_0 rfl ti4.und rfl (hS61.heap Z0) rfl rfl rfl<|zF fa52_0 rfl ti4.und rfl (hS61.heap Z1) rfl rfl rfl ?_
        refine wl_dec (r_neqBool ti4.und rfl rfl) rfl (fun h2_4 => ?_) (fun h2_4 => ?_)
        · refine zq 15 rfl<|zN<|zT<|zU<|ret1 Tryz.results46 ?_
          have hF := hS61; exact otherwise_ok_c0
        refine zq 1 rfl<|wl_val (r_field fa52_2 rfl) rfl<|wl_val (r_loadB1 ti3.und rfl rfl (hS61.heap Z0) rfl) rfl<|wl_val (r_field fa52_2 rfl) rfl<|wl_val (r_loadB1 ti3.und rfl rfl (hS61.heap Z1) rfl) rfl ?_
        refine wl_dec (r_neq rfl rfl) rfl (fun h2_10 => ?_) (fun h2_10 => ?_)
        · refine zq 9 rfl<|zN<|zT<|zU<|ret1 Tryz.results46 ?_
          have hF := hS61; exact otherwise_ok_c0
        refine zq 2 rfl<|wl_val (r_field fa52_3 rfl) rfl<|wl_val (r_loadB1 ti9.und rfl rfl (hS61.heap Z0) rfl) rfl<|wl_val (r_field fa52_3 rfl) rfl<|wl_val (r_loadB1 ti9.und rfl rfl (hS61.heap Z1) rfl) rfl ?_
        refine wl_dec (r_neqStrL rfl rfl) rfl (fun h2_17 => ?_) (fun h2_17 => ?_)
        · refine zq 2 rfl<|zN<|zT<|zU<|ret1 Tryz.results46 ?_
          have hF := hS61; exact otherwise_ok_c0
        refine zq 2 rfl<|zN<|zT<|zU<|ret1 Tryz.results46 ?_
        have hF := hS61; exact otherwise_ok_c0
      · refine o_exv rfl (x_alloc (C := [.bool false, .int .i64 0, .int .i64 0, .string ⟨#[]⟩]) hS52 ti52 rfl) rfl ?_
        rintro _ w62 ⟨b7, rfl, hS63⟩
        refine ⟨hS63.drop1.drop1, ?_⟩
        refine zG1 5 ?_; refine o_call rfl (r_call fn15 rfl rfl) rfl (rdecP_ok rt ta rt.length tc x _ (hrt.st hS63) rfl Om (fun r hr' => (hallt r hr').st hS63) hw (hr.st hS63) hokt) ?_; rintro _ w64 ⟨ru2, rfl, hx65⟩; have hS66 := hS63.ext hx65
        refine ⟨hS66.drop1.drop1, ?_⟩
        refine zGT rfl ?_; refine zY (x_storeW [] hS66 ti52 rfl rfl rfl rfl one_dec) ?_; intro w67 hS68; simp only [ca, na] at hS68; refine zY (x_storeW [_] hS68 ti52 rfl rfl rfl rfl one_dec) ?_; intro w69 hS70; simp only [ca, na] at hS70; refine zN<|zT<|zS<|zR<|zF fa52_0 rfl ti4.und rfl (hS70.heap Z0) rfl rfl rfl<|zF fa52_0 rfl ti4.und rfl (hS70.heap Z1) rfl rfl rfl ?_
        refine wl_dec (r_neqBool ti4.und rfl rfl) rfl (fun h2_4 => ?_) (fun h2_4 => ?_)
        · refine zq 15 rfl<|zN<|zT<|zU<|ret1 Tryz.results46 ?_
          have hF := hS70; exact otherwise_ok_c0
        refine zq 1 rfl<|wl_val (r_field fa52_2 rfl) rfl<|wl_val (r_loadB1 ti3.und rfl rfl (hS70.heap Z0) rfl) rfl<|wl_val (r_field fa52_2 rfl) rfl<|wl_val (r_loadB1 ti3.und rfl rfl (hS70.heap Z1) rfl) rfl ?_
        refine wl_dec (r_neq rfl rfl) rfl (fun h2_10 => ?_) (fun h2_10 => ?_)
        · refine zq 9 rfl<|zN<|zT<|zU<|ret1 Tryz.results46 ?_
          have hF := hS70; exact otherwise_ok_c0
        refine zq 2 rfl<|wl_val (r_field fa52_3 rfl) rfl<|wl_val (r_loadB1 ti9.und rfl rfl (hS70.heap Z0) rfl) rfl<|wl_val (r_field fa52_3 rfl) rfl<|wl_val (r_loadB1 ti9.und rfl rfl (hS70.heap Z1) rfl) rfl ?_
        refine wl_dec (r_neqStrL rfl rfl) rfl (fun h2_17 => ?_) (fun h2_17 => ?_)
        · refine zq 2 rfl<|zN<|zT<|zU<|ret1 Tryz.results46 ?_
          have hF := hS70; exact otherwise_ok_c0
        refine zq 2 rfl<|zN<|zT<|zU<|ret1 Tryz.results46 ?_
        have hF := hS70; exact otherwise_ok_c0
  · refine o_exv rfl (x_alloc (C := [.bool false, .int .i64 0, .int .i64 0, .string ⟨#[]⟩]) hS8 ti52 rfl) rfl ?_
    rintro _ w71 ⟨b7, rfl, hS72⟩
    refine ⟨hS72.drop1, ?_⟩
    refine g_all (rs := [2, 7]) (by decide +kernel) (by decide +kernel) rfl ?_
    simp only [List.forall_mem_cons, List.not_mem_nil, false_imp_iff, implies_true, and_true]
    refine ⟨?_, ?_⟩
    · refine o_call rfl (r_call fn15 rfl rfl) rfl (rdecP_ok rs pa rs.length pc x _ (hrs.st hS72) rfl Om (fun r hr' => (hall r hr').st hS72) hw (hr.st hS72) hoks) ?_
      rintro _ w73 ⟨ru1, rfl, hx74⟩; have hS75 := hS72.ext hx74
      refine ⟨hS75.drop1, ?_⟩
      refine g_all (rs := [5, 7]) (by decide +kernel) (by decide +kernel) rfl ?_
      simp only [List.forall_mem_cons, List.not_mem_nil, false_imp_iff, implies_true, and_true]
      refine ⟨?_, ?_⟩
      · refine o_call rfl (r_call fn15 rfl rfl) rfl (rdecP_ok rt ta rt.length tc x _ (hrt.st hS75) rfl Om (fun r hr' => (hallt r hr').st hS75) hw (hr.st hS75) hokt) ?_
        rintro _ w76 ⟨ru2, rfl, hx77⟩; have hS78 := hS75.ext hx77
        refine ⟨hS78.drop1, ?_⟩
        refine zG1 7 ?_; refine o_exv rfl (x_alloc (C := [.bool false, .int .i64 0, .int .i64 0, .string ⟨#[]⟩]) hS78 ti52 rfl) rfl ?_; rintro _ w79 ⟨bb8, rfl, hS80⟩
        refine ⟨hS80.drop1.drop1, ?_⟩
        refine zGT rfl ?_; refine zY (x_storeW [_] hS80 ti52 rfl rfl rfl rfl one_dec) ?_; intro w81 hS82; simp only [ca, na] at hS82; refine zY (x_storeW [] hS82 ti52 rfl rfl rfl rfl one_dec) ?_; intro w83 hS84; simp only [ca, na] at hS84; refine zN<|zT<|zS<|zR<|zF fa52_0 rfl ti4.und rfl (hS84.heap Z1) rfl rfl rfl<|zF fa52_0 rfl ti4.und rfl (hS84.heap Z0) rfl rfl rfl ?_
        refine wl_dec (r_neqBool ti4.und rfl rfl) rfl (fun h2_4 => ?_) (fun h2_4 => ?_)
        · refine zq 15 rfl<|zN<|zT<|zU<|ret1 Tryz.results46 ?_
          have hF := hS84; exact otherwise_ok_c0
        refine zq 1 rfl<|wl_val (r_field fa52_2 rfl) rfl<|wl_val (r_loadB1 ti3.und rfl rfl (hS84.heap Z1) rfl) rfl<|wl_val (r_field fa52_2 rfl) rfl<|wl_val (r_loadB1 ti3.und rfl rfl (hS84.heap Z0) rfl) rfl ?_
        refine wl_dec (r_neq rfl rfl) rfl (fun h2_10 => ?_) (fun h2_10 => ?_)
        · refine zq 9 rfl<|zN<|zT<|zU<|ret1 Tryz.results46 ?_
          have hF := hS84; exact otherwise_ok_c0
        refine zq 2 rfl<|wl_val (r_field fa52_3 rfl) rfl<|wl_val (r_loadB1 ti9.und rfl rfl (hS84.heap Z1) rfl) rfl<|wl_val (r_field fa52_3 rfl) rfl<|wl_val (r_loadB1 ti9.und rfl rfl (hS84.heap Z0) rfl) rfl ?_
        refine wl_dec (r_neqStrL rfl rfl) rfl (fun h2_17 => ?_) (fun h2_17 => ?_)
        · refine zq 2 rfl<|zN<|zT<|zU<|ret1 Tryz.results46 ?_
          have hF := hS84; exact otherwise_ok_c0
        refine zq 2 rfl<|zN<|zT<|zU<|ret1 Tryz.results46 ?_
        have hF := hS84; exact otherwise_ok_c0
      · refine o_exv rfl (x_alloc (C := [.bool false, .int .i64 0, .int .i64 0, .string ⟨#[]⟩]) hS75 ti52 rfl) rfl ?_
        rintro _ w85 ⟨bb8, rfl, hS86⟩
        refine ⟨hS86.drop1.drop1, ?_⟩
        refine zG1 5 ?_; refine o_call rfl (r_call fn15 rfl rfl) rfl (rdecP_ok rt ta rt.length tc x _ (hrt.st hS86) rfl Om (fun r hr' => (hallt r hr').st hS86) hw (hr.st hS86) hokt) ?_; rintro _ w87 ⟨ru2, rfl, hx88⟩; have hS89 := hS86.ext hx88
        refine ⟨hS89.drop1.drop1, ?_⟩
        refine zGT rfl ?_; refine zY (x_storeW [_] hS89 ti52 rfl rfl rfl rfl one_dec) ?_; intro w90 hS91; simp only [ca, na] at hS91; refine zY (x_storeW [] hS91 ti52 rfl rfl rfl rfl one_dec) ?_; intro w92 hS93; simp only [ca, na] at hS93; refine zN<|zT<|zS<|zR<|zF fa52_0 rfl ti4.und rfl (hS93.heap Z1) rfl rfl rfl<|zF fa52_0 rfl ti4.und rfl (hS93.heap Z0) rfl rfl rfl ?_
        refine wl_dec (r_neqBool ti4.und rfl rfl) rfl (fun h2_4 => ?_) (fun h2_4 => ?_)
        · refine zq 15 rfl<|zN<|zT<|zU<|ret1 Tryz.results46 ?_
          have hF := hS93; exact otherwise_ok_c0
        refine zq 1 rfl<|wl_val (r_field fa52_2 rfl) rfl<|wl_val (r_loadB1 ti3.und rfl rfl (hS93.heap Z1) rfl) rfl<|wl_val (r_field fa52_2 rfl) rfl<|wl_val (r_loadB1 ti3.und rfl rfl (hS93.heap Z0) rfl) rfl ?_
        refine wl_dec (r_neq rfl rfl) rfl (fun h2_10 => ?_) (fun h2_10 => ?_)
        · refine zq 9 rfl<|zN<|zT<|zU<|ret1 Tryz.results46 ?_
          have hF := hS93; exact otherwise_ok_c0
        refine zq 2 rfl<|wl_val (r_field fa52_3 rfl) rfl<|wl_val (r_loadB1 ti9.und rfl rfl (hS93.heap Z1) rfl) rfl<|wl_val (r_field fa52_3 rfl) rfl<|wl_val (r_loadB1 ti9.und rfl rfl (hS93.heap Z0) rfl) rfl ?_
        refine wl_dec (r_neqStrL rfl rfl) rfl (fun h2_17 => ?_) (fun h2_17 => ?_)
        · refine zq 2 rfl<|zN<|zT<|zU<|ret1 Tryz.results46 ?_
          have hF := hS93; exact otherwise_ok_c0
        refine zq 2 rfl<|zN<|zT<|zU<|ret1 Tryz.results46 ?_
        have hF := hS93; exact otherwise_ok_c0
    · refine o_exv rfl (x_alloc (C := [.bool false, .int .i64 0, .int .i64 0, .string ⟨#[]⟩]) hS72 ti52 rfl) rfl ?_
      rintro _ w94 ⟨bb8, rfl, hS95⟩
      refine ⟨hS95.drop1.drop1, ?_⟩
      refine zG1 2 ?_; refine o_call rfl (r_call fn15 rfl rfl) rfl (rdecP_ok rs pa rs.length pc x _ (hrs.st hS95) rfl Om (fun r hr' => (hall r hr').st hS95) hw (hr.st hS95) hoks) ?_; rintro _ w96 ⟨ru1, rfl, hx97⟩; have hS98 := hS95.ext hx97
      refine ⟨hS98.drop1.drop1, ?_⟩
      refine zG1 5 ?_; refine o_call rfl (r_call fn15 rfl rfl) rfl (rdecP_ok rt ta rt.length tc x _ (hrt.st hS98) rfl Om (fun r hr' => (hallt r hr').st hS98) hw (hr.st hS98) hokt) ?_; rintro _ w99 ⟨ru2, rfl, hx100⟩; have hS101 := hS98.ext hx100
      refine ⟨hS101.drop1.drop1, ?_⟩
      refine zGT rfl ?_; refine zY (x_storeW [_] hS101 ti52 rfl rfl rfl rfl one_dec) ?_; intro w102 hS103; simp only [ca, na] at hS103; refine zY (x_storeW [] hS103 ti52 rfl rfl rfl rfl one_dec) ?_; intro w104 hS105; simp only [ca, na] at hS105; refine zN<|zT<|zS<|zR<|zF fa52_0 rfl ti4.und rfl (hS105.heap Z1) rfl rfl rfl<|zF fa52_0 rfl ti4.und rfl (hS105.heap Z0) rfl rfl rfl ?_
      refine wl_dec (r_neqBool ti4.und rfl rfl) rfl (fun h2_4 => ?_) (fun h2_4 => ?_)
      · refine zq 15 rfl<|zN<|zT<|zU<|ret1 Tryz.results46 ?_
        have hF := hS105; exact otherwise_ok_c0
      refine zq 1 rfl<|wl_val (r_field fa52_2 rfl) rfl<|wl_val (r_loadB1 ti3.und rfl rfl (hS105.heap Z1) rfl) rfl<|wl_val (r_field fa52_2 rfl) rfl<|wl_val (r_loadB1 ti3.und rfl rfl (hS105.heap Z0) rfl) rfl ?_
      refine wl_dec (r_neq rfl rfl) rfl (fun h2_10 => ?_) (fun h2_10 => ?_)
      · refine zq 9 rfl<|zN<|zT<|zU<|ret1 Tryz.results46 ?_
        have hF := hS105; exact otherwise_ok_c0
      refine zq 2 rfl<|wl_val (r_field fa52_3 rfl) rfl<|wl_val (r_loadB1 ti9.und rfl rfl (hS105.heap Z1) rfl) rfl<|wl_val (r_field fa52_3 rfl) rfl<|wl_val (r_loadB1 ti9.und rfl rfl (hS105.heap Z0) rfl) rfl ?_
      refine wl_dec (r_neqStrL rfl rfl) rfl (fun h2_17 => ?_) (fun h2_17 => ?_)
      · refine zq 2 rfl<|zN<|zT<|zU<|ret1 Tryz.results46 ?_
        have hF := hS105; exact otherwise_ok_c0
      refine zq 2 rfl<|zN<|zT<|zU<|ret1 Tryz.results46 ?_
      have hF := hS105; exact otherwise_ok_c0
  · refine o_exv rfl (x_alloc (C := [.bool false, .int .i64 0, .int .i64 0, .string ⟨#[]⟩]) hS8 ti52 rfl) rfl ?_
    rintro _ w106 ⟨bb8, rfl, hS107⟩
    refine ⟨hS107.drop1, ?_⟩
    refine g_all (rs := [2, 6]) (by decide +kernel) (by decide +kernel) rfl ?_
    simp only [List.forall_mem_cons, List.not_mem_nil, false_imp_iff, implies_true, and_true]
    refine ⟨?_, ?_⟩
    · refine o_call rfl (r_call fn15 rfl rfl) rfl (rdecP_ok rs pa rs.length pc x _ (hrs.st hS107) rfl Om (fun r hr' => (hall r hr').st hS107) hw (hr.st hS107) hoks) ?_
      rintro _ w108 ⟨ru1, rfl, hx109⟩; have hS110 := hS107.ext hx109
      refine ⟨hS110.drop1, ?_⟩
      refine g_all (rs := [5, 6]) (by decide +kernel) (by decide +kernel) rfl ?_
      simp only [List.forall_mem_cons, List.not_mem_nil, false_imp_iff, implies_true, and_true]
      refine ⟨?_, ?_⟩
      · refine o_call rfl (r_call fn15 rfl rfl) rfl (rdecP_ok rt ta rt.length tc x _ (hrt.st hS110) rfl Om (fun r hr' => (hallt r hr').st hS110) hw (hr.st hS110) hokt) ?_
        rintro _ w111 ⟨ru2, rfl, hx112⟩; have hS113 := hS110.ext hx112
        refine ⟨hS113.drop1, ?_⟩
        refine zG1 6 ?_; refine o_exv rfl (x_alloc (C := [.bool false, .int .i64 0, .int .i64 0, .string ⟨#[]⟩]) hS113 ti52 rfl) rfl ?_; rintro _ w114 ⟨b7, rfl, hS115⟩
        refine ⟨hS115.drop1.drop1, ?_⟩
        refine zGT rfl ?_; refine zY (x_storeW [] hS115 ti52 rfl rfl rfl rfl one_dec) ?_; intro w116 hS117; simp only [ca, na] at hS117; refine zY (x_storeW [_] hS117 ti52 rfl rfl rfl rfl one_dec) ?_; intro w118 hS119; simp only [ca, na] at hS119; refine zN<|zT<|zS<|zR<|zF fa52_0 rfl ti4.und rfl (hS119.heap Z0) rfl rfl rfl<|zF fa52_0 rfl ti4.und rfl (hS119.heap Z1) rfl rfl rfl ?_
        refine wl_dec (r_neqBool ti4.und rfl rfl) rfl (fun h2_4 => ?_) (fun h2_4 => ?_)
        · refine zq 15 rfl<|zN<|zT<|zU<|ret1 Tryz.results46 ?_
          have hF := hS119; exact otherwise_ok_c0
        refine zq 1 rfl<|wl_val (r_field fa52_2 rfl) rfl<|wl_val (r_loadB1 ti3.und rfl rfl (hS119.heap Z0) rfl) rfl<|wl_val (r_field fa52_2 rfl) rfl<|wl_val (r_loadB1 ti3.und rfl rfl (hS119.heap Z1) rfl) rfl ?_
        refine wl_dec (r_neq rfl rfl) rfl (fun h2_10 => ?_) (fun h2_10 => ?_)
        · refine zq 9 rfl<|zN<|zT<|zU<|ret1 Tryz.results46 ?_
          have hF := hS119; exact otherwise_ok_c0
        refine zq 2 rfl<|wl_val (r_field fa52_3 rfl) rfl<|wl_val (r_loadB1 ti9.und rfl rfl (hS119.heap Z0) rfl) rfl<|wl_val (r_field fa52_3 rfl) rfl<|wl_val (r_loadB1 ti9.und rfl rfl (hS119.heap Z1) rfl) rfl ?_
        refine wl_dec (r_neqStrL rfl rfl) rfl (fun h2_17 => ?_) (fun h2_17 => ?_)
        · refine zq 2 rfl<|zN<|zT<|zU<|ret1 Tryz.results46 ?_
          have hF := hS119; exact otherwise_ok_c0
        refine zq 2 rfl<|zN<|zT<|zU<|ret1 Tryz.results46 ?_
        have hF := hS119; exact otherwise_ok_c0
      · refine o_exv rfl (x_alloc (C := [.bool false, .int .i64 0, .int .i64 0, .string ⟨#[]⟩]) hS110 ti52 rfl) rfl ?_
        rintro _ w120 ⟨b7, rfl, hS121⟩
        refine ⟨hS121.drop1.drop1, ?_⟩
        refine zG1 5 ?_; refine o_call rfl (r_call fn15 rfl rfl) rfl (rdecP_ok rt ta rt.length tc x _ (hrt.st hS121) rfl Om (fun r hr' => (hallt r hr').st hS121) hw (hr.st hS121) hokt) ?_; rintro _ w122 ⟨ru2, rfl, hx123⟩; have hS124 := hS121.ext hx123
        refine ⟨hS124.drop1.drop1, ?_⟩
        refine zGT rfl ?_; refine zY (x_storeW [] hS124 ti52 rfl rfl rfl rfl one_dec) ?_; intro w125 hS126; simp only [ca, na] at hS126; refine zY (x_storeW [_] hS126 ti52 rfl rfl rfl rfl one_dec) ?_; intro w127 hS128; simp only [ca, na] at hS128; refine zN<|zT<|zS<|zR<|zF fa52_0 rfl ti4.und rfl (hS128.heap Z0) rfl rfl rfl<|zF fa52_0 rfl ti4.und rfl (hS128.heap Z1) rfl rfl rfl ?_
        refine wl_dec (r_neqBool ti4.und rfl rfl) rfl (fun h2_4 => ?_) (fun h2_4 => ?_)
        · refine zq 15 rfl<|zN<|zT<|zU<|ret1 Tryz.results46 ?_
          have hF := hS128; exact otherwise_ok_c0
        refine zq 1 rfl<|wl_val (r_field fa52_2 rfl) rfl<|wl_val (r_loadB1 ti3.und rfl rfl (hS128.heap Z0) rfl) rfl<|wl_val (r_field fa52_2 rfl) rfl<|wl_val (r_loadB1 ti3.und rfl rfl (hS128.heap Z1) rfl) rfl ?_
        refine wl_dec (r_neq rfl rfl) rfl (fun h2_10 => ?_) (fun h2_10 => ?_)
        · refine zq 9 rfl<|zN<|zT<|zU<|ret1 Tryz.results46 ?_
          have hF := hS128; exact otherwise_ok_c0
        refine zq 2 rfl<|wl_val (r_field fa52_3 rfl) rfl<|wl_val (r_loadB1 ti9.und rfl rfl (hS128.heap Z0) rfl) rfl<|wl_val (r_field fa52_3 rfl) rfl<|wl_val (r_loadB1 ti9.und rfl rfl (hS128.heap Z1) rfl) rfl ?_
        refine wl_dec (r_neqStrL rfl rfl) rfl (fun h2_17 => ?_) (fun h2_17 => ?_)
        · refine zq 2 rfl<|zN<|zT<|zU<|ret1 Tryz.results46 ?_
          have hF := hS128; exact otherwise_ok_c0
        refine zq 2 rfl<|zN<|zT<|zU<|ret1 Tryz.results46 ?_
        have hF := hS128; exact otherwise_ok_c0
    · refine o_exv rfl (x_alloc (C := [.bool false, .int .i64 0, .int .i64 0, .string ⟨#[]⟩]) hS107 ti52 rfl) rfl ?_
      rintro _ w129 ⟨b7, rfl, hS130⟩
      refine ⟨hS130.drop1.drop1, ?_⟩
      refine zG1 2 ?_; refine o_call rfl (r_call fn15 rfl rfl) rfl (rdecP_ok rs pa rs.length pc x _ (hrs.st hS130) rfl Om (fun r hr' => (hall r hr').st hS130) hw (hr.st hS130) hoks) ?_; rintro _ w131 ⟨ru1, rfl, hx132⟩; have hS133 := hS130.ext hx132
      refine ⟨hS133.drop1.drop1, ?_⟩
      refine zG1 5 ?_; refine o_call rfl (r_call fn15 rfl rfl) rfl (rdecP_ok rt ta rt.length tc x _ (hrt.st hS133) rfl Om (fun r hr' => (hallt r hr').st hS133) hw (hr.st hS133) hokt) ?_; rintro _ w134 ⟨ru2, rfl, hx135⟩; have hS136 := hS133.ext hx135
      refine ⟨hS136.drop1.drop1, ?_⟩
      refine zGT rfl ?_; refine zY (x_storeW [] hS136 ti52 rfl rfl rfl rfl one_dec) ?_; intro w137 hS138; simp only [ca, na] at hS138; refine zY (x_storeW [_] hS138 ti52 rfl rfl rfl rfl one_dec) ?_; intro w139 hS140; simp only [ca, na] at hS140; refine zN<|zT<|zS<|zR<|zF fa52_0 rfl ti4.und rfl (hS140.heap Z0) rfl rfl rfl<|zF fa52_0 rfl ti4.und rfl (hS140.heap Z1) rfl rfl rfl ?_
      refine wl_dec (r_neqBool ti4.und rfl rfl) rfl (fun h2_4 => ?_) (fun h2_4 => ?_)
      · refine zq 15 rfl<|zN<|zT<|zU<|ret1 Tryz.results46 ?_
        have hF := hS140; exact otherwise_ok_c0
      refine zq 1 rfl<|wl_val (r_field fa52_2 rfl) rfl<|wl_val (r_loadB1 ti3.und rfl rfl (hS140.heap Z0) rfl) rfl<|wl_val (r_field fa52_2 rfl) rfl<|wl_val (r_loadB1 ti3.und rfl rfl (hS140.heap Z1) rfl) rfl ?_
      refine wl_dec (r_neq rfl rfl) rfl (fun h2_10 => ?_) (fun h2_10 => ?_)
      · refine zq 9 rfl<|zN<|zT<|zU<|ret1 Tryz.results46 ?_
        have hF := hS140; exact otherwise_ok_c0
      refine zq 2 rfl<|wl_val (r_field fa52_3 rfl) rfl<|wl_val (r_loadB1 ti9.und rfl rfl (hS140.heap Z0) rfl) rfl<|wl_val (r_field fa52_3 rfl) rfl<|wl_val (r_loadB1 ti9.und rfl rfl (hS140.heap Z1) rfl) rfl ?_
      refine wl_dec (r_neqStrL rfl rfl) rfl (fun h2_17 => ?_) (fun h2_17 => ?_)
      · refine zq 2 rfl<|zN<|zT<|zU<|ret1 Tryz.results46 ?_
        have hF := hS140; exact otherwise_ok_c0
      refine zq 2 rfl<|zN<|zT<|zU<|ret1 Tryz.results46 ?_
      have hF := hS140; exact otherwise_ok_c0

theorem lclo1_ok (x : WA) (r : RuleD) (bk : Nat) (w : World) (hg : RuleAt w r) (he : ruleE r = 0) (hw : WOk x) (hr : Row w x.ra (x.ro.map sv)) (hk : w.heap[bk]? = some (cl r.v 50)) :
    Ret Tryz.prog 44 [.agg x.v.toArray, pt bk 0] w (fun v w' => v = .bool (meetE r x.q) ∧ St w [] w' []) := by
  have hbk := (Array.getElem?_eq_some_iff.1 hk).1
  refine enter Tryz.func44 rfl Tryz.ntmps44 rfl ?_
  have hS := St.refl w []
  refine zS<|zR<|zB (v := .agg _) hS rfl rfl fun b2 w1 hS2=>zq 1 rfl<|zN<|zT<|zS<|zR<|zV (r_loadB ti50 ag50 rfl ((hS2.old bk hbk (by simp)).trans hk) (rule_v8 _)) ?_; refine zV (r_loadB ti40 ag40 rfl (hS2.heap Z0) (wa_v68 _))<|zE fn39 rfl hS2 (rmeetP_ok r x _ (hg.st hS2) hw (hr.st hS2) he) fun w3 hS5=>zq 1 rfl<|zN<|zT<|zU<|ret1 Tryz.results44 ?_
  exact ⟨rfl, hS5.fin⟩

theorem lclo2_ok (x : WA) (rs : List RuleD) (pa : Option Addr) (pc i bP bI : Nat) (w : World) (hrs : Row w pa (rs.flatMap RuleD.v)) (hall : ∀ r ∈ rs, RuleAt w r) (hoks : ∀ r ∈ rs, ruleE r = 0) (hn : rs.length ≤ 100) (hi : i < rs.length) (hw : WOk x) (hr : Row w x.ra (x.ro.map sv)) (hk : At w bP 0 [.slice pa rs.length pc]) (hk2 : At w bI 0 [vi i]) :
    Ret Tryz.prog 45 [.agg x.v.toArray, pt bP 0, pt bI 0] w (fun v w' => (decB rs x.b = decB (rs.eraseIdx i) x.b ∧ v = .bool false ∧ St w [] w' []) ∨ (¬ decB rs x.b = decB (rs.eraseIdx i) x.b ∧ v = .bool true ∧ St w [] w' [])) := by
  refine enter Tryz.func45 rfl Tryz.ntmps45 rfl ?_
  have hS := St.refl w []
  refine zS<|zR<|zB (v := .agg _) hS rfl rfl fun b3 w1 hS2=>zq 1 rfl<|zN<|zT<|zS<|c_drawS 5 hMixed hS2 ?_; intro w3 hS4; refine zG 0 rfl hS4 (fun wF hF => r_loadA (cs := [.slice pa rs.length pc]) (by exact ti24) rfl rfl (hk.st hF)) ?_; refine zG 1 rfl hS4 (fun wF hF => r_loadA (cs := [.slice pa rs.length pc]) (by exact ti24) rfl rfl (hk.st hF)) ?_; refine zG 2 rfl hS4 (fun wF hF => r_loadAt1 (j := 0) ti3.und rfl rfl (hk2.st hF) rfl rfl) ?_; refine zG 4 rfl hS4 (fun wF hF => r_loadB ti40 ag40 rfl (hF.heap Z0) (wa_v68 _)) ?_; refine zG1 3 ?_; refine o_call rfl (r_call fn47 rfl rfl) rfl (without_ok rs pa rs.length pc i _ (hrs.st hS4) rfl hi hn) ?_; rintro _ w5 ⟨aW, cW, rfl, hx6⟩
  have hS7 := hS4.call hx6
  simp only [ca, na] at hS7
  refine ⟨hS7.drop1, ?_⟩
  refine zGT rfl ?_; refine zC fn46 rfl (otherwise_ok rs pa pc (rs.eraseIdx i) aW _ cW x _ (hrs.st hS7) (fun r hr' => (hall r hr').st hS7) hoks hn (St.rowAt hS7 Z0) (fun r hr' => (hall r (List.mem_of_mem_eraseIdx hr')).st hS7) (fun r hr' => hoks r (List.mem_of_mem_eraseIdx hr')) rfl (by rw [List.length_eraseIdx_of_lt hi]; omega) hw (hr.st hS7)) ?_
  rintro _ w8 (⟨hd, rfl, hx9⟩ | ⟨hd, rfl, hx9⟩)
  · have hS10 := hS7.ext hx9
    refine zq 1 rfl<|zN<|zT<|zU<|ret1 Tryz.results45 ?_
    first | exact .inl ⟨hd, rfl, hS10.fin⟩ | exact .inr ⟨hd, rfl, hS10.fin⟩
  have hS10 := hS7.ext hx9; refine zq 1 rfl<|zN<|zT<|zU<|ret1 Tryz.results45 ?_
  first | exact .inl ⟨hd, rfl, hS10.fin⟩ | exact .inr ⟨hd, rfl, hS10.fin⟩

end Go.Proofs.YtmonnmndphlkaaaGreat
end
section
namespace Go.Proofs.YtmonnmndphlkaaaGreat
open Go.Kw
set_option linter.unusedVariables false
set_option linter.unusedSimpArgs false
set_option maxRecDepth 100000
theorem ixA1_ok_c0 {p : Prop} (h : p := by first | exact .inl ⟨⟨j, by omega, hc⟩, j, rfl, hF.fin⟩ | exact .inr ⟨fun t ht => hno t Om, rfl, hF.fin⟩) : p := h
set_option maxHeartbeats 1000000 in
theorem ixA1_ok (qs : List WA) (aW : Option Addr) (cW : Nat) (r : RuleD) (bk : Nat) (w : World) (hq : Row w aW (qs.flatMap WA.v)) (hqa : ∀ q ∈ qs, Row w q.ra (q.ro.map sv)) (hqw : ∀ q ∈ qs, WOk q) (hql : qs.length ≤ 100000) (hg : RuleAt w r) (he : ruleE r = 0) (hk : w.heap[bk]? = some (cl r.v 50)) :
    Ret Tryz.prog 76 [.slice aW qs.length cW, .func (.func 44) #[] #[pt bk 0]] w (fun v w' => ((∃ t, t < qs.length ∧ meetE r (gt qs t).q = true) ∧ ∃ t : Nat, v = vi t ∧ St w [] w' []) ∨ ((∀ t, t < qs.length → meetE r (gt qs t).q = false) ∧ v = .int .i64 (-1) ∧ St w [] w' [])) := by
  have hbk := (Array.getElem?_eq_some_iff.1 hk).1
  refine enter Tryz.func76 rfl Tryz.ntmps76 rfl ?_
  have hS := St.refl w []
  refine zS<|zR<|zq 1 rfl<|zN<|zT<|zS<|zS<|zR<|zq 1 rfl<|zV (r_len (T := 26) rfl ti26.und rfl _ rfl)<|zq 1 rfl<|zN<|zT<|zI ?_
  refine c_loopE [0, 1, 7] (fun d e w' => ∃ (j : Nat), Kw.look e 8 = vi j ∧ d = qs.length - j ∧ St w [] w' [] ∧ (j ≤ qs.length) ∧ (∀ t, t < j → meetE r (gt qs t).q = false)) (qs.length - 0) ?_ ?_
  · exact ⟨0, rfl, rfl, hS.fin, Nat.zero_le _, fun t ht => absurd ht (Nat.not_lt_zero _)⟩
  · rintro d4 e1 w2 ⟨j, hc0_8, rfl, hS3, hj, hno⟩ -
    refine c_set (d := 8) hc0_8<|zS<|zR ?_
    refine wl_dec (r_lss rfl rfl) rfl (fun h2_0 => ?_) (fun h2_0 => ?_)
    · refine zN<|zT<|zS<|zt rfl<|zK<|zT<|zS<|zI<|zS<|zR<|zq 2 rfl<|zN<|zT<|zS<|zR<|zV (r_move rfl)<|zq 2 rfl<|zV (r_ixF wa_v68 ti26.und ti40 rfl rfl (hq.st hS3) Ln Sd (by decide)) ?_
      refine zV (r_loadF wa_v68 ti40 ag40 rfl (hq.st hS3) Sd (by decide)) ?_; refine wl_call (r_callDyn fn44 rfl rfl) rfl ((lclo1_ok (gt qs j) r bk _ (hg.st hS3) he (hqw _ (gt_mem qs j Om)) ((hqa _ (gt_mem qs j Om)).st hS3) ((hS3.old bk hbk (by simp)).trans hk)).br) ?_
      rintro _ w5 (⟨hc, rfl, hx6⟩ | ⟨hc, rfl, hx6⟩)
      · have hS7 := hS3.ext hx6
        refine zN<|zT<|zt rfl<|zS<|zR<|zq 2 rfl<|zN<|zT<|zU<|zH<|zL<|zL<|zH<|zL<|ret1 Tryz.results76 ?_
        have hF := hS7; exact ixA1_ok_c0
      have hS7 := hS3.ext hx6; refine zN<|zT<|zf rfl<|zK<|zJ<|zT<|zR<|zV (r_addn (b := 1) rfl rfl Om)<|zq 1 rfl<|zN<|zT ?_
      exact ⟨qs.length - (j + 1), _, by omega, rfl, ⟨j + 1, rfl, rfl, hS7.fin, by omega, fun t ht => (Nat.lt_succ_iff_lt_or_eq.1 ht).elim (hno t) (fun e => e ▸ hc)⟩, ⟨rfl, rfl, rfl, trivial⟩⟩
    refine zN<|zT<|zS<|zf rfl<|zO<|zM<|zM<|c_inE<|zT<|zS<|zR<|zq 1 rfl<|zN<|zT<|zU<|ret1 Tryz.results76 ?_
    have hF := hS3; exact ixA1_ok_c0

theorem ctA1_ok_c0 {p : Prop} (h : p := by first | exact .inl ⟨hc, congrArg Value.bool (decide_eq_true Om), hF.fin⟩ | exact .inl ⟨hc, rfl, hF.fin⟩ | exact .inr ⟨hc, rfl, hF.fin⟩) : p := h
theorem ctA1_ok (qs : List WA) (aW : Option Addr) (cW : Nat) (r : RuleD) (bk : Nat) (w : World) (hq : Row w aW (qs.flatMap WA.v)) (hqa : ∀ q ∈ qs, Row w q.ra (q.ro.map sv)) (hqw : ∀ q ∈ qs, WOk q) (hql : qs.length ≤ 100000) (hg : RuleAt w r) (he : ruleE r = 0) (hk : w.heap[bk]? = some (cl r.v 50)) :
    Ret Tryz.prog 43 [.slice aW qs.length cW, .func (.func 44) #[] #[pt bk 0]] w (fun v w' => ((∃ t, t < qs.length ∧ meetE r (gt qs t).q = true) ∧ v = .bool true ∧ St w [] w' []) ∨ ((∀ t, t < qs.length → meetE r (gt qs t).q = false) ∧ v = .bool false ∧ St w [] w' [])) := by
  have hbk := (Array.getElem?_eq_some_iff.1 hk).1
  refine enter Tryz.func43 rfl Tryz.ntmps43 rfl ?_
  have hS := St.refl w []
  refine zS<|zR<|zq 1 rfl<|zN<|zT<|zS<|zR<|zq 1 rfl<|zV (r_move rfl)<|zC fn76 rfl (ixA1_ok qs aW cW r bk _ (hq.st hS) (fun q hq' => (hqa q hq').st hS) hqw hql (hg.st hS) he ((hS.old bk hbk (by simp)).trans hk)) ?_
  rintro _ w1 (⟨hc, t, rfl, hx2⟩ | ⟨hc, rfl, hx2⟩)
  · have hS3 := hS.ext hx2
    refine zV (r_geq rfl rfl)<|zq 1 rfl<|zN<|zT<|zU<|ret1 Tryz.results43 ?_
    have hF := hS3; exact ctA1_ok_c0
  have hS3 := hS.ext hx2; refine wl_dec_f (r_geq rfl rfl) rfl (by decide)<|zq 1 rfl<|zN<|zT<|zU<|ret1 Tryz.results43 ?_
  have hF := hS3; exact ctA1_ok_c0

theorem ixA2_ok_c0 {p : Prop} (h : p := by first | exact .inl ⟨⟨j, by omega, hc⟩, j, rfl, hF.fin⟩ | exact .inr ⟨fun t ht => hno t Om, rfl, hF.fin⟩) : p := h
set_option maxHeartbeats 1000000 in
theorem ixA2_ok (qs : List WA) (aW : Option Addr) (cW : Nat) (rs : List RuleD) (pa : Option Addr) (pc i bP bI : Nat) (w : World) (hq : Row w aW (qs.flatMap WA.v)) (hqa : ∀ q ∈ qs, Row w q.ra (q.ro.map sv)) (hqw : ∀ q ∈ qs, WOk q) (hql : qs.length ≤ 100000) (hrs : Row w pa (rs.flatMap RuleD.v)) (hall : ∀ r ∈ rs, RuleAt w r) (hoks : ∀ r ∈ rs, ruleE r = 0) (hn : rs.length ≤ 100) (hi : i < rs.length) (hk : At w bP 0 [.slice pa rs.length pc]) (hk2 : At w bI 0 [vi i]) :
    Ret Tryz.prog 76 [.slice aW qs.length cW, .func (.func 45) #[] #[pt bP 0, pt bI 0]] w (fun v w' => ((∃ t, t < qs.length ∧ ¬ decB rs (gt qs t).b = decB (rs.eraseIdx i) (gt qs t).b) ∧ ∃ t : Nat, v = vi t ∧ St w [] w' []) ∨ ((∀ t, t < qs.length → decB rs (gt qs t).b = decB (rs.eraseIdx i) (gt qs t).b) ∧ v = .int .i64 (-1) ∧ St w [] w' [])) := by
  refine enter Tryz.func76 rfl Tryz.ntmps76 rfl ?_
  have hS := St.refl w []
  refine zS<|zR<|zq 1 rfl<|zN<|zT<|zS<|zS<|zR<|zq 1 rfl<|zV (r_len (T := 26) rfl ti26.und rfl _ rfl)<|zq 1 rfl<|zN<|zT<|zI ?_
  refine c_loopE [0, 1, 7] (fun d e w' => ∃ (j : Nat), Kw.look e 8 = vi j ∧ d = qs.length - j ∧ St w [] w' [] ∧ (j ≤ qs.length) ∧ (∀ t, t < j → decB rs (gt qs t).b = decB (rs.eraseIdx i) (gt qs t).b)) (qs.length - 0) ?_ ?_
  · exact ⟨0, rfl, rfl, hS.fin, Nat.zero_le _, fun t ht => absurd ht (Nat.not_lt_zero _)⟩
  · rintro d4 e1 w2 ⟨j, hc0_8, rfl, hS3, hj, hno⟩ -
    refine c_set (d := 8) hc0_8<|zS<|zR ?_
    refine wl_dec (r_lss rfl rfl) rfl (fun h2_0 => ?_) (fun h2_0 => ?_)
    · refine zN<|zT<|zS<|zt rfl<|zK<|zT<|zS<|zI<|zS<|zR<|zq 2 rfl<|zN<|zT<|zS<|zR<|zV (r_move rfl)<|zq 2 rfl<|zV (r_ixF wa_v68 ti26.und ti40 rfl rfl (hq.st hS3) Ln Sd (by decide)) ?_
      refine zV (r_loadF wa_v68 ti40 ag40 rfl (hq.st hS3) Sd (by decide)) ?_; refine wl_call (r_callDyn fn45 rfl rfl) rfl (lclo2_ok (gt qs j) rs pa pc i bP bI _ (hrs.st hS3) (fun r hr' => (hall r hr').st hS3) hoks hn hi (hqw _ (gt_mem qs j Om)) ((hqa _ (gt_mem qs j Om)).st hS3) (hk.st hS3) (hk2.st hS3)) ?_
      rintro _ w5 (⟨hc, rfl, hx6⟩ | ⟨hc, rfl, hx6⟩)
      · have hS7 := hS3.ext hx6
        refine zN<|zT<|zf rfl<|zK<|zJ<|zT<|zR<|zV (r_addn (b := 1) rfl rfl Om)<|zq 1 rfl<|zN<|zT ?_
        exact ⟨qs.length - (j + 1), _, by omega, rfl, ⟨j + 1, rfl, rfl, hS7.fin, by omega, fun t ht => (Nat.lt_succ_iff_lt_or_eq.1 ht).elim (hno t) (fun e => e ▸ hc)⟩, ⟨rfl, rfl, rfl, trivial⟩⟩
      have hS7 := hS3.ext hx6; refine zN<|zT<|zt rfl<|zS<|zR<|zq 2 rfl<|zN<|zT<|zU<|zH<|zL<|zL<|zH<|zL<|ret1 Tryz.results76 ?_
      have hF := hS7; exact ixA2_ok_c0
    refine zN<|zT<|zS<|zf rfl<|zO<|zM<|zM<|c_inE<|zT<|zS<|zR<|zq 1 rfl<|zN<|zT<|zU<|ret1 Tryz.results76 ?_
    have hF := hS3; exact ixA2_ok_c0

theorem ctA2_ok_c0 {p : Prop} (h : p := by first | exact .inl ⟨hc, congrArg Value.bool (decide_eq_true Om), hF.fin⟩ | exact .inl ⟨hc, rfl, hF.fin⟩ | exact .inr ⟨hc, rfl, hF.fin⟩) : p := h
theorem ctA2_ok (qs : List WA) (aW : Option Addr) (cW : Nat) (rs : List RuleD) (pa : Option Addr) (pc i bP bI : Nat) (w : World) (hq : Row w aW (qs.flatMap WA.v)) (hqa : ∀ q ∈ qs, Row w q.ra (q.ro.map sv)) (hqw : ∀ q ∈ qs, WOk q) (hql : qs.length ≤ 100000) (hrs : Row w pa (rs.flatMap RuleD.v)) (hall : ∀ r ∈ rs, RuleAt w r) (hoks : ∀ r ∈ rs, ruleE r = 0) (hn : rs.length ≤ 100) (hi : i < rs.length) (hk : At w bP 0 [.slice pa rs.length pc]) (hk2 : At w bI 0 [vi i]) :
    Ret Tryz.prog 43 [.slice aW qs.length cW, .func (.func 45) #[] #[pt bP 0, pt bI 0]] w (fun v w' => ((∃ t, t < qs.length ∧ ¬ decB rs (gt qs t).b = decB (rs.eraseIdx i) (gt qs t).b) ∧ v = .bool true ∧ St w [] w' []) ∨ ((∀ t, t < qs.length → decB rs (gt qs t).b = decB (rs.eraseIdx i) (gt qs t).b) ∧ v = .bool false ∧ St w [] w' [])) := by
  refine enter Tryz.func43 rfl Tryz.ntmps43 rfl ?_
  have hS := St.refl w []
  refine zS<|zR<|zq 1 rfl<|zN<|zT<|zS<|zR<|zq 1 rfl<|zV (r_move rfl)<|zC fn76 rfl (ixA2_ok qs aW cW rs pa pc i bP bI _ (hq.st hS) (fun q hq' => (hqa q hq').st hS) hqw hql (hrs.st hS) (fun r hr' => (hall r hr').st hS) hoks hn hi (hk.st hS) (hk2.st hS)) ?_
  rintro _ w1 (⟨hc, t, rfl, hx2⟩ | ⟨hc, rfl, hx2⟩)
  · have hS3 := hS.ext hx2
    refine zV (r_geq rfl rfl)<|zq 1 rfl<|zN<|zT<|zU<|ret1 Tryz.results43 ?_
    have hF := hS3; exact ctA2_ok_c0
  have hS3 := hS.ext hx2; refine wl_dec_f (r_geq rfl rfl) rfl (by decide)<|zq 1 rfl<|zN<|zT<|zU<|ret1 Tryz.results43 ?_
  have hF := hS3; exact ctA2_ok_c0

end Go.Proofs.YtmonnmndphlkaaaGreat
end
section
namespace Go.Proofs.YtmonnmndphlkaaaGreat
open Go.Kw
set_option linter.unusedVariables false
set_option linter.unusedSimpArgs false
set_option maxRecDepth 100000
theorem rLint_ok_c0 {p : Prop} (h : p := by exact ⟨rs.length - (k + 1), _, by omega, rfl, ⟨k + 1, a5, c5, rfl, by rw [eX]; rfl, rfl, by rw [eX]; exact hF.drop1.drop1, by omega⟩, ⟨rfl, rfl, rfl, rfl, rfl, trivial⟩⟩) : p := h
set_option maxHeartbeats 4000000 in
theorem rLint_ok (rs : List RuleD) (pa : Option Addr) (pc : Nat) (qs : List WA) (aW : Option Addr) (cW : Nat) (B : List BQ) (w : World) (hrs : Row w pa (rs.flatMap RuleD.v)) (hn : rs.length ≤ 100) (hall : ∀ r ∈ rs, RuleAt w r) (hq : Row w aW (qs.flatMap WA.v)) (hqa : ∀ q ∈ qs, Row w q.ra (q.ro.map sv)) (hqw : ∀ q ∈ qs, WOk q) (hb : qs.map WA.b = B) (hql : qs.length ≤ 100000) (hoks : ∀ r ∈ rs, ruleE r = 0) :
    Ret Tryz.prog 20 [.agg #[.slice pa rs.length pc], .slice aW qs.length cW] w (fun v w' => ∃ (a : Option Addr) (c : Nat), v = .slice a (lintW rs B rs.length).length c ∧ St w [] w' [.row (.slice a (lintW rs B rs.length).length c) 62 3 (lintW rs B rs.length).length ((lintW rs B rs.length).flatMap wv)]) := by
  refine enter Tryz.func20 rfl Tryz.ntmps20 rfl ?_
  have hS := St.refl w []
  refine zS<|zR<|zB (v := .agg _) hS rfl rfl fun b2 w1 hS2=>zq 1 rfl<|zN<|zT<|zS<|zR<|zq 1 rfl<|zN<|zT<|zS<|zS<|zR<|zF fa24_0 rfl ti22.und rfl (hS2.heap Z0) rfl rfl rfl<|zV (r_len (T := 22) rfl ti22.und rfl _ rfl)<|zq 1 rfl<|zN<|zT<|zI ?_
  refine c_loopE [1, 2, 4, 10, 11] (fun d e w' => ∃ (k : Nat) (a5 : Option Addr) (c5 : Nat), Kw.look e 12 = vi k ∧ Kw.look e 5 = .slice a5 (lintW rs B k).length c5 ∧ d = rs.length - k ∧ St w [] w' [.row (.slice a5 (lintW rs B k).length c5) 62 3 (lintW rs B k).length ((lintW rs B k).flatMap wv), .blk b2 (cl [.slice pa rs.length pc] 24)] ∧ (k ≤ rs.length)) (rs.length - 0) ?_ ?_
  · have hS99 := St.nilRow (E := 62) (sz := 3) hS2
    exact ⟨0, none, 0, rfl, rfl, rfl, hS99, Nat.zero_le _⟩
  · rintro d6 e3 w4 ⟨k, a5, c5, hc0_12, hc0_5, rfl, hS5, hk⟩ -
    refine c_set (d := 12) hc0_12<|c_set (d := 5) hc0_5<|zS<|zR ?_
    refine wl_dec (r_lss rfl rfl) rfl (fun h3_0 => ?_) (fun h3_0 => ?_)
    · refine zN<|zT<|zS<|zt rfl<|zK<|zT<|zS<|zI<|zS ?_
      have hgk := hall (gt rs k) (gt_mem rs k Om)
      have hge := hoks _ (gt_mem rs k Om)
      have hrl := rule_lens hge
      have hnd := rule_nd hge
      refine zR<|zq 1 rfl<|zV (r_ixF rule_v8 ti22.und ti50 rfl rfl (hrs.st hS5) Ln Sd (by decide)) ?_; refine zV (r_loadF rule_v8 ti50 ag50 rfl (hrs.st hS5) Sd (by decide)) ?_; refine zA (C := [.int .i64 0]) hS5 ti3 rfl fun b6 w7 hS8=>zA (C := [.bool false, .slice none 0 0, .slice none 0 0, .slice none 0 0, .int .i64 0, .int .i64 0, .int .i64 0, .string ⟨#[]⟩]) hS8 ti50 rfl fun b7 w9 hS10=>zY (x_store1 [_] hS10 ti3 rfl rfl rfl (by simp)) ?_; intro w11 hS12; simp only [ca, na] at hS12; refine zY (x_storeW [] hS12 ti50 rfl rfl rfl rfl (one_rule _)) ?_; intro w13 hS14; simp only [ca, na] at hS14; refine zN<|zT<|zS<|zR<|zq 1 rfl<|zN<|zT<|zS<|zI<|zS<|zR<|zq 1 rfl<|zV (r_makeF (vs := [pt b7 0]) rfl)<|zC fn43 rfl (ctA1_ok qs aW cW (gt rs k) b7 _ (hq.st hS14) (fun q hq' => (hqa q hq').st hS14) hqw hql (hgk.st hS14) hge (hS14.heap Z0)) ?_
      rintro _ w15 (⟨hc, rfl, hx16⟩ | ⟨hc, rfl, hx16⟩)
      · have hS17 := hS14.ext hx16
        refine zq 2 rfl<|zN<|zT<|zf rfl<|zS<|zR<|zq 1 rfl<|zV (r_makeF (vs := [pt b2 0, pt b6 0]) rfl)<|zC fn43 rfl (ctA2_ok qs aW cW rs pa pc k b2 b6 _ (hq.st hS17) (fun q hq' => (hqa q hq').st hS17) hqw hql (hrs.st hS17) (fun r hr' => (hall r hr').st hS17) hoks hn Om (at_all (hS17.heap Z3)) (at_all (hS17.heap Z1))) ?_
        rintro _ w18 (⟨hd, rfl, hx19⟩ | ⟨hd, rfl, hx19⟩)
        · have hS20 := hS17.ext hx19
          refine zq 2 rfl<|zN<|zT<|zf rfl<|zS ?_
          rcases bool_cases (gt rs k).dn with hdn | hdn
          · refine zR<|zV (r_field fa50_0 rfl)<|zV (r_loadB1 ti4.und rfl rfl (hS20.heap Z0) (by first | exact rule_dn_t hdn | exact rule_dn_f hdn)) ?_
            refine zq 19 rfl<|zN<|zT<|zf rfl<|zK<|zJ<|zT<|zS<|zR<|zq 1 rfl<|wl_dec_f (r_gtr rfl rfl) rfl (by decide)<|zN<|zT<|zf rfl<|zK<|zJ<|zT<|zR<|zV (r_addn (b := 1) rfl rfl Om)<|zq 1 rfl<|zN<|zT ?_
            have eX : (lintW rs B (k + 1)) = (lintW rs B k) := lint_n (kind_0 (nev_e hb hc) (dea_e hb hd) (all_n fun h => by have h1 := h.1; have h2 := h.2; first | omega | (rw [hdn] at h1; cases h1)))
            have hF := hS20; exact rLint_ok_c0
          refine zR<|zV (r_field fa50_0 rfl)<|zV (r_loadB1 ti4.und rfl rfl (hS20.heap Z0) (by first | exact rule_dn_t hdn | exact rule_dn_f hdn)) ?_; refine zq 2 rfl<|wl_val (r_field fa50_1 rfl) rfl<|wl_val (r_loadB1 ti36.und rfl rfl (hS20.heap Z0) rfl) rfl<|wl_val (r_len (T := 36) rfl ti36.und rfl _ rfl) rfl<|wl_val (r_field fa50_2 rfl) rfl<|wl_val (r_loadB1 ti48.und rfl rfl (hS20.heap Z0) rfl) rfl<|wl_val (r_len (T := 48) rfl ti48.und rfl _ rfl) rfl<|wl_val (r_addn rfl rfl Om) rfl<|wl_val (r_field fa50_3 rfl) rfl<|wl_val (r_loadB1 ti36.und rfl rfl (hS20.heap Z0) rfl) rfl<|wl_val (r_len (T := 36) rfl ti36.und rfl _ rfl) rfl<|wl_val (r_addn rfl rfl Om) rfl<|wl_val (r_field fa50_6 rfl) rfl<|wl_val (r_loadB1 ti3.und rfl rfl (hS20.heap Z0) rfl) rfl<|wl_val (r_addi rfl rfl Om Om) rfl ?_
          refine wl_dec (r_eql rfl rfl) rfl (fun h10_18 => ?_) (fun h10_18 => ?_)
          · refine zq 2 rfl<|zN<|zT<|zt rfl<|zR<|zq 1 rfl<|zN<|zJ<|zT<|zS<|zR<|zq 1 rfl<|wl_dec_t (r_gtr rfl rfl) rfl (by decide)<|zN<|zT<|zt rfl ?_
            have hll := lint_len rs B k
            refine zR<|zq 1 rfl<|zV (r_loadB1 ti3.und rfl rfl (hS20.heap Z1) rfl)<|zq 1 rfl<|zV (r_buildF (vs := [.int .i64 _, .int .i64 _, .int .i64 (-1)]) (out := [.int .i64 _, .int .i64 _, .int .i64 (-1)]) pl62 ti62 rfl rfl (by intro i hi; match i, hi with | 0, _ => rfl | 1, _ => rfl | 2, _ => rfl) rfl) ?_; refine zX (x_litA1 hS20 ti55.und ti62 rfl (wv_3 (k, _)) rfl (by decide) (by decide)) ?_; rintro _ w21 ⟨b54, rfl, hS22⟩; refine zX (x_append [_, _, _] hS22 ti55.und ti62 rfl (by decide) rfl rfl (Row.of_at (at_all (hS22.heap Z0))) (show _ = 1 * 3 from rfl) (one_wv (k, _)) Sd Sd _ rfl) ?_; rintro _ w23 ⟨aq25, cq25, rfl, hcq25, hS24⟩; simp only [ca, na] at hS24; refine zq 1 rfl<|zN<|zJ<|zT<|zR<|zV (r_addn (b := 1) rfl rfl Om)<|zq 1 rfl<|zN<|zT ?_
            have eX : (lintW rs B (k + 1)) = (lintW rs B k) ++ [(k, 3)] := lint_y (kind_3 (nev_e hb hc) (dea_e hb hd) (all_y hdn Om Om Om Om)) (by decide)
            have el : (lintW rs B (k + 1)).length = (lintW rs B k).length + 1 := by rw [eX, List.length_append]; rfl
            have hS26 := St.reRow1 (k := (lintW rs B (k + 1)).length) (zs := (lintW rs B (k + 1)).flatMap wv) hS24.drop1.drop1.drop1 el (by rw [eX, List.flatMap_append]; simp [wv])
            exact ⟨rs.length - (k + 1), _, by omega, rfl, ⟨k + 1, aq25, cq25, rfl, congrArg (fun n => Value.slice aq25 n cq25) el.symm, rfl, hS26, by omega⟩, ⟨rfl, rfl, rfl, rfl, rfl, trivial⟩⟩
          refine zq 2 rfl<|zN<|zT<|zf rfl<|zK<|zJ<|zT<|zS<|zR<|zq 1 rfl<|wl_dec_f (r_gtr rfl rfl) rfl (by decide)<|zN<|zT<|zf rfl<|zK<|zJ<|zT<|zR<|zV (r_addn (b := 1) rfl rfl Om)<|zq 1 rfl<|zN<|zT ?_
          have eX : (lintW rs B (k + 1)) = (lintW rs B k) := lint_n (kind_0 (nev_e hb hc) (dea_e hb hd) (all_n fun h => by have h1 := h.1; have h2 := h.2; first | omega | (rw [hdn] at h1; cases h1)))
          have hF := hS20; exact rLint_ok_c0
        have hS20 := hS17.ext hx19; refine zq 2 rfl<|zN<|zT<|zt rfl<|zR<|zq 1 rfl<|zN<|zJ<|zT<|zS<|zR<|zq 1 rfl<|wl_dec_t (r_gtr rfl rfl) rfl (by decide)<|zN<|zT<|zt rfl ?_
        have hll := lint_len rs B k
        refine zR<|zq 1 rfl<|zV (r_loadB1 ti3.und rfl rfl (hS20.heap Z1) rfl)<|zq 1 rfl<|zV (r_buildF (vs := [.int .i64 _, .int .i64 _, .int .i64 (-1)]) (out := [.int .i64 _, .int .i64 _, .int .i64 (-1)]) pl62 ti62 rfl rfl (by intro i hi; match i, hi with | 0, _ => rfl | 1, _ => rfl | 2, _ => rfl) rfl) ?_; refine zX (x_litA1 hS20 ti55.und ti62 rfl (wv_3 (k, _)) rfl (by decide) (by decide)) ?_; rintro _ w27 ⟨b54, rfl, hS28⟩; refine zX (x_append [_, _, _] hS28 ti55.und ti62 rfl (by decide) rfl rfl (Row.of_at (at_all (hS28.heap Z0))) (show _ = 1 * 3 from rfl) (one_wv (k, _)) Sd Sd _ rfl) ?_; rintro _ w29 ⟨aq31, cq31, rfl, hcq31, hS30⟩; simp only [ca, na] at hS30; refine zq 1 rfl<|zN<|zJ<|zT<|zR<|zV (r_addn (b := 1) rfl rfl Om)<|zq 1 rfl<|zN<|zT ?_
        have eX : (lintW rs B (k + 1)) = (lintW rs B k) ++ [(k, 2)] := lint_y (kind_2 (nev_e hb hc) (dea_t hb hd)) (by decide)
        have el : (lintW rs B (k + 1)).length = (lintW rs B k).length + 1 := by rw [eX, List.length_append]; rfl
        have hS32 := St.reRow1 (k := (lintW rs B (k + 1)).length) (zs := (lintW rs B (k + 1)).flatMap wv) hS30.drop1.drop1.drop1 el (by rw [eX, List.flatMap_append]; simp [wv])
        exact ⟨rs.length - (k + 1), _, by omega, rfl, ⟨k + 1, aq31, cq31, rfl, congrArg (fun n => Value.slice aq31 n cq31) el.symm, rfl, hS32, by omega⟩, ⟨rfl, rfl, rfl, rfl, rfl, trivial⟩⟩
      have hS17 := hS14.ext hx16; refine zq 2 rfl<|zN<|zT<|zt rfl<|zR<|zq 1 rfl<|zN<|zJ<|zT<|zS<|zR<|zq 1 rfl<|wl_dec_t (r_gtr rfl rfl) rfl (by decide)<|zN<|zT<|zt rfl ?_
      have hll := lint_len rs B k
      refine zR<|zq 1 rfl<|zV (r_loadB1 ti3.und rfl rfl (hS17.heap Z1) rfl)<|zq 1 rfl<|zV (r_buildF (vs := [.int .i64 _, .int .i64 _, .int .i64 (-1)]) (out := [.int .i64 _, .int .i64 _, .int .i64 (-1)]) pl62 ti62 rfl rfl (by intro i hi; match i, hi with | 0, _ => rfl | 1, _ => rfl | 2, _ => rfl) rfl) ?_; refine zX (x_litA1 hS17 ti55.und ti62 rfl (wv_3 (k, _)) rfl (by decide) (by decide)) ?_; rintro _ w33 ⟨b54, rfl, hS34⟩; refine zX (x_append [_, _, _] hS34 ti55.und ti62 rfl (by decide) rfl rfl (Row.of_at (at_all (hS34.heap Z0))) (show _ = 1 * 3 from rfl) (one_wv (k, _)) Sd Sd _ rfl) ?_; rintro _ w35 ⟨aq37, cq37, rfl, hcq37, hS36⟩; simp only [ca, na] at hS36; refine zq 1 rfl<|zN<|zJ<|zT<|zR<|zV (r_addn (b := 1) rfl rfl Om)<|zq 1 rfl<|zN<|zT ?_
      have eX : (lintW rs B (k + 1)) = (lintW rs B k) ++ [(k, 1)] := lint_y (kind_1 (nev_t hb hc)) (by decide)
      have el : (lintW rs B (k + 1)).length = (lintW rs B k).length + 1 := by rw [eX, List.length_append]; rfl
      have hS38 := St.reRow1 (k := (lintW rs B (k + 1)).length) (zs := (lintW rs B (k + 1)).flatMap wv) hS36.drop1.drop1.drop1 el (by rw [eX, List.flatMap_append]; simp [wv])
      exact ⟨rs.length - (k + 1), _, by omega, rfl, ⟨k + 1, aq37, cq37, rfl, congrArg (fun n => Value.slice aq37 n cq37) el.symm, rfl, hS38, by omega⟩, ⟨rfl, rfl, rfl, rfl, rfl, trivial⟩⟩
    refine zN<|zT<|zS<|zf rfl<|zO<|zM<|zM<|c_inE<|zT<|zS<|zR<|zq 2 rfl<|zN<|zT<|zU<|ret1 Tryz.results20 ?_
    obtain rfl : k = rs.length := by omega
    exact ⟨a5, c5, rfl, (hS5.perm ((List.Perm.cons _ (List.Perm.refl _)).trans (List.perm_middle (l₁ := [_])).symm)).drop1⟩

end Go.Proofs.YtmonnmndphlkaaaGreat
end
section
namespace Go.Proofs.YtmonnmndphlkaaaGreat
open Go.Kw
set_option linter.unusedVariables false
set_option linter.unusedSimpArgs false
set_option maxRecDepth 100000
theorem eqT_t (xs : List (List UInt8)) (a1 a2 : Option Addr) (n1 n2 c1 c2 : Nat) (w : World) (h1 : Row w a1 (xs.map sv)) (h2 : Row w a2 (xs.map sv)) (l1 : xs.length = n1) (l2 : xs.length = n2) (hn : n1 ≤ 140737488351232) :
    Ret Tryz.prog 33 [.slice a1 n1 c1, .slice a2 n2 c2] w (fun v w' => v = .bool true ∧ St w [] w' []) := by
  refine enter Tryz.func33 rfl Tryz.ntmps33 rfl ?_
  have hS := St.refl w []
  refine zS<|zR<|zq 1 rfl<|zN<|zT<|zS<|zS<|zR<|zq 1 rfl<|zV (r_len (T := 36) rfl ti36.und rfl _ rfl)<|zq 1 rfl<|zV (r_len (T := 36) rfl ti36.und rfl _ rfl)<|wl_dec_f (r_neq rfl rfl) rfl Om<|zN<|zT<|zf rfl<|zK<|zT<|zS<|zS<|zR<|zq 1 rfl<|zV (r_len (T := 36) rfl ti36.und rfl _ rfl)<|zq 1 rfl<|zN ?_; refine zT<|zI ?_
  refine c_loopE [0, 1, 12] (fun d e w' => ∃ (k : Nat), Kw.look e 13 = vi k ∧ d = n1 - k ∧ St w [] w' [] ∧ (k ≤ n1)) (n1 - 0) ?_ ?_
  · exact ⟨0, rfl, rfl, hS, Nat.zero_le _⟩
  · rintro d4 e1 w2 ⟨k, hc0_13, rfl, hS3, hk⟩ -
    refine c_set (d := 13) hc0_13<|zS<|zR ?_
    refine wl_dec (r_lss rfl rfl) rfl (fun h4_0 => ?_) (fun h4_0 => ?_)
    · refine zN<|zT<|zS<|zt rfl<|zK<|zT<|zS<|zI<|zS<|zR<|zq 2 rfl<|zN<|zT<|zS<|c_drawS 8 hMixed hS3 ?_
      intro w5 hS6; refine zG 0 rfl hS6 (fun wF hF => r_move (v := .slice _ _ _) rfl) ?_; refine zG 1 rfl hS6 (fun wF hF => r_move (v := .int .i64 _) rfl) ?_; refine zG 2 rfl hS6 (fun wF hF => r_ixS ti36.und ti9 rfl rfl (h1.st hF) Om (by rw [List.length_map]; omega)) ?_; refine zG 3 rfl hS6 (fun wF hF => r_loadS1 ti9.und rfl rfl (h1.st hF) (by rw [Nat.mul_one]; exact map_gt _ _ _ Sd)) ?_; refine zG 4 rfl hS6 (fun wF hF => r_move (v := .slice _ _ _) rfl) ?_; refine zG 5 rfl hS6 (fun wF hF => r_move (v := .int .i64 _) rfl) ?_; refine zG 6 rfl hS6 (fun wF hF => r_ixS ti36.und ti9 rfl rfl (h2.st hF) Om (by rw [List.length_map]; omega)) ?_; refine zG 7 rfl hS6 (fun wF hF => r_loadS1 ti9.und rfl rfl (h2.st hF) (by rw [Nat.mul_one]; exact map_gt _ _ _ Sd)) ?_; refine zGT rfl ?_; refine wl_dec_f (r_neqStrL rfl rfl) rfl (not_not_intro rfl)<|zN<|zT<|zf rfl<|zK<|zJ<|zT<|zR<|zV (r_addn (b := 1) rfl rfl Om)<|zq 1 rfl<|zN<|zT ?_
      exact ⟨n1 - (k + 1), _, by omega, rfl, ⟨k + 1, rfl, rfl, hS6, by omega⟩, ⟨rfl, rfl, rfl, trivial⟩⟩
    refine zN<|zT<|zS<|zf rfl<|zO<|zM<|zM<|c_inE<|zT<|zS<|zR<|zq 1 rfl<|zN<|zT<|zU<|ret1 Tryz.results33 ?_
    exact ⟨rfl, hS3.fin⟩

theorem eqI_t (xs : List Int) (a1 a2 : Option Addr) (n1 n2 c1 c2 : Nat) (w : World) (h1 : Row w a1 (xs.map iv)) (h2 : Row w a2 (xs.map iv)) (l1 : xs.length = n1) (l2 : xs.length = n2) (hn : n1 ≤ 140737488351232) :
    Ret Tryz.prog 50 [.slice a1 n1 c1, .slice a2 n2 c2] w (fun v w' => v = .bool true ∧ St w [] w' []) := by
  refine enter Tryz.func50 rfl Tryz.ntmps50 rfl ?_
  have hS := St.refl w []
  refine zS<|zR<|zq 1 rfl<|zN<|zT<|zS<|zS<|zR<|zq 1 rfl<|zV (r_len (T := 48) rfl ti48.und rfl _ rfl)<|zq 1 rfl<|zV (r_len (T := 48) rfl ti48.und rfl _ rfl)<|wl_dec_f (r_neq rfl rfl) rfl Om<|zN<|zT<|zf rfl<|zK<|zT<|zS<|zS<|zR<|zq 1 rfl<|zV (r_len (T := 48) rfl ti48.und rfl _ rfl)<|zq 1 rfl<|zN ?_; refine zT<|zI ?_
  refine c_loopE [0, 1, 12] (fun d e w' => ∃ (k : Nat), Kw.look e 13 = vi k ∧ d = n1 - k ∧ St w [] w' [] ∧ (k ≤ n1)) (n1 - 0) ?_ ?_
  · exact ⟨0, rfl, rfl, hS, Nat.zero_le _⟩
  · rintro d4 e1 w2 ⟨k, hc0_13, rfl, hS3, hk⟩ -
    refine c_set (d := 13) hc0_13<|zS<|zR ?_
    refine wl_dec (r_lss rfl rfl) rfl (fun h4_0 => ?_) (fun h4_0 => ?_)
    · refine zN<|zT<|zS<|zt rfl<|zK<|zT<|zS<|zI<|zS<|zR<|zq 2 rfl<|zN<|zT<|zS<|c_drawS 8 hMixed hS3 ?_
      intro w5 hS6; refine zG 0 rfl hS6 (fun wF hF => r_move (v := .slice _ _ _) rfl) ?_; refine zG 1 rfl hS6 (fun wF hF => r_move (v := .int .i64 _) rfl) ?_; refine zG 2 rfl hS6 (fun wF hF => r_ixS ti48.und ti3 rfl rfl (h1.st hF) Om (by rw [List.length_map]; omega)) ?_; refine zG 3 rfl hS6 (fun wF hF => r_loadS1 ti3.und rfl rfl (h1.st hF) (by rw [Nat.mul_one]; exact map_gt _ _ _ Sd)) ?_; refine zG 4 rfl hS6 (fun wF hF => r_move (v := .slice _ _ _) rfl) ?_; refine zG 5 rfl hS6 (fun wF hF => r_move (v := .int .i64 _) rfl) ?_; refine zG 6 rfl hS6 (fun wF hF => r_ixS ti48.und ti3 rfl rfl (h2.st hF) Om (by rw [List.length_map]; omega)) ?_; refine zG 7 rfl hS6 (fun wF hF => r_loadS1 ti3.und rfl rfl (h2.st hF) (by rw [Nat.mul_one]; exact map_gt _ _ _ Sd)) ?_; refine zGT rfl ?_; refine wl_dec_f (r_neq rfl rfl) rfl (not_not_intro rfl)<|zN<|zT<|zf rfl<|zK<|zJ<|zT<|zR<|zV (r_addn (b := 1) rfl rfl Om)<|zq 1 rfl<|zN<|zT ?_
      exact ⟨n1 - (k + 1), _, by omega, rfl, ⟨k + 1, rfl, rfl, hS6, by omega⟩, ⟨rfl, rfl, rfl, trivial⟩⟩
    refine zN<|zT<|zS<|zf rfl<|zO<|zM<|zM<|c_inE<|zT<|zS<|zR<|zq 1 rfl<|zN<|zT<|zU<|ret1 Tryz.results50 ?_
    exact ⟨rfl, hS3.fin⟩

set_option maxHeartbeats 2000000 in
theorem sameRule_t (r s : RuleD) (w : World) (hr : RuleAt w r) (hs : RuleAt w s) (he : nrm r = nrm s) :
    Ret Tryz.prog 49 [.agg r.v.toArray, .agg s.v.toArray] w (fun v w' => v = .bool true ∧ St w [] w' []) := by
  refine enter Tryz.func49 rfl Tryz.ntmps49 rfl ?_
  have hS := St.refl w []
  refine zS<|zR<|zB (v := .agg _) hS rfl rfl fun b2 w1 hS2=>zB (v := .agg _) hS2 rfl rfl fun b3 w3 hS4=>zq 1 rfl<|zN<|zT<|zS<|zR<|zF fa50_0 rfl ti4.und rfl (hS4.heap Z1) rfl rfl rfl<|zF fa50_0 rfl ti4.und rfl (hS4.heap Z0) rfl rfl rfl<|wl_dec_t (r_eqlBool ti4.und rfl rfl) rfl (show (nrm r).dn = (nrm s).dn by rw [he]) ?_; refine zq 1 rfl<|wl_val (r_field fa50_1 rfl) rfl<|wl_val (r_loadB1 ti36.und rfl rfl (hS4.heap Z1) rfl) rfl<|wl_val (r_field fa50_1 rfl) rfl<|wl_val (r_loadB1 ti36.und rfl rfl (hS4.heap Z0) rfl) rfl<|zE fn33 rfl hS4 (eqT_t r.ro _ _ _ _ _ _ _ (hr.h1.st hS4) (by rw [show r.ro = s.ro from (show (nrm r).ro = (nrm s).ro by rw [he])]; exact hs.h1.st hS4) rfl (by rw [show r.ro = s.ro from (show (nrm r).ro = (nrm s).ro by rw [he])]) hr.ok.rn) fun w5 hS7=> ?_; refine zq 2 rfl<|wl_val (r_field fa50_2 rfl) rfl<|wl_val (r_loadB1 ti48.und rfl rfl (hS7.heap Z1) rfl) rfl<|wl_val (r_field fa50_2 rfl) rfl<|wl_val (r_loadB1 ti48.und rfl rfl (hS7.heap Z0) rfl) rfl<|zE fn50 rfl hS7 (eqI_t r.acs _ _ _ _ _ _ _ (hr.h2.st hS7) (by rw [show r.acs = s.acs from (show (nrm r).acs = (nrm s).acs by rw [he])]; exact hs.h2.st hS7) rfl (by rw [show r.acs = s.acs from (show (nrm r).acs = (nrm s).acs by rw [he])]) hr.ok.an) fun w8 hS10=> ?_; refine zq 2 rfl<|wl_val (r_field fa50_3 rfl) rfl<|wl_val (r_loadB1 ti36.und rfl rfl (hS10.heap Z1) rfl) rfl<|wl_val (r_field fa50_3 rfl) rfl<|wl_val (r_loadB1 ti36.und rfl rfl (hS10.heap Z0) rfl) rfl<|zE fn33 rfl hS10 (eqT_t r.las _ _ _ _ _ _ _ (hr.h3.st hS10) (by rw [show r.las = s.las from (show (nrm r).las = (nrm s).las by rw [he])]; exact hs.h3.st hS10) rfl (by rw [show r.las = s.las from (show (nrm r).las = (nrm s).las by rw [he])]) hr.ok.ln) fun w11 hS13=> ?_
  refine zq 2 rfl<|wl_val (r_field fa50_4 rfl) rfl<|wl_val (r_loadB1 ti3.und rfl rfl (hS13.heap Z1) rfl) rfl<|wl_val (r_field fa50_4 rfl) rfl<|wl_val (r_loadB1 ti3.und rfl rfl (hS13.heap Z0) rfl) rfl<|wl_dec_t (r_eql rfl rfl) rfl (show (nrm r).fr = (nrm s).fr by rw [he]) ?_; refine zq 2 rfl<|wl_val (r_field fa50_5 rfl) rfl<|wl_val (r_loadB1 ti3.und rfl rfl (hS13.heap Z1) rfl) rfl<|wl_val (r_field fa50_5 rfl) rfl<|wl_val (r_loadB1 ti3.und rfl rfl (hS13.heap Z0) rfl) rfl<|wl_dec_t (r_eql rfl rfl) rfl (show (nrm r).to = (nrm s).to by rw [he]) ?_; refine zq 2 rfl<|wl_val (r_field fa50_6 rfl) rfl<|wl_val (r_loadB1 ti3.und rfl rfl (hS13.heap Z1) rfl) rfl<|wl_val (r_field fa50_6 rfl) rfl<|wl_val (r_loadB1 ti3.und rfl rfl (hS13.heap Z0) rfl) rfl<|wl_dec_t (r_eql rfl rfl) rfl (show (nrm r).nd = (nrm s).nd by rw [he]) ?_; refine zq 2 rfl<|wl_val (r_field fa50_7 rfl) rfl<|wl_val (r_loadB1 ti9.und rfl rfl (hS13.heap Z1) rfl) rfl<|wl_val (r_field fa50_7 rfl) rfl<|wl_val (r_loadB1 ti9.und rfl rfl (hS13.heap Z0) rfl) rfl<|wl_dec_t (r_eqlStrL rfl rfl) rfl (show (nrm r).ofr = (nrm s).ofr by rw [he]) ?_; refine zq 2 rfl<|zN<|zT<|zU<|ret1 Tryz.results49 ?_
  exact ⟨rfl, hS13.fin⟩

set_option maxHeartbeats 2000000 in
theorem eqRules_t (xs ys : List RuleD) (a1 a2 : Option Addr) (c1 c2 : Nat) (w : World) (h1 : Row w a1 (xs.flatMap RuleD.v)) (h2 : Row w a2 (ys.flatMap RuleD.v)) (hA : ∀ q ∈ xs, RuleAt w q) (hB : ∀ q ∈ ys, RuleAt w q) (hb : xs.map nrm = ys.map nrm) (hn : xs.length ≤ 1000000) :
    Ret Tryz.prog 48 [.slice a1 xs.length c1, .slice a2 ys.length c2, .func (.func 49) #[] #[]] w (fun v w' => v = .bool true ∧ St w [] w' []) := by
  have hl : xs.length = ys.length := by have := congrArg List.length hb; simpa using this
  refine enter Tryz.func48 rfl Tryz.ntmps48 rfl ?_
  have hS := St.refl w []
  refine zS<|zR<|zq 1 rfl<|zN<|zT<|zS<|zS<|zR<|zq 1 rfl<|zV (r_len (T := 22) rfl ti22.und rfl _ rfl)<|zq 1 rfl<|zV (r_len (T := 22) rfl ti22.und rfl _ rfl)<|wl_dec_f (r_neq rfl rfl) rfl Om<|zN<|zT<|zf rfl<|zK<|zT<|zS<|zS<|zR<|zq 1 rfl<|zV (r_len (T := 22) rfl ti22.und rfl _ rfl)<|zq 1 rfl<|zN ?_; refine zT<|zI ?_
  refine c_loopE [1, 2, 15, 16] (fun d e w' => ∃ (k : Nat), Kw.look e 17 = vi k ∧ d = xs.length - k ∧ St w [] w' [] ∧ (k ≤ xs.length)) (xs.length - 0) ?_ ?_
  · exact ⟨0, rfl, rfl, hS.fin, Nat.zero_le _⟩
  · rintro d4 e1 w2 ⟨k, hc0_17, rfl, hS3, hk⟩ -
    refine c_set (d := 17) hc0_17<|zS<|zR ?_
    refine wl_dec (r_lss rfl rfl) rfl (fun h4_0 => ?_) (fun h4_0 => ?_)
    · refine zN<|zT<|zS<|zt rfl<|zK<|zT<|zS<|zI<|zS<|zR<|zq 1 rfl<|zV (r_ixF rule_v8 ti22.und ti50 rfl rfl (h1.st hS3) Ln Sd (by decide)) ?_
      refine zV (r_loadF rule_v8 ti50 ag50 rfl (h1.st hS3) Sd (by decide)) ?_; refine zA (C := [.bool false, .slice none 0 0, .slice none 0 0, .slice none 0 0, .int .i64 0, .int .i64 0, .int .i64 0, .string ⟨#[]⟩]) hS3 ti50 rfl fun bb8 w5 hS6=>zq 1 rfl<|zY (x_storeW [] hS6 ti50 rfl rfl (rule_v8 _) rfl (one_rule _)) ?_; intro w7 hS8; simp only [ca, na] at hS8; refine zN<|zT<|zS<|zR<|zq 2 rfl<|zV (r_ixF rule_v8 ti22.und ti50 rfl rfl (h2.st hS8) Ln Sd (by decide)) ?_; refine zV (r_loadF rule_v8 ti50 ag50 rfl (h2.st hS8) Sd (by decide)) ?_; refine zA (C := [.bool false, .slice none 0 0, .slice none 0 0, .slice none 0 0, .int .i64 0, .int .i64 0, .int .i64 0, .string ⟨#[]⟩]) hS8 ti50 rfl fun b9 w9 hS10=>zY (x_storeW [] hS10 ti50 rfl rfl (rule_v8 _) rfl (one_rule _)) ?_; intro w11 hS12; simp only [ca, na] at hS12; refine zN<|zT<|zS<|zR<|zV (r_move rfl)<|zV (r_loadB ti50 ag50 rfl (hS12.heap Z1) (rule_v8 _))<|zV (r_loadB ti50 ag50 rfl (hS12.heap Z0) (rule_v8 _))<|wl_call (r_callDyn fn49 rfl rfl) rfl (sameRule_t (gt xs k) (gt ys k) _ ((hA _ (gt_mem xs k Om)).st hS12) ((hB _ (gt_mem ys k Om)).st hS12) (map_nrm_gt hb Om)) ?_; rintro _ w13 ⟨rfl, hx14⟩; have hS15 := hS12.ext hx14; refine zq 1 rfl<|zN<|zT<|zf rfl<|zK<|zJ<|zT<|zR<|zV (r_addn (b := 1) rfl rfl Om)<|zq 1 rfl<|zN<|zT ?_
      exact ⟨xs.length - (k + 1), _, by omega, rfl, ⟨k + 1, rfl, rfl, hS15.fin, by omega⟩, ⟨rfl, rfl, rfl, rfl, trivial⟩⟩
    refine zN<|zT<|zS<|zf rfl<|zO<|zM<|zM<|c_inE<|zT<|zS<|zR<|zq 1 rfl<|zN<|zT<|zU<|ret1 Tryz.results48 ?_
    exact ⟨rfl, hS3.fin⟩

theorem samePolicy_t (xs ys : List RuleD) (a1 a2 : Option Addr) (c1 c2 : Nat) (w : World) (h1 : Row w a1 (xs.flatMap RuleD.v)) (h2 : Row w a2 (ys.flatMap RuleD.v)) (hA : ∀ q ∈ xs, RuleAt w q) (hB : ∀ q ∈ ys, RuleAt w q) (hb : xs.map nrm = ys.map nrm) (hn : xs.length ≤ 1000000) :
    Ret Tryz.prog 21 [.agg #[.slice a1 xs.length c1], .agg #[.slice a2 ys.length c2]] w (fun v w' => v = .bool true ∧ St w [] w' []) := by
  refine enter Tryz.func21 rfl Tryz.ntmps21 rfl ?_
  have hS := St.refl w []
  refine zS<|zR<|zB (v := .agg _) hS rfl rfl fun b2 w1 hS2=>zB (v := .agg _) hS2 rfl rfl fun b3 w3 hS4=>zq 1 rfl<|zN<|zT<|zS<|zR<|zF fa24_0 rfl ti22.und rfl (hS4.heap Z1) rfl rfl rfl<|zF fa24_0 rfl ti22.und rfl (hS4.heap Z0) rfl rfl rfl<|zE fn48 rfl hS4 (eqRules_t xs ys _ _ _ _ _ (h1.st hS4) (h2.st hS4) (fun q hq => (hA q hq).st hS4) (fun q hq => (hB q hq).st hS4) hb hn) fun w5 hS7=>zq 1 rfl<|zN<|zT<|zU<|ret1 Tryz.results21 ?_
  exact ⟨rfl, hS7.fin⟩

theorem eqWarn {a b c a2 b2 c2 : Int} : EqIs Tryz.prog 62 (.agg #[.int .i64 a, .int .i64 b, .int .i64 c]) (.agg #[.int .i64 a2, .int .i64 b2, .int .i64 c2]) (a = a2 ∧ b = b2 ∧ c = c2) := by
  have h : EqIs Tryz.prog 62 (.agg #[.int .i64 a, .int .i64 b, .int .i64 c]) (.agg #[.int .i64 a2, .int .i64 b2, .int .i64 c2]) (a = a2 ∧ b = b2 ∧ c = c2 ∧ True) :=
    eqAt_struct Tryz.underlying62 (by kernel_rfl)
      (eqFs_cons _ _ (by decide) (fun w => run_part1 ti3.und rfl rfl) (fun w => run_part1 ti3.und rfl rfl) (eqAt_int ti3.und)
      (eqFs_cons _ _ (by decide) (fun w => run_part1 ti3.und rfl rfl) (fun w => run_part1 ti3.und rfl rfl) (eqAt_int ti3.und)
      (eqFs_cons _ _ (by decide) (fun w => run_part1 ti3.und rfl rfl) (fun w => run_part1 ti3.und rfl rfl) (eqAt_int ti3.und) eqFs_nil)))
  intro d w
  rw [h d w]
  congr 1
  exact decide_eq_decide.2 (by simp)

theorem eqW_t (X : List (Nat × Nat)) (a1 a2 : Option Addr) (n1 n2 c1 c2 : Nat) (w : World) (h1 : Row w a1 (X.flatMap wv)) (h2 : Row w a2 (X.flatMap wv)) (l1 : X.length = n1) (l2 : X.length = n2) (hn : n1 ≤ 1000) :
    Ret Tryz.prog 19 [.slice a1 n1 c1, .slice a2 n2 c2] w (fun v w' => v = .bool true ∧ St w [] w' []) := by
  subst l1; subst l2
  refine enter Tryz.func19 rfl Tryz.ntmps19 rfl ?_
  have hS := St.refl w []
  refine zS<|zR<|zq 1 rfl<|zN<|zT<|zS<|zS<|zR<|zq 1 rfl<|zV (r_len (T := 55) rfl ti55.und rfl _ rfl)<|zq 1 rfl<|zV (r_len (T := 55) rfl ti55.und rfl _ rfl)<|wl_dec_f (r_neq rfl rfl) rfl Om<|zN<|zT<|zf rfl<|zK<|zT<|zS<|zS<|zR<|zq 1 rfl<|zV (r_len (T := 55) rfl ti55.und rfl _ rfl)<|zq 1 rfl<|zN ?_; refine zT<|zI ?_
  refine c_loopE [0, 1, 12] (fun d e w' => ∃ (k : Nat), Kw.look e 13 = vi k ∧ d = X.length - k ∧ St w [] w' [] ∧ (k ≤ X.length)) (X.length - 0) ?_ ?_
  · exact ⟨0, rfl, rfl, hS, Nat.zero_le _⟩
  · rintro d4 e1 w2 ⟨k, hc0_13, rfl, hS3, hk⟩ -
    refine c_set (d := 13) hc0_13<|zS<|zR ?_
    refine wl_dec (r_lss rfl rfl) rfl (fun h4_0 => ?_) (fun h4_0 => ?_)
    · refine zN<|zT<|zS<|zt rfl<|zK<|zT<|zS<|zI<|zS<|zR<|zq 2 rfl<|zN<|zT<|zS<|c_drawS 8 hMixed hS3 ?_
      intro w5 hS6; refine zG 0 rfl hS6 (fun wF hF => r_move (v := .slice _ _ _) rfl) ?_; refine zG 1 rfl hS6 (fun wF hF => r_move (v := .int .i64 _) rfl) ?_; refine zG 2 rfl hS6 (fun wF hF => r_ixF wv_3 ti55.und ti62 rfl rfl (h1.st hF) Ln Sd (by decide)) ?_; refine zG 3 rfl hS6 (fun wF hF => r_loadF wv_3 ti62 ag62 rfl (h1.st hF) Sd (by decide)) ?_; refine zG 4 rfl hS6 (fun wF hF => r_move (v := .slice _ _ _) rfl) ?_; refine zG 5 rfl hS6 (fun wF hF => r_move (v := .int .i64 _) rfl) ?_; refine zG 6 rfl hS6 (fun wF hF => r_ixF wv_3 ti55.und ti62 rfl rfl (h2.st hF) Ln Sd (by decide)) ?_; refine zG 7 rfl hS6 (fun wF hF => r_loadF wv_3 ti62 ag62 rfl (h2.st hF) Sd (by decide)) ?_; refine zGT rfl ?_; refine wl_dec_f (r_neqA (u := undef) eg62 rfl rfl eqWarn) rfl (not_not_intro ⟨rfl, rfl, rfl⟩)<|zN<|zT<|zf rfl<|zK<|zJ<|zT<|zR<|zV (r_addn (b := 1) rfl rfl Om)<|zq 1 rfl<|zN<|zT ?_
      exact ⟨X.length - (k + 1), _, by omega, rfl, ⟨k + 1, rfl, rfl, hS6, by omega⟩, ⟨rfl, rfl, rfl, trivial⟩⟩
    refine zN<|zT<|zS<|zf rfl<|zO<|zM<|zM<|c_inE<|zT<|zS<|zR<|zq 1 rfl<|zN<|zT<|zU<|ret1 Tryz.results19 ?_
    exact ⟨rfl, hS3.fin⟩

theorem few_ok (rs : List RuleD) (pa : Option Addr) (pc : Nat) (w : World) (hrs : Row w pa (rs.flatMap RuleD.v)) :
    Ret Tryz.prog 16 [.agg #[.slice pa rs.length pc]] w (fun v w' => (rs.length ≤ 6 ∧ v = .bool true ∧ St w [] w' []) ∨ (¬ rs.length ≤ 6 ∧ v = .bool false ∧ St w [] w' [])) := by
  refine enter Tryz.func16 rfl Tryz.ntmps16 rfl ?_
  have hS := St.refl w []
  refine zS<|zR<|zB (v := .agg _) hS rfl rfl fun b1 w1 hS2=>zq 1 rfl<|zN<|zT<|zS<|zR<|zF fa24_0 rfl ti22.und rfl (hS2.heap Z0) rfl rfl rfl<|zV (r_len (T := 22) rfl ti22.und rfl _ rfl) ?_
  refine wl_dec (r_leq rfl rfl) rfl (fun h1_3 => ?_) (fun h1_3 => ?_)
  · refine zq 1 rfl<|zN<|zT<|zU<|ret1 Tryz.results16 ?_
    first | exact .inl ⟨by omega, rfl, hS2.fin⟩ | exact .inr ⟨by omega, rfl, hS2.fin⟩
  refine zq 1 rfl<|zN<|zT<|zU<|ret1 Tryz.results16 ?_
  first | exact .inl ⟨by omega, rfl, hS2.fin⟩ | exact .inr ⟨by omega, rfl, hS2.fin⟩

end Go.Proofs.YtmonnmndphlkaaaGreat
end
