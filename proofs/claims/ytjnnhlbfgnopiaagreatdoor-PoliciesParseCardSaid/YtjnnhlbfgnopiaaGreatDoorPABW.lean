/- What the law's proof leans on. No condition. -/
import Derived.Test.YtjnnhlbfgnopiaaGreatDoorPAAH
import Derived.Test.YtjnnhlbfgnopiaaGreatDoorPABU
import Derived.Test.YtjnnhlbfgnopiaaGreatDoorPABV
import Derived.Test.YtjnnhlbfgnopiaaGreatDoorPABD
section
namespace Go.Proofs.YtjnnhlbfgnopiaaGreatDoor
open Go.Kw
set_option linter.unusedVariables false
set_option linter.unusedSimpArgs false
set_option maxRecDepth 100000
theorem hash_ok (l : List UInt8) (w : World) (hl : l.length < 4294967281) (hv : VF w) : Ret Tryz.prog 17 [.string ⟨l.toArray⟩, .string ⟨#[35]⟩] w (fun v w' => ∃ b c, v = .tuple #[.string ⟨(ahead1 35 l).toArray⟩, .string ⟨b⟩, .bool c] ∧ St w [] w' []) :=
  (cut_ok l [35] w hl hv).mono fun v w' ⟨hv, hS⟩ => ⟨_, _, by rw [← cut_one]; exact hv, hS⟩
theorem delW_ok (l ws : Ws) (he : noNil l = ws) (g n : Nat) (w : World) (hb : w.heap[g]? = some (cl (l.map sv) 9)) (hl : l.length = n) (hn : n ≤ 140737488351232) :
    Ret Tryz.prog 18 [.slice (some ⟨g, 0, none⟩) n n, .func (.func 20) #[] #[]] w (fun v w' => ∃ D, v = .slice (some ⟨g, 0, none⟩) ws.length n ∧ St w [g] w' [.blk g (cl (ws.map sv ++ D) 9)]) := by
  subst he; exact delE_ok l g n w hb hl hn

set_option maxHeartbeats 4000000 in
theorem parse_ok (l : List UInt8) (w : World) (hv : VF w) :
    Ret Tryz.prog 6 [.string ⟨(l).toArray⟩] w (fun v w' => (∃ (n : Nat) (e : Int), PolT l [] n e ∧ ¬ e = 0 ∧ v = .tuple #[.agg #[.slice none 0 0], vi n, .int .i64 e] ∧ St w [] w' []) ∨ (∃ (rs : List RuleD) (a : Option Addr) (c : Nat) (LT : List Kw.Item), PolT l (rs.map nrmR) 0 0 ∧ RulesP LT rs ∧ rs.length ≤ c ∧ v = .tuple #[.agg #[.slice a rs.length c], vi 0, vi 0] ∧ St w [] w' (.row (.slice a rs.length c) 51 8 rs.length (rs.flatMap RuleD.v) :: LT))) := by
  refine enter Tryz.func6 rfl Tryz.ntmps6 rfl ?_
  have hS := St.refl w []
  refine zS<|zR<|zA (C := [.slice none 0 0]) hS ti25 rfl fun b2 w1 hS2=>zq 2 rfl<|zN<|zT<|zS<|zS<|zR<|zq 1 rfl<|zV (r_lenStrL (T := 9) rfl ti9.und rfl _ rfl) ?_
  refine wl_dec (r_gtr rfl rfl) rfl (fun h1_2 => ?_) (fun h1_2 => ?_)
  · refine zN<|zT<|zt rfl<|zS<|zR<|zV (r_buildZ pl25 ti25)<|zY (x_storeW [] hS2 ti25 rfl rfl rfl rfl (one_all rfl)) ?_
    intro w3 hS4; simp only [ca, na] at hS4; refine zq 2 rfl<|zN<|zT<|zU<|zL<|ret3 Tryz.results6 ⟨_, rfl, run_loadVar_blk ti25 ag25 (hS4.heap Z0) rfl⟩ rfl rfl ?_
    exact .inl ⟨0, 5, .large Om, by decide, rfl, hS4.fin⟩
  refine zN<|zT<|zf rfl<|zK<|zT<|zS<|zR<|zV (r_buildZ pl25 ti25)<|zA (C := [.slice none 0 0]) hS2 ti25 rfl fun b5 w5 hS6=>zY (x_storeW [] hS6 ti25 rfl rfl rfl rfl (one_all rfl)) ?_; intro w7 hS8; simp only [ca, na] at hS8; refine zN<|zT<|zS<|zS<|zR<|zq 1 rfl<|zC fn16 rfl (split_ok 10 l _ Om (hv.st hS8)) ?_; rintro _ w9 ⟨bS, rfl, hx10⟩
  have hS11 := hS8.call hx10
  simp only [ca, na] at hS11; refine zV (r_len (T := 42) rfl ti42.und rfl _ rfl)<|zq 1 rfl<|zN<|zT<|zI ?_
  refine c_loopE [2, 5, 18, 19] (fun d e w' => ∃ (k : Nat) (aR : Option Addr) (cR : Nat) (rs : List RuleD) (LT : List Kw.Item), Kw.look e 20 = vi k ∧ d = (splitC 10 l).length - k ∧ St w [] w' (.row (.slice aR rs.length cR) 51 8 rs.length (rs.flatMap RuleD.v) :: .blk b5 (cl [.slice aR rs.length cR] 25) :: .blk b2 (cl [.slice none 0 0] 25) :: .blk bS (cl ((splitC 10 l).map sv) 9) :: LT) ∧ (k ≤ (splitC 10 l).length) ∧ (RulesP LT rs) ∧ (rs.map nrmR = linesR ((splitC 10 l).take k)) ∧ (∀ j, j < k → lineBad (gt (splitC 10 l) j) = false) ∧ (rs.length ≤ k) ∧ (rs.length ≤ cR)) ((splitC 10 l).length - 0) ?_ ?_
  · have hS99 := St.nilRow (E := 51) (sz := 8) (hS11.perm ((List.Perm.cons _ ((List.Perm.cons _ (List.Perm.refl _)).trans (List.perm_middle (l₁ := [_])).symm)).trans (List.perm_middle (l₁ := [_])).symm))
    exact ⟨0, none, 0, [], [], rfl, rfl, hS99, Nat.zero_le _, RulesP.nil, rfl, (fun j hj => absurd hj (Nat.not_lt_zero _)), Nat.le_refl _, Nat.le_refl _⟩
  · rintro d15 e12 w13 ⟨k, aR, cR, rs, LT, hc0_20, rfl, hS14, hk, hT, hmap, hno, hrk, hcR⟩ -
    refine c_set (d := 20) hc0_20<|zS<|zR ?_
    refine wl_dec (r_lss rfl rfl) rfl (fun h5_0 => ?_) (fun h5_0 => ?_)
    · refine zN<|zT<|zS<|zt rfl<|zK<|zT<|zS<|zI<|zS ?_
      have hsl := splitC_le 10 l
      have hlk := hsl.2 _ (gt_mem (splitC 10 l) k Om)
      have hlw := lineW_le (gt (splitC 10 l) k)
      refine zR<|zq 1 rfl<|zV (r_ixB ti42.und ti9 rfl rfl Sd) ?_; refine zV (r_loadB1 ti9.und rfl rfl (hS14.heap Z3) (map_gt _ _ _ Sd)) ?_; refine zq 2 rfl<|zN<|zT<|zS<|zR<|zq 1 rfl<|zC fn17 rfl (hash_ok (gt (splitC 10 l) k) _ Om (hv.st hS14)) ?_; rintro _ w16 ⟨x1, x2, rfl, hx17⟩; have hS18 := hS14.ext hx17; refine zq 5 rfl<|zN<|zT<|zS<|zR<|zq 1 rfl<|zE fn19 rfl hS18 (untab_ok _ _ (by have := ahead1_le 35 (gt (splitC 10 l) k); omega) (hv.st hS18)) fun w19 hS21=> ?_; refine zC fn16 rfl (split_ok 32 _ _ (by have := ahead1_le 35 (gt (splitC 10 l) k); rw [untab_len]; omega) (hv.st hS21)) ?_; rintro _ w22 ⟨bW, rfl, hx23⟩
      have hS24 := hS21.call hx23
      simp only [ca, na] at hS24
      have hown := (hS24).heap Z0
      refine zC fn18 rfl (delW_ok (splitC 32 (untab (ahead1 35 (gt (splitC 10 l) k)))) (lineW (gt (splitC 10 l) k)) (words_split _) bW _ _ hown rfl (by have := (splitC_le 32 (untab (ahead1 35 (gt (splitC 10 l) k)))).1; have := ahead1_le 35 (gt (splitC 10 l) k); rw [untab_len] at *; omega)) ?_; rintro _ w25 ⟨DW, rfl, hx26⟩
      have hS27 := St.callM (X := [_]) (L := (_ :: _ :: _ :: _ :: LT)) (hS24) hx26 (fun k hk => ⟨_, List.mem_singleton.2 rfl, by simp only [List.mem_singleton] at hk; subst hk; rfl⟩)
      simp only [ca, na] at hS27; refine zq 1 rfl<|zN<|zT<|zS<|zS<|zR<|zq 1 rfl<|zV (r_len (T := 46) rfl ti46.und rfl _ rfl) ?_
      refine wl_dec (r_eql rfl rfl) rfl (fun h9_2 => ?_) (fun h9_2 => ?_)
      · refine zN<|zT<|zt rfl<|zO<|zM<|c_inE<|zT<|zR<|zV (r_addn (b := 1) rfl rfl Om)<|zq 1 rfl<|zN<|zT ?_
        have hlw := len0 (show (lineW (gt (splitC 10 l) k)).length = 0 by omega)
        exact ⟨(splitC 10 l).length - (k + 1), _, by omega, rfl, ⟨k + 1, aR, cR, rs, LT, rfl, rfl, hS27.drop1, by omega, hT, by rw [linesR_step Om, lineR_empty hlw, List.append_nil]; exact hmap, (fun j hj => (Nat.lt_succ_iff_lt_or_eq.1 hj).elim (hno j) (fun e => e ▸ lineBad_e hlw)), by omega, hcR⟩, ⟨rfl, rfl, rfl, rfl, trivial⟩⟩
      refine zN<|zT<|zf rfl<|zK<|zT<|zS ?_
      have hwc : (lineW (gt (splitC 10 l) k)).length ≤ (splitC 32 (untab (ahead1 35 (gt (splitC 10 l) k)))).length := by rw [show lineW (gt (splitC 10 l) k) = noNil (splitC 32 (untab (ahead1 35 (gt (splitC 10 l) k)))) from (words_split _).symm]; exact noNil_len _
      refine zR<|zq 1 rfl<|zC fn21 rfl (readRule_ok (lineW (gt (splitC 10 l) k)) _ _ _ (Row.aheadW (hS27.heap Z0)) hwc Om (fun x hx => Nat.le_trans (hlw.2 x (List.mem_of_mem_tail hx)) Om) (hv.st hS27)) ?_
      rintro _ w28 (⟨hrt, ⟨r0, rfl⟩, hx29⟩ | ⟨r, hrt, hrok, hr1, hr2, rfl, hx29⟩)
      · have hS30 := hS27.ext hx29
        refine zq 3 rfl<|zA (C := [.bool false, .slice none 0 0, .slice none 0 0, .slice none 0 0, .int .i64 0, .int .i64 0, .int .i64 0, .string ⟨#[]⟩]) hS30 ti51 rfl fun b9 w31 hS32=>zY (x_storeW [] hS32 ti51 rfl rfl (rule_v8 _) (by rfl) (one_rule _)) ?_; intro w33 hS34; simp only [ca, na] at hS34; refine zq 1 rfl<|zN<|zT<|zS<|zS<|zR<|zq 2 rfl<|zN<|zT<|zt rfl<|zS<|zR<|zV (r_buildZ pl25 ti25)<|zq 1 rfl<|zY (x_storeW [_, _, _, _] hS34 ti25 rfl rfl rfl rfl (one_all rfl)) ?_; intro w35 hS36; simp only [ca, na] at hS36; refine zq 2 rfl<|zN<|zT<|zU<|zL<|zH<|zL<|zL<|zH<|zL<|ret3 Tryz.results6 ⟨_, rfl, run_loadVar_blk ti25 ag25 (hS36.heap Z4) rfl⟩ rfl rfl ?_
        exact .inl ⟨k, 11, .wrong Om Om (lineBad_n (fun e => by have := congrArg List.length e; rw [List.length_nil] at this; omega) hrt) hno, by decide, rfl, hS36.fin⟩
      have hS30 := hS27.call hx29
      simp only [ca, na] at hS30; refine zq 3 rfl<|zA (C := [.bool false, .slice none 0 0, .slice none 0 0, .slice none 0 0, .int .i64 0, .int .i64 0, .int .i64 0, .string ⟨#[]⟩]) hS30 ti51 rfl fun b9 w37 hS38=>zY (x_storeW [] hS38 ti51 rfl rfl (rule_v8 _) (by rfl) (one_rule _)) ?_; intro w39 hS40; simp only [ca, na] at hS40; refine zq 1 rfl<|zN<|zT<|zS<|zS<|zR<|zq 2 rfl<|zN<|zT<|zf rfl<|zK<|zT<|zR<|zF fa25_0 rfl ti23.und rfl (hS40.heap Z4) rfl rfl rfl<|zV (r_loadB ti51 ag51 rfl (hS40.heap Z0) (rule_v8 _))<|zX (x_litA1 hS40 ti23.und ti51 rfl (rule_v8 _) rfl (by decide) (by decide)) ?_; rintro _ w41 ⟨b50, rfl, hS42⟩; refine zX (x_append [_, _, _, _] hS42 ti23.und ti51 rfl (by decide) rfl rfl (Row.of_at (at_all (hS42.heap Z0))) (rule_v8 _) (one_rule _) Sd Sd _ rfl) ?_; rintro _ w43 ⟨aq45, cq45, rfl, hcq45, hS44⟩; simp only [ca, na] at hS44; refine zV (r_field fa25_0 rfl)<|zY (x_store1 [_, _, _, _, _] hS44 ti23 rfl rfl rfl (by simp)) ?_; intro w46 hS47; simp only [ca, na] at hS47; refine zN<|zJ<|zT<|zR<|zV (r_addn (b := 1) rfl rfl Om)<|zq 1 rfl<|zN<|zT ?_
      have el : (rs ++ [r]).length = rs.length + 1 := by rw [List.length_append]; rfl
      have hS48 := St.reRow1 (k := (rs ++ [r]).length) (zs := (rs ++ [r]).flatMap RuleD.v) (hS47.perm (List.Perm.cons _ (List.Perm.cons _ ((List.Perm.cons _ ((List.Perm.cons _ ((List.Perm.cons _ ((List.Perm.cons _ (List.Perm.refl _)).trans (List.perm_middle (l₁ := [_, _])).symm)).trans (List.perm_middle (l₁ := [_, _])).symm)).trans (List.perm_middle (l₁ := [_, _])).symm)).trans (List.perm_middle (l₁ := [_, _])).symm)))).drop1.drop1 el (by rw [List.flatMap_append]; simp)
      rw [← el] at hS48
      exact ⟨(splitC 10 l).length - (k + 1), _, by omega, rfl, ⟨k + 1, _, _, _, _, rfl, rfl, hS48, by omega, hT.add hrok hr1 hr2 hold_blk, by rw [linesR_step Om, lineR_some hrt, List.map_append, hmap]; rfl, (fun j hj => (Nat.lt_succ_iff_lt_or_eq.1 hj).elim (hno j) (fun e => e ▸ lineBad_s hrt)), by omega, by omega⟩, ⟨rfl, rfl, rfl, rfl, trivial⟩⟩
    refine zN<|zT<|zS<|zf rfl<|zO<|zM<|zM<|c_inE<|zT<|zS<|zS ?_
    have hsl := splitC_le 10 l
    obtain rfl : k = (splitC 10 l).length := by omega
    rw [List.take_length] at hmap
    refine zR<|zV (r_loadB ti25 ag25 rfl (hS14.heap Z1) Ln) ?_; refine zE fn13 rfl hS14 (check_ok rs aR rs.length cR _ (St.rowAt hS14 Z0) rfl Om (hT _ (hS14.hold fun x hx => by simp [hx]))) fun w49 hS51=> ?_; refine zq 1 rfl<|zN<|zT<|zS<|zR<|zq 1 rfl ?_
    refine wl_dec (r_neq rfl rfl) rfl (fun h16_1 => ?_) (fun h16_1 => ?_)
    · refine zN<|zT<|zt rfl<|zS ?_
      have hpe := h16_1
      refine zR<|zV (r_buildZ pl25 ti25)<|zq 1 rfl<|zY (x_storeW [_, _] hS51 ti25 rfl rfl rfl rfl (one_all rfl)) ?_; intro w52 hS53; simp only [ca, na] at hS53; refine zq 2 rfl<|zN<|zT<|zU<|zL<|ret3 Tryz.results6 ⟨_, rfl, run_loadVar_blk ti25 ag25 (hS53.heap Z2) rfl⟩ rfl rfl ?_
      exact .inl ⟨0, polE rs, by rw [← polE_nrmR, hmap]; exact .bad Om hno (by rw [← hmap, polE_nrmR]; exact hpe), hpe, rfl, hS53.fin⟩
    refine zN<|zT<|zf rfl<|zK<|zT<|zS ?_
    have hpe := Classical.not_not.1 h16_1
    refine zR<|zV (r_loadB ti25 ag25 rfl (hS51.heap Z1) Ln) ?_; refine zY (x_storeW [_, _] hS51 ti25 rfl rfl rfl rfl (one_all rfl)) ?_; intro w54 hS55; simp only [ca, na] at hS55; refine zq 2 rfl<|zN<|zT<|zU<|ret3 Tryz.results6 ⟨_, rfl, run_loadVar_blk ti25 ag25 (hS55.heap Z2) rfl⟩ rfl rfl ?_
    exact .inr ⟨rs, aR, cR, LT, by rw [hmap]; exact .good Om hno (by rw [← hmap, polE_nrmR]; exact hpe), hT, hcR, rfl, (hS55.perm ((List.Perm.cons _ ((List.Perm.cons _ ((List.Perm.cons _ (List.Perm.refl _)).trans (List.perm_middle (l₁ := [_])).symm)).trans (List.perm_middle (l₁ := [_])).symm)).trans (List.perm_middle (l₁ := [_])).symm)).drop1.drop1.drop1⟩

end Go.Proofs.YtjnnhlbfgnopiaaGreatDoor
end
section
namespace Go.Proofs.YtjnnhlbfgnopiaaGreatDoor
open Go.Kw
set_option linter.unusedVariables false
set_option linter.unusedSimpArgs false
set_option maxRecDepth 100000
theorem isSep_ok_c0 {p : Prop} (h : p := by first | exact ⟨congrArg Value.bool (show true = sepR r by unfold sepR; simp; omega), hF.fin⟩ | exact ⟨congrArg Value.bool (show false = sepR r by unfold sepR; simp; omega), hF.fin⟩) : p := h
theorem isSep_ok (r : Nat) (w : World) :
    Ret Tryz.prog 23 [.int .i32 (r : Int)] w (fun v w' => v = .bool (sepR r) ∧ St w [] w' []) := by
  refine enter Tryz.func23 rfl Tryz.ntmps23 rfl ?_
  have hS := St.refl w []
  refine zS<|zR<|zq 1 rfl<|zN<|zT<|zS<|zR<|zq 1 rfl ?_
  refine wl_dec (r_eql rfl rfl) rfl (fun h1_1 => ?_) (fun h1_1 => ?_)
  · refine zq 5 rfl<|zN<|zT<|zU<|ret1 Tryz.results23 ?_
    have hF := hS; exact isSep_ok_c0
  refine zq 2 rfl ?_
  refine wl_dec (r_eql rfl rfl) rfl (fun h1_4 => ?_) (fun h1_4 => ?_)
  · refine zq 2 rfl<|zN<|zT<|zU<|ret1 Tryz.results23 ?_
    have hF := hS; exact isSep_ok_c0
  refine zq 2 rfl<|zN<|zT<|zU<|ret1 Tryz.results23 ?_
  have hF := hS; exact isSep_ok_c0

theorem fieldsF_ok (l : List UInt8) (w : World) (hl : l.length ≤ 65536) : Ret Tryz.prog 22 [.string ⟨l.toArray⟩, .func (.func 23) #[] #[]] w (fun v w' => ∃ A : Nat, v = .slice (some ⟨A, 0, none⟩) (wordsB l).length (wordsB l).length ∧ St w [] w' [.row (.slice (some ⟨A, 0, none⟩) (wordsB l).length (wordsB l).length) 9 1 (wordsB l).length ((wordsB l).map sv)]) := by
  have hp : PredGrows Tryz.prog 23 #[] sepR w := fun W x hx hb => by
    have h : Calls Tryz.prog 23 [Value.int .i32 (x : Int)].toArray W (fun e w' => e = .returned (.bool (sepR x)) ∧ Go.RowKit.Below W.heap.size W w') := Calls.mono (isSep_ok x W) fun e w' ⟨v, he, hv, hS⟩ => ⟨by rw [he, hv], hS.below⟩
    exact h
  refine Calls.mono (Any.strings_FieldsFunc_grows Tryz.laysFieldsF 23 #[] (enters_of Tryz.func23 (by kernel_rfl) rfl) sepR ⟨l.toArray⟩ w (show l.length ≤ _ by omega) hp (by kernel_rfl) (by kernel_rfl)) ?_
  rintro e w' ⟨A, rfl, hA, hown, hb⟩
  refine ⟨_, rfl, A, by rw [wordsB_len], ?_⟩
  rw [fieldsP_words, wordsB_len] at hown
  exact st_own hown hb

theorem partWord_ok_c0 {p : Prop} (h : p := by first | exact ⟨congrArg Value.bool (decide_eq_true (parts_mem.1 hin)).symm, hF.fin⟩ | exact ⟨congrArg Value.bool (decide_eq_false (fun h => hin (parts_mem.2 h))).symm, hF.fin⟩) : p := h
theorem partWord_ok (x : List UInt8) (w : World) :
    Ret Tryz.prog 46 [.string ⟨(x).toArray⟩] w (fun v w' => v = .bool (isPart x) ∧ St w [] w' []) := by
  refine enter Tryz.func46 rfl Tryz.ntmps46 rfl ?_
  have hS := St.refl w []
  refine zS<|zR<|zq 1 rfl<|zN<|zT<|zS<|zR<|zX (x_lit (vs := ([kROLE, kACT, kON, kAT, kNEED].map sv)) hS ti42.und ti9 rfl rfl rfl (one_map _ fun _ => rfl) (by decide)) ?_; rintro _ w1 ⟨b3, rfl, hS2⟩; refine zq 1 rfl<|zC fn87 rfl (containsS_ok [kROLE, kACT, kON, kAT, kNEED] _ 5 5 x _ (Row.of_at (at_all (hS2.heap Z0))) rfl (by decide)) ?_
  rintro _ w3 (⟨hin, rfl, hx4⟩ | ⟨hin, rfl, hx4⟩)
  · have hS5 := hS2.ext hx4
    refine zq 1 rfl<|zN<|zT<|zU<|ret1 Tryz.results46 ?_
    have hF := hS5; exact partWord_ok_c0
  have hS5 := hS2.ext hx4; refine zq 1 rfl<|zN<|zT<|zU<|ret1 Tryz.results46 ?_
  have hF := hS5; exact partWord_ok_c0

theorem ractWords_ok (w : World) :
    Ret Tryz.prog 48 [] w (fun v w' => ∃ b, v = .slice (some ⟨b, 0, none⟩) 13 13 ∧ St w [] w' [.blk b (cl (([] :: actW).map sv) 9)]) := by
  refine enter Tryz.func48 rfl Tryz.ntmps48 rfl ?_
  have hS := St.refl w []
  refine zS<|zR<|zq 1 rfl<|zN<|zT<|zS<|zR<|zX (x_lit (vs := (([] :: actW).map sv)) hS ti42.und ti9 rfl rfl rfl (one_map _ fun _ => rfl) (by decide)) ?_; rintro _ w1 ⟨b1, rfl, hS2⟩; refine zq 1 rfl<|zN<|zT<|zU<|ret1 Tryz.results48 ?_
  exact ⟨b1, rfl, hS2⟩

theorem small_ok_c0 {p : Prop} (h : p := by first | exact absurd (e4.symm.trans hat) (by decide) | omega | exact h2_16 (by rw [e0]; exact e3)) : p := h
theorem small_ok (s : List UInt8) (w : World) (hl : s.length ≤ 1048576) (hv : VF w) :
    Ret Tryz.prog 49 [.string ⟨(s).toArray⟩] w (fun v w' => (numOk s = true ∧ v = .tuple #[vi (numV s), .bool true] ∧ St w [] w' []) ∨ (numOk s = false ∧ (∃ n : Int, v = .tuple #[.int .i64 n, .bool false]) ∧ St w [] w' [])) := by
  refine enter Tryz.func49 rfl Tryz.ntmps49 rfl ?_
  have hS := St.refl w []
  refine zS<|zR<|zq 2 rfl<|zN<|zT<|zS<|zR<|zq 1 rfl<|zC fn88 rfl (atoi_ok s _ hl (hv.st hS)) ?_
  rintro _ w1 (⟨hat, rfl, hx2⟩ | ⟨hat, te, pe, rfl, hx2⟩)
  · have hS3 := hS.ext hx2
    refine zq 2 rfl<|zV (r_extract rfl rfl)<|zq 1 rfl<|zV (r_assign rfl)<|zN<|zT<|zS<|zR<|zq 1 rfl<|zV (r_move rfl)<|zV (r_eqlNil ti94.und rfl rfl)<|zq 2 rfl ?_
    refine wl_dec (r_geq rfl rfl) rfl (fun h2_5 => ?_) (fun h2_5 => ?_)
    · refine zq 3 rfl<|wl_val (r_lenStrL (T := 9) rfl ti9.und rfl _ rfl) rfl ?_
      refine wl_dec (r_leq rfl rfl) rfl (fun h2_10 => ?_) (fun h2_10 => ?_)
      · refine zq 3 rfl<|zE fn64 rfl hS3 (itoa_ok _ _ (atoiE_in s).1 (atoiE_in s).2 (hv.st hS3)) fun w4 hS6=>zq 1 rfl ?_
        refine wl_dec (r_eqlStrL rfl rfl) rfl (fun h2_16 => ?_) (fun h2_16 => ?_)
        · refine zq 3 rfl<|zN<|zT<|zU<|ret2 Tryz.results49 rfl rfl ?_
          have hs := small_iff (s := s) (n := (atoiE s).1) (Prod.ext rfl hat) h2_5 Om h2_16
          exact .inl ⟨hs.1, congrArg (fun z => Value.tuple #[.int .i64 z, .bool true]) hs.2.symm, hS6.fin⟩
        refine zq 3 rfl<|zN<|zT<|zU<|ret2 Tryz.results49 rfl rfl ?_
        have hfb : numOk s = false := by
          cases hnum : numOk s with
          | false => rfl
          | true =>
            exfalso
            obtain ⟨e1, e2, e3⟩ := small_of hnum
            have e0 : (atoiE s).1 = ((numV s : Nat) : Int) := by rw [e1]
            have e4 : (atoiE s).2 = true := by rw [e1]
            exact small_ok_c0
        exact .inr ⟨hfb, ⟨_, rfl⟩, hS6.fin⟩
      refine zq 9 rfl<|zN<|zT<|zU<|ret2 Tryz.results49 rfl rfl ?_
      have hfb : numOk s = false := by
        cases hnum : numOk s with
        | false => rfl
        | true =>
          exfalso
          obtain ⟨e1, e2, e3⟩ := small_of hnum
          have e0 : (atoiE s).1 = ((numV s : Nat) : Int) := by rw [e1]
          have e4 : (atoiE s).2 = true := by rw [e1]
          exact small_ok_c0
      exact .inr ⟨hfb, ⟨_, rfl⟩, hS3.fin⟩
    refine zq 14 rfl<|zN<|zT<|zU<|ret2 Tryz.results49 rfl rfl ?_
    have hfb : numOk s = false := by
      cases hnum : numOk s with
      | false => rfl
      | true =>
        exfalso
        obtain ⟨e1, e2, e3⟩ := small_of hnum
        have e0 : (atoiE s).1 = ((numV s : Nat) : Int) := by rw [e1]
        have e4 : (atoiE s).2 = true := by rw [e1]
        exact small_ok_c0
    exact .inr ⟨hfb, ⟨_, rfl⟩, hS3.fin⟩
  have hS3 := hS.ext hx2; refine zq 2 rfl<|zV (r_extract rfl rfl)<|zq 1 rfl<|zV (r_assign rfl)<|zN<|zT<|zS<|zR<|zq 1 rfl<|zV (r_move rfl)<|zV (r_eqlErr ti94.und rfl rfl)<|zq 17 rfl<|zN<|zT<|zU<|ret2 Tryz.results49 rfl rfl ?_
  have hfb : numOk s = false := by
    cases hnum : numOk s with
    | false => rfl
    | true =>
      exfalso
      obtain ⟨e1, e2, e3⟩ := small_of hnum
      have e0 : (atoiE s).1 = ((numV s : Nat) : Int) := by rw [e1]
      have e4 : (atoiE s).2 = true := by rw [e1]
      exact small_ok_c0
  exact .inr ⟨hfb, ⟨_, rfl⟩, hS3.fin⟩

theorem secOk_dec {k : List UInt8} {ws : Ws} (hh : headIs k ws = true) : decide ((0 : Int) < (((tkP ws.tail).length : Nat) : Int)) = secOk k ws := by
  by_cases h : 0 < (tkP ws.tail).length
  · rw [secOk_y hh h]; exact decide_eq_true (by omega)
  · rw [secOk_n hh h]; exact decide_eq_false (by omega)

theorem rlist_ok_c0 {p : Prop} (h : p := by exact ⟨_, c - 1, _, c - 1 - (tkP ws.tail).length, congrArg (fun b => Value.tuple #[.slice (Kw.sub a c 1 1) (tkP ws.tail).length (c - 1), .bool b]) (secOk_dec hh), (hsub.tl hc).tk, by have := tkP_len ws.tail; omega, (hsub.tl hc).dr hcl, by rw [drP_eq, List.length_drop]; omega, by rw [drP_eq, List.length_drop]; exact hF⟩) : p := h
set_option maxHeartbeats 1000000 in
theorem rlist_ok (w0 : World) (LT : List Kw.Item) (r : Nat) (k : List UInt8) (a0 : Option Addr) (ws0 ws : Ws) (a : Option Addr) (c : Nat) (w : World) (hS0 : St w0 [] w (.blk r (cl [.slice a (ws).length c] 42) :: LT)) (hb : Row w0 a0 (ws0.map sv)) (hsub : Sub a0 ws0 a ws) (hc : ws.length ≤ c) (hn : ws.length ≤ 140737488351232) :
    Ret Tryz.prog 45 [.string ⟨(k).toArray⟩, pt r 0] w (fun v w' => ∃ al cz a' c', v = .tuple #[.slice al (secA k ws).length cz, .bool (secOk k ws)] ∧ Sub a0 ws0 al (secA k ws) ∧ (secA k ws).length ≤ cz ∧ Sub a0 ws0 a' (secR k ws) ∧ (secR k ws).length ≤ c' ∧ St w0 [] w' (.blk r (cl [.slice a' (secR k ws).length c'] 42) :: LT)) := by
  have hW : Row w0 a (ws.map sv) := hsub _ hb
  have hW2 : Row w0 (Kw.sub a c 1 1) (ws.tail.map sv) := hsub.tl hc _ hb
  refine enter Tryz.func45 rfl Tryz.ntmps45 rfl ?_
  have hS := hS0
  refine zS<|zR<|zq 2 rfl<|zN<|zT<|zS<|zS<|zR<|zV (r_loadB1 ti42.und rfl rfl (hS.heap Z0) rfl)<|zV (r_len (T := 42) rfl ti42.und rfl _ rfl) ?_
  refine wl_dec (r_eql rfl rfl) rfl (fun h1_2 => ?_) (fun h1_2 => ?_)
  · refine zq 7 rfl<|zN<|zT<|zt rfl<|zS<|zR<|zq 2 rfl<|zN<|zT<|zU<|zL<|ret2 Tryz.results45 rfl rfl ?_
    have hh : headIs k ws = false := by first | exact headIs_e Om | exact headIs_n h1_8 Om
    rw [secA_f hh, secOk_f hh, secR_f hh]
    exact ⟨none, 0, a, c, rfl, Sub.nil, Nat.le_refl _, hsub, hc, hS⟩
  refine zq 1 rfl<|wl_val (r_loadB1 ti42.und rfl rfl (hS.heap Z0) rfl) rfl<|wl_val (r_ixS (m := 0) ti42.und ti9 rfl rfl (hW.st hS) Sd Ln) rfl ?_; refine wl_val (r_loadS1 ti9.und rfl rfl (hW.st hS) (by rw [Nat.mul_one]; exact map_gt _ _ _ Sd)) rfl ?_; refine zq 1 rfl ?_
  refine wl_dec (r_neqStrL rfl rfl) rfl (fun h1_8 => ?_) (fun h1_8 => ?_)
  · refine zq 1 rfl<|zN<|zT<|zt rfl<|zS<|zR<|zq 2 rfl<|zN<|zT<|zU<|zL<|ret2 Tryz.results45 rfl rfl ?_
    have hh : headIs k ws = false := by first | exact headIs_e Om | exact headIs_n h1_8 Om
    rw [secA_f hh, secOk_f hh, secR_f hh]
    exact ⟨none, 0, a, c, rfl, Sub.nil, Nat.le_refl _, hsub, hc, hS⟩
  refine zq 1 rfl<|zN<|zT<|zf rfl<|zK<|zT<|zS<|zR<|zV (r_loadB1 ti42.und rfl rfl (hS.heap Z0) rfl)<|zV (r_sl_l (l := 1) ti42.und ti9 rfl rfl Om)<|zY (x_store1 [] hS ti42 rfl rfl rfl (by simp)) ?_; intro w1 hS2; simp only [ca, na] at hS2; refine zN<|zT<|zS ?_
  have hh := headIs_t (k := k) (ws := ws) Om (Classical.not_not.1 h1_8)
  rw [show ws.length - 1 = ws.tail.length from List.length_tail.symm] at hS2
  have hcl : ws.tail.length ≤ c - 1 := by rw [List.length_tail]; omega
  have htl : ws.tail.length + 1 = ws.length := by rw [List.length_tail]; omega
  refine zR<|zq 1 rfl<|zN<|zT<|zS<|zI ?_
  refine c_loopE [1, 3, 4] (fun d e w' => ∃ (n : Nat), Kw.look e 5 = vi n ∧ d = ws.tail.length - n ∧ St w0 [] w' (.blk r (cl [.slice (Kw.sub a c 1 1) (ws.tail).length (c - 1)] 42) :: LT) ∧ (n ≤ ws.tail.length) ∧ (∀ j, j < n → isPart (gt ws.tail j) = false) ∧ (ws.tail.length + 1 = ws.length)) (ws.tail.length - 0) ?_ ?_
  · exact ⟨0, rfl, rfl, hS2, Nat.zero_le _, (fun j hj => absurd hj (Nat.not_lt_zero _)), htl⟩
  · rintro d6 e3 w4 ⟨n, hc0_5, rfl, hS5, hnl, hno, htl⟩ -
    refine c_set (d := 5) hc0_5<|zS<|zS<|zR<|zq 1 rfl<|zV (r_loadB1 ti42.und rfl rfl (hS5.heap Z0) rfl)<|zV (r_len (T := 42) rfl ti42.und rfl _ rfl) ?_
    refine wl_dec (r_lss rfl rfl) rfl (fun h5_3 => ?_) (fun h5_3 => ?_)
    · refine zq 1 rfl<|wl_val (r_loadB1 ti42.und rfl rfl (hS5.heap Z0) rfl) rfl<|zq 1 rfl<|wl_val (r_ixS ti42.und ti9 rfl rfl (hW2.st hS5) Sd Ln) rfl ?_
      refine wl_val (r_loadS1 ti9.und rfl rfl (hW2.st hS5) (by rw [Nat.mul_one]; exact map_gt _ _ _ Sd)) rfl ?_; refine zC fn46 rfl ((partWord_ok _ _).br) ?_
      rintro _ w7 (⟨hbp, rfl, hx8⟩ | ⟨hbp, rfl, hx8⟩)
      · have hS9 := hS5.ext hx8
        refine zq 2 rfl<|zN<|zT<|zf rfl<|zO<|zM<|zM<|c_inE<|zT<|zS<|zR<|zV (r_loadB1 ti42.und rfl rfl (hS9.heap Z0) rfl)<|zq 1 rfl<|zV (r_sl_h ti42.und ti9 rfl rfl Om)<|zq 1 rfl<|zN<|zT<|zS<|zR<|zV (r_loadB1 ti42.und rfl rfl (hS9.heap Z0) rfl)<|zq 1 rfl<|zV (r_sl_l ti42.und ti9 rfl rfl Om)<|zY (x_store1 [] hS9 ti42 rfl rfl rfl (by simp)) ?_; intro w10 hS11; simp only [ca, na] at hS11; refine zN<|zT<|zS<|zR<|zq 2 rfl<|zV (r_gtr rfl rfl)<|zq 2 rfl<|zN<|zT<|zU<|ret2 Tryz.results45 rfl rfl ?_
        have ht : (tkP ws.tail).length = n := tkP_at hno hnl (by first | exact .inl Om | exact .inr hbp)
        subst ht
        have hh := hh
        rw [secA_t hh, secR_t hh]
        have hF := hS11; exact rlist_ok_c0
      have hS9 := hS5.ext hx8; refine zq 2 rfl<|zN<|zT<|zt rfl<|zK<|zT<|zI<|zR<|zq 1 rfl<|zV (r_addn (b := 1) rfl rfl Om)<|zq 1 rfl<|zN<|zJ<|zT ?_
      exact ⟨ws.tail.length - (n + 1), _, by omega, rfl, ⟨n + 1, rfl, rfl, hS9, by omega, (fun j hj => (Nat.lt_succ_iff_lt_or_eq.1 hj).elim (hno j) (fun e => e ▸ hbp)), htl⟩, ⟨rfl, rfl, rfl, trivial⟩⟩
    refine zq 8 rfl<|zN<|zT<|zf rfl<|zO<|zM<|zM<|c_inE<|zT<|zS<|zR<|zV (r_loadB1 ti42.und rfl rfl (hS5.heap Z0) rfl)<|zq 1 rfl<|zV (r_sl_h ti42.und ti9 rfl rfl Om)<|zq 1 rfl<|zN<|zT<|zS<|zR<|zV (r_loadB1 ti42.und rfl rfl (hS5.heap Z0) rfl)<|zq 1 rfl<|zV (r_sl_l ti42.und ti9 rfl rfl Om)<|zY (x_store1 [] hS5 ti42 rfl rfl rfl (by simp)) ?_; intro w12 hS13; simp only [ca, na] at hS13; refine zN<|zT<|zS<|zR<|zq 2 rfl<|zV (r_gtr rfl rfl)<|zq 2 rfl<|zN<|zT<|zU<|ret2 Tryz.results45 rfl rfl ?_
    have ht : (tkP ws.tail).length = n := tkP_at hno hnl (by first | exact .inl Om | exact .inr hbp)
    subst ht
    have hh := hh
    rw [secA_t hh, secR_t hh]
    have hF := hS13; exact rlist_ok_c0

end Go.Proofs.YtjnnhlbfgnopiaaGreatDoor
end
section
namespace Go.Proofs.YtjnnhlbfgnopiaaGreatDoor
open Go.Kw
set_option linter.unusedVariables false
set_option linter.unusedSimpArgs false
set_option maxRecDepth 100000
theorem i5 {i : Nat} (h : i < 5) : i = 0 ∨ i = 1 ∨ i = 2 ∨ i = 3 ∨ i = 4 := by omega
theorem begin_x {ws : Ws} (h1 : ¬ gt ws 0 = kALLOW) (h2 : ¬ gt ws 0 = kDENY) (h0 : 0 < ws.length) : beginOk ws = false := begin_n (headIs_n h2 h0) (headIs_n h1 h0)
theorem begin_y {ws : Ws} (h : gt ws 0 = kALLOW ∨ gt ws 0 = kDENY) (h0 : 0 < ws.length) : beginOk ws = true := by
  rcases h with h | h
  · exact begin_a (headIs_t h0 h)
  · exact begin_d (headIs_t h0 h)
theorem head_dec {ws : Ws} {k : List UInt8} (h0 : 0 < ws.length) : decide (gt ws 0 = k) = headIs k ws := by
  by_cases h : gt ws 0 = k
  · rw [headIs_t h0 h]; exact decide_eq_true h
  · rw [headIs_n h h0]; exact decide_eq_false h
theorem cut_le (s sep : List UInt8) : (Lib.cut s sep).1.length ≤ s.length ∧ (Lib.cut s sep).2.1.length ≤ s.length := by
  unfold Lib.cut
  split
  · exact ⟨by rw [List.length_take]; exact Nat.min_le_right _ _, by rw [List.length_drop]; exact Nat.sub_le _ _⟩
  · exact ⟨Nat.le_refl _, Nat.zero_le _⟩
theorem at_bad {t : Ws} (h0 : 0 < (secA kAT (wk3 t)).length) (h : ¬ (secA kAT (wk3 t)).length = 1 ∨ (Lib.cut (gt (secA kAT (wk3 t)) 0) [45]).2.2 = false ∨ numOk (Lib.cut (gt (secA kAT (wk3 t)) 0) [45]).1 = false ∨ numOk (Lib.cut (gt (secA kAT (wk3 t)) 0) [45]).2.1 = false) : atOk t = false := by
  unfold atOk hoursOk
  rw [sec_some h0]
  rcases h with h | h | h | h
  · rw [decide_eq_false h]; rfl
  · rw [h]; simp
  · rw [h]; simp
  · rw [h]; simp
theorem at_good {t : Ws} (h0 : 0 < (secA kAT (wk3 t)).length) (h1 : (secA kAT (wk3 t)).length = 1) (h2 : (Lib.cut (gt (secA kAT (wk3 t)) 0) [45]).2.2 = true) (h3 : numOk (Lib.cut (gt (secA kAT (wk3 t)) 0) [45]).1 = true) (h4 : numOk (Lib.cut (gt (secA kAT (wk3 t)) 0) [45]).2.1 = true) :
    atOk t = true ∧ ((numV (Lib.cut (gt (secA kAT (wk3 t)) 0) [45]).1 : Nat) : Int) = frT t ∧ ((numV (Lib.cut (gt (secA kAT (wk3 t)) 0) [45]).2.1 : Nat) : Int) = toT t := by
  unfold atOk hoursOk frT toT hrA hrB
  rw [sec_some h0, decide_eq_true h1, h2, h3, h4, numE_t h3, numE_t h4]
  exact ⟨rfl, rfl, rfl⟩
theorem at_none {t : Ws} (h : secOk kAT (wk3 t) = true) (h0 : ¬ 0 < (secA kAT (wk3 t)).length) : atOk t = true ∧ (0 : Int) = frT t ∧ (0 : Int) = toT t := by
  have hh := sec_none h (by omega)
  exact ⟨atOk_f hh, (frT_f hh).1.symm, (frT_f hh).2.symm⟩
theorem need_bad {t : Ws} (h0 : 0 < (secA kNEED (wk4 t)).length) (h : ¬ (secA kNEED (wk4 t)).length = 2 ∨ numOk (gt (secA kNEED (wk4 t)) 0) = false) : needOk t = false := by
  unfold needOk
  rw [sec_some h0]
  rcases h with h | h
  · rw [decide_eq_false h]; rfl
  · rw [h]; simp
theorem need_good {t : Ws} (h0 : 0 < (secA kNEED (wk4 t)).length) (h1 : (secA kNEED (wk4 t)).length = 2) (h2 : numOk (gt (secA kNEED (wk4 t)) 0) = true) : needOk t = true ∧ ((numV (gt (secA kNEED (wk4 t)) 0) : Nat) : Int) = ndT t ∧ gt (secA kNEED (wk4 t)) 1 = ofT t := by
  unfold needOk ndT ofT
  rw [sec_some h0, decide_eq_true h1, h2, numE_t h2]
  exact ⟨rfl, rfl, rfl⟩
theorem need_none {t : Ws} (h : secOk kNEED (wk4 t) = true) (h0 : ¬ 0 < (secA kNEED (wk4 t)).length) : needOk t = true ∧ (0 : Int) = ndT t ∧ [] = ofT t := by
  have hh := sec_none h (by omega)
  exact ⟨needOk_f hh, (ndT_f hh).1.symm, (ndT_f hh).2.symm⟩
theorem racts_step {l : Ws} {k : Nat} (hk : k < l.length) (h : gt l k ∈ actW) : (actsV (l.take k)).map iv ++ [vi (([] :: actW).idxOf (gt l k))] = (actsV (l.take (k + 1))).map iv := by
  rw [actsV_step hk, List.map_append, idx_cons h]; rfl

theorem parseRule_ok_c0 {p : Prop} (h : p := by exact ⟨_, rfl, ⟨(hF.perm ((List.Perm.cons _ (List.Perm.refl _)).trans (List.perm_middle (l₁ := [_])).symm)), begin_y (by first | exact .inl (Classical.not_not.1 h1_3) | exact .inr (Classical.not_not.1 h1_8)) hl0⟩, ⟨rfl, rfl, trivial⟩⟩) : p := h
theorem parseRule_ok_c1 {p : Prop} (h : p := by exact .inl ⟨ruleT_r (rest_acts (acts_n (l := (secA kACT (wk1 ws.tail))) (k := k) Om (by first | exact fun h => hinN (List.mem_cons_of_mem _ h) | exact idx_zero (by assumption)))), ⟨(⟨headIs kDENY ws, p1, secA kROLE ws.tail, q1, aa, List.replicate k 0, cb, p3, secA kON (wk2 ws.tail), q3, 0, 0, 0, []⟩ : RuleD), (show Value.tuple #[.agg #[.bool (headIs kDENY ws), .slice p1 (secA kROLE ws.tail).length q1, .slice aa k cb, .slice p3 (secA kON (wk2 ws.tail)).length q3, .int .i64 0, .int .i64 0, .int .i64 0, .string ⟨#[]⟩], .bool false] = _ from by (simp only [RuleD.v, List.length_replicate]; try rfl))⟩, hF.fin⟩) : p := h
theorem parseRule_ok_c2 {p : Prop} (h : p := by exact .inl ⟨ruleT_r (rest_at (at_bad Om (by first | exact .inl Om | exact .inr (.inl hcu) | exact .inr (.inr (.inl hsa)) | exact .inr (.inr (.inr hsb))))), ⟨(⟨headIs kDENY ws, p1, secA kROLE ws.tail, q1, _, actsV (secA kACT (wk1 ws.tail)), _, p3, secA kON (wk2 ws.tail), q3, _, _, _, _⟩ : RuleD), rfl⟩, hF.fin⟩) : p := h
theorem parseRule_ok_c3 {p : Prop} (h : p := by exact .inl ⟨ruleT_r (rest_need (need_bad Om (by first | exact .inl Om | exact .inr hsm))), ⟨(⟨headIs kDENY ws, p1, secA kROLE ws.tail, q1, _, actsV (secA kACT (wk1 ws.tail)), _, p3, secA kON (wk2 ws.tail), q3, _, _, _, _⟩ : RuleD), rfl⟩, hF.fin⟩) : p := h
set_option maxHeartbeats 4000000 in
theorem parseRule_ok (ws : Ws) (a : Option Addr) (c : Nat) (w : World) (hw : Row w a (ws.map sv)) (hc0 : ws.length ≤ c) (hn : ws.length ≤ 100000) (hll : ∀ s ∈ ws.tail, s.length ≤ 65536) (hv : VF w) (hl0 : 0 < ws.length) :
    Ret Tryz.prog 24 [.slice a ws.length c] w (fun v w' => (ruleT ws = none ∧ (∃ r : RuleD, v = .tuple #[.agg r.v.toArray, .bool false]) ∧ St w [] w' []) ∨ (∃ r : RuleD, ruleT ws = some (nrmR r) ∧ RuleOk r ∧ Sub a ws r.ra r.ro ∧ Sub a ws r.la r.las ∧ v = .tuple #[.agg r.v.toArray, .bool true] ∧ St w [] w' [.row (.slice r.aa r.acs.length r.ak) 3 1 r.acs.length (r.acs.map iv)])) := by
  have hw2 : Row w (Kw.sub a c 1 1) (ws.tail.map sv) := (Sub.refl a ws).tl hc0 w hw
  have htl : ws.tail.length + 1 = ws.length := by rw [List.length_tail]; omega
  refine enter Tryz.func24 rfl Tryz.ntmps24 rfl ?_
  have hS := St.refl w []
  refine zS<|zR<|zB (v := .slice _ _ _) hS rfl rfl fun b1 w1 hS2=>zA (C := [.bool false, .slice none 0 0, .slice none 0 0, .slice none 0 0, .int .i64 0, .int .i64 0, .int .i64 0, .string ⟨#[]⟩]) hS2 ti51 rfl fun b2 w3 hS4=>zq 1 rfl<|zN<|zT ?_
  refine c_cutE [1, 2] (fun e w' => St w [] w' [.blk b1 (cl [.slice a (ws).length c] 42), .blk b2 (cl [.bool false, .slice none 0 0, .slice none 0 0, .slice none 0 0, .int .i64 0, .int .i64 0, .int .i64 0, .string ⟨#[]⟩] 51)] ∧ (beginOk ws = true)) ?_ ?_
  · refine zS<|zR<|zV (r_loadB1 ti42.und rfl rfl (hS4.heap Z1) rfl)<|zV (r_ixS (m := 0) ti42.und ti9 rfl rfl (hw.st hS4) Sd Ln) ?_
    refine zV (r_loadS1 ti9.und rfl rfl (hw.st hS4) (by rw [Nat.mul_one]; exact map_gt _ _ _ Sd)) ?_
    refine wl_dec (r_neqStrL rfl rfl) rfl (fun h1_3 => ?_) (fun h1_3 => ?_)
    · refine zq 1 rfl<|wl_val (r_loadB1 ti42.und rfl rfl (hS4.heap Z1) rfl) rfl<|wl_val (r_ixS (m := 0) ti42.und ti9 rfl rfl (hw.st hS4) Sd Ln) rfl ?_
      refine wl_val (r_loadS1 ti9.und rfl rfl (hw.st hS4) (by rw [Nat.mul_one]; exact map_gt _ _ _ Sd)) rfl ?_
      refine wl_dec (r_neqStrL rfl rfl) rfl (fun h1_8 => ?_) (fun h1_8 => ?_)
      · refine zq 1 rfl<|zN<|zT<|zt rfl<|zS<|zR<|zV (r_loadB ti51 ag51 rfl (hS4.heap Z0) Ln) ?_
        refine zY (x_storeW [] hS4 ti51 rfl rfl rfl rfl (one_all rfl)) ?_; intro w9 hS10; simp only [ca, na] at hS10; refine zq 1 rfl<|zN<|zT<|zU<|zL<|ret2 Tryz.results24 ⟨_, rfl, run_loadVar_blk ti51 ag51 (hS10.heap Z0) rfl⟩ rfl ?_
        exact .inl ⟨ruleT_b (begin_x h1_3 h1_8 hl0), ⟨(⟨false, none, [], 0, none, [], 0, none, [], 0, 0, 0, 0, []⟩ : RuleD), rfl⟩, hS10.fin⟩
      refine zq 1 rfl<|zN<|zT<|zf rfl<|zK<|zT ?_
      have hF := hS4; exact parseRule_ok_c0
    refine zq 6 rfl<|zN<|zT<|zf rfl<|zK<|zT ?_
    have hF := hS4; exact parseRule_ok_c0
  · rintro e5 w6 ⟨hS7, hbg⟩ -
    refine zS<|zR<|zV (r_loadB1 ti42.und rfl rfl (hS7.heap Z0) rfl)<|zV (r_ixS (m := 0) ti42.und ti9 rfl rfl (hw.st hS7) Sd Ln) ?_; refine zV (r_loadS1 ti9.und rfl rfl (hw.st hS7) (by rw [Nat.mul_one]; exact map_gt _ _ _ Sd)) ?_; refine zV (r_eqlStrL rfl rfl)<|zV (r_field fa51_0 rfl)<|zY (x_store1 [_] hS7 ti4 rfl rfl rfl (by simp)) ?_; intro w11 hS12; simp only [ca, na] at hS12; refine zN<|zT<|zS ?_
    rw [head_dec hl0] at hS12
    refine zR<|zV (r_loadB1 ti42.und rfl rfl (hS12.heap Z0) rfl)<|zV (r_sl_l (l := 1) ti42.und ti9 rfl rfl Om)<|zY (x_store1 [] hS12 ti42 rfl rfl rfl (by simp)) ?_; intro w13 hS14; simp only [ca, na] at hS14; refine zN<|zT<|zS ?_
    rw [show ws.length - 1 = ws.tail.length from List.length_tail.symm] at hS14
    refine zR<|zV (r_makeFunc (vs := [pt b1 0]) rfl)<|zV (r_assign rfl)<|zN<|zT<|zS<|zR<|zA (C := [.slice none 0 0]) hS14 ti42 rfl fun b5 w15 hS16=>zA (C := [.slice none 0 0]) hS16 ti42 rfl fun b6 w17 hS18=>zA (C := [.slice none 0 0]) hS18 ti42 rfl fun b7 w19 hS20=>zN<|zT<|zS<|zS<|zR<|zV (r_field fa51_1 rfl)<|zV (r_field fa51_3 rfl)<|zX (x_lit (vs := [.pointer _, .pointer _, .pointer _, .pointer _, .pointer _]) hS20 ti82.und ti81 rfl rfl rfl (by intro c hc; simp only [List.mem_cons, List.not_mem_nil, or_false] at hc; rcases hc with rfl | rfl | rfl | rfl | rfl <;> rfl) (by decide)) ?_; rintro _ w21 ⟨b39, rfl, hS22⟩; refine zV (r_len (T := 82) rfl ti82.und rfl _ rfl)<|zq 1 rfl<|zN<|zT<|zI ?_
    refine c_loopE [1, 2, 4, 5, 6, 7, 39, 40] (fun d e w' => ∃ (i : Nat) (u : Ws) (a1 : Option Addr) (c1 : Nat) (x1 x2 x3 x4 x5 : Ws) (p1 p2 p3 p4 p5 : Option Addr) (q1 q2 q3 q4 q5 : Nat), Kw.look e 41 = vi i ∧ d = 5 - i ∧ St w [] w' [.blk b1 (cl [.slice a1 (u).length c1] 42), .blk b2 (cl [.bool (headIs kDENY ws), .slice p1 (x1).length q1, .slice none 0 0, .slice p3 (x3).length q3, .int .i64 0, .int .i64 0, .int .i64 0, .string ⟨#[]⟩] 51), .blk b5 (cl [.slice p2 x2.length q2] 42), .blk b6 (cl [.slice p4 x4.length q4] 42), .blk b7 (cl [.slice p5 x5.length q5] 42), .blk b39 (cl [pt b2 1, pt b5 0, pt b2 3, pt b6 0, pt b7 0] 81)] ∧ (i ≤ 5) ∧ (u = uu ws.tail i) ∧ (Sub a ws a1 u) ∧ (u.length ≤ c1) ∧ (x1 = if 0 < i then secA kROLE ws.tail else []) ∧ (x2 = if 1 < i then secA kACT (wk1 ws.tail) else []) ∧ (x3 = if 2 < i then secA kON (wk2 ws.tail) else []) ∧ (x4 = if 3 < i then secA kAT (wk3 ws.tail) else []) ∧ (x5 = if 4 < i then secA kNEED (wk4 ws.tail) else []) ∧ (Sub a ws p1 x1 ∧ Sub a ws p2 x2 ∧ Sub a ws p3 x3 ∧ Sub a ws p4 x4 ∧ Sub a ws p5 x5) ∧ (x1.length ≤ q1 ∧ x2.length ≤ q2 ∧ x3.length ≤ q3 ∧ x4.length ≤ q4 ∧ x5.length ≤ q5) ∧ ((0 < i → secOk kROLE ws.tail = true) ∧ (1 < i → secOk kACT (wk1 ws.tail) = true) ∧ (2 < i → secOk kON (wk2 ws.tail) = true) ∧ (3 < i → secOk kAT (wk3 ws.tail) = true) ∧ (4 < i → secOk kNEED (wk4 ws.tail) = true))) (5 - 0) ?_ ?_
    · exact ⟨0, ws.tail, _, c - 1, [], [], [], [], [], none, none, none, none, none, 0, 0, 0, 0, 0, rfl, rfl, (hS22.perm ((List.Perm.cons _ ((List.Perm.cons _ ((List.Perm.cons _ ((List.Perm.cons _ ((List.Perm.cons _ (List.Perm.refl _)).trans (List.perm_middle (l₁ := [_])).symm)).trans (List.perm_middle (l₁ := [_, _])).symm)).trans (List.perm_middle (l₁ := [_, _, _])).symm)).trans (List.perm_middle (l₁ := [_, _, _, _])).symm)).trans (List.perm_middle (l₁ := [_, _, _, _])).symm)), by decide, rfl, (Sub.refl a ws).tl hc0, by omega, rfl, rfl, rfl, rfl, rfl, ⟨Sub.nil, Sub.nil, Sub.nil, Sub.nil, Sub.nil⟩, ⟨Nat.le_refl _, Nat.le_refl _, Nat.le_refl _, Nat.le_refl _, Nat.le_refl _⟩, ⟨fun h => absurd h (by decide), fun h => absurd h (by decide), fun h => absurd h (by decide), fun h => absurd h (by decide), fun h => absurd h (by decide)⟩⟩
    · rintro d26 e23 w24 ⟨i, u, a1, c1, x1, x2, x3, x4, x5, p1, p2, p3, p4, p5, q1, q2, q3, q4, q5, hc0_41, rfl, hS25, hi, hu, hs1, hc1, e1, e2, e3, e4, e5, ⟨hp1, hp2, hp3, hp4, hp5⟩, ⟨hq1, hq2, hq3, hq4, hq5⟩, ⟨hk1, hk2, hk3, hk4, hk5⟩⟩ -
      refine c_set (d := 41) hc0_41<|zS<|zR ?_
      refine wl_dec (r_lss rfl rfl) rfl (fun h8_0 => ?_) (fun h8_0 => ?_)
      · refine zN<|zT<|zS<|zt rfl<|zK<|zT<|zS<|zI<|zS ?_
        rcases i5 (i := i) Om with rfl | rfl | rfl | rfl | rfl
        · obtain rfl : u = ws.tail := hu
          refine zR<|zq 1 rfl<|zV (r_ixB ti82.und ti81 rfl rfl Sd) ?_; refine zV (r_loadB1 (v := pt b2 1) ti81.und rfl rfl (hS25.heap Z5) rfl)<|zq 2 rfl<|zN<|zT<|zS<|zR<|zq 1 rfl<|zV (r_move rfl)<|zX (x_lit (vs := ([kROLE, kACT, kON, kAT, kNEED].map sv)) hS25 ti42.und ti9 rfl rfl rfl (one_map _ fun _ => rfl) (by decide)) ?_; rintro _ w27 ⟨b49, rfl, hS28⟩; refine zq 1 rfl<|zV (r_ixB ti42.und ti9 rfl rfl Sd) ?_; refine zV (r_loadB1 (v := sv kROLE) ti9.und rfl rfl (hS28.heap Z0) rfl)<|wl_call (r_callDyn fn45 rfl rfl) rfl (rlist_ok w _ _ kROLE a ws ws.tail _ _ _ (hS28.perm ((List.Perm.cons _ (List.Perm.refl _)).trans (List.perm_middle (l₁ := [_])).symm)) hw hs1 hc1 (Nat.le_trans (show (ws.tail).length ≤ ws.tail.length from uu_le ws.tail 0) Om)) ?_; rintro _ w29 ⟨al, cz, a2, c2, rfl, hsa, hqa, hsr, hcr, hS30⟩; refine zq 3 rfl<|zV (r_nilCheck rfl)<|zY (x_store1 [_, _] hS30 ti42 rfl rfl rfl (by simp)) ?_; intro w31 hS32; simp only [ca, na] at hS32; refine zq 1 rfl<|zN<|zT<|zS ?_
          rcases bool_casesX (secOk kROLE ws.tail) with hok | hok
          · refine c_set (d := 3) (v := .bool true) (congrArg Value.bool hok)<|zR<|zq 2 rfl<|zN<|zT<|zf rfl<|zK<|zJ<|zT<|zR<|zV (r_addn (b := 1) rfl rfl Om)<|zq 1 rfl<|zN<|zT ?_
            exact ⟨5 - 1, _, by decide, rfl, ⟨1, _, a2, c2, _, x2, x3, x4, x5, al, p2, p3, p4, p5, cz, q2, q3, q4, q5, rfl, rfl, (hS32.perm ((List.Perm.cons _ (List.Perm.refl _)).trans (List.perm_middle (l₁ := [_])).symm)).drop1, by decide, rfl, hsr, hcr, (by rw [if_pos (by decide)]), (by rw [e2]; rfl), (by rw [e3]; rfl), (by rw [e4]; rfl), (by rw [e5]; rfl), ⟨hsa, hp2, hp3, hp4, hp5⟩, ⟨hqa, hq2, hq3, hq4, hq5⟩, fun _ => hok, fun h => absurd h (by decide), fun h => absurd h (by decide), fun h => absurd h (by decide), fun h => absurd h (by decide)⟩, ⟨rfl, rfl, rfl, rfl, rfl, rfl, rfl, rfl, trivial⟩⟩
          refine c_set (d := 3) (v := .bool false) (congrArg Value.bool hok)<|zR<|zq 2 rfl<|zN<|zT<|zt rfl<|zS<|zR<|zV (r_loadB ti51 ag51 rfl (hS32.heap Z2) Ln) ?_; refine zY (x_storeW [_, _] hS32 ti51 rfl rfl rfl rfl (one_all rfl)) ?_; intro w33 hS34; simp only [ca, na] at hS34; refine zq 1 rfl<|zN<|zT<|zU<|zH<|zL<|zL<|zH<|zL<|ret2 Tryz.results24 ⟨_, rfl, run_loadVar_blk ti51 ag51 (hS34.heap Z2) rfl⟩ rfl ?_
          exact .inl ⟨ruleT_r (rest_f1 hok), ⟨(⟨headIs kDENY ws, _, secA kROLE ws.tail, _, none, [], 0, _, x3, _, 0, 0, 0, []⟩ : RuleD), rfl⟩, hS34.fin⟩
        · obtain rfl : u = (wk1 ws.tail) := hu
          refine zR<|zq 1 rfl<|zV (r_ixB ti82.und ti81 rfl rfl Sd) ?_; refine zV (r_loadB1 (v := pt b5 0) ti81.und rfl rfl (hS25.heap Z5) rfl)<|zq 2 rfl<|zN<|zT<|zS<|zR<|zq 1 rfl<|zV (r_move rfl)<|zX (x_lit (vs := ([kROLE, kACT, kON, kAT, kNEED].map sv)) hS25 ti42.und ti9 rfl rfl rfl (one_map _ fun _ => rfl) (by decide)) ?_; rintro _ w35 ⟨b49, rfl, hS36⟩; refine zq 1 rfl<|zV (r_ixB ti42.und ti9 rfl rfl Sd) ?_; refine zV (r_loadB1 (v := sv kACT) ti9.und rfl rfl (hS36.heap Z0) rfl)<|wl_call (r_callDyn fn45 rfl rfl) rfl (rlist_ok w _ _ kACT a ws (wk1 ws.tail) _ _ _ (hS36.perm ((List.Perm.cons _ (List.Perm.refl _)).trans (List.perm_middle (l₁ := [_])).symm)) hw hs1 hc1 (Nat.le_trans (show ((wk1 ws.tail)).length ≤ ws.tail.length from uu_le ws.tail 1) Om)) ?_; rintro _ w37 ⟨al, cz, a2, c2, rfl, hsa, hqa, hsr, hcr, hS38⟩; refine zq 3 rfl<|zV (r_nilCheck rfl)<|zY (x_store1 [_, _, _] hS38 ti42 rfl rfl rfl (by simp)) ?_; intro w39 hS40; simp only [ca, na] at hS40; refine zq 1 rfl<|zN<|zT<|zS ?_
          rcases bool_casesX (secOk kACT (wk1 ws.tail)) with hok | hok
          · refine c_set (d := 3) (v := .bool true) (congrArg Value.bool hok)<|zR<|zq 2 rfl<|zN<|zT<|zf rfl<|zK<|zJ<|zT<|zR<|zV (r_addn (b := 1) rfl rfl Om)<|zq 1 rfl<|zN<|zT ?_
            exact ⟨5 - 2, _, by decide, rfl, ⟨2, _, a2, c2, x1, _, x3, x4, x5, p1, al, p3, p4, p5, q1, cz, q3, q4, q5, rfl, rfl, (hS40.perm ((List.Perm.cons _ (List.Perm.refl _)).trans (List.perm_middle (l₁ := [_])).symm)).drop1, by decide, rfl, hsr, hcr, (by rw [e1]; rfl), (by rw [if_pos (by decide)]), (by rw [e3]; rfl), (by rw [e4]; rfl), (by rw [e5]; rfl), ⟨hp1, hsa, hp3, hp4, hp5⟩, ⟨hq1, hqa, hq3, hq4, hq5⟩, fun _ => hk1 (by decide), fun _ => hok, fun h => absurd h (by decide), fun h => absurd h (by decide), fun h => absurd h (by decide)⟩, ⟨rfl, rfl, rfl, rfl, rfl, rfl, rfl, rfl, trivial⟩⟩
          refine c_set (d := 3) (v := .bool false) (congrArg Value.bool hok)<|zR<|zq 2 rfl<|zN<|zT<|zt rfl<|zS<|zR<|zV (r_loadB ti51 ag51 rfl (hS40.heap Z2) Ln) ?_; refine zY (x_storeW [_, _] hS40 ti51 rfl rfl rfl rfl (one_all rfl)) ?_; intro w41 hS42; simp only [ca, na] at hS42; refine zq 1 rfl<|zN<|zT<|zU<|zH<|zL<|zL<|zH<|zL<|ret2 Tryz.results24 ⟨_, rfl, run_loadVar_blk ti51 ag51 (hS42.heap Z2) rfl⟩ rfl ?_
          exact .inl ⟨ruleT_r (rest_f2 hok), ⟨(⟨headIs kDENY ws, _, x1, _, none, [], 0, _, x3, _, 0, 0, 0, []⟩ : RuleD), rfl⟩, hS42.fin⟩
        · obtain rfl : u = (wk2 ws.tail) := hu
          refine zR<|zq 1 rfl<|zV (r_ixB ti82.und ti81 rfl rfl Sd) ?_; refine zV (r_loadB1 (v := pt b2 3) ti81.und rfl rfl (hS25.heap Z5) rfl)<|zq 2 rfl<|zN<|zT<|zS<|zR<|zq 1 rfl<|zV (r_move rfl)<|zX (x_lit (vs := ([kROLE, kACT, kON, kAT, kNEED].map sv)) hS25 ti42.und ti9 rfl rfl rfl (one_map _ fun _ => rfl) (by decide)) ?_; rintro _ w43 ⟨b49, rfl, hS44⟩; refine zq 1 rfl<|zV (r_ixB ti42.und ti9 rfl rfl Sd) ?_; refine zV (r_loadB1 (v := sv kON) ti9.und rfl rfl (hS44.heap Z0) rfl)<|wl_call (r_callDyn fn45 rfl rfl) rfl (rlist_ok w _ _ kON a ws (wk2 ws.tail) _ _ _ (hS44.perm ((List.Perm.cons _ (List.Perm.refl _)).trans (List.perm_middle (l₁ := [_])).symm)) hw hs1 hc1 (Nat.le_trans (show ((wk2 ws.tail)).length ≤ ws.tail.length from uu_le ws.tail 2) Om)) ?_; rintro _ w45 ⟨al, cz, a2, c2, rfl, hsa, hqa, hsr, hcr, hS46⟩; refine zq 3 rfl<|zV (r_nilCheck rfl)<|zY (x_store1 [_, _] hS46 ti42 rfl rfl rfl (by simp)) ?_; intro w47 hS48; simp only [ca, na] at hS48; refine zq 1 rfl<|zN<|zT<|zS ?_
          rcases bool_casesX (secOk kON (wk2 ws.tail)) with hok | hok
          · refine c_set (d := 3) (v := .bool true) (congrArg Value.bool hok)<|zR<|zq 2 rfl<|zN<|zT<|zf rfl<|zK<|zJ<|zT<|zR<|zV (r_addn (b := 1) rfl rfl Om)<|zq 1 rfl<|zN<|zT ?_
            exact ⟨5 - 3, _, by decide, rfl, ⟨3, _, a2, c2, x1, x2, _, x4, x5, p1, p2, al, p4, p5, q1, q2, cz, q4, q5, rfl, rfl, (hS48.perm ((List.Perm.cons _ (List.Perm.refl _)).trans (List.perm_middle (l₁ := [_])).symm)).drop1, by decide, rfl, hsr, hcr, (by rw [e1]; rfl), (by rw [e2]; rfl), (by rw [if_pos (by decide)]), (by rw [e4]; rfl), (by rw [e5]; rfl), ⟨hp1, hp2, hsa, hp4, hp5⟩, ⟨hq1, hq2, hqa, hq4, hq5⟩, fun _ => hk1 (by decide), fun _ => hk2 (by decide), fun _ => hok, fun h => absurd h (by decide), fun h => absurd h (by decide)⟩, ⟨rfl, rfl, rfl, rfl, rfl, rfl, rfl, rfl, trivial⟩⟩
          refine c_set (d := 3) (v := .bool false) (congrArg Value.bool hok)<|zR<|zq 2 rfl<|zN<|zT<|zt rfl<|zS<|zR<|zV (r_loadB ti51 ag51 rfl (hS48.heap Z2) Ln) ?_; refine zY (x_storeW [_, _] hS48 ti51 rfl rfl rfl rfl (one_all rfl)) ?_; intro w49 hS50; simp only [ca, na] at hS50; refine zq 1 rfl<|zN<|zT<|zU<|zH<|zL<|zL<|zH<|zL<|ret2 Tryz.results24 ⟨_, rfl, run_loadVar_blk ti51 ag51 (hS50.heap Z2) rfl⟩ rfl ?_
          exact .inl ⟨ruleT_r (rest_f3 hok), ⟨(⟨headIs kDENY ws, _, x1, _, none, [], 0, _, secA kON (wk2 ws.tail), _, 0, 0, 0, []⟩ : RuleD), rfl⟩, hS50.fin⟩
        · obtain rfl : u = (wk3 ws.tail) := hu
          refine zR<|zq 1 rfl<|zV (r_ixB ti82.und ti81 rfl rfl Sd) ?_; refine zV (r_loadB1 (v := pt b6 0) ti81.und rfl rfl (hS25.heap Z5) rfl)<|zq 2 rfl<|zN<|zT<|zS<|zR<|zq 1 rfl<|zV (r_move rfl)<|zX (x_lit (vs := ([kROLE, kACT, kON, kAT, kNEED].map sv)) hS25 ti42.und ti9 rfl rfl rfl (one_map _ fun _ => rfl) (by decide)) ?_; rintro _ w51 ⟨b49, rfl, hS52⟩; refine zq 1 rfl<|zV (r_ixB ti42.und ti9 rfl rfl Sd) ?_; refine zV (r_loadB1 (v := sv kAT) ti9.und rfl rfl (hS52.heap Z0) rfl)<|wl_call (r_callDyn fn45 rfl rfl) rfl (rlist_ok w _ _ kAT a ws (wk3 ws.tail) _ _ _ (hS52.perm ((List.Perm.cons _ (List.Perm.refl _)).trans (List.perm_middle (l₁ := [_])).symm)) hw hs1 hc1 (Nat.le_trans (show ((wk3 ws.tail)).length ≤ ws.tail.length from uu_le ws.tail 3) Om)) ?_; rintro _ w53 ⟨al, cz, a2, c2, rfl, hsa, hqa, hsr, hcr, hS54⟩; refine zq 3 rfl<|zV (r_nilCheck rfl)<|zY (x_store1 [_, _, _, _] hS54 ti42 rfl rfl rfl (by simp)) ?_; intro w55 hS56; simp only [ca, na] at hS56; refine zq 1 rfl<|zN<|zT<|zS ?_
          rcases bool_casesX (secOk kAT (wk3 ws.tail)) with hok | hok
          · refine c_set (d := 3) (v := .bool true) (congrArg Value.bool hok)<|zR<|zq 2 rfl<|zN<|zT<|zf rfl<|zK<|zJ<|zT<|zR<|zV (r_addn (b := 1) rfl rfl Om)<|zq 1 rfl<|zN<|zT ?_
            exact ⟨5 - 4, _, by decide, rfl, ⟨4, _, a2, c2, x1, x2, x3, _, x5, p1, p2, p3, al, p5, q1, q2, q3, cz, q5, rfl, rfl, (hS56.perm ((List.Perm.cons _ (List.Perm.refl _)).trans (List.perm_middle (l₁ := [_])).symm)).drop1, by decide, rfl, hsr, hcr, (by rw [e1]; rfl), (by rw [e2]; rfl), (by rw [e3]; rfl), (by rw [if_pos (by decide)]), (by rw [e5]; rfl), ⟨hp1, hp2, hp3, hsa, hp5⟩, ⟨hq1, hq2, hq3, hqa, hq5⟩, fun _ => hk1 (by decide), fun _ => hk2 (by decide), fun _ => hk3 (by decide), fun _ => hok, fun h => absurd h (by decide)⟩, ⟨rfl, rfl, rfl, rfl, rfl, rfl, rfl, rfl, trivial⟩⟩
          refine c_set (d := 3) (v := .bool false) (congrArg Value.bool hok)<|zR<|zq 2 rfl<|zN<|zT<|zt rfl<|zS<|zR<|zV (r_loadB ti51 ag51 rfl (hS56.heap Z2) Ln) ?_; refine zY (x_storeW [_, _] hS56 ti51 rfl rfl rfl rfl (one_all rfl)) ?_; intro w57 hS58; simp only [ca, na] at hS58; refine zq 1 rfl<|zN<|zT<|zU<|zH<|zL<|zL<|zH<|zL<|ret2 Tryz.results24 ⟨_, rfl, run_loadVar_blk ti51 ag51 (hS58.heap Z2) rfl⟩ rfl ?_
          exact .inl ⟨ruleT_r (rest_f4 hok), ⟨(⟨headIs kDENY ws, _, x1, _, none, [], 0, _, x3, _, 0, 0, 0, []⟩ : RuleD), rfl⟩, hS58.fin⟩
        obtain rfl : u = (wk4 ws.tail) := hu
        refine zR<|zq 1 rfl<|zV (r_ixB ti82.und ti81 rfl rfl Sd) ?_; refine zV (r_loadB1 (v := pt b7 0) ti81.und rfl rfl (hS25.heap Z5) rfl)<|zq 2 rfl<|zN<|zT<|zS<|zR<|zq 1 rfl<|zV (r_move rfl)<|zX (x_lit (vs := ([kROLE, kACT, kON, kAT, kNEED].map sv)) hS25 ti42.und ti9 rfl rfl rfl (one_map _ fun _ => rfl) (by decide)) ?_; rintro _ w59 ⟨b49, rfl, hS60⟩; refine zq 1 rfl<|zV (r_ixB ti42.und ti9 rfl rfl Sd) ?_; refine zV (r_loadB1 (v := sv kNEED) ti9.und rfl rfl (hS60.heap Z0) rfl)<|wl_call (r_callDyn fn45 rfl rfl) rfl (rlist_ok w _ _ kNEED a ws (wk4 ws.tail) _ _ _ (hS60.perm ((List.Perm.cons _ (List.Perm.refl _)).trans (List.perm_middle (l₁ := [_])).symm)) hw hs1 hc1 (Nat.le_trans (show ((wk4 ws.tail)).length ≤ ws.tail.length from uu_le ws.tail 4) Om)) ?_; rintro _ w61 ⟨al, cz, a2, c2, rfl, hsa, hqa, hsr, hcr, hS62⟩; refine zq 3 rfl<|zV (r_nilCheck rfl)<|zY (x_store1 [_, _, _, _, _] hS62 ti42 rfl rfl rfl (by simp)) ?_; intro w63 hS64; simp only [ca, na] at hS64; refine zq 1 rfl<|zN<|zT<|zS ?_
        rcases bool_casesX (secOk kNEED (wk4 ws.tail)) with hok | hok
        · refine c_set (d := 3) (v := .bool true) (congrArg Value.bool hok)<|zR<|zq 2 rfl<|zN<|zT<|zf rfl<|zK<|zJ<|zT<|zR<|zV (r_addn (b := 1) rfl rfl Om)<|zq 1 rfl<|zN<|zT ?_
          exact ⟨5 - 5, _, by decide, rfl, ⟨5, _, a2, c2, x1, x2, x3, x4, _, p1, p2, p3, p4, al, q1, q2, q3, q4, cz, rfl, rfl, (hS64.perm ((List.Perm.cons _ (List.Perm.refl _)).trans (List.perm_middle (l₁ := [_])).symm)).drop1, by decide, rfl, hsr, hcr, (by rw [e1]; rfl), (by rw [e2]; rfl), (by rw [e3]; rfl), (by rw [e4]; rfl), (by rw [if_pos (by decide)]), ⟨hp1, hp2, hp3, hp4, hsa⟩, ⟨hq1, hq2, hq3, hq4, hqa⟩, fun _ => hk1 (by decide), fun _ => hk2 (by decide), fun _ => hk3 (by decide), fun _ => hk4 (by decide), fun _ => hok⟩, ⟨rfl, rfl, rfl, rfl, rfl, rfl, rfl, rfl, trivial⟩⟩
        refine c_set (d := 3) (v := .bool false) (congrArg Value.bool hok)<|zR<|zq 2 rfl<|zN<|zT<|zt rfl<|zS<|zR<|zV (r_loadB ti51 ag51 rfl (hS64.heap Z2) Ln) ?_; refine zY (x_storeW [_, _] hS64 ti51 rfl rfl rfl rfl (one_all rfl)) ?_; intro w65 hS66; simp only [ca, na] at hS66; refine zq 1 rfl<|zN<|zT<|zU<|zH<|zL<|zL<|zH<|zL<|ret2 Tryz.results24 ⟨_, rfl, run_loadVar_blk ti51 ag51 (hS66.heap Z2) rfl⟩ rfl ?_
        exact .inl ⟨ruleT_r (rest_f5 hok), ⟨(⟨headIs kDENY ws, _, x1, _, none, [], 0, _, x3, _, 0, 0, 0, []⟩ : RuleD), rfl⟩, hS66.fin⟩
      refine zN<|zT<|zS<|zf rfl<|zO<|zM<|zM<|c_inE<|zT<|zS<|zS ?_
      obtain rfl : i = 5 := by omega
      obtain rfl : u = wk5 ws.tail := hu
      obtain rfl : x1 = secA kROLE ws.tail := e1
      obtain rfl : x2 = secA kACT (wk1 ws.tail) := e2
      obtain rfl : x3 = secA kON (wk2 ws.tail) := e3
      obtain rfl : x4 = secA kAT (wk3 ws.tail) := e4
      obtain rfl : x5 = secA kNEED (wk4 ws.tail) := e5
      replace hk1 := hk1 (by decide)
      replace hk2 := hk2 (by decide)
      replace hk3 := hk3 (by decide)
      replace hk4 := hk4 (by decide)
      replace hk5 := hk5 (by decide)
      have hr2 := hp2 w hw
      have hr4 := hp4 w hw
      have hr5 := hp5 w hw
      refine zR<|zV (r_loadB1 ti42.und rfl rfl (hS25.heap Z0) rfl)<|zV (r_len (T := 42) rfl ti42.und rfl _ rfl) ?_
      refine wl_dec (r_gtr rfl rfl) rfl (fun h14_2 => ?_) (fun h14_2 => ?_)
      · refine zN<|zT<|zt rfl<|zS<|zR<|zV (r_loadB ti51 ag51 rfl (hS25.heap Z1) Ln) ?_
        refine zY (x_storeW [_] hS25 ti51 rfl rfl rfl rfl (one_all rfl)) ?_; intro w67 hS68; simp only [ca, na] at hS68; refine zq 1 rfl<|zN<|zT<|zU<|zL<|ret2 Tryz.results24 ⟨_, rfl, run_loadVar_blk ti51 ag51 (hS68.heap Z1) rfl⟩ rfl ?_
        exact .inl ⟨ruleT_r (restOk_l Om), ⟨(⟨headIs kDENY ws, p1, secA kROLE ws.tail, q1, none, [], 0, p3, secA kON (wk2 ws.tail), q3, 0, 0, 0, []⟩ : RuleD), rfl⟩, hS68.fin⟩
      refine zN<|zT<|zf rfl<|zK<|zT<|zS<|zS ?_
      have hlen : (wk5 ws.tail).length = 0 := by omega
      have hal := secA_le kACT (wk1 ws.tail)
      have hwl := w_le ws.tail
      refine zR<|zV (r_loadB1 ti42.und rfl rfl (hS25.heap Z2) rfl)<|zV (r_len (T := 42) rfl ti42.und rfl _ rfl)<|zq 1 rfl<|zN<|zT<|zI ?_
      refine c_loopE [2, 6, 7, 65, 66] (fun d e w' => ∃ (k : Nat) (aa : Option Addr) (cb : Nat), Kw.look e 67 = vi k ∧ d = (secA kACT (wk1 ws.tail)).length - k ∧ St w [] w' [.blk b2 (cl [.bool (headIs kDENY ws), .slice p1 ((secA kROLE ws.tail)).length q1, .slice aa k cb, .slice p3 ((secA kON (wk2 ws.tail))).length q3, .int .i64 0, .int .i64 0, .int .i64 0, .string ⟨#[]⟩] 51), .blk b5 (cl [.slice p2 (secA kACT (wk1 ws.tail)).length q2] 42), .blk b6 (cl [.slice p4 (secA kAT (wk3 ws.tail)).length q4] 42), .blk b7 (cl [.slice p5 (secA kNEED (wk4 ws.tail)).length q5] 42), .row (.slice aa k cb) 3 1 k ((actsV ((secA kACT (wk1 ws.tail)).take k)).map iv)] ∧ (k ≤ (secA kACT (wk1 ws.tail)).length) ∧ (∀ j, j < k → gt (secA kACT (wk1 ws.tail)) j ∈ actW) ∧ (k ≤ cb)) ((secA kACT (wk1 ws.tail)).length - 0) ?_ ?_
      · have hS99 := nilEnd (E := 3) (sz := 1) (hS25.perm (List.Perm.cons _ ((List.Perm.cons _ (List.Perm.refl _)).trans (List.perm_middle (l₁ := [_, _, _, _])).symm))).drop1.drop1
        exact ⟨0, none, 0, rfl, rfl, hS99, Nat.zero_le _, (fun j hj => absurd hj (Nat.not_lt_zero _)), Nat.le_refl _⟩
      · rintro d72 e69 w70 ⟨k, aa, cb, hc1_67, rfl, hS71, hk, hall, hkc⟩ -
        refine c_set (d := 67) hc1_67<|zS<|zR ?_
        refine wl_dec (r_lss rfl rfl) rfl (fun h17_0 => ?_) (fun h17_0 => ?_)
        · refine zN<|zT<|zS<|zt rfl<|zK<|zT<|zS<|zI<|zS<|zR<|zV (r_ixS ti42.und ti9 rfl rfl (hr2.st hS71) Sd Ln) ?_
          refine zV (r_loadS1 ti9.und rfl rfl (hr2.st hS71) (by rw [Nat.mul_one]; exact map_gt _ _ _ Sd)) ?_; refine zq 1 rfl<|zN<|zT<|zS<|zR<|zC fn48 rfl (ractWords_ok _) ?_; rintro _ w73 ⟨b71, rfl, hx74⟩
          have hS75 := hS71.call hx74
          simp only [ca, na] at hS75; refine zq 1 rfl<|zC fn47 rfl (indexAt_ok ([] :: actW) _ 13 13 (gt (secA kACT (wk1 ws.tail)) k) _ (Row.of_at (at_all (hS75.heap Z0))) rfl (by decide)) ?_
          rintro _ w76 (⟨hin, rfl, hx77⟩ | ⟨hinN, rfl, hx77⟩)
          · have hS78 := hS75.ext hx77
            refine zq 1 rfl<|zN<|zT<|zS<|zS<|zR<|zq 1 rfl ?_
            refine wl_dec (r_lss rfl rfl) rfl (fun h20_1 => ?_) (fun h20_1 => ?_)
            · refine zN<|zT<|zt rfl<|zS<|zR<|zV (r_loadB ti51 ag51 rfl (hS78.heap Z1) Ln) ?_
              refine zY (x_storeW [_] hS78 ti51 rfl rfl rfl rfl (one_all rfl)) ?_; intro w79 hS80; simp only [ca, na] at hS80; refine zq 1 rfl<|zN<|zT<|zU<|zL<|zH<|zL<|zL<|zH<|zL<|ret2 Tryz.results24 ⟨_, rfl, run_loadVar_blk ti51 ag51 (hS80.heap Z1) rfl⟩ rfl ?_
              have hF := hS80; exact parseRule_ok_c1
            refine zN<|zT<|zf rfl<|zK<|zT<|zR<|zF fa51_2 rfl ti49.und rfl (hS78.heap Z1) rfl rfl rfl<|zq 1 rfl ?_; refine wl_exv (x_lit (vs := [vi (([] :: actW).idxOf (gt (secA kACT (wk1 ws.tail)) k))]) hS78 ti49.und ti3 rfl rfl rfl On (by decide)) rfl ?_; rintro _ w81 ⟨b80, rfl, hS82⟩; refine zX (x_append [_, _, _, _, _, _] hS82 ti49.und ti3 rfl (by decide) rfl rfl (Row.of_at (at_all (hS82.heap Z0))) rfl (one_cons rfl one_nil) Sd Sd _ rfl) ?_; rintro _ w83 ⟨aq85, cq85, rfl, hcq85, hS84⟩; simp only [ca, na] at hS84; refine zV (r_field fa51_2 rfl)<|zY (x_store1 [_, _] hS84 ti49 rfl rfl rfl (by simp)) ?_; intro w86 hS87; simp only [ca, na] at hS87; refine zN<|zJ<|zT<|zR<|zV (r_addn (b := 1) rfl rfl Om)<|zq 1 rfl<|zN<|zT ?_
            have hS98 := hS87.drop1.drop1
            have hma := idx_pos hin h20_1
            rw [racts_step Om hma] at hS98
            exact ⟨(secA kACT (wk1 ws.tail)).length - (k + 1), _, by omega, rfl, ⟨k + 1, _, _, rfl, rfl, hS98, by omega, (fun j hj => (Nat.lt_succ_iff_lt_or_eq.1 hj).elim (hall j) (fun e => e ▸ hma)), by omega⟩, ⟨rfl, rfl, rfl, rfl, rfl, trivial⟩⟩
          have hS78 := hS75.ext hx77; refine zq 1 rfl<|zN<|zT<|zS<|zS<|zR<|zq 1 rfl<|wl_dec_t (r_lss rfl rfl) rfl (by decide)<|zN<|zT<|zt rfl<|zS<|zR<|zV (r_loadB ti51 ag51 rfl (hS78.heap Z1) Ln) ?_; refine zY (x_storeW [_] hS78 ti51 rfl rfl rfl rfl (one_all rfl)) ?_; intro w88 hS89; simp only [ca, na] at hS89; refine zq 1 rfl<|zN<|zT<|zU<|zL<|zH<|zL<|zL<|zH<|zL<|ret2 Tryz.results24 ⟨_, rfl, run_loadVar_blk ti51 ag51 (hS89.heap Z1) rfl⟩ rfl ?_
          have hF := hS89; exact parseRule_ok_c1
        refine zN<|zT<|zS<|zf rfl<|zO<|zM<|zM<|c_inE<|zT ?_
        obtain rfl : k = (secA kACT (wk1 ws.tail)).length := by omega
        have hact := acts_y hall
        rw [List.take_length, ← actsV_len (secA kACT (wk1 ws.tail))] at hS71
        rw [← actsV_len (secA kACT (wk1 ws.tail))] at hkc
        have hcb := hkc
        refine c_cutE [2, 7] (fun e w' => ∃ (fr tt : Int), St w [] w' [.blk b2 (cl [.bool (headIs kDENY ws), .slice p1 ((secA kROLE ws.tail)).length q1, .slice aa ((actsV (secA kACT (wk1 ws.tail))).length) cb, .slice p3 ((secA kON (wk2 ws.tail))).length q3, .int .i64 fr, .int .i64 tt, .int .i64 0, .string ⟨#[]⟩] 51), .blk b7 (cl [.slice p5 (secA kNEED (wk4 ws.tail)).length q5] 42), .row (.slice aa (actsV (secA kACT (wk1 ws.tail))).length cb) 3 1 (actsV (secA kACT (wk1 ws.tail))).length ((actsV (secA kACT (wk1 ws.tail))).map iv)] ∧ (atOk ws.tail = true) ∧ (fr = frT ws.tail ∧ tt = toT ws.tail)) ?_ ?_
        · refine zS<|zR<|zV (r_loadB1 ti42.und rfl rfl (hS71.heap Z2) rfl)<|zV (r_len (T := 42) rfl ti42.und rfl _ rfl) ?_
          refine wl_dec (r_gtr rfl rfl) rfl (fun h24_2 => ?_) (fun h24_2 => ?_)
          · refine zN<|zT<|zt rfl<|zS<|zR<|zV (r_loadB1 ti42.und rfl rfl (hS71.heap Z2) rfl)<|zV (r_ixS (m := 0) ti42.und ti9 rfl rfl (hr4.st hS71) Sd Ln) ?_
            refine zV (r_loadS1 ti9.und rfl rfl (hr4.st hS71) (by rw [Nat.mul_one]; exact map_gt _ _ _ Sd)) ?_; refine zE fn17 rfl hS71 (cut_ok (gt (secA kAT (wk3 ws.tail)) 0) [45] _ (Nat.lt_of_le_of_lt (hll _ (wk3_mem (secA_mem (gt_mem (secA kAT (wk3 ws.tail)) 0 Om)))) (by decide)) (hv.st hS71)) fun w94 hS96=>zq 7 rfl<|zN<|zT<|zS<|zR<|zq 2 rfl<|zN<|zT<|zS<|zR<|zq 1 rfl<|zC fn49 rfl (small_ok (Lib.cut (gt (secA kAT (wk3 ws.tail)) 0) [45]).1 _ (Nat.le_trans (cut_le _ _).1 (Nat.le_trans (hll _ (wk3_mem (secA_mem (gt_mem (secA kAT (wk3 ws.tail)) 0 Om)))) (by decide))) (hv.st hS96)) ?_
            rintro _ w97 (⟨hsa, rfl, hx98⟩ | ⟨hsa, ⟨nhsa, rfl⟩, hx98⟩)
            · have hS99 := hS96.ext hx98
              refine zq 3 rfl<|zV (r_field fa51_4 rfl)<|zY (x_store1 [] hS99 ti3 rfl rfl rfl (by simp)) ?_; intro w100 hS101; simp only [ca, na] at hS101; refine zq 1 rfl<|zN<|zT<|zS<|zR<|zq 1 rfl<|zC fn49 rfl (small_ok (Lib.cut (gt (secA kAT (wk3 ws.tail)) 0) [45]).2.1 _ (Nat.le_trans (cut_le _ _).2 (Nat.le_trans (hll _ (wk3_mem (secA_mem (gt_mem (secA kAT (wk3 ws.tail)) 0 Om)))) (by decide))) (hv.st hS101)) ?_
              rintro _ w102 (⟨hsb, rfl, hx103⟩ | ⟨hsb, ⟨nhsb, rfl⟩, hx103⟩)
              · have hS104 := hS101.ext hx103
                refine zq 3 rfl<|zV (r_field fa51_5 rfl)<|zY (x_store1 [] hS104 ti3 rfl rfl rfl (by simp)) ?_; intro w105 hS106; simp only [ca, na] at hS106; refine zq 1 rfl<|zN<|zT<|zS ?_
                rcases bool_casesX (Lib.cut (gt (secA kAT (wk3 ws.tail)) 0) [45]).2.2 with hcu | hcu
                · refine c_set (d := 15) (v := .bool true) (congrArg Value.bool hcu)<|zR<|zV (r_loadB1 ti42.und rfl rfl (hS106.heap Z2) rfl)<|zV (r_len (T := 42) rfl ti42.und rfl _ rfl) ?_
                  refine wl_dec (r_neq rfl rfl) rfl (fun h29_2 => ?_) (fun h29_2 => ?_)
                  · refine zq 12 rfl<|zN<|zT<|zt rfl<|zS<|zR<|zV (r_loadB ti51 ag51 rfl (hS106.heap Z0) Ln) ?_
                    refine zY (x_storeW [] hS106 ti51 rfl rfl rfl rfl (one_all rfl)) ?_; intro w107 hS108; simp only [ca, na] at hS108; refine zq 1 rfl<|zN<|zT<|zU<|zL<|ret2 Tryz.results24 ⟨_, rfl, run_loadVar_blk ti51 ag51 (hS108.heap Z0) rfl⟩ rfl ?_
                    have hF := hS108; exact parseRule_ok_c2
                  refine zq 12 rfl<|zN<|zT<|zf rfl<|zK<|zT ?_
                  have hag := at_good (t := ws.tail) Om Om hcu hsa hsb
                  exact ⟨_, rfl, ⟨_, _, (hS106.perm ((List.Perm.cons _ ((List.Perm.cons _ (List.Perm.refl _)).trans (List.perm_middle (l₁ := [_])).symm)).trans (List.perm_middle (l₁ := [_])).symm)).drop1.drop1, hag.1, hag.2⟩, ⟨rfl, rfl, trivial⟩⟩
                refine c_set (d := 15) (v := .bool false) (congrArg Value.bool hcu)<|zR<|zV (r_loadB1 ti42.und rfl rfl (hS106.heap Z2) rfl)<|zV (r_len (T := 42) rfl ti42.und rfl _ rfl) ?_
                refine wl_dec (r_neq rfl rfl) rfl (fun h29_2 => ?_) (fun h29_2 => ?_)
                · refine zq 12 rfl<|zN<|zT<|zt rfl<|zS<|zR<|zV (r_loadB ti51 ag51 rfl (hS106.heap Z0) Ln) ?_
                  refine zY (x_storeW [] hS106 ti51 rfl rfl rfl rfl (one_all rfl)) ?_; intro w109 hS110; simp only [ca, na] at hS110; refine zq 1 rfl<|zN<|zT<|zU<|zL<|ret2 Tryz.results24 ⟨_, rfl, run_loadVar_blk ti51 ag51 (hS110.heap Z0) rfl⟩ rfl ?_
                  have hF := hS110; exact parseRule_ok_c2
                refine zq 12 rfl<|zN<|zT<|zt rfl<|zS<|zR<|zV (r_loadB ti51 ag51 rfl (hS106.heap Z0) Ln) ?_; refine zY (x_storeW [] hS106 ti51 rfl rfl rfl rfl (one_all rfl)) ?_; intro w111 hS112; simp only [ca, na] at hS112; refine zq 1 rfl<|zN<|zT<|zU<|zL<|ret2 Tryz.results24 ⟨_, rfl, run_loadVar_blk ti51 ag51 (hS112.heap Z0) rfl⟩ rfl ?_
                have hF := hS112; exact parseRule_ok_c2
              have hS104 := hS101.ext hx103; refine zq 3 rfl<|zV (r_field fa51_5 rfl)<|zY (x_store1 [] hS104 ti3 rfl rfl rfl (by simp)) ?_; intro w113 hS114; simp only [ca, na] at hS114; refine zq 1 rfl<|zN<|zT<|zS ?_
              rcases bool_casesX (Lib.cut (gt (secA kAT (wk3 ws.tail)) 0) [45]).2.2 with hcu | hcu
              · refine c_set (d := 15) (v := .bool true) (congrArg Value.bool hcu)<|zR<|zV (r_loadB1 ti42.und rfl rfl (hS114.heap Z2) rfl)<|zV (r_len (T := 42) rfl ti42.und rfl _ rfl) ?_
                refine wl_dec (r_neq rfl rfl) rfl (fun h29_2 => ?_) (fun h29_2 => ?_)
                · refine zq 12 rfl<|zN<|zT<|zt rfl<|zS<|zR<|zV (r_loadB ti51 ag51 rfl (hS114.heap Z0) Ln) ?_
                  refine zY (x_storeW [] hS114 ti51 rfl rfl rfl rfl (one_all rfl)) ?_; intro w115 hS116; simp only [ca, na] at hS116; refine zq 1 rfl<|zN<|zT<|zU<|zL<|ret2 Tryz.results24 ⟨_, rfl, run_loadVar_blk ti51 ag51 (hS116.heap Z0) rfl⟩ rfl ?_
                  have hF := hS116; exact parseRule_ok_c2
                refine zq 12 rfl<|zN<|zT<|zt rfl<|zS<|zR<|zV (r_loadB ti51 ag51 rfl (hS114.heap Z0) Ln) ?_; refine zY (x_storeW [] hS114 ti51 rfl rfl rfl rfl (one_all rfl)) ?_; intro w117 hS118; simp only [ca, na] at hS118; refine zq 1 rfl<|zN<|zT<|zU<|zL<|ret2 Tryz.results24 ⟨_, rfl, run_loadVar_blk ti51 ag51 (hS118.heap Z0) rfl⟩ rfl ?_
                have hF := hS118; exact parseRule_ok_c2
              refine c_set (d := 15) (v := .bool false) (congrArg Value.bool hcu)<|zR<|zV (r_loadB1 ti42.und rfl rfl (hS114.heap Z2) rfl)<|zV (r_len (T := 42) rfl ti42.und rfl _ rfl) ?_
              refine wl_dec (r_neq rfl rfl) rfl (fun h29_2 => ?_) (fun h29_2 => ?_)
              · refine zq 12 rfl<|zN<|zT<|zt rfl<|zS<|zR<|zV (r_loadB ti51 ag51 rfl (hS114.heap Z0) Ln) ?_
                refine zY (x_storeW [] hS114 ti51 rfl rfl rfl rfl (one_all rfl)) ?_; intro w119 hS120; simp only [ca, na] at hS120; refine zq 1 rfl<|zN<|zT<|zU<|zL<|ret2 Tryz.results24 ⟨_, rfl, run_loadVar_blk ti51 ag51 (hS120.heap Z0) rfl⟩ rfl ?_
                have hF := hS120; exact parseRule_ok_c2
              refine zq 12 rfl<|zN<|zT<|zt rfl<|zS<|zR<|zV (r_loadB ti51 ag51 rfl (hS114.heap Z0) Ln) ?_; refine zY (x_storeW [] hS114 ti51 rfl rfl rfl rfl (one_all rfl)) ?_; intro w121 hS122; simp only [ca, na] at hS122; refine zq 1 rfl<|zN<|zT<|zU<|zL<|ret2 Tryz.results24 ⟨_, rfl, run_loadVar_blk ti51 ag51 (hS122.heap Z0) rfl⟩ rfl ?_
              have hF := hS122; exact parseRule_ok_c2
            have hS99 := hS96.ext hx98; refine zq 3 rfl<|zV (r_field fa51_4 rfl)<|zY (x_store1 [] hS99 ti3 rfl rfl rfl (by simp)) ?_; intro w123 hS124; simp only [ca, na] at hS124; refine zq 1 rfl<|zN<|zT<|zS<|zR<|zq 1 rfl<|zC fn49 rfl (small_ok (Lib.cut (gt (secA kAT (wk3 ws.tail)) 0) [45]).2.1 _ (Nat.le_trans (cut_le _ _).2 (Nat.le_trans (hll _ (wk3_mem (secA_mem (gt_mem (secA kAT (wk3 ws.tail)) 0 Om)))) (by decide))) (hv.st hS124)) ?_
            rintro _ w125 (⟨hsb, rfl, hx126⟩ | ⟨hsb, ⟨nhsb, rfl⟩, hx126⟩)
            · have hS127 := hS124.ext hx126
              refine zq 3 rfl<|zV (r_field fa51_5 rfl)<|zY (x_store1 [] hS127 ti3 rfl rfl rfl (by simp)) ?_; intro w128 hS129; simp only [ca, na] at hS129; refine zq 1 rfl<|zN<|zT<|zS ?_
              rcases bool_casesX (Lib.cut (gt (secA kAT (wk3 ws.tail)) 0) [45]).2.2 with hcu | hcu
              · refine c_set (d := 15) (v := .bool true) (congrArg Value.bool hcu)<|zR<|zV (r_loadB1 ti42.und rfl rfl (hS129.heap Z2) rfl)<|zV (r_len (T := 42) rfl ti42.und rfl _ rfl) ?_
                refine wl_dec (r_neq rfl rfl) rfl (fun h29_2 => ?_) (fun h29_2 => ?_)
                · refine zq 12 rfl<|zN<|zT<|zt rfl<|zS<|zR<|zV (r_loadB ti51 ag51 rfl (hS129.heap Z0) Ln) ?_
                  refine zY (x_storeW [] hS129 ti51 rfl rfl rfl rfl (one_all rfl)) ?_; intro w130 hS131; simp only [ca, na] at hS131; refine zq 1 rfl<|zN<|zT<|zU<|zL<|ret2 Tryz.results24 ⟨_, rfl, run_loadVar_blk ti51 ag51 (hS131.heap Z0) rfl⟩ rfl ?_
                  have hF := hS131; exact parseRule_ok_c2
                refine zq 12 rfl<|zN<|zT<|zt rfl<|zS<|zR<|zV (r_loadB ti51 ag51 rfl (hS129.heap Z0) Ln) ?_; refine zY (x_storeW [] hS129 ti51 rfl rfl rfl rfl (one_all rfl)) ?_; intro w132 hS133; simp only [ca, na] at hS133; refine zq 1 rfl<|zN<|zT<|zU<|zL<|ret2 Tryz.results24 ⟨_, rfl, run_loadVar_blk ti51 ag51 (hS133.heap Z0) rfl⟩ rfl ?_
                have hF := hS133; exact parseRule_ok_c2
              refine c_set (d := 15) (v := .bool false) (congrArg Value.bool hcu)<|zR<|zV (r_loadB1 ti42.und rfl rfl (hS129.heap Z2) rfl)<|zV (r_len (T := 42) rfl ti42.und rfl _ rfl) ?_
              refine wl_dec (r_neq rfl rfl) rfl (fun h29_2 => ?_) (fun h29_2 => ?_)
              · refine zq 12 rfl<|zN<|zT<|zt rfl<|zS<|zR<|zV (r_loadB ti51 ag51 rfl (hS129.heap Z0) Ln) ?_
                refine zY (x_storeW [] hS129 ti51 rfl rfl rfl rfl (one_all rfl)) ?_; intro w134 hS135; simp only [ca, na] at hS135; refine zq 1 rfl<|zN<|zT<|zU<|zL<|ret2 Tryz.results24 ⟨_, rfl, run_loadVar_blk ti51 ag51 (hS135.heap Z0) rfl⟩ rfl ?_
                have hF := hS135; exact parseRule_ok_c2
              refine zq 12 rfl<|zN<|zT<|zt rfl<|zS<|zR<|zV (r_loadB ti51 ag51 rfl (hS129.heap Z0) Ln) ?_; refine zY (x_storeW [] hS129 ti51 rfl rfl rfl rfl (one_all rfl)) ?_; intro w136 hS137; simp only [ca, na] at hS137; refine zq 1 rfl<|zN<|zT<|zU<|zL<|ret2 Tryz.results24 ⟨_, rfl, run_loadVar_blk ti51 ag51 (hS137.heap Z0) rfl⟩ rfl ?_
              have hF := hS137; exact parseRule_ok_c2
            have hS127 := hS124.ext hx126; refine zq 3 rfl<|zV (r_field fa51_5 rfl)<|zY (x_store1 [] hS127 ti3 rfl rfl rfl (by simp)) ?_; intro w138 hS139; simp only [ca, na] at hS139; refine zq 1 rfl<|zN<|zT<|zS ?_
            rcases bool_casesX (Lib.cut (gt (secA kAT (wk3 ws.tail)) 0) [45]).2.2 with hcu | hcu
            · refine c_set (d := 15) (v := .bool true) (congrArg Value.bool hcu)<|zR<|zV (r_loadB1 ti42.und rfl rfl (hS139.heap Z2) rfl)<|zV (r_len (T := 42) rfl ti42.und rfl _ rfl) ?_
              refine wl_dec (r_neq rfl rfl) rfl (fun h29_2 => ?_) (fun h29_2 => ?_)
              · refine zq 12 rfl<|zN<|zT<|zt rfl<|zS<|zR<|zV (r_loadB ti51 ag51 rfl (hS139.heap Z0) Ln) ?_
                refine zY (x_storeW [] hS139 ti51 rfl rfl rfl rfl (one_all rfl)) ?_; intro w140 hS141; simp only [ca, na] at hS141; refine zq 1 rfl<|zN<|zT<|zU<|zL<|ret2 Tryz.results24 ⟨_, rfl, run_loadVar_blk ti51 ag51 (hS141.heap Z0) rfl⟩ rfl ?_
                have hF := hS141; exact parseRule_ok_c2
              refine zq 12 rfl<|zN<|zT<|zt rfl<|zS<|zR<|zV (r_loadB ti51 ag51 rfl (hS139.heap Z0) Ln) ?_; refine zY (x_storeW [] hS139 ti51 rfl rfl rfl rfl (one_all rfl)) ?_; intro w142 hS143; simp only [ca, na] at hS143; refine zq 1 rfl<|zN<|zT<|zU<|zL<|ret2 Tryz.results24 ⟨_, rfl, run_loadVar_blk ti51 ag51 (hS143.heap Z0) rfl⟩ rfl ?_
              have hF := hS143; exact parseRule_ok_c2
            refine c_set (d := 15) (v := .bool false) (congrArg Value.bool hcu)<|zR<|zV (r_loadB1 ti42.und rfl rfl (hS139.heap Z2) rfl)<|zV (r_len (T := 42) rfl ti42.und rfl _ rfl) ?_
            refine wl_dec (r_neq rfl rfl) rfl (fun h29_2 => ?_) (fun h29_2 => ?_)
            · refine zq 12 rfl<|zN<|zT<|zt rfl<|zS<|zR<|zV (r_loadB ti51 ag51 rfl (hS139.heap Z0) Ln) ?_
              refine zY (x_storeW [] hS139 ti51 rfl rfl rfl rfl (one_all rfl)) ?_; intro w144 hS145; simp only [ca, na] at hS145; refine zq 1 rfl<|zN<|zT<|zU<|zL<|ret2 Tryz.results24 ⟨_, rfl, run_loadVar_blk ti51 ag51 (hS145.heap Z0) rfl⟩ rfl ?_
              have hF := hS145; exact parseRule_ok_c2
            refine zq 12 rfl<|zN<|zT<|zt rfl<|zS<|zR<|zV (r_loadB ti51 ag51 rfl (hS139.heap Z0) Ln) ?_; refine zY (x_storeW [] hS139 ti51 rfl rfl rfl rfl (one_all rfl)) ?_; intro w146 hS147; simp only [ca, na] at hS147; refine zq 1 rfl<|zN<|zT<|zU<|zL<|ret2 Tryz.results24 ⟨_, rfl, run_loadVar_blk ti51 ag51 (hS147.heap Z0) rfl⟩ rfl ?_
            have hF := hS147; exact parseRule_ok_c2
          refine zN<|zT<|zf rfl<|zK<|zT ?_
          have hag := at_none (t := ws.tail) hk4 Om
          exact ⟨_, rfl, ⟨0, 0, (hS71.perm ((List.Perm.cons _ ((List.Perm.cons _ (List.Perm.refl _)).trans (List.perm_middle (l₁ := [_])).symm)).trans (List.perm_middle (l₁ := [_])).symm)).drop1.drop1, hag.1, hag.2⟩, ⟨rfl, rfl, trivial⟩⟩
        · rintro e90 w91 ⟨fr, tt, hS92, hatk, hft⟩ -
          refine c_cutE [2] (fun e w' => ∃ (nd : Int) (of : List UInt8), St w [] w' [.blk b2 (cl [.bool (headIs kDENY ws), .slice p1 ((secA kROLE ws.tail)).length q1, .slice aa ((actsV (secA kACT (wk1 ws.tail))).length) cb, .slice p3 ((secA kON (wk2 ws.tail))).length q3, .int .i64 fr, .int .i64 tt, .int .i64 nd, sv of] 51), .row (.slice aa (actsV (secA kACT (wk1 ws.tail))).length cb) 3 1 (actsV (secA kACT (wk1 ws.tail))).length ((actsV (secA kACT (wk1 ws.tail))).map iv)] ∧ (needOk ws.tail = true) ∧ (nd = ndT ws.tail ∧ of = ofT ws.tail) ∧ (of.length ≤ 65536)) ?_ ?_
          · refine zS<|zR<|zV (r_loadB1 ti42.und rfl rfl (hS92.heap Z1) rfl)<|zV (r_len (T := 42) rfl ti42.und rfl _ rfl) ?_
            refine wl_dec (r_gtr rfl rfl) rfl (fun h31_2 => ?_) (fun h31_2 => ?_)
            · refine zN<|zT<|zt rfl<|zS<|zS<|zR<|zV (r_loadB1 ti42.und rfl rfl (hS92.heap Z1) rfl)<|zV (r_len (T := 42) rfl ti42.und rfl _ rfl) ?_
              refine wl_dec (r_neq rfl rfl) rfl (fun h32_2 => ?_) (fun h32_2 => ?_)
              · refine zN<|zT<|zt rfl<|zS<|zR<|zV (r_loadB ti51 ag51 rfl (hS92.heap Z0) Ln) ?_
                refine zY (x_storeW [] hS92 ti51 rfl rfl rfl rfl (one_all rfl)) ?_; intro w152 hS153; simp only [ca, na] at hS153; refine zq 1 rfl<|zN<|zT<|zU<|zL<|zL<|ret2 Tryz.results24 ⟨_, rfl, run_loadVar_blk ti51 ag51 (hS153.heap Z0) rfl⟩ rfl ?_
                have hF := hS153; exact parseRule_ok_c3
              refine zN<|zT<|zf rfl<|zK<|zT<|zS<|zS<|zR<|zV (r_loadB1 ti42.und rfl rfl (hS92.heap Z1) rfl)<|zV (r_ixS (m := 0) ti42.und ti9 rfl rfl (hr5.st hS92) Sd Ln) ?_; refine zV (r_loadS1 ti9.und rfl rfl (hr5.st hS92) (by rw [Nat.mul_one]; exact map_gt _ _ _ Sd)) ?_; refine zC fn49 rfl (small_ok (gt (secA kNEED (wk4 ws.tail)) 0) _ (Nat.le_trans (hll _ (wk4_mem (secA_mem (gt_mem (secA kNEED (wk4 ws.tail)) 0 Om)))) (by decide)) (hv.st hS92)) ?_
              rintro _ w154 (⟨hsm, rfl, hx155⟩ | ⟨hsm, ⟨nhsm, rfl⟩, hx155⟩)
              · have hS156 := hS92.ext hx155
                refine zq 3 rfl<|zV (r_field fa51_6 rfl)<|zY (x_store1 [] hS156 ti3 rfl rfl rfl (by simp)) ?_; intro w157 hS158; simp only [ca, na] at hS158; refine zq 1 rfl<|zN<|zT<|zS<|zR<|zq 2 rfl<|zN<|zT<|zf rfl<|zK<|zT<|zR<|zV (r_loadB1 ti42.und rfl rfl (hS158.heap Z1) rfl)<|zV (r_ixS (m := 1) ti42.und ti9 rfl rfl (hr5.st hS158) Sd Ln) ?_; refine zV (r_loadS1 ti9.und rfl rfl (hr5.st hS158) (by rw [Nat.mul_one]; exact map_gt _ _ _ Sd)) ?_; refine zV (r_field fa51_7 rfl)<|zY (x_store1 [] hS158 ti9 rfl rfl rfl (by simp)) ?_; intro w159 hS160; simp only [ca, na] at hS160; refine zN<|zT ?_
                have hag := need_good (t := ws.tail) Om Om hsm
                exact ⟨_, rfl, ⟨_, _, (hS160.perm ((List.Perm.cons _ (List.Perm.refl _)).trans (List.perm_middle (l₁ := [_])).symm)).drop1, hag.1, hag.2, hll _ (wk4_mem (secA_mem (gt_mem (secA kNEED (wk4 ws.tail)) 1 Om)))⟩, ⟨rfl, trivial⟩⟩
              have hS156 := hS92.ext hx155; refine zq 3 rfl<|zV (r_field fa51_6 rfl)<|zY (x_store1 [] hS156 ti3 rfl rfl rfl (by simp)) ?_; intro w161 hS162; simp only [ca, na] at hS162; refine zq 1 rfl<|zN<|zT<|zS<|zR<|zq 2 rfl<|zN<|zT<|zt rfl<|zS<|zR<|zV (r_loadB ti51 ag51 rfl (hS162.heap Z0) Ln) ?_; refine zY (x_storeW [] hS162 ti51 rfl rfl rfl rfl (one_all rfl)) ?_; intro w163 hS164; simp only [ca, na] at hS164; refine zq 1 rfl<|zN<|zT<|zU<|zL<|zL<|ret2 Tryz.results24 ⟨_, rfl, run_loadVar_blk ti51 ag51 (hS164.heap Z0) rfl⟩ rfl ?_
              have hF := hS164; exact parseRule_ok_c3
            refine zN<|zT<|zf rfl<|zK<|zT ?_
            have hag := need_none (t := ws.tail) hk5 Om
            exact ⟨_, rfl, ⟨0, [], (hS92.perm ((List.Perm.cons _ (List.Perm.refl _)).trans (List.perm_middle (l₁ := [_])).symm)).drop1, hag.1, hag.2, Nat.zero_le _⟩, ⟨rfl, trivial⟩⟩
          · rintro e148 w149 ⟨nd, of, hS150, hnd, hno, hofl⟩ -
            refine zS<|zR<|zV (r_loadB ti51 ag51 rfl (hS150.heap Z0) Ln) ?_; refine zY (x_storeW [] hS150 ti51 rfl rfl rfl rfl (one_all rfl)) ?_; intro w165 hS166; simp only [ca, na] at hS166; refine zq 1 rfl<|zN<|zT<|zU<|ret2 Tryz.results24 ⟨_, rfl, run_loadVar_blk ti51 ag51 (hS166.heap Z0) rfl⟩ rfl ?_
            exact .inr ⟨⟨headIs kDENY ws, p1, secA kROLE ws.tail, q1, aa, actsV (secA kACT (wk1 ws.tail)), cb, p3, secA kON (wk2 ws.tail), q3, fr, tt, nd, of⟩, ruleT_some hbg rfl (rest_all hk1 hk2 hact hk3 hatk hnd) hlen (fun _ => rfl) (fun _ => hft) (fun _ => hno), rule_okT hp1 hp3 hq1 hq3 hcb hll hn hofl (by have h1 := actsV_len (secA kACT (wk1 ws.tail)); have h2 := secA_le kACT (wk1 ws.tail); have h3 := (w_le ws.tail).1; rw [List.length_tail] at h3; omega), hp1, hp3, rfl, hS166.drop1⟩

end Go.Proofs.YtjnnhlbfgnopiaaGreatDoor
end
section
namespace Go.Proofs.YtjnnhlbfgnopiaaGreatDoor
open Go.Kw
set_option linter.unusedVariables false
set_option linter.unusedSimpArgs false
set_option maxRecDepth 100000
theorem lineWords_ok (l : List UInt8) (w : World) (hl : (ahead1 35 l).length ≤ 65536) : Ret Tryz.prog 22 [.string ⟨(ahead1 35 l).toArray⟩, .func (.func 23) #[] #[]] w (fun v w' => ∃ A : Nat, v = .slice (some ⟨A, 0, none⟩) (lineW l).length (lineW l).length ∧ St w [] w' [.row (.slice (some ⟨A, 0, none⟩) (lineW l).length (lineW l).length) 9 1 (lineW l).length ((lineW l).map sv)]) :=
  fieldsF_ok (ahead1 35 l) w hl

set_option maxHeartbeats 4000000 in
theorem rparse_ok (l : List UInt8) (w : World) (hv : VF w) :
    Ret Tryz.prog 7 [.string ⟨(l).toArray⟩] w (fun v w' => (∃ (n : Nat) (e : Int), PolT l [] n e ∧ ¬ e = 0 ∧ v = .tuple #[.agg #[.slice none 0 0], vi n, .int .i64 e] ∧ St w [] w' []) ∨ (∃ (rs : List RuleD) (a : Option Addr) (c : Nat) (LT : List Kw.Item), PolT l (rs.map nrmR) 0 0 ∧ RulesP LT rs ∧ rs.length ≤ c ∧ v = .tuple #[.agg #[.slice a rs.length c], vi 0, vi 0] ∧ St w [] w' (.row (.slice a rs.length c) 51 8 rs.length (rs.flatMap RuleD.v) :: LT))) := by
  refine enter Tryz.func7 rfl Tryz.ntmps7 rfl ?_
  have hS := St.refl w []
  refine zS<|zR<|zA (C := [.slice none 0 0]) hS ti25 rfl fun b2 w1 hS2=>zq 2 rfl<|zN<|zT<|zS<|zS<|zR<|zq 1 rfl<|zV (r_lenStrL (T := 9) rfl ti9.und rfl _ rfl) ?_
  refine wl_dec (r_gtr rfl rfl) rfl (fun h1_2 => ?_) (fun h1_2 => ?_)
  · refine zN<|zT<|zt rfl<|zS<|zR<|zV (r_buildZ pl25 ti25)<|zY (x_storeW [] hS2 ti25 rfl rfl rfl rfl (one_all rfl)) ?_
    intro w3 hS4; simp only [ca, na] at hS4; refine zq 2 rfl<|zN<|zT<|zU<|zL<|ret3 Tryz.results7 ⟨_, rfl, run_loadVar_blk ti25 ag25 (hS4.heap Z0) rfl⟩ rfl rfl ?_
    exact .inl ⟨0, 5, .large Om, by decide, rfl, hS4.fin⟩
  refine zN<|zT<|zf rfl<|zK<|zT<|zS<|zR<|zA (C := [.slice none 0 0]) hS2 ti25 rfl fun b5 w5 hS6=>zN<|zT<|zS<|zS<|zR<|zq 1 rfl<|zC fn16 rfl (split_ok 10 l _ Om (hv.st hS6)) ?_; rintro _ w7 ⟨bS, rfl, hx8⟩
  have hS9 := hS6.call hx8
  simp only [ca, na] at hS9; refine zV (r_len (T := 42) rfl ti42.und rfl _ rfl)<|zq 1 rfl<|zN<|zT<|zI ?_
  refine c_loopE [2, 5, 17, 18] (fun d e w' => ∃ (k : Nat) (aR : Option Addr) (cR : Nat) (rs : List RuleD) (LT : List Kw.Item), Kw.look e 19 = vi k ∧ d = (splitC 10 l).length - k ∧ St w [] w' (.row (.slice aR rs.length cR) 51 8 rs.length (rs.flatMap RuleD.v) :: .blk b5 (cl [.slice aR rs.length cR] 25) :: .blk b2 (cl [.slice none 0 0] 25) :: .blk bS (cl ((splitC 10 l).map sv) 9) :: LT) ∧ (k ≤ (splitC 10 l).length) ∧ (RulesP LT rs) ∧ (rs.map nrmR = linesR ((splitC 10 l).take k)) ∧ (∀ j, j < k → lineBad (gt (splitC 10 l) j) = false) ∧ (rs.length ≤ k) ∧ (rs.length ≤ cR)) ((splitC 10 l).length - 0) ?_ ?_
  · have hS99 := St.nilRow (E := 51) (sz := 8) (hS9.perm ((List.Perm.cons _ ((List.Perm.cons _ (List.Perm.refl _)).trans (List.perm_middle (l₁ := [_])).symm)).trans (List.perm_middle (l₁ := [_])).symm))
    exact ⟨0, none, 0, [], [], rfl, rfl, hS99, Nat.zero_le _, RulesP.nil, rfl, (fun j hj => absurd hj (Nat.not_lt_zero _)), Nat.le_refl _, Nat.le_refl _⟩
  · rintro d13 e10 w11 ⟨k, aR, cR, rs, LT, hc0_19, rfl, hS12, hk, hT, hmap, hno, hrk, hcR⟩ -
    refine c_set (d := 19) hc0_19<|zS<|zR ?_
    refine wl_dec (r_lss rfl rfl) rfl (fun h5_0 => ?_) (fun h5_0 => ?_)
    · refine zN<|zT<|zS<|zt rfl<|zK<|zT<|zS<|zI<|zS ?_
      have hsl := splitC_le 10 l
      have hlk := hsl.2 _ (gt_mem (splitC 10 l) k Om)
      have hlw := lineW_le (gt (splitC 10 l) k)
      refine zR<|zq 1 rfl<|zV (r_ixB ti42.und ti9 rfl rfl Sd) ?_; refine zV (r_loadB1 ti9.und rfl rfl (hS12.heap Z3) (map_gt _ _ _ Sd)) ?_; refine zq 2 rfl<|zN<|zT<|zS<|zR<|zq 1 rfl<|zC fn17 rfl (hash_ok (gt (splitC 10 l) k) _ Om (hv.st hS12)) ?_; rintro _ w14 ⟨x1, x2, rfl, hx15⟩; have hS16 := hS12.ext hx15; refine zq 5 rfl<|zN<|zT<|zS<|zR<|zq 1 rfl<|zC fn22 rfl (lineWords_ok (gt (splitC 10 l) k) _ (by have := ahead1_le 35 (gt (splitC 10 l) k); omega)) ?_; rintro _ w17 ⟨aW, rfl, hx18⟩
      have hS19 := hS16.call hx18
      simp only [ca, na] at hS19; refine zq 1 rfl<|zN<|zT<|zS<|zS<|zR<|zq 1 rfl<|zV (r_len (T := 42) rfl ti42.und rfl _ rfl) ?_
      refine wl_dec (r_eql rfl rfl) rfl (fun h9_2 => ?_) (fun h9_2 => ?_)
      · refine zN<|zT<|zt rfl<|zO<|zM<|c_inE<|zT<|zR<|zV (r_addn (b := 1) rfl rfl Om)<|zq 1 rfl<|zN<|zT ?_
        have hlw := len0 (show (lineW (gt (splitC 10 l) k)).length = 0 by omega)
        exact ⟨(splitC 10 l).length - (k + 1), _, by omega, rfl, ⟨k + 1, aR, cR, rs, LT, rfl, rfl, hS19.drop1, by omega, hT, by rw [linesR_step Om, lineR_empty hlw, List.append_nil]; exact hmap, (fun j hj => (Nat.lt_succ_iff_lt_or_eq.1 hj).elim (hno j) (fun e => e ▸ lineBad_e hlw)), by omega, hcR⟩, ⟨rfl, rfl, rfl, rfl, trivial⟩⟩
      refine zN<|zT<|zf rfl<|zK<|zT<|zS<|zR<|zq 1 rfl<|zC fn24 rfl (parseRule_ok (lineW (gt (splitC 10 l) k)) _ _ _ (St.rowAt hS19 Z0) (Nat.le_refl _) Om (fun x hx => Nat.le_trans (hlw.2 x (List.mem_of_mem_tail hx)) Om) (hv.st hS19) Om) ?_
      rintro _ w20 (⟨hrt, ⟨r0, rfl⟩, hx21⟩ | ⟨r, hrt, hrok, hr1, hr2, rfl, hx21⟩)
      · have hS22 := hS19.ext hx21
        refine zq 3 rfl<|zA (C := [.bool false, .slice none 0 0, .slice none 0 0, .slice none 0 0, .int .i64 0, .int .i64 0, .int .i64 0, .string ⟨#[]⟩]) hS22 ti51 rfl fun b9 w23 hS24=>zY (x_storeW [] hS24 ti51 rfl rfl (rule_v8 _) (by rfl) (one_rule _)) ?_; intro w25 hS26; simp only [ca, na] at hS26; refine zq 1 rfl<|zN<|zT<|zS<|zS<|zR<|zq 2 rfl<|zN<|zT<|zt rfl<|zS<|zR<|zV (r_buildZ pl25 ti25)<|zq 1 rfl<|zY (x_storeW [_, _, _, _] hS26 ti25 rfl rfl rfl rfl (one_all rfl)) ?_; intro w27 hS28; simp only [ca, na] at hS28; refine zq 2 rfl<|zN<|zT<|zU<|zL<|zH<|zL<|zL<|zH<|zL<|ret3 Tryz.results7 ⟨_, rfl, run_loadVar_blk ti25 ag25 (hS28.heap Z4) rfl⟩ rfl rfl ?_
        exact .inl ⟨k, 11, .wrong Om Om (lineBad_n (fun e => by have := congrArg List.length e; rw [List.length_nil] at this; omega) hrt) hno, by decide, rfl, hS28.fin⟩
      have hS22 := hS19.call hx21
      simp only [ca, na] at hS22; refine zq 3 rfl<|zA (C := [.bool false, .slice none 0 0, .slice none 0 0, .slice none 0 0, .int .i64 0, .int .i64 0, .int .i64 0, .string ⟨#[]⟩]) hS22 ti51 rfl fun b9 w29 hS30=>zY (x_storeW [] hS30 ti51 rfl rfl (rule_v8 _) (by rfl) (one_rule _)) ?_; intro w31 hS32; simp only [ca, na] at hS32; refine zq 1 rfl<|zN<|zT<|zS<|zS<|zR<|zq 2 rfl<|zN<|zT<|zf rfl<|zK<|zT<|zR<|zF fa25_0 rfl ti23.und rfl (hS32.heap Z4) rfl rfl rfl<|zV (r_loadB ti51 ag51 rfl (hS32.heap Z0) (rule_v8 _))<|zX (x_litA1 hS32 ti23.und ti51 rfl (rule_v8 _) rfl (by decide) (by decide)) ?_; rintro _ w33 ⟨b47, rfl, hS34⟩; refine zX (x_append [_, _, _, _] hS34 ti23.und ti51 rfl (by decide) rfl rfl (Row.of_at (at_all (hS34.heap Z0))) (rule_v8 _) (one_rule _) Sd Sd _ rfl) ?_; rintro _ w35 ⟨aq37, cq37, rfl, hcq37, hS36⟩; simp only [ca, na] at hS36; refine zV (r_field fa25_0 rfl)<|zY (x_store1 [_, _, _, _, _] hS36 ti23 rfl rfl rfl (by simp)) ?_; intro w38 hS39; simp only [ca, na] at hS39; refine zN<|zJ<|zT<|zR<|zV (r_addn (b := 1) rfl rfl Om)<|zq 1 rfl<|zN<|zT ?_
      have el : (rs ++ [r]).length = rs.length + 1 := by rw [List.length_append]; rfl
      have hS40 := St.reRow1 (k := (rs ++ [r]).length) (zs := (rs ++ [r]).flatMap RuleD.v) (hS39.perm (List.Perm.cons _ (List.Perm.cons _ ((List.Perm.cons _ ((List.Perm.cons _ ((List.Perm.cons _ ((List.Perm.cons _ (List.Perm.refl _)).trans (List.perm_middle (l₁ := [_, _])).symm)).trans (List.perm_middle (l₁ := [_, _])).symm)).trans (List.perm_middle (l₁ := [_, _])).symm)).trans (List.perm_middle (l₁ := [_, _])).symm)))).drop1.drop1 el (by rw [List.flatMap_append]; simp)
      rw [← el] at hS40
      exact ⟨(splitC 10 l).length - (k + 1), _, by omega, rfl, ⟨k + 1, _, _, _, _, rfl, rfl, hS40, by omega, hT.add hrok hr1 hr2 hold_row, by rw [linesR_step Om, lineR_some hrt, List.map_append, hmap]; rfl, (fun j hj => (Nat.lt_succ_iff_lt_or_eq.1 hj).elim (hno j) (fun e => e ▸ lineBad_s hrt)), by omega, by omega⟩, ⟨rfl, rfl, rfl, rfl, trivial⟩⟩
    refine zN<|zT<|zS<|zf rfl<|zO<|zM<|zM<|c_inE<|zT<|zS<|zS ?_
    have hsl := splitC_le 10 l
    obtain rfl : k = (splitC 10 l).length := by omega
    rw [List.take_length] at hmap
    refine zR<|zV (r_loadB ti25 ag25 rfl (hS12.heap Z1) Ln) ?_; refine zE fn9 rfl hS12 (rcheck_ok rs aR rs.length cR _ (St.rowAt hS12 Z0) rfl Om (hT _ (hS12.hold fun x hx => by simp [hx]))) fun w41 hS43=> ?_; refine zq 1 rfl<|zN<|zT<|zS<|zR<|zq 1 rfl ?_
    refine wl_dec (r_neq rfl rfl) rfl (fun h16_1 => ?_) (fun h16_1 => ?_)
    · refine zN<|zT<|zt rfl<|zS ?_
      have hpe := h16_1
      refine zR<|zV (r_buildZ pl25 ti25)<|zq 1 rfl<|zY (x_storeW [_, _] hS43 ti25 rfl rfl rfl rfl (one_all rfl)) ?_; intro w44 hS45; simp only [ca, na] at hS45; refine zq 2 rfl<|zN<|zT<|zU<|zL<|ret3 Tryz.results7 ⟨_, rfl, run_loadVar_blk ti25 ag25 (hS45.heap Z2) rfl⟩ rfl rfl ?_
      exact .inl ⟨0, polE rs, by rw [← polE_nrmR, hmap]; exact .bad Om hno (by rw [← hmap, polE_nrmR]; exact hpe), hpe, rfl, hS45.fin⟩
    refine zN<|zT<|zf rfl<|zK<|zT<|zS ?_
    have hpe := Classical.not_not.1 h16_1
    refine zR<|zV (r_loadB ti25 ag25 rfl (hS43.heap Z1) Ln) ?_; refine zY (x_storeW [_, _] hS43 ti25 rfl rfl rfl rfl (one_all rfl)) ?_; intro w46 hS47; simp only [ca, na] at hS47; refine zq 2 rfl<|zN<|zT<|zU<|ret3 Tryz.results7 ⟨_, rfl, run_loadVar_blk ti25 ag25 (hS47.heap Z2) rfl⟩ rfl rfl ?_
    exact .inr ⟨rs, aR, cR, LT, by rw [hmap]; exact .good Om hno (by rw [← hmap, polE_nrmR]; exact hpe), hT, hcR, rfl, (hS47.perm ((List.Perm.cons _ ((List.Perm.cons _ ((List.Perm.cons _ (List.Perm.refl _)).trans (List.perm_middle (l₁ := [_])).symm)).trans (List.perm_middle (l₁ := [_])).symm)).trans (List.perm_middle (l₁ := [_])).symm)).drop1.drop1.drop1⟩

end Go.Proofs.YtjnnhlbfgnopiaaGreatDoor
end
