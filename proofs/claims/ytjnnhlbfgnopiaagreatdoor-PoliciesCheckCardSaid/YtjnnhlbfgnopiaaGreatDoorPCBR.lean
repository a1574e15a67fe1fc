/- What the law's proof leans on. No condition. -/
import Derived.Test.YtjnnhlbfgnopiaaGreatDoorPCAI
import Derived.Test.YtjnnhlbfgnopiaaGreatDoorPCBN
import Derived.Test.YtjnnhlbfgnopiaaGreatDoorPCBQ
import Derived.Test.YtjnnhlbfgnopiaaGreatDoorPCBJ
import Derived.Test.YtjnnhlbfgnopiaaGreatDoorPCBC
section
namespace Go.Proofs.YtjnnhlbfgnopiaaGreatDoor
open Go.Kw
set_option linter.unusedVariables false
set_option linter.unusedSimpArgs false
set_option maxRecDepth 100000
theorem ruleW_pos (r : RuleD) : 0 < (ruleW r).length := by
  unfold ruleW begL; simp only [List.length_append, List.length_singleton]; omega

set_option maxHeartbeats 4000000 in
theorem ruleText_ok (r : RuleD) (w : World) (hr : RuleAt w r) (ht : Tidy r) (hv : VF w) :
    Ret Tryz.prog 60 [.agg r.v.toArray] w (fun v w' => v = .string ⟨(ruleTx r).toArray⟩ ∧ St w [] w' []) := by
  have hl1 := ht.l1
  have hl2 := ht.l2
  have hl3 := ht.l3
  have htf := ht.f
  have htt := ht.t
  have htd := ht.d
  have hif := itoa_small (n := r.fr) Om Om
  have hit := itoa_small (n := r.to) Om Om
  have hid := itoa_small (n := r.nd) Om Om
  refine enter Tryz.func60 rfl Tryz.ntmps60 rfl ?_
  have hS := St.refl w []
  refine zS<|zR<|zB (v := .agg _) hS rfl rfl fun b1 w1 hS2=>zq 1 rfl<|zN<|zT<|zS<|zR ?_; refine wl_exv (x_lit (vs := [sv kALLOW]) hS2 ti42.und ti9 rfl rfl rfl On (by decide)) rfl ?_; rintro _ w3 ⟨b6, rfl, hS4⟩; refine zq 1 rfl<|zN<|zT ?_
  refine c_cutE [1, 2, 3] (fun e w' => St w [] w' [.row (.slice (some ⟨b6, 0, none⟩) 1 1) 9 1 1 ((begL r).map sv), .blk b1 (cl r.v 51)]) ?_ ?_
  · refine zS ?_
    rcases bool_casesX r.dn with hdn | hdn
    · refine zR<|zV (r_field fa51_0 rfl)<|zV (r_loadB1 ti4.und rfl rfl (hS4.heap Z1) (by first | exact rule_dn_t hdn | exact rule_dn_f hdn)) ?_
      refine zN<|zT<|zt rfl<|zR<|zq 1 rfl<|zV (r_ixB (m := 0) ti42.und ti9 rfl rfl Sd) ?_; refine zY (x_store1 (o := 0) (v := sv kDENY) [] hS4 ti9 rfl rfl rfl (by decide)) ?_; intro w9 hS10; simp only [ca, na] at hS10; refine zN<|zT ?_
      have hS11 := St.toRow (l1 := []) (sz := 1) (n := 1) (cap := 1) hS10 (by decide) (by decide) rfl
      simp only [List.nil_append] at hS11
      have hS12 := St.reRow1 (k := 1) (zs := (begL r).map sv) hS11 rfl (by first | (rw [begL_t hdn]; rfl) | (rw [begL_f hdn]; rfl))
      exact ⟨_, rfl, hS12, ⟨rfl, rfl, rfl, trivial⟩⟩
    refine zR<|zV (r_field fa51_0 rfl)<|zV (r_loadB1 ti4.und rfl rfl (hS4.heap Z1) (by first | exact rule_dn_t hdn | exact rule_dn_f hdn)) ?_; refine zN<|zT<|zf rfl<|zK<|zT ?_
    have hS13 := St.toRow (l1 := []) (sz := 1) (n := 1) (cap := 1) hS4 (by decide) (by decide) rfl
    simp only [List.nil_append] at hS13
    have hS14 := St.reRow1 (k := 1) (zs := (begL r).map sv) hS13 rfl (by first | (rw [begL_t hdn]; rfl) | (rw [begL_f hdn]; rfl))
    exact ⟨_, rfl, hS14, ⟨rfl, rfl, rfl, trivial⟩⟩
  · rintro e5 w6 hS7 -
    refine c_cutE [1, 2] (fun e w' => ∃ (a : Option Addr) (n c : Nat) (W : Ws), Kw.look e 3 = .slice a n c ∧ St w [] w' [.row (.slice a n c) 9 1 n ((W).map sv), .blk b1 (cl r.v 51)] ∧ (W = begL r ++ partL kROLE r.ro) ∧ (n ≤ 18)) ?_ ?_
    · refine zS<|zR<|zF fa51_1 rfl ti42.und rfl (hS7.heap Z1) rfl rfl rfl<|zV (r_len (T := 42) rfl ti42.und rfl _ rfl) ?_
      refine wl_dec (r_gtr rfl rfl) rfl (fun h4_3 => ?_) (fun h4_3 => ?_)
      · refine zN<|zT<|zt rfl<|c_drawSF 5 hMixed hS7 hS7.drop1 ?_
        intro w19 hS20; refine zG 0 rfl hS20.drop1 (fun wF hF => r_move (v := .slice _ _ _) rfl) ?_; refine zG 3 rfl hS20.drop1 (fun wF hF => r_field fa51_1 rfl) ?_; refine zG 4 rfl hS20.drop1 (fun wF hF => r_loadB1 ti42.und rfl rfl (hF.heap Z0) rfl) ?_; refine zG1 1 ?_; refine o_exv rfl (x_lit (vs := [sv kROLE]) hS20 ti42.und ti9 rfl rfl rfl On (by decide)) rfl ?_; rintro _ w21 ⟨b16, rfl, hS22⟩
        refine ⟨hS22.drop1.drop1, ?_⟩
        refine zG1 2 ?_; refine o_exv rfl (x_append [_] hS22 ti42.und ti9 rfl (by decide) rfl rfl (Row.of_at (at_all (hS22.heap Z0))) rfl (one_cons rfl one_nil) Sd Sd _ rfl) rfl ?_; rintro _ w23 ⟨aq25, cq25, rfl, hcq25, hS24⟩; simp only [ca, na] at hS24
        refine ⟨hS24.drop1.drop1, ?_⟩
        refine zGT rfl ?_; refine zX (x_append [_] hS24 ti42.und ti9 rfl (by decide) rfl rfl (hr.h1.st hS24) Ln (one_map _ fun _ => rfl) Sd Sd _ rfl) ?_; rintro _ w26 ⟨aq28, cq28, rfl, hcq28, hS27⟩; simp only [ca, na] at hS27; refine zq 1 rfl<|zN<|zT ?_
        have hS29 := St.reRow1 (k := _) (zs := (begL r ++ partL kROLE r.ro).map sv) hS27.drop1 rfl (by rw [partL_cons Om]; simp [List.map_append])
        exact ⟨_, rfl, ⟨_, _, _, _, rfl, hS29, rfl, by omega⟩, ⟨rfl, rfl, trivial⟩⟩
      refine zN<|zT<|zf rfl<|zK<|zT ?_
      have hS30 := St.reRow1 (k := _) (zs := (begL r ++ partL kROLE r.ro).map sv) hS7 rfl (by rw [partL_0 Om, List.append_nil])
      exact ⟨_, rfl, ⟨_, _, _, _, rfl, hS30, rfl, by omega⟩, ⟨rfl, rfl, trivial⟩⟩
    · rintro e15 w16 ⟨a, n, c, W, hc18_3, hS17, hW, hn⟩ -
      refine c_set (d := 3) hc18_3<|zS<|zS<|zR<|zF fa51_2 rfl ti49.und rfl (hS17.heap Z1) rfl rfl rfl<|zV (r_len (T := 49) rfl ti49.und rfl _ rfl)<|zq 1 rfl<|zN<|zT<|zI ?_
      refine c_loopE [1, 2, 22, 23] (fun d e w' => ∃ (i : Nat) (a : Option Addr) (n c : Nat), Kw.look e 24 = vi i ∧ Kw.look e 3 = .slice a n c ∧ d = r.acs.length - i ∧ St w [] w' [.row (.slice a n c) 9 1 n ((W ++ partL kACT ((r.acs.take i).map actWd)).map sv), .blk b1 (cl r.v 51)] ∧ (i ≤ r.acs.length) ∧ (n ≤ 18 + 2 * i)) (r.acs.length - 0) ?_ ?_
      · have hS99 := St.reRow1 (k := _) (zs := (W ++ partL kACT ((r.acs.take 0).map actWd)).map sv) hS17 rfl (by simp [partL_nil])
        exact ⟨0, _, _, _, rfl, rfl, rfl, hS99, Nat.zero_le _, by simpa using hn⟩
      · rintro d34 e31 w32 ⟨i, a, n, c, hc0_24, hc0_3, rfl, hS33, hi, hn⟩ -
        refine c_set (d := 24) hc0_24<|c_set (d := 3) hc0_3<|zS<|zR ?_
        refine wl_dec (r_lss rfl rfl) rfl (fun h7_0 => ?_) (fun h7_0 => ?_)
        · refine zN<|zT<|zS<|zt rfl<|zK<|zT<|zS<|zI<|zS<|zR<|zq 1 rfl<|zV (r_ixS ti49.und ti3 rfl rfl (hr.h2.st hS33) Sd Ln) ?_
          refine zV (r_loadS1 ti3.und rfl rfl (hr.h2.st hS33) (by rw [Nat.mul_one]; exact map_gt _ _ _ Sd)) ?_; refine zq 2 rfl<|zN<|zT<|zS<|zS<|zR<|zq 1 rfl ?_
          refine wl_dec (r_eql rfl rfl) rfl (fun h9_1 => ?_) (fun h9_1 => ?_)
          · refine zN<|zT<|zt rfl<|zR<|zq 1 rfl ?_
            refine wl_exv (x_lit (vs := [sv kACT]) hS33 ti42.und ti9 rfl rfl rfl On (by decide)) rfl ?_; rintro _ w35 ⟨b32, rfl, hS36⟩; refine zX (x_append [_] hS36 ti42.und ti9 rfl (by decide) rfl rfl (Row.of_at (at_all (hS36.heap Z0))) rfl (one_cons rfl one_nil) Sd Sd _ rfl) ?_; rintro _ w37 ⟨aq39, cq39, rfl, hcq39, hS38⟩; simp only [ca, na] at hS38; refine zq 1 rfl<|zN<|zT ?_
            have hai := ht.a1 _ (gt_mem r.acs i Om)
            obtain ⟨m, hm, hm12⟩ : ∃ m : Nat, gt r.acs i = (m : Int) + 1 ∧ m < 12 := ⟨(gt r.acs i - 1).toNat, by omega, by omega⟩
            have hml : m < actW.length := hm12
            have hma : actWd (gt r.acs i) = gt actW m := by unfold actWd; rw [hm, Int.add_sub_cancel]; rfl
            refine zR<|zq 1 rfl<|zC fn86 rfl (actWords_ok _ (hv.st hS38)) ?_; rintro _ w40 ⟨bA, rfl, hx41⟩
            have hS42 := hS38.call hx41
            simp only [ca, na] at hS42; refine zq 1 rfl<|zV ((r_subi (a := gt r.acs i) (b := 1) rfl rfl Om Om).trans (by rw [show gt r.acs i - 1 = (m : Int) by omega])) ?_; refine zV (r_ixS (m := m) ti42.und ti9 rfl rfl (Row.of_at (at_all (hS42.heap Z0))) Om (by simp only [List.length_map]; omega)) ?_; refine zV (r_loadS1 ti9.und rfl rfl (Row.of_at (at_all (hS42.heap Z0))) (by rw [Nat.mul_one]; exact map_gt _ _ _ Sd)) ?_; refine wl_exv (x_lit (vs := [sv (gt actW m)]) hS42 ti42.und ti9 rfl rfl rfl On (by decide)) rfl ?_; rintro _ w43 ⟨b40, rfl, hS44⟩; refine zX (x_append [_, _, _] hS44 ti42.und ti9 rfl (by decide) rfl rfl (Row.of_at (at_all (hS44.heap Z0))) rfl (one_cons rfl one_nil) Sd Sd _ rfl) ?_; rintro _ w45 ⟨aq47, cq47, rfl, hcq47, hS46⟩; simp only [ca, na] at hS46; refine zq 1 rfl<|zN<|zJ<|zT<|zR<|zV (r_addn (b := 1) rfl rfl Om)<|zq 1 rfl<|zN<|zT ?_
            obtain rfl : i = 0 := by omega
            have hS48 := St.reRow1 (k := _) (zs := (W ++ partL kACT ((r.acs.take (0 + 1)).map actWd)).map sv) hS46.drop1.drop1.drop1 rfl (by rw [acts_snoc Om, if_pos rfl]; simp [List.map_append, partL_nil, hma])
            exact ⟨r.acs.length - (0 + 1), _, by omega, rfl, ⟨0 + 1, _, _, _, rfl, rfl, rfl, hS48, by omega, by omega⟩, ⟨rfl, rfl, rfl, rfl, trivial⟩⟩
          refine zN<|zT<|zf rfl<|zK<|zT ?_
          have hai := ht.a1 _ (gt_mem r.acs i Om)
          obtain ⟨m, hm, hm12⟩ : ∃ m : Nat, gt r.acs i = (m : Int) + 1 ∧ m < 12 := ⟨(gt r.acs i - 1).toNat, by omega, by omega⟩
          have hml : m < actW.length := hm12
          have hma : actWd (gt r.acs i) = gt actW m := by unfold actWd; rw [hm, Int.add_sub_cancel]; rfl
          refine zR<|zq 1 rfl<|zC fn86 rfl (actWords_ok _ (hv.st hS33)) ?_; rintro _ w49 ⟨bA, rfl, hx50⟩
          have hS51 := hS33.call hx50
          simp only [ca, na] at hS51; refine zq 1 rfl<|zV ((r_subi (a := gt r.acs i) (b := 1) rfl rfl Om Om).trans (by rw [show gt r.acs i - 1 = (m : Int) by omega])) ?_; refine zV (r_ixS (m := m) ti42.und ti9 rfl rfl (Row.of_at (at_all (hS51.heap Z0))) Om (by simp only [List.length_map]; omega)) ?_; refine zV (r_loadS1 ti9.und rfl rfl (Row.of_at (at_all (hS51.heap Z0))) (by rw [Nat.mul_one]; exact map_gt _ _ _ Sd)) ?_; refine wl_exv (x_lit (vs := [sv (gt actW m)]) hS51 ti42.und ti9 rfl rfl rfl On (by decide)) rfl ?_; rintro _ w52 ⟨b40, rfl, hS53⟩; refine zX (x_append [_, _] hS53 ti42.und ti9 rfl (by decide) rfl rfl (Row.of_at (at_all (hS53.heap Z0))) rfl (one_cons rfl one_nil) Sd Sd _ rfl) ?_; rintro _ w54 ⟨aq56, cq56, rfl, hcq56, hS55⟩; simp only [ca, na] at hS55; refine zq 1 rfl<|zN<|zJ<|zT<|zR<|zV (r_addn (b := 1) rfl rfl Om)<|zq 1 rfl<|zN<|zT ?_
          have hi0 : ¬ i = 0 := by omega
          have hS57 := St.reRow1 (k := _) (zs := (W ++ partL kACT ((r.acs.take (i + 1)).map actWd)).map sv) hS55.drop1.drop1 rfl (by rw [acts_snoc Om, if_neg hi0]; simp [List.map_append, partL_nil, hma])
          exact ⟨r.acs.length - (i + 1), _, by omega, rfl, ⟨i + 1, _, _, _, rfl, rfl, rfl, hS57, by omega, by omega⟩, ⟨rfl, rfl, rfl, rfl, trivial⟩⟩
        refine zN<|zT<|zS<|zf rfl<|zO<|zM<|zM<|c_inE<|zT ?_
        obtain rfl : i = r.acs.length := by omega
        rw [List.take_length] at hS33
        refine c_cutE [1, 2] (fun e w' => ∃ (a : Option Addr) (n c : Nat) (W : Ws), Kw.look e 3 = .slice a n c ∧ St w [] w' [.row (.slice a n c) 9 1 n ((W).map sv), .blk b1 (cl r.v 51)] ∧ (W = begL r ++ partL kROLE r.ro ++ partL kACT (r.acs.map actWd) ++ partL kON r.las) ∧ (n ≤ 70)) ?_ ?_
        · refine zS<|zR<|zF fa51_3 rfl ti42.und rfl (hS33.heap Z1) rfl rfl rfl<|zV (r_len (T := 42) rfl ti42.und rfl _ rfl) ?_
          refine wl_dec (r_gtr rfl rfl) rfl (fun h13_3 => ?_) (fun h13_3 => ?_)
          · refine zN<|zT<|zt rfl<|c_drawSF 5 hMixed hS33 hS33.drop1 ?_
            intro w62 hS63; refine zG 0 rfl hS63.drop1 (fun wF hF => r_move (v := .slice _ _ _) rfl) ?_; refine zG 3 rfl hS63.drop1 (fun wF hF => r_field fa51_3 rfl) ?_; refine zG 4 rfl hS63.drop1 (fun wF hF => r_loadB1 ti42.und rfl rfl (hF.heap Z0) rfl) ?_; refine zG1 1 ?_; refine o_exv rfl (x_lit (vs := [sv kON]) hS63 ti42.und ti9 rfl rfl rfl On (by decide)) rfl ?_; rintro _ w64 ⟨b48, rfl, hS65⟩
            refine ⟨hS65.drop1.drop1, ?_⟩
            refine zG1 2 ?_; refine o_exv rfl (x_append [_] hS65 ti42.und ti9 rfl (by decide) rfl rfl (Row.of_at (at_all (hS65.heap Z0))) rfl (one_cons rfl one_nil) Sd Sd _ rfl) rfl ?_; rintro _ w66 ⟨aq68, cq68, rfl, hcq68, hS67⟩; simp only [ca, na] at hS67
            refine ⟨hS67.drop1.drop1, ?_⟩
            refine zGT rfl ?_; refine zX (x_append [_] hS67 ti42.und ti9 rfl (by decide) rfl rfl (hr.h3.st hS67) Ln (one_map _ fun _ => rfl) Sd Sd _ rfl) ?_; rintro _ w69 ⟨aq71, cq71, rfl, hcq71, hS70⟩; simp only [ca, na] at hS70; refine zq 1 rfl<|zN<|zT ?_
            have hS72 := St.reRow1 (k := _) (zs := (begL r ++ partL kROLE r.ro ++ partL kACT (r.acs.map actWd) ++ partL kON r.las).map sv) hS70.drop1 rfl (by rw [hW, partL_cons (l := r.las) Om]; simp [List.map_append])
            exact ⟨_, rfl, ⟨_, _, _, _, rfl, hS72, rfl, by omega⟩, ⟨rfl, rfl, trivial⟩⟩
          refine zN<|zT<|zf rfl<|zK<|zT ?_
          have hS73 := St.reRow1 (k := _) (zs := (begL r ++ partL kROLE r.ro ++ partL kACT (r.acs.map actWd) ++ partL kON r.las).map sv) hS33 rfl (by rw [hW, partL_0 (l := r.las) Om, List.append_nil])
          exact ⟨_, rfl, ⟨_, _, _, _, rfl, hS73, rfl, by omega⟩, ⟨rfl, rfl, trivial⟩⟩
        · rintro e58 w59 ⟨a, n, c, W, hc61_3, hS60, hW, hn⟩ -
          refine c_set (d := 3) hc61_3 ?_
          refine c_cutE [1, 2] (fun e w' => ∃ (a : Option Addr) (n c : Nat) (W : Ws), Kw.look e 3 = .slice a n c ∧ St w [] w' [.row (.slice a n c) 9 1 n ((W).map sv), .blk b1 (cl r.v 51)] ∧ (W = begL r ++ partL kROLE r.ro ++ partL kACT (r.acs.map actWd) ++ partL kON r.las ++ atL r) ∧ (n ≤ 72)) ?_ ?_
          · refine zS<|zR<|zF fa51_4 rfl ti3.und rfl (hS60.heap Z1) rfl rfl rfl<|zF fa51_5 rfl ti3.und rfl (hS60.heap Z1) rfl rfl rfl ?_
            refine wl_dec (r_neq rfl rfl) rfl (fun h15_4 => ?_) (fun h15_4 => ?_)
            · refine zN<|zT<|zt rfl<|c_drawS 10 hMixed hS60 ?_
              intro w78 hS79; refine zG 0 rfl hS79 (fun wF hF => r_move (v := .slice _ _ _) rfl) ?_; refine zG 1 rfl hS79 (fun wF hF => r_field fa51_4 rfl) ?_; refine zG 2 rfl hS79 (fun wF hF => r_loadB1 ti3.und rfl rfl (hF.heap Z1) rfl) ?_; refine zG 5 rfl hS79 (fun wF hF => r_field fa51_5 rfl) ?_; refine zG 6 rfl hS79 (fun wF hF => r_loadB1 ti3.und rfl rfl (hF.heap Z1) rfl) ?_; refine zG1 3 ?_; refine o_call rfl (r_call fn64 rfl rfl) rfl (itoa_ok r.fr _ Om Om (hv.st hS79)) ?_; rintro _ w80 ⟨rfl, hx81⟩; have hS82 := hS79.ext hx81
              refine ⟨hS82, ?_⟩
              refine zG 4 rfl hS82 (fun wF hF => r_addStrL (by simp only [List.length_append, List.length_cons, List.length_nil]; omega) rfl rfl) ?_; refine zG1 7 ?_; refine o_call rfl (r_call fn64 rfl rfl) rfl (itoa_ok r.to _ Om Om (hv.st hS82)) ?_; rintro _ w83 ⟨rfl, hx84⟩; have hS85 := hS82.ext hx84
              refine ⟨hS85, ?_⟩
              refine zG 8 rfl hS85 (fun wF hF => r_addStrL (by simp only [List.length_append, List.length_cons, List.length_nil]; omega) rfl rfl) ?_; refine zG1 9 ?_; refine o_exv rfl (x_lit (vs := [sv kAT, sv (Lib.itoa r.fr ++ [45] ++ Lib.itoa r.to)]) hS85 ti42.und ti9 rfl rfl rfl On (by decide)) rfl ?_; rintro _ w86 ⟨b67, rfl, hS87⟩
              refine ⟨hS87.drop1, ?_⟩
              refine zGT rfl ?_; refine zX (x_append [_] hS87 ti42.und ti9 rfl (by decide) rfl rfl (Row.of_at (at_all (hS87.heap Z0))) rfl (one_cons rfl (one_cons rfl one_nil)) Sd Sd _ rfl) ?_; rintro _ w88 ⟨aq90, cq90, rfl, hcq90, hS89⟩; simp only [ca, na] at hS89; refine zq 1 rfl<|zN<|zT ?_
              have hS91 := St.reRow1 (k := _) (zs := (begL r ++ partL kROLE r.ro ++ partL kACT (r.acs.map actWd) ++ partL kON r.las ++ atL r).map sv) hS89.drop1 rfl (by rw [hW, atL_t Om]; simp [List.map_append])
              exact ⟨_, rfl, ⟨_, _, _, _, rfl, hS91, rfl, by omega⟩, ⟨rfl, rfl, trivial⟩⟩
            refine zN<|zT<|zf rfl<|zK<|zT ?_
            have hS92 := St.reRow1 (k := _) (zs := (begL r ++ partL kROLE r.ro ++ partL kACT (r.acs.map actWd) ++ partL kON r.las ++ atL r).map sv) hS60 rfl (by rw [hW, atL_f Om, List.append_nil])
            exact ⟨_, rfl, ⟨_, _, _, _, rfl, hS92, rfl, by omega⟩, ⟨rfl, rfl, trivial⟩⟩
          · rintro e74 w75 ⟨a, n, c, W, hc77_3, hS76, hW, hn⟩ -
            refine c_set (d := 3) hc77_3 ?_
            refine c_cutE [2] (fun e w' => ∃ (a : Option Addr) (n c : Nat) (W : Ws), Kw.look e 3 = .slice a n c ∧ St w [] w' [.row (.slice a n c) 9 1 n ((W).map sv), .blk b1 (cl r.v 51)] ∧ (W = ruleW r) ∧ (n ≤ 75)) ?_ ?_
            · refine zS<|zR<|zF fa51_6 rfl ti3.und rfl (hS76.heap Z1) rfl rfl rfl ?_
              refine wl_dec (r_gtr rfl rfl) rfl (fun h17_2 => ?_) (fun h17_2 => ?_)
              · refine zN<|zT<|zt rfl<|c_drawS 7 hMixed hS76 ?_
                intro w97 hS98; refine zG 0 rfl hS98 (fun wF hF => r_move (v := .slice _ _ _) rfl) ?_; refine zG 1 rfl hS98 (fun wF hF => r_field fa51_6 rfl) ?_; refine zG 2 rfl hS98 (fun wF hF => r_loadB1 ti3.und rfl rfl (hF.heap Z1) rfl) ?_; refine zG 4 rfl hS98 (fun wF hF => r_field fa51_7 rfl) ?_; refine zG 5 rfl hS98 (fun wF hF => r_loadB1 ti9.und rfl rfl (hF.heap Z1) rfl) ?_; refine zG1 3 ?_; refine o_call rfl (r_call fn64 rfl rfl) rfl (itoa_ok r.nd _ Om Om (hv.st hS98)) ?_; rintro _ w99 ⟨rfl, hx100⟩; have hS101 := hS98.ext hx100
                refine ⟨hS101, ?_⟩
                refine zG1 6 ?_; refine o_exv rfl (x_lit (vs := [sv kNEED, sv (Lib.itoa r.nd), sv r.ofr]) hS101 ti42.und ti9 rfl rfl rfl On (by decide)) rfl ?_; rintro _ w102 ⟨b78, rfl, hS103⟩
                refine ⟨hS103.drop1, ?_⟩
                refine zGT rfl ?_; refine zX (x_append [_] hS103 ti42.und ti9 rfl (by decide) rfl rfl (Row.of_at (at_all (hS103.heap Z0))) rfl (one_cons rfl (one_cons rfl (one_cons rfl one_nil))) Sd Sd _ rfl) ?_; rintro _ w104 ⟨aq106, cq106, rfl, hcq106, hS105⟩; simp only [ca, na] at hS105; refine zq 1 rfl<|zN<|zT ?_
                have hS107 := St.reRow1 (k := _) (zs := (ruleW r).map sv) hS105.drop1 rfl (by rw [hW, ruleW, ndL_t Om]; simp [List.map_append])
                exact ⟨_, rfl, ⟨_, _, _, _, rfl, hS107, rfl, by omega⟩, ⟨rfl, trivial⟩⟩
              refine zN<|zT<|zf rfl<|zK<|zT ?_
              have hS108 := St.reRow1 (k := _) (zs := (ruleW r).map sv) hS76 rfl (by rw [hW, ruleW, ndL_f Om, List.append_nil])
              exact ⟨_, rfl, ⟨_, _, _, _, rfl, hS108, rfl, by omega⟩, ⟨rfl, trivial⟩⟩
            · rintro e93 w94 ⟨a, n, c, W, hc96_3, hS95, hW, hn⟩ -
              refine c_set (d := 3) hc96_3<|zS<|zR<|zq 1 rfl<|zE fn65 rfl hS95 (join_ok W a n c _ (St.rowAt hS95 Z0) (by have := (St.rowLen hS95 Z0).2; rw [List.length_map] at this; omega) (by have := (St.rowLen hS95 Z0).2; rw [List.length_map, hW] at this; have : 0 < (ruleW r).length := ruleW_pos r; omega) (St.rowLen hS95 Z0).1 Om (by rw [hW]; have := ruleTx_le ht; unfold ruleTx at this; omega)) fun w109 hS111=> ?_; refine zq 1 rfl<|zN<|zT<|zU<|ret1 Tryz.results60 ?_
              exact ⟨by rw [hW]; rfl, hS111.fin⟩

end Go.Proofs.YtjnnhlbfgnopiaaGreatDoor
end
section
namespace Go.Proofs.YtjnnhlbfgnopiaaGreatDoor
open Go.Kw
set_option linter.unusedVariables false
set_option linter.unusedSimpArgs false
set_option maxRecDepth 100000
set_option maxHeartbeats 4000000 in
theorem text_ok (rs : List RuleD) (pa : Option Addr) (pc : Nat) (w : World) (hrs : Row w pa (rs.flatMap RuleD.v)) (hall : ∀ r ∈ rs, RuleAt w r) (htd : ∀ r ∈ rs, Tidy r) (h100 : rs.length ≤ 100) (hv : VF w) :
    Ret Tryz.prog 30 [.agg #[.slice pa rs.length pc]] w (fun v w' => v = .string ⟨(polTx rs).toArray⟩ ∧ St w [] w' []) := by
  refine enter Tryz.func30 rfl Tryz.ntmps30 rfl ?_
  have hS := St.refl w []
  refine zS<|zR<|zB (v := .agg _) hS rfl rfl fun b1 w1 hS2=>zq 1 rfl<|zN<|zT<|zS<|zR<|zA (C := [.pointer none, .slice none 0 0]) hS2 ti92 rfl fun b3 w3 hS4=>zN<|zT<|zS<|zS<|zR<|zF fa25_0 rfl ti23.und rfl (hS4.heap Z1) rfl rfl rfl<|zV (r_len (T := 23) rfl ti23.und rfl _ rfl)<|zq 1 rfl<|zN<|zT<|zI ?_
  refine c_loopE [2, 3, 7, 8] (fun d e w' => ∃ (k : Nat) (p v : Value), Kw.look e 9 = vi k ∧ d = rs.length - k ∧ St w [] w' [.blk b3 (cl [p, v] 92), .row v 5 1 (polTx (rs.take k)).length ((polTx (rs.take k)).map b8)] ∧ (k ≤ rs.length) ∧ (p = .pointer none ∨ p = pt b3 0)) (rs.length - 0) ?_ ?_
  · have hS99 := nilEnd (E := 5) (sz := 1) (hS4.perm ((List.Perm.cons _ (List.Perm.refl _)).trans (List.perm_middle (l₁ := [_])).symm)).drop1
    exact ⟨0, _, _, rfl, rfl, hS99, Nat.zero_le _, .inl rfl⟩
  · rintro d8 e5 w6 ⟨k, p, v, hc0_9, rfl, hS7, hk, hp⟩ -
    refine c_set (d := 9) hc0_9<|zS<|zR ?_
    refine wl_dec (r_lss rfl rfl) rfl (fun h3_0 => ?_) (fun h3_0 => ?_)
    · refine zN<|zT<|zS<|zt rfl<|zK<|zT<|zS<|zI<|zS<|zR<|zV (r_ixF rule_v8 ti23.und ti51 rfl rfl (hrs.st hS7) Ln Sd (by decide)) ?_
      refine zV (r_loadF rule_v8 ti51 ag51 rfl (hrs.st hS7) Sd (by decide)) ?_; refine zA (C := [.bool false, .slice none 0 0, .slice none 0 0, .slice none 0 0, .int .i64 0, .int .i64 0, .int .i64 0, .string ⟨#[]⟩]) hS7 ti51 rfl fun b5 w9 hS10=>zY (x_storeW [] hS10 ti51 rfl rfl rfl rfl (one_rule _)) ?_; intro w11 hS12; simp only [ca, na] at hS12; refine zN<|zT<|zS ?_
      have htk := htd _ (gt_mem rs k Om)
      have hb1 := polTx_le (rs := rs.take k) (fun r hr => htd r (List.mem_of_mem_take hr))
      rw [List.length_take, Nat.min_eq_left Om] at hb1
      have hb2 := ruleTx_le htk
      have hgk := hall _ (gt_mem rs k Om)
      refine zR<|zV (r_loadB ti51 ag51 rfl (hS12.heap Z0) Ln) ?_; refine zE fn60 rfl hS12 (ruleText_ok (gt rs k) _ (hgk.st hS12) htk (hv.st hS12)) fun w13 hS15=>zC fn59 rfl (bws_ok w b3 p v (polTx (rs.take k)) (ruleTx (gt rs k)) _ hS15.drop1 hp Om) ?_; rintro _ w16 ⟨v2, hS17⟩; refine zN<|zT<|zR<|zC fn61 rfl (bwb_ok w b3 v2 (polTx (rs.take k) ++ ruleTx (gt rs k)) _ hS17 (by rw [List.length_append]; omega)) ?_; rintro _ w18 ⟨v3, hS19⟩; refine zN<|zJ<|zT<|zR<|zV (r_addn (b := 1) rfl rfl Om)<|zq 1 rfl<|zN<|zT ?_
      have hS20 := hS19
      rw [List.append_assoc, ← polTx_step Om] at hS20
      exact ⟨rs.length - (k + 1), _, by omega, rfl, ⟨k + 1, _, _, rfl, rfl, hS20, by omega, .inr rfl⟩, ⟨rfl, rfl, rfl, rfl, trivial⟩⟩
    refine zN<|zT<|zS<|zf rfl<|zO<|zM<|zM<|c_inE<|zT<|zS<|zR<|zC fn62 rfl (bstr_ok w b3 p v (polTx (rs.take k)) _ hS7 hp) ?_; rintro _ w21 ⟨rfl, hS22⟩; refine zq 1 rfl<|zN<|zT<|zU<|ret1 Tryz.results30 ?_
    obtain rfl : k = rs.length := by omega
    rw [List.take_length]
    exact ⟨rfl, hS22.fin⟩

end Go.Proofs.YtjnnhlbfgnopiaaGreatDoor
end
section
namespace Go.Proofs.YtjnnhlbfgnopiaaGreatDoor
open Go.Kw
set_option linter.unusedVariables false
set_option linter.unusedSimpArgs false
set_option maxRecDepth 100000
set_option maxHeartbeats 1000000 in
theorem add_ok (w0 : World) (LT : List Kw.Item) (r : Nat) (k : List UInt8) (W l : Ws) (a la : Option Addr) (n c ln lc : Nat) (w : World) (hS0 : St w0 [] w (.row (.slice a n c) 9 1 n ((W).map sv) :: .blk r (cl [.slice a n c] 42) :: LT)) (hl : ∀ (w : World) (L : List Kw.Item), St w0 [] w (L ++ LT) → Row w la (l.map sv)) (hll : l.length = ln) (hn : n ≤ 1000) (hln : ln ≤ 1000) :
    Ret Tryz.prog 63 [.string ⟨(k).toArray⟩, .slice la ln lc, pt r 0] w (fun v w' => ∃ a' n' c', n' ≤ n + ln + 1 ∧ St w0 [] w' (.row (.slice a' n' c') 9 1 n' ((W ++ partL k l).map sv) :: .blk r (cl [.slice a' n' c'] 42) :: LT)) := by
  refine enter Tryz.func63 rfl Tryz.ntmps63 rfl ?_
  have hS := hS0
  refine zS<|zR<|zq 1 rfl<|zV (r_len (T := 42) rfl ti42.und rfl _ rfl) ?_
  refine wl_dec (r_gtr rfl rfl) rfl (fun h0_2 => ?_) (fun h0_2 => ?_)
  · refine zN<|zT<|zt rfl<|zR<|zV (r_loadB1 ti42.und rfl rfl (hS.heap Z1) rfl)<|zq 1 rfl ?_
    refine wl_exv (x_lit (vs := [sv k]) hS ti42.und ti9 rfl rfl rfl On (by decide)) rfl ?_; rintro _ w1 ⟨b10, rfl, hS2⟩; refine zX (x_append [_] hS2 ti42.und ti9 rfl (by decide) rfl rfl (Row.of_at (at_all (hS2.heap Z0))) rfl (one_cons rfl one_nil) Sd Sd _ rfl) ?_; rintro _ w3 ⟨aq5, cq5, rfl, hcq5, hS4⟩; simp only [ca, na] at hS4; refine zq 1 rfl<|zX (x_append [_] hS4 ti42.und ti9 rfl (by decide) rfl rfl (hl _ [_, _, _] hS4) Ln (one_map _ fun _ => rfl) Sd Sd _ rfl) ?_; rintro _ w6 ⟨aq8, cq8, rfl, hcq8, hS7⟩; simp only [ca, na] at hS7; refine zY (x_store1 [_, _] hS7 ti42 rfl rfl rfl (by simp)) ?_; intro w9 hS10; simp only [ca, na] at hS10; refine zN<|ret0n Tryz.results63 ?_
    have hS11 := St.reRow1 (k := _) (zs := (W ++ partL k l).map sv) hS10.drop1 rfl (by rw [partL_cons Om]; simp [List.map_append])
    exact ⟨_, _, _, by omega, hS11⟩
  refine zN<|zT<|zf rfl<|zK<|ret0n Tryz.results63 ?_
  have hS12 := St.reRow1 (k := _) (zs := (W ++ partL k l).map sv) hS rfl (by rw [partL_0 Om, List.append_nil])
  exact ⟨_, _, _, by omega, hS12⟩

end Go.Proofs.YtjnnhlbfgnopiaaGreatDoor
end
section
namespace Go.Proofs.YtjnnhlbfgnopiaaGreatDoor
open Go.Kw
set_option linter.unusedVariables false
set_option linter.unusedSimpArgs false
set_option maxRecDepth 100000
theorem showPolicy_ok_c0 {p : Prop} (h : p := by exact ⟨_, rfl, ⟨_, _, _, _, hF, rfl, by omega⟩, ⟨rfl, rfl, rfl, rfl, rfl, rfl, rfl, trivial⟩⟩) : p := h
theorem showPolicy_ok_c1 {p : Prop} (h : p := by exact ⟨_, rfl, ⟨_, _, _, _, hF, rfl, by omega⟩, ⟨rfl, rfl, rfl, rfl, rfl, rfl, trivial⟩⟩) : p := h
set_option maxHeartbeats 4000000 in
theorem showPolicy_ok (rs : List RuleD) (pa : Option Addr) (pc : Nat) (w : World) (hrs : Row w pa (rs.flatMap RuleD.v)) (hall : ∀ r ∈ rs, RuleAt w r) (htd : ∀ r ∈ rs, Tidy r) (h100 : rs.length ≤ 100) (hv : VF w) :
    Ret Tryz.prog 32 [.agg #[.slice pa rs.length pc]] w (fun v w' => v = .string ⟨(polTx rs).toArray⟩ ∧ St w [] w' []) := by
  refine enter Tryz.func32 rfl Tryz.ntmps32 rfl ?_
  have hS := St.refl w []
  refine zS<|zR<|zB (v := .agg _) hS rfl rfl fun b1 w1 hS2=>zq 1 rfl<|zN<|zT<|zS<|zR<|zq 1 rfl<|zN<|zT<|zS<|zS<|zR<|zF fa25_0 rfl ti23.und rfl (hS2.heap Z0) rfl rfl rfl<|zV (r_len (T := 23) rfl ti23.und rfl _ rfl)<|zq 1 rfl<|zN<|zT<|zI ?_
  refine c_loopE [2, 12, 13] (fun d e w' => ∃ (k : Nat), Kw.look e 14 = vi k ∧ Kw.look e 3 = .string ⟨(polTx (rs.take k)).toArray⟩ ∧ d = rs.length - k ∧ St w [] w' [] ∧ (k ≤ rs.length)) (rs.length - 0) ?_ ?_
  · exact ⟨0, rfl, rfl, rfl, hS2.fin, Nat.zero_le _⟩
  · rintro d6 e3 w4 ⟨k, hc0_14, hc0_3, rfl, hS5, hk⟩ -
    refine c_set (d := 14) hc0_14<|c_set (d := 3) hc0_3<|zS<|zR ?_
    refine wl_dec (r_lss rfl rfl) rfl (fun h3_0 => ?_) (fun h3_0 => ?_)
    · refine zN<|zT<|zS<|zt rfl<|zK<|zT<|zS<|zI<|zS ?_
      have htk := htd _ (gt_mem rs k Om)
      have hb1 := polTx_le (rs := rs.take k) (fun r hr => htd r (List.mem_of_mem_take hr))
      rw [List.length_take, Nat.min_eq_left Om] at hb1
      have hb2 := ruleTx_le htk
      have hgk := hall _ (gt_mem rs k Om)
      refine zR<|zV (r_ixF rule_v8 ti23.und ti51 rfl rfl (hrs.st hS5) Ln Sd (by decide)) ?_; refine zV (r_loadF rule_v8 ti51 ag51 rfl (hrs.st hS5) Sd (by decide)) ?_; refine zA (C := [.bool false, .slice none 0 0, .slice none 0 0, .slice none 0 0, .int .i64 0, .int .i64 0, .int .i64 0, .string ⟨#[]⟩]) hS5 ti51 rfl fun b5 w7 hS8=>zY (x_storeW [] hS8 ti51 rfl rfl rfl rfl (one_rule _)) ?_; intro w9 hS10; simp only [ca, na] at hS10; refine zN<|zT<|zS ?_
      have hl1 := htk.l1
      have hl2 := htk.l2
      have hl3 := htk.l3
      have htf := htk.f
      have htt := htk.t
      have htd' := htk.d
      have hte := htk.e
      have hif := itoa_small (n := (gt rs k).fr) Om Om
      have hit := itoa_small (n := (gt rs k).to) Om Om
      have hid := itoa_small (n := (gt rs k).nd) Om Om
      refine zR ?_; refine wl_exv (x_lit (vs := [sv kALLOW]) hS10 ti42.und ti9 rfl rfl rfl On (by decide)) rfl ?_; rintro _ w11 ⟨b18, rfl, hS12⟩; refine zA (C := [.slice none 0 0]) hS12 ti42 rfl fun b6 w13 hS14=>zY (x_store1 [] hS14 ti42 rfl rfl rfl (by simp)) ?_; intro w15 hS16; simp only [ca, na] at hS16; refine zN<|zT ?_
      refine c_cutE [2, 3, 5, 6, 12, 13, 14] (fun e w' => St w [] w' [.row (.slice (some ⟨b18, 0, none⟩) 1 1) 9 1 1 ((begL (gt rs k)).map sv), .blk b6 (cl [.slice (some ⟨b18, 0, none⟩) 1 1] 42), .blk b5 (cl (gt rs k).v 51)]) ?_ ?_
      · refine zS ?_
        rcases bool_casesX (gt rs k).dn with hdn | hdn
        · refine zR<|zV (r_field fa51_0 rfl)<|zV (r_loadB1 ti4.und rfl rfl (hS16.heap Z2) (by first | exact rule_dn_t hdn | exact rule_dn_f hdn)) ?_
          refine zN<|zT<|zt rfl<|zR<|zV (r_loadB1 ti42.und rfl rfl (hS16.heap Z0) rfl)<|zV (r_ixB (m := 0) ti42.und ti9 rfl rfl Sd) ?_; refine zY (x_store1 (o := 0) (v := sv kDENY) [_] hS16 ti9 rfl rfl rfl (by decide)) ?_; intro w21 hS22; simp only [ca, na] at hS22; refine zN<|zT ?_
          have hS23 := St.toRow (l1 := []) (sz := 1) (n := 1) (cap := 1) (hS22.perm ((List.Perm.cons _ (List.Perm.refl _)).trans (List.perm_middle (l₁ := [_])).symm)) (by decide) (by decide) rfl
          simp only [List.nil_append] at hS23
          have hS24 := St.reRow1 (k := 1) (zs := (begL (gt rs k)).map sv) hS23 rfl (by first | (rw [begL_t hdn]; rfl) | (rw [begL_f hdn]; rfl))
          exact ⟨_, rfl, hS24, ⟨rfl, rfl, rfl, rfl, rfl, rfl, rfl, trivial⟩⟩
        refine zR<|zV (r_field fa51_0 rfl)<|zV (r_loadB1 ti4.und rfl rfl (hS16.heap Z2) (by first | exact rule_dn_t hdn | exact rule_dn_f hdn)) ?_; refine zN<|zT<|zf rfl<|zK<|zT ?_
        have hS25 := St.toRow (l1 := []) (sz := 1) (n := 1) (cap := 1) (hS16.perm ((List.Perm.cons _ (List.Perm.refl _)).trans (List.perm_middle (l₁ := [_])).symm)) (by decide) (by decide) rfl
        simp only [List.nil_append] at hS25
        have hS26 := St.reRow1 (k := 1) (zs := (begL (gt rs k)).map sv) hS25 rfl (by first | (rw [begL_t hdn]; rfl) | (rw [begL_f hdn]; rfl))
        exact ⟨_, rfl, hS26, ⟨rfl, rfl, rfl, rfl, rfl, rfl, rfl, trivial⟩⟩
      · rintro e17 w18 hS19 -
        refine zS<|zR<|zV (r_makeFunc (vs := [pt b6 0]) rfl)<|zV (r_assign rfl)<|zN<|zT<|zS<|zR<|zV (r_move rfl)<|zF fa51_1 rfl ti42.und rfl (hS19.heap Z2) rfl rfl rfl<|wl_call (r_callDyn fn63 rfl rfl) rfl (add_ok w _ b6 kROLE (begL (gt rs k)) ((gt rs k).ro) _ _ _ _ _ _ _ hS19 (fun w' L h => hgk.h1.st h) rfl Om Om) ?_; rintro _ w27 ⟨ar, nr, cr, hnr, hS28⟩; refine zN<|zT<|zS<|zR<|zq 1 rfl<|zN<|zT<|zS<|zS<|zR<|zF fa51_2 rfl ti49.und rfl (hS28.heap Z2) rfl rfl rfl<|zV (r_len (T := 49) rfl ti49.und rfl _ rfl)<|zq 1 rfl<|zN<|zT<|zI ?_
        refine c_loopE [2, 3, 5, 6, 7, 12, 13, 14, 29, 30] (fun d e w' => ∃ (i : Nat) (a8 : Option Addr) (c8 : Nat), Kw.look e 31 = vi i ∧ Kw.look e 8 = .slice a8 i c8 ∧ d = (gt rs k).acs.length - i ∧ St w [] w' [.row (.slice a8 i c8) 9 1 i ((((gt rs k).acs.take i).map actWd).map sv), .row (.slice ar nr cr) 9 1 nr ((begL (gt rs k) ++ partL kROLE (gt rs k).ro).map sv), .blk b6 (cl [.slice ar nr cr] 42), .blk b5 (cl (gt rs k).v 51)] ∧ (i ≤ (gt rs k).acs.length)) ((gt rs k).acs.length - 0) ?_ ?_
        · have hS99 := St.nilRow (E := 9) (sz := 1) hS28
          exact ⟨0, none, 0, rfl, rfl, rfl, hS99, Nat.zero_le _⟩
        · rintro d32 e29 w30 ⟨i, a8, c8, hc1_31, hc1_8, rfl, hS31, hi⟩ -
          refine c_set (d := 31) hc1_31<|c_set (d := 8) hc1_8<|zS<|zR ?_
          refine wl_dec (r_lss rfl rfl) rfl (fun h12_0 => ?_) (fun h12_0 => ?_)
          · refine zN<|zT<|zS<|zt rfl<|zK<|zT<|zS<|zI<|zS<|zR<|zV (r_ixS ti49.und ti3 rfl rfl (hgk.h2.st hS31) Sd Ln) ?_
            refine zV (r_loadS1 ti3.und rfl rfl (hgk.h2.st hS31) (by rw [Nat.mul_one]; exact map_gt _ _ _ Sd)) ?_; refine zq 1 rfl<|zN<|zT ?_
            have hai := htk.a1 _ (gt_mem (gt rs k).acs i Om)
            obtain ⟨m, hm, hm12⟩ : ∃ m : Nat, gt (gt rs k).acs i = ((m + 1 : Nat) : Int) ∧ m < 12 := ⟨(gt (gt rs k).acs i - 1).toNat, by omega, by omega⟩
            have hml : m + 1 < ([] :: actW).length := by show m + 1 < 13; omega
            have hma : actWd (gt (gt rs k).acs i) = gt ([] :: actW) (m + 1) := by unfold actWd; rw [hm, show ((m + 1 : Nat) : Int) - 1 = (m : Int) by omega]; rfl
            refine zR<|zq 1 rfl<|zC fn48 rfl (ractWords_ok _) ?_; rintro _ w33 ⟨bA, rfl, hx34⟩
            have hS35 := hS31.call hx34
            simp only [ca, na] at hS35; refine zq 1 rfl<|zV (r_ixS (m := m + 1) ti42.und ti9 rfl (congrArg (Value.int .i64) hm) (Row.of_at (at_all (hS35.heap Z0))) Om (by rw [List.length_map]; show (m + 1) * 1 < 13; omega)) ?_; refine zV (r_loadS1 ti9.und rfl rfl (Row.of_at (at_all (hS35.heap Z0))) (by rw [Nat.mul_one]; exact map_gt _ _ _ Sd)) ?_; refine wl_exv (x_lit (vs := [sv (gt ([] :: actW) (m + 1))]) hS35 ti42.und ti9 rfl rfl rfl On (by decide)) rfl ?_; rintro _ w36 ⟨b40, rfl, hS37⟩; refine zX (x_append [_, _] hS37 ti42.und ti9 rfl (by decide) rfl rfl (Row.of_at (at_all (hS37.heap Z0))) rfl (one_cons rfl one_nil) Sd Sd _ rfl) ?_; rintro _ w38 ⟨aq40, cq40, rfl, hcq40, hS39⟩; simp only [ca, na] at hS39; refine zq 1 rfl<|zN<|zJ<|zT<|zR<|zV (r_addn (b := 1) rfl rfl Om)<|zq 1 rfl<|zN<|zT ?_
            have hS41 := hS39.drop1.drop1
            have e9 : (((gt rs k).acs.take i).map actWd).map sv ++ [sv (gt ([] :: actW) (m + 1))] = (((gt rs k).acs.take (i + 1)).map actWd).map sv := by rw [take_gt (gt rs k).acs i Om, ← hma]; simp [List.map_append]
            rw [e9] at hS41
            exact ⟨(gt rs k).acs.length - (i + 1), _, by omega, rfl, ⟨i + 1, _, _, rfl, rfl, rfl, hS41, by omega⟩, ⟨rfl, rfl, rfl, rfl, rfl, rfl, rfl, rfl, rfl, rfl, trivial⟩⟩
          refine zN<|zT<|zS<|zf rfl<|zO<|zM<|zM<|c_inE<|zT<|zS ?_
          obtain rfl : i = (gt rs k).acs.length := by omega
          rw [List.take_length] at hS31
          refine zR<|zV (r_move rfl)<|zq 1 rfl<|wl_call (r_callDyn fn63 rfl rfl) rfl (add_ok w _ b6 kACT (begL (gt rs k) ++ partL kROLE (gt rs k).ro) ((gt rs k).acs.map actWd) _ _ _ _ _ _ _ (hS31.perm ((List.Perm.cons _ ((List.Perm.cons _ (List.Perm.refl _)).trans (List.perm_middle (l₁ := [_])).symm)).trans (List.perm_middle (l₁ := [_])).symm)) (fun w' L h => St.rowAt h (List.mem_append_right L Z0)) (List.length_map _) Om Om) ?_; rintro _ w42 ⟨ax, nx, cx, hnx, hS43⟩; refine zN<|zT<|zS<|zR<|zV (r_move rfl)<|zF fa51_3 rfl ti42.und rfl (hS43.heap Z3) rfl rfl rfl<|wl_call (r_callDyn fn63 rfl rfl) rfl (add_ok w _ b6 kON (begL (gt rs k) ++ partL kROLE (gt rs k).ro ++ partL kACT ((gt rs k).acs.map actWd)) ((gt rs k).las) _ _ _ _ _ _ _ hS43 (fun w' L h => hgk.h3.st h) rfl Om Om) ?_; rintro _ w44 ⟨ao, no, co, hno, hS45⟩; refine zN<|zT ?_
          refine c_cutE [2, 3, 5, 6, 12, 13, 14] (fun e w' => ∃ (a : Option Addr) (n c : Nat) (W : Ws), St w [] w' [.row (.slice a n c) 9 1 n ((W).map sv), .blk b6 (cl [.slice a n c] 42), .blk b5 (cl (gt rs k).v 51)] ∧ (W = begL (gt rs k) ++ partL kROLE (gt rs k).ro ++ partL kACT ((gt rs k).acs.map actWd) ++ partL kON (gt rs k).las ++ atL (gt rs k)) ∧ (n ≤ 80)) ?_ ?_
          · refine zS<|zR<|zF fa51_4 rfl ti3.und rfl (hS45.heap Z3) rfl rfl rfl ?_
            refine wl_dec (r_neq rfl rfl) rfl (fun h18_2 => ?_) (fun h18_2 => ?_)
            · refine zq 5 rfl<|zN<|zT<|zt rfl<|c_drawS 10 hMixed hS45 ?_
              intro w50 hS51; refine zG 0 rfl hS51 (fun wF hF => r_loadB1 ti42.und rfl rfl (hF.heap Z1) rfl) ?_; refine zG 1 rfl hS51 (fun wF hF => r_field fa51_4 rfl) ?_; refine zG 2 rfl hS51 (fun wF hF => r_loadB1 ti3.und rfl rfl (hF.heap Z3) rfl) ?_; refine zG 5 rfl hS51 (fun wF hF => r_field fa51_5 rfl) ?_; refine zG 6 rfl hS51 (fun wF hF => r_loadB1 ti3.und rfl rfl (hF.heap Z3) rfl) ?_; refine zG1 3 ?_; refine o_call rfl (r_call fn64 rfl rfl) rfl (itoa_ok (gt rs k).fr _ Om Om (hv.st hS51)) ?_; rintro _ w52 ⟨rfl, hx53⟩; have hS54 := hS51.ext hx53
              refine ⟨hS54, ?_⟩
              refine zG 4 rfl hS54 (fun wF hF => r_addStrL (by simp only [List.length_append, List.length_cons, List.length_nil]; omega) rfl rfl) ?_; refine zG1 7 ?_; refine o_call rfl (r_call fn64 rfl rfl) rfl (itoa_ok (gt rs k).to _ Om Om (hv.st hS54)) ?_; rintro _ w55 ⟨rfl, hx56⟩; have hS57 := hS54.ext hx56
              refine ⟨hS57, ?_⟩
              refine zG 8 rfl hS57 (fun wF hF => r_addStrL (by simp only [List.length_append, List.length_cons, List.length_nil]; omega) rfl rfl) ?_; refine zG1 9 ?_; refine o_exv rfl (x_lit (vs := [sv kAT, sv (Lib.itoa (gt rs k).fr ++ [45] ++ Lib.itoa (gt rs k).to)]) hS57 ti42.und ti9 rfl rfl rfl On (by decide)) rfl ?_; rintro _ w58 ⟨b67, rfl, hS59⟩
              refine ⟨hS59.drop1, ?_⟩
              refine zGT rfl ?_; refine zX (x_append [_] hS59 ti42.und ti9 rfl (by decide) rfl rfl (Row.of_at (at_all (hS59.heap Z0))) rfl (one_cons rfl (one_cons rfl one_nil)) Sd Sd _ rfl) ?_; rintro _ w60 ⟨aq62, cq62, rfl, hcq62, hS61⟩; simp only [ca, na] at hS61; refine zY (x_store1 [_, _] hS61 ti42 rfl rfl rfl (by simp)) ?_; intro w63 hS64; simp only [ca, na] at hS64; refine zN<|zT ?_
              have hS65 := St.reRow1 (k := _) (zs := (begL (gt rs k) ++ partL kROLE (gt rs k).ro ++ partL kACT ((gt rs k).acs.map actWd) ++ partL kON (gt rs k).las ++ atL (gt rs k)).map sv) (hS64.perm (List.Perm.cons _ ((List.Perm.cons _ (List.Perm.refl _)).trans (List.perm_middle (l₁ := [_, _])).symm))).drop1.drop1 rfl (by rw [atL_t (fun e => by have := hte e; omega)]; simp [List.map_append])
              have hF := hS65; exact showPolicy_ok_c0
            refine zq 1 rfl<|wl_val (r_field fa51_5 rfl) rfl<|wl_val (r_loadB1 ti3.und rfl rfl (hS45.heap Z3) rfl) rfl ?_
            refine wl_dec (r_neq rfl rfl) rfl (fun h18_6 => ?_) (fun h18_6 => ?_)
            · refine zq 1 rfl<|zN<|zT<|zt rfl<|c_drawS 10 hMixed hS45 ?_
              intro w66 hS67; refine zG 0 rfl hS67 (fun wF hF => r_loadB1 ti42.und rfl rfl (hF.heap Z1) rfl) ?_; refine zG 1 rfl hS67 (fun wF hF => r_field fa51_4 rfl) ?_; refine zG 2 rfl hS67 (fun wF hF => r_loadB1 ti3.und rfl rfl (hF.heap Z3) rfl) ?_; refine zG 5 rfl hS67 (fun wF hF => r_field fa51_5 rfl) ?_; refine zG 6 rfl hS67 (fun wF hF => r_loadB1 ti3.und rfl rfl (hF.heap Z3) rfl) ?_; refine zG1 3 ?_; refine o_call rfl (r_call fn64 rfl rfl) rfl (itoa_ok (gt rs k).fr _ Om Om (hv.st hS67)) ?_; rintro _ w68 ⟨rfl, hx69⟩; have hS70 := hS67.ext hx69
              refine ⟨hS70, ?_⟩
              refine zG 4 rfl hS70 (fun wF hF => r_addStrL (by simp only [List.length_append, List.length_cons, List.length_nil]; omega) rfl rfl) ?_; refine zG1 7 ?_; refine o_call rfl (r_call fn64 rfl rfl) rfl (itoa_ok (gt rs k).to _ Om Om (hv.st hS70)) ?_; rintro _ w71 ⟨rfl, hx72⟩; have hS73 := hS70.ext hx72
              refine ⟨hS73, ?_⟩
              refine zG 8 rfl hS73 (fun wF hF => r_addStrL (by simp only [List.length_append, List.length_cons, List.length_nil]; omega) rfl rfl) ?_; refine zG1 9 ?_; refine o_exv rfl (x_lit (vs := [sv kAT, sv (Lib.itoa (gt rs k).fr ++ [45] ++ Lib.itoa (gt rs k).to)]) hS73 ti42.und ti9 rfl rfl rfl On (by decide)) rfl ?_; rintro _ w74 ⟨b67, rfl, hS75⟩
              refine ⟨hS75.drop1, ?_⟩
              refine zGT rfl ?_; refine zX (x_append [_] hS75 ti42.und ti9 rfl (by decide) rfl rfl (Row.of_at (at_all (hS75.heap Z0))) rfl (one_cons rfl (one_cons rfl one_nil)) Sd Sd _ rfl) ?_; rintro _ w76 ⟨aq78, cq78, rfl, hcq78, hS77⟩; simp only [ca, na] at hS77; refine zY (x_store1 [_, _] hS77 ti42 rfl rfl rfl (by simp)) ?_; intro w79 hS80; simp only [ca, na] at hS80; refine zN<|zT ?_
              have hS81 := St.reRow1 (k := _) (zs := (begL (gt rs k) ++ partL kROLE (gt rs k).ro ++ partL kACT ((gt rs k).acs.map actWd) ++ partL kON (gt rs k).las ++ atL (gt rs k)).map sv) (hS80.perm (List.Perm.cons _ ((List.Perm.cons _ (List.Perm.refl _)).trans (List.perm_middle (l₁ := [_, _])).symm))).drop1.drop1 rfl (by rw [atL_t (fun e => by have := hte e; omega)]; simp [List.map_append])
              have hF := hS81; exact showPolicy_ok_c0
            refine zq 1 rfl<|zN<|zT<|zf rfl<|zK<|zT ?_
            have hS82 := St.reRow1 (k := _) (zs := (begL (gt rs k) ++ partL kROLE (gt rs k).ro ++ partL kACT ((gt rs k).acs.map actWd) ++ partL kON (gt rs k).las ++ atL (gt rs k)).map sv) (hS45.perm ((List.Perm.cons _ (List.Perm.refl _)).trans (List.perm_middle (l₁ := [_, _])).symm)).drop1 rfl (by rw [atL_f Om, List.append_nil])
            have hF := hS82; exact showPolicy_ok_c0
          · rintro e46 w47 ⟨a, n, c, W, hS48, hW, hn⟩ -
            refine c_cutE [2, 3, 6, 12, 13, 14] (fun e w' => ∃ (a : Option Addr) (n c : Nat) (W : Ws), St w [] w' [.row (.slice a n c) 9 1 n ((W).map sv), .blk b6 (cl [.slice a n c] 42), .blk b5 (cl (gt rs k).v 51)] ∧ (W = ruleW (gt rs k)) ∧ (n ≤ 83)) ?_ ?_
            · refine zS<|zR<|zF fa51_6 rfl ti3.und rfl (hS48.heap Z2) rfl rfl rfl ?_
              refine wl_dec (r_gtr rfl rfl) rfl (fun h20_2 => ?_) (fun h20_2 => ?_)
              · refine zN<|zT<|zt rfl<|c_drawS 7 hMixed hS48 ?_
                intro w87 hS88; refine zG 0 rfl hS88 (fun wF hF => r_loadB1 ti42.und rfl rfl (hF.heap Z1) rfl) ?_; refine zG 1 rfl hS88 (fun wF hF => r_field fa51_6 rfl) ?_; refine zG 2 rfl hS88 (fun wF hF => r_loadB1 ti3.und rfl rfl (hF.heap Z2) rfl) ?_; refine zG 4 rfl hS88 (fun wF hF => r_field fa51_7 rfl) ?_; refine zG 5 rfl hS88 (fun wF hF => r_loadB1 ti9.und rfl rfl (hF.heap Z2) rfl) ?_; refine zG1 3 ?_; refine o_call rfl (r_call fn64 rfl rfl) rfl (itoa_ok (gt rs k).nd _ Om Om (hv.st hS88)) ?_; rintro _ w89 ⟨rfl, hx90⟩; have hS91 := hS88.ext hx90
                refine ⟨hS91, ?_⟩
                refine zG1 6 ?_; refine o_exv rfl (x_lit (vs := [sv kNEED, sv (Lib.itoa (gt rs k).nd), sv (gt rs k).ofr]) hS91 ti42.und ti9 rfl rfl rfl On (by decide)) rfl ?_; rintro _ w92 ⟨b78, rfl, hS93⟩
                refine ⟨hS93.drop1, ?_⟩
                refine zGT rfl ?_; refine zX (x_append [_] hS93 ti42.und ti9 rfl (by decide) rfl rfl (Row.of_at (at_all (hS93.heap Z0))) rfl (one_cons rfl (one_cons rfl (one_cons rfl one_nil))) Sd Sd _ rfl) ?_; rintro _ w94 ⟨aq96, cq96, rfl, hcq96, hS95⟩; simp only [ca, na] at hS95; refine zY (x_store1 [_, _] hS95 ti42 rfl rfl rfl (by simp)) ?_; intro w97 hS98; simp only [ca, na] at hS98; refine zN<|zT ?_
                have hS99 := St.reRow1 (k := _) (zs := (ruleW (gt rs k)).map sv) hS98.drop1 rfl (by rw [hW, ruleW, ndL_t Om]; simp [List.map_append])
                have hF := hS99; exact showPolicy_ok_c1
              refine zN<|zT<|zf rfl<|zK<|zT ?_
              have hS100 := St.reRow1 (k := _) (zs := (ruleW (gt rs k)).map sv) hS48 rfl (by rw [hW, ruleW, ndL_f Om, List.append_nil])
              have hF := hS100; exact showPolicy_ok_c1
            · rintro e83 w84 ⟨a, n, c, W, hS85, hW, hn⟩ -
              have hjl : (Lib.join W [32]).length ≤ 1938 := by rw [hW]; have := ruleTx_le htk; unfold ruleTx at this; exact this
              refine zR<|zq 1 rfl<|zV (r_loadB1 ti42.und rfl rfl (hS85.heap Z1) rfl)<|zE fn65 rfl hS85 (join_ok W a n c _ (St.rowAt hS85 Z0) (by have := (St.rowLen hS85 Z0).2; rw [List.length_map] at this; omega) (by have := (St.rowLen hS85 Z0).2; rw [List.length_map, hW] at this; have : 0 < (ruleW (gt rs k)).length := ruleW_pos _; omega) (St.rowLen hS85 Z0).1 Om (by rw [hW]; have := ruleTx_le htk; unfold ruleTx at this; omega)) fun w101 hS103=> ?_; refine zV (r_addStrL (by simp only [List.length_append, List.length_cons, List.length_nil]; omega) rfl rfl) ?_; refine zV (r_addStrL (by simp only [List.length_append, List.length_cons, List.length_nil]; omega) rfl rfl) ?_; refine zq 1 rfl<|zN<|zJ<|zT<|zR<|zV (r_addn (b := 1) rfl rfl Om)<|zq 1 rfl<|zN<|zT ?_
              exact ⟨rs.length - (k + 1), _, by omega, rfl, ⟨k + 1, rfl, congrArg (fun l => Value.string ⟨List.toArray l⟩) (show _ = polTx (rs.take (k + 1)) from by rw [polTx_step Om, hW]; rfl), rfl, hS103.fin, by omega⟩, ⟨rfl, rfl, rfl, trivial⟩⟩
    refine zN<|zT<|zS<|zf rfl<|zO<|zM<|zM<|c_inE<|zT<|zS<|zR<|zq 2 rfl<|zN<|zT<|zU<|ret1 Tryz.results32 ?_
    obtain rfl : k = rs.length := by omega
    rw [List.take_length]
    exact ⟨rfl, hS5.fin⟩

end Go.Proofs.YtjnnhlbfgnopiaaGreatDoor
end
section
namespace Go.Proofs.YtjnnhlbfgnopiaaGreatDoor
open Go.Kw
set_option linter.unusedVariables false
set_option linter.unusedSimpArgs false
set_option maxRecDepth 100000
theorem print_ok_c0 {p : Prop} (h : p := by first | exact .inl ⟨h2_1, rfl, hF.fin⟩ | exact .inr ⟨hpe, _, _, _, hp1, .inl ⟨fun h => hne1 h.1, rfl, hF.fin⟩⟩ | exact .inr ⟨hpe, _, _, _, hp1, .inl ⟨fun h => heq h.2.symm, rfl, hF.fin⟩⟩ | exact .inr ⟨hpe, _, _, _, hp1, .inr ⟨⟨rfl, heq.symm⟩, rfl, hF.fin⟩⟩) : p := h
set_option maxHeartbeats 4000000 in
theorem print_ok (rs : List RuleD) (pa : Option Addr) (pc : Nat) (w : World) (hrs : Row w pa (rs.flatMap RuleD.v)) (hall : ∀ r ∈ rs, RuleAt w r) (hn : rs.length ≤ 140737488351232) (hv : VF w) :
    Ret Tryz.prog 10 [.agg #[.slice pa rs.length pc]] w (fun v w' => (¬ polE rs = 0 ∧ v = .tuple #[.string ⟨#[]⟩, .int .i64 (polE rs)] ∧ St w [] w' []) ∨ (polE rs = 0 ∧ ∃ (rs' : List RuleD) (n : Nat) (e : Int), PolT (polTx rs) rs' n e ∧ ((¬ (e = 0 ∧ rs' = rs.map nrmR) ∧ v = .tuple #[.string ⟨#[]⟩, vi 2] ∧ St w [] w' []) ∨ ((e = 0 ∧ rs' = rs.map nrmR) ∧ v = .tuple #[.string ⟨(polTx rs).toArray⟩, vi 0] ∧ St w [] w' [])))) := by
  refine enter Tryz.func10 rfl Tryz.ntmps10 rfl ?_
  have hS := St.refl w []
  refine zS<|zR<|zB (v := .agg _) hS rfl rfl fun b1 w1 hS2=>zq 2 rfl<|zN<|zT<|zS<|zS<|zR<|zV (r_loadB ti25 ag25 rfl (hS2.heap Z0) Ln) ?_; refine zE fn13 rfl hS2 (check_ok rs pa rs.length pc _ (hrs.st hS2) rfl hn (fun r hr => (hall r hr).st hS2)) fun w3 hS5=>zq 1 rfl<|zN<|zT<|zS<|zR<|zq 1 rfl ?_
  refine wl_dec (r_neq rfl rfl) rfl (fun h2_1 => ?_) (fun h2_1 => ?_)
  · refine zN<|zT<|zt rfl<|zS<|zR<|zq 3 rfl<|zN<|zT<|zU<|zL<|ret2 Tryz.results10 rfl rfl ?_
    have hF := hS5; exact print_ok_c0
  refine zN<|zT<|zf rfl<|zK<|zT<|zS ?_
  have hpe := Classical.not_not.1 h2_1
  obtain ⟨h100, hoks⟩ := polE_zero hpe
  have htd : ∀ r ∈ rs, Tidy r := fun r hr => tidy_of (hoks r hr)
  refine zR<|zV (r_loadB ti25 ag25 rfl (hS5.heap Z0) Ln) ?_; refine zE fn30 rfl hS5 (text_ok rs pa pc _ (hrs.st hS5) (fun r hr => (hall r hr).st hS5) htd h100 (hv.st hS5)) fun w6 hS8=>zq 1 rfl<|zN<|zT<|zS<|zR<|zq 1 rfl<|zC fn6 rfl (parse_ok (polTx rs) _ (hv.st hS8)) ?_
  rintro _ w9 (⟨n1, e1, hp1, hne1, rfl, hx10⟩ | ⟨rs1, a1, c1, LT1, hp1, hT1, hc1, rfl, hx10⟩)
  · have hS11 := hS8.ext hx10
    refine zq 4 rfl<|zA (C := [.slice none 0 0]) hS11 ti25 rfl fun b6 w12 hS13=>zY (x_storeW [] hS13 ti25 rfl rfl rfl rfl (one_all rfl)) ?_; intro w14 hS15; simp only [ca, na] at hS15; refine zq 2 rfl<|zN<|zT<|zS<|zS<|zR<|zq 1 rfl<|wl_dec_t (r_neq rfl rfl) rfl hne1<|zq 8 rfl<|zN<|zT<|zt rfl<|zS<|zR<|zq 2 rfl<|zN<|zT<|zU<|zL<|ret2 Tryz.results10 rfl rfl ?_
    have hF := hS15; exact print_ok_c0
  have hS11 := St.callT (X := [_]) (LT := LT1) hS8 hx10
  simp only [ca, na] at hS11; refine zq 4 rfl<|zA (C := [.slice none 0 0]) hS11 ti25 rfl fun b6 w16 hS17=>zY (x_storeW [] hS17 ti25 rfl rfl rfl rfl (one_all rfl)) ?_; intro w18 hS19; simp only [ca, na] at hS19; refine zq 2 rfl<|zN<|zT<|zS<|zS<|zR<|zq 1 rfl<|wl_dec_f (r_neq rfl rfl) rfl (by decide)<|zq 1 rfl<|wl_val (r_field fa25_0 rfl) rfl<|wl_val (r_loadB1 ti23.und rfl rfl (hS19.heap Z2) rfl) rfl<|wl_val (r_field fa25_0 rfl) rfl<|wl_val (r_loadB1 ti23.und rfl rfl (hS19.heap Z0) rfl) rfl<|zC fn25 rfl (eqRulesP_b rs rs1 _ _ _ _ _ (hrs.st hS19) (St.rowAt hS19 Z1) (fun q hq => (hall q hq).st hS19) (hT1 _ (hS19.hold fun x hx => by simp [hx])) Om) ?_
  rintro _ w20 (⟨heq, rfl, hx21⟩ | ⟨heq, rfl, hx21⟩)
  · have hS22 := hS19.ext hx21
    refine zq 2 rfl<|zN<|zT<|zf rfl<|zK<|zT<|zS<|zR<|zq 3 rfl<|zN<|zT<|zU<|ret2 Tryz.results10 rfl rfl ?_
    have hF := hS22; exact print_ok_c0
  have hS22 := hS19.ext hx21; refine zq 2 rfl<|zN<|zT<|zt rfl<|zS<|zR<|zq 2 rfl<|zN<|zT<|zU<|zL<|ret2 Tryz.results10 rfl rfl ?_
  have hF := hS22; exact print_ok_c0

theorem rprint_ok_c0 {p : Prop} (h : p := by first | exact .inl ⟨h2_1, rfl, hF.fin⟩ | exact .inr ⟨hpe, _, _, _, hp1, .inl ⟨fun h => hne1 h.1, rfl, hF.fin⟩⟩ | exact .inr ⟨hpe, _, _, _, hp1, .inl ⟨fun h => heq h.2.symm, rfl, hF.fin⟩⟩ | exact .inr ⟨hpe, _, _, _, hp1, .inr ⟨⟨rfl, heq.symm⟩, rfl, hF.fin⟩⟩) : p := h
set_option maxHeartbeats 4000000 in
theorem rprint_ok (rs : List RuleD) (pa : Option Addr) (pc : Nat) (w : World) (hrs : Row w pa (rs.flatMap RuleD.v)) (hall : ∀ r ∈ rs, RuleAt w r) (hn : rs.length ≤ 140737488351232) (hv : VF w) :
    Ret Tryz.prog 11 [.agg #[.slice pa rs.length pc]] w (fun v w' => (¬ polE rs = 0 ∧ v = .tuple #[.string ⟨#[]⟩, .int .i64 (polE rs)] ∧ St w [] w' []) ∨ (polE rs = 0 ∧ ∃ (rs' : List RuleD) (n : Nat) (e : Int), PolT (polTx rs) rs' n e ∧ ((¬ (e = 0 ∧ rs' = rs.map nrmR) ∧ v = .tuple #[.string ⟨#[]⟩, vi 2] ∧ St w [] w' []) ∨ ((e = 0 ∧ rs' = rs.map nrmR) ∧ v = .tuple #[.string ⟨(polTx rs).toArray⟩, vi 0] ∧ St w [] w' [])))) := by
  refine enter Tryz.func11 rfl Tryz.ntmps11 rfl ?_
  have hS := St.refl w []
  refine zS<|zR<|zB (v := .agg _) hS rfl rfl fun b1 w1 hS2=>zq 2 rfl<|zN<|zT<|zS<|zS<|zR<|zV (r_loadB ti25 ag25 rfl (hS2.heap Z0) Ln) ?_; refine zE fn9 rfl hS2 (rcheck_ok rs pa rs.length pc _ (hrs.st hS2) rfl hn (fun r hr => (hall r hr).st hS2)) fun w3 hS5=>zq 1 rfl<|zN<|zT<|zS<|zR<|zq 1 rfl ?_
  refine wl_dec (r_neq rfl rfl) rfl (fun h2_1 => ?_) (fun h2_1 => ?_)
  · refine zN<|zT<|zt rfl<|zS<|zR<|zq 3 rfl<|zN<|zT<|zU<|zL<|ret2 Tryz.results11 rfl rfl ?_
    have hF := hS5; exact rprint_ok_c0
  refine zN<|zT<|zf rfl<|zK<|zT<|zS ?_
  have hpe := Classical.not_not.1 h2_1
  obtain ⟨h100, hoks⟩ := polE_zero hpe
  have htd : ∀ r ∈ rs, Tidy r := fun r hr => tidy_of (hoks r hr)
  refine zR<|zV (r_loadB ti25 ag25 rfl (hS5.heap Z0) Ln) ?_; refine zE fn32 rfl hS5 (showPolicy_ok rs pa pc _ (hrs.st hS5) (fun r hr => (hall r hr).st hS5) htd h100 (hv.st hS5)) fun w6 hS8=>zq 1 rfl<|zN<|zT<|zS<|zS<|zR<|zq 1 rfl<|zC fn7 rfl (rparse_ok (polTx rs) _ (hv.st hS8)) ?_
  rintro _ w9 (⟨n1, e1, hp1, hne1, rfl, hx10⟩ | ⟨rs1, a1, c1, LT1, hp1, hT1, hc1, rfl, hx10⟩)
  · have hS11 := hS8.ext hx10
    refine zq 4 rfl<|zA (C := [.slice none 0 0]) hS11 ti25 rfl fun b6 w12 hS13=>zY (x_storeW [] hS13 ti25 rfl rfl rfl rfl (one_all rfl)) ?_; intro w14 hS15; simp only [ca, na] at hS15; refine zq 2 rfl<|zN<|zT<|zS<|zR<|zq 1 rfl<|wl_dec_t (r_neq rfl rfl) rfl hne1<|zq 6 rfl<|zN<|zT<|zt rfl<|zS<|zR<|zq 2 rfl<|zN<|zT<|zU<|zL<|ret2 Tryz.results11 rfl rfl ?_
    have hF := hS15; exact rprint_ok_c0
  have hS11 := St.callT (X := [_]) (LT := LT1) hS8 hx10
  simp only [ca, na] at hS11; refine zq 4 rfl<|zA (C := [.slice none 0 0]) hS11 ti25 rfl fun b6 w16 hS17=>zY (x_storeW [] hS17 ti25 rfl rfl rfl rfl (one_all rfl)) ?_; intro w18 hS19; simp only [ca, na] at hS19; refine zq 2 rfl<|zN<|zT<|zS<|zR<|zq 1 rfl<|wl_dec_f (r_neq rfl rfl) rfl (by decide)<|zq 1 rfl<|wl_val (r_loadB ti25 ag25 rfl (hS19.heap Z2) Ln) rfl ?_; refine wl_val (r_loadB ti25 ag25 rfl (hS19.heap Z0) Ln) rfl ?_; refine zC fn8 rfl (samePolicy_b rs rs1 _ _ _ _ _ (hrs.st hS19) (St.rowAt hS19 Z1) (fun q hq => (hall q hq).st hS19) (hT1 _ (hS19.hold fun x hx => by simp [hx])) Om) ?_
  rintro _ w20 (⟨heq, rfl, hx21⟩ | ⟨heq, rfl, hx21⟩)
  · have hS22 := hS19.ext hx21
    refine zq 2 rfl<|zN<|zT<|zf rfl<|zK<|zT<|zS<|zR<|zq 3 rfl<|zN<|zT<|zU<|ret2 Tryz.results11 rfl rfl ?_
    have hF := hS22; exact rprint_ok_c0
  have hS22 := hS19.ext hx21; refine zq 2 rfl<|zN<|zT<|zt rfl<|zS<|zR<|zq 2 rfl<|zN<|zT<|zU<|zL<|ret2 Tryz.results11 rfl rfl ?_
  have hF := hS22; exact rprint_ok_c0

theorem pr3 {C D E G : Prop} {F : List RuleD → Nat → Int → Prop} {N : List RuleD → Int → Prop} (h : C ∨ (D ∧ ∃ (rs' : List RuleD) (n : Nat) (e : Int), F rs' n e ∧ ((¬ N rs' e ∧ E) ∨ (N rs' e ∧ G)))) : C ∨ (D ∧ ∃ (rs' : List RuleD) (n : Nat) (e : Int), F rs' n e ∧ ¬ N rs' e ∧ E) ∨ (D ∧ ∃ (rs' : List RuleD) (n : Nat) (e : Int), F rs' n e ∧ N rs' e ∧ G) := by
  rcases h with h | ⟨hd, a, b, c, hf, ⟨h1, h2⟩ | ⟨h1, h2⟩⟩
  · exact .inl h
  · exact .inr (.inl ⟨hd, a, b, c, hf, h1, h2⟩)
  · exact .inr (.inr ⟨hd, a, b, c, hf, h1, h2⟩)

theorem policySum_ok_c0 {p : Prop} (h : p := by first | exact .inl ⟨hne1, rfl, hF.fin⟩ | exact .inr ⟨hpe1, _, _, _, hq1, .inl ⟨hno1, rfl, hF.fin⟩⟩ | exact .inr ⟨hpe1, _, _, _, hq1, .inr ⟨hok1, rfl, hF.fin⟩⟩) : p := h
set_option maxHeartbeats 4000000 in
theorem policySum_ok (rs : List RuleD) (pa : Option Addr) (pc : Nat) (w : World) (hrs : Row w pa (rs.flatMap RuleD.v)) (hall : ∀ r ∈ rs, RuleAt w r) (hn : rs.length ≤ 140737488351232) (hv : VF w) :
    Ret Tryz.prog 12 [.agg #[.slice pa rs.length pc]] w (fun v w' => (¬ polE rs = 0 ∧ v = .tuple #[.agg ((List.replicate 32 (0 : UInt8)).map b8).toArray, .int .i64 (polE rs)] ∧ St w [] w' []) ∨ (polE rs = 0 ∧ ∃ (rs' : List RuleD) (n : Nat) (e : Int), PolT (polTx rs) rs' n e ∧ ((¬ (e = 0 ∧ rs' = rs.map nrmR) ∧ v = .tuple #[.agg ((List.replicate 32 (0 : UInt8)).map b8).toArray, vi 2] ∧ St w [] w' []) ∨ ((e = 0 ∧ rs' = rs.map nrmR) ∧ v = .tuple #[.agg ((sumL (UInt8.ofNat 0) (polTx rs)).map b8).toArray, vi 0] ∧ St w [] w' [])))) := by
  refine enter Tryz.func12 rfl Tryz.ntmps12 rfl ?_
  have hS := St.refl w []
  refine zS<|zR<|zB (v := .agg _) hS rfl rfl fun b1 w1 hS2=>zA (C := ((List.replicate 32 (0 : UInt8)).map b8)) hS2 ti35 rfl fun b2 w3 hS4=>zq 1 rfl<|zN<|zT<|zS<|zR<|zV (r_loadB ti25 ag25 rfl (hS4.heap Z1) Ln) ?_; refine zC fn10 rfl ((print_ok rs pa pc _ (hrs.st hS4) (fun r hr => (hall r hr).st hS4) hn (hv.st hS4)).mono (fun v w' h => pr3 h)) ?_
  rintro _ w5 (⟨hne1, rfl, hx6⟩ | ⟨hpe1, rq1, nq1, eq1, hq1, hno1, rfl, hx6⟩ | ⟨hpe1, rq1, nq1, eq1, hq1, hok1, rfl, hx6⟩)
  · have hS7 := hS4.ext hx6
    refine zq 5 rfl<|zN<|zT<|zS<|zS<|zR<|zq 1 rfl<|wl_dec_t (r_neq rfl rfl) rfl hne1<|zN<|zT<|zt rfl<|zS<|zR<|zV (r_build0 (cs := ((List.replicate 32 (0 : UInt8)).map b8)) ti35.und ti35 ti5)<|zq 1 rfl<|zY (x_storeW [] hS7 ti35 rfl rfl (by simp) rfl (one_b8 _)) ?_; intro w8 hS9; simp only [ca, na] at hS9; refine zq 1 rfl<|zN<|zT<|zU<|zL<|ret2 Tryz.results12 ⟨_, rfl, run_loadVar_blk ti35 rfl (hS9.heap Z0) (by first | (simp; done) | (rw [List.length_map]; exact sumL_len _ _) | rfl)⟩ rfl ?_
    have hF := hS9; exact policySum_ok_c0
  · have hS7 := hS4.ext hx6
    refine zq 5 rfl<|zN<|zT<|zS<|zS<|zR<|zq 1 rfl<|wl_dec_t (r_neq rfl rfl) rfl (by decide)<|zN<|zT<|zt rfl<|zS<|zR<|zV (r_build0 (cs := ((List.replicate 32 (0 : UInt8)).map b8)) ti35.und ti35 ti5)<|zq 1 rfl<|zY (x_storeW [] hS7 ti35 rfl rfl (by simp) rfl (one_b8 _)) ?_; intro w10 hS11; simp only [ca, na] at hS11; refine zq 1 rfl<|zN<|zT<|zU<|zL<|ret2 Tryz.results12 ⟨_, rfl, run_loadVar_blk ti35 rfl (hS11.heap Z0) (by first | (simp; done) | (rw [List.length_map]; exact sumL_len _ _) | rfl)⟩ rfl ?_
    have hF := hS11; exact policySum_ok_c0
  have hS7 := hS4.ext hx6; refine zq 5 rfl<|zN<|zT<|zS<|zS<|zR<|zq 1 rfl<|wl_dec_f (r_neq rfl rfl) rfl (by decide)<|zN<|zT<|zf rfl<|zK<|zT<|zS ?_
  obtain ⟨h100, hoks⟩ := polE_zero hpe1
  have hpl := polTx_le (fun r hr => tidy_of (hoks r hr))
  refine zR<|zq 1 rfl<|zX (x_strBytes hS7 ti39.und ti9.und ti5.und rfl) ?_; rintro _ w12 ⟨b16, c16, C16, fz16, rfl, hcc16, hC16, hS13⟩; refine zE fn33 rfl hS13 (sumOf_in 0 (polTx rs) _ _ _ _ (by decide) (Row.of_frz (hS13.heap Z0) hC16) rfl hcc16 Om) fun w14 hS16=>zq 2 rfl<|zY (x_storeW [_] hS16 ti35 rfl rfl (by first | (simp; done) | (rw [List.length_map, sumL_len]; simp; done) | rw [List.length_map, sumL_len]) (by first | (simp; done) | (rw [List.length_map, sumL_len]; simp; done) | rw [List.length_map, sumL_len]) (one_b8 _)) ?_; intro w17 hS18; simp only [ca, na] at hS18; refine zq 1 rfl<|zN<|zT<|zU<|ret2 Tryz.results12 ⟨_, rfl, run_loadVar_blk ti35 rfl (hS18.heap Z1) (by first | (simp; done) | (rw [List.length_map]; exact sumL_len _ _) | rfl)⟩ rfl ?_
  have hF := hS18; exact policySum_ok_c0

end Go.Proofs.YtjnnhlbfgnopiaaGreatDoor
end
