/- For every list of steps: Set, Get, Drop, Keys and Root of a map are as the law says; the law's function returns true and turns nothing. No condition. -/
import Derived.Test.YtfohfnpehfcaaaaRows
import Derived.Test.YtfohfnpehfcaaaaOpen
import Derived.Test.YtfohfnpehfcaaaaEntsC
import Derived.Test.YtfohfnpehfcaaaaSrtM
import Derived.Test.YtfohfnpehfcaaaaTreeE
namespace Go.Proofs.Ytfohfnpehfcaaaa.lawMapsMatch
open Go.Kw Go.Proofs.Ytfohfnpehfcaaaa
open Go.ChangeShapes Go.WideShapes Go.ChangeAt Go.RowKit
set_option linter.unusedVariables false
set_option linter.unusedSimpArgs false
set_option maxRecDepth 100000
set_option maxHeartbeats 20000000

theorem walk (l : List StepD) (a : Option Addr) (c : Nat) (w : World) (hb : Row w a (l.flatMap StepD.v)) (hlc : l.length ≤ c) :
    Ret Try.prog 17 [.slice a l.length c] w (fun v w' => v = .bool true ∧ St w [] w' []) := by
  refine enter Try.func17 rfl Try.ntmps17 rfl ?_
  have hS := St.refl w []
  refine c_seq ?_; refine c_region ?_; refine wl_val (r_assign (v := .bool false) rfl) rfl ?_; refine wl_nil ?_; refine c_then ?_; refine c_seq ?_; refine c_seq ?_; refine c_region ?_; refine wl_call (r_call fn20 rfl rfl) rfl (landed_ok _) ?_; rintro _ w1 ⟨rfl, hx2⟩
  have hS3 := hS.ext hx2
  refine wl_val (r_not rfl) rfl ?_; refine wl_nil ?_; refine c_then ?_; refine c_false rfl ?_; refine wp_skip ?_; refine c_then ?_; refine c_seq ?_; refine c_region ?_; refine wl_val (r_move (v := .slice _ _ _) rfl) rfl ?_; refine wl_call (r_call fn90 rfl rfl) rfl (mapped_ok l _ _ _ (hb.st hS3) hlc) ?_; rintro _ w4 ⟨bm, bv, E, clock, a4, n4, c4, rfl, hne, hwf, hnz, hEn, hc4, hn4, hx5⟩
  have hS6 := hS3.call hx5
  simp only [List.cons_append, List.nil_append] at hS6; refine wl_val (r_move (v := .tuple _) rfl) rfl ?_; refine wl_val (r_extract (v := .pointer _) rfl rfl) rfl ?_; refine wl_val (r_extract (v := .slice _ _ _) rfl rfl) rfl ?_; refine wl_val (r_extract (v := .bool _) rfl rfl) rfl ?_; refine wl_val (r_assign (v := .pointer _) rfl) rfl ?_; refine wl_val (r_assign (v := .slice _ _ _) rfl) rfl ?_; refine wl_val (r_assign (v := .bool _) rfl) rfl ?_; refine wl_nil ?_; refine c_then ?_; refine c_seq ?_; refine c_seq ?_; refine c_region ?_; refine wl_val (r_move (v := .bool _) rfl) rfl ?_; refine wl_val (r_not rfl) rfl ?_; refine wl_val (r_move (v := .bool _) rfl) rfl ?_; refine wl_val (r_move (v := .pointer _) rfl) rfl ?_; refine wl_call (r_call fn91 rfl rfl) rfl (mroot_ok E clock bm bv _ (hS6.heap (.tail _ (.head _))) (hS6.heap (.tail _ (.tail _ (.head _)))) hwf hne (by omega)) ?_; rintro _ w7 ⟨rfl, hx8⟩
  have hS9 := St.callM (X := [_, _]) (L := [_]) (hS6.perm ((List.Perm.cons _ ((List.Perm.cons _ (List.Perm.refl _)).trans (List.perm_middle (l₁ := [_])).symm)).trans (List.perm_middle (l₁ := [_])).symm)) hx8 (by simp [Item.id])
  simp only [List.cons_append, List.nil_append] at hS9; refine wl_val (r_move (v := .slice _ _ _) rfl) rfl ?_; refine wl_call (r_call fn92 rfl rfl) rfl (rmapRoot_ok 256 (entsL E) 0 _ n4 _ _ (by omega) (St.rowAt hS9 (.tail _ (.tail _ (.head _)))) (entsL_64 E) (by rw [entsL_len]; exact hEn) hc4 (by omega) (parts_ents hwf)) ?_; rintro _ w10 ⟨rfl, hx11⟩
  have hS12 := hS9.ext hx11
  refine wl_dec_f (r_neqA (u := undef) eg49 rfl rfl (eqIs_b8 ti49.und ti5 _ _ (mapRootF_len _ _ _) (mapRootF_len _ _ _))) rfl (not_not_intro (ents_root hwf)) ?_; refine wl_val (r_pick_f rfl (v := .bool _) rfl) rfl ?_; refine wl_nil ?_; refine c_then ?_; refine c_false rfl ?_; refine wp_skip ?_; refine c_then ?_; refine c_seq ?_; refine c_region ?_; refine wl_call (r_call fn93 rfl rfl) rfl (newMap_ok _) ?_; rintro _ w13 ⟨bn, bu, rfl, hnu, hx14⟩
  have hS15 := hS12.call hx14
  simp only [List.cons_append, List.nil_append] at hS15; refine wl_val (r_assign (v := .pointer _) rfl) rfl ?_; refine wl_nil ?_; refine c_then ?_; refine c_cutE [2, 3, 4, 6] (fun e w' => St w [] w' [.row (.slice a4 n4 c4) 131 64 n4 (((entsL E).reverse).flatten.map b8), .blk bm (cl [.map (some bv)] 198), .blk bv (mobj E clock), .blk bn (cl [.map (some bu)] 198), .blk bu (mobj [] 0)]) ?_ ?_
  · rcases Nat.lt_or_ge n4 1 with hn41 | hn41
    · obtain rfl : n4 = 0 := by omega
      refine c_region ?_; refine wl_val (r_move (v := .slice _ _ _) rfl) rfl ?_; refine wl_call (r_call fn94 rfl rfl) rfl (reverse0_ok _ _ _) ?_
      rintro _ w20 hx21
      have hS22 := hS15.ext hx21
      refine wl_nil ?_; refine c_then ?_
      have e0 : entsL E = [] := List.eq_nil_of_length_eq_zero (by rw [entsL_len]; omega)
      have er : (entsL E).reverse = entsL E := by rw [e0]; rfl
      exact ⟨_, rfl, (by rw [er]; exact (hS22.perm ((List.Perm.cons _ ((List.Perm.cons _ ((List.Perm.cons _ (List.Perm.refl _)).trans (List.perm_middle (l₁ := [_, _])).symm)).trans (List.perm_middle (l₁ := [_, _])).symm)).trans (List.perm_middle (l₁ := [_, _, _, _])).symm))), ⟨rfl, rfl, rfl, rfl, trivial⟩⟩
    obtain ⟨g, D, hga, hC, hnc, hcm, hS23⟩ := St.rowBlkQ (l1 := []) (hS15.perm ((List.Perm.cons _ (List.Perm.refl _)).trans (List.perm_middle (l₁ := [_, _, _, _])).symm)) (by omega)
    subst hga
    simp only [List.nil_append] at hS23
    refine c_region ?_; refine wl_val (r_move (v := .slice _ _ _) rfl) rfl ?_; refine wl_call (r_call fn94 rfl rfl) rfl (reverseE_ok (entsL E) D g n4 c4 _ (hS23.heap (.head _)) (entsL_64 E) (by rw [entsL_len]; exact hEn) (by omega) (by omega)) ?_
    rintro _ w24 hx25
    have hS26 := St.callM (X := [_]) (L := [_, _, _, _]) hS23 hx25 (by simp [Item.id])
    simp only [List.cons_append, List.nil_append] at hS26; refine wl_nil ?_; refine c_then ?_
    have h64r : SN 64 (entsL E).reverse := fun s hs => entsL_64 E s (List.mem_reverse.1 hs)
    have hT := St.toRow (l1 := []) (sz := 64) (n := n4) (cap := c4) (hS26.perm (List.Perm.cons _ ((List.Perm.cons _ ((List.Perm.cons _ (List.Perm.refl _)).trans (List.perm_middle (l₁ := [_, _])).symm)).trans (List.perm_middle (l₁ := [_, _])).symm))) hc4 hcm (by rw [List.length_append, flatN_lenV h64r, List.length_reverse, ← flatN_lenV (entsL_64 E), ← List.length_append]; exact hC)
    simp only [List.nil_append] at hT
    rw [List.take_left' (by rw [flatN_lenV h64r, List.length_reverse, entsL_len, hEn])] at hT
    exact ⟨_, rfl, hT, ⟨rfl, rfl, rfl, rfl, trivial⟩⟩
  · rintro e16 w17 hS18 -
    refine c_seq ?_
    have h64r : SN 64 (entsL E).reverse := fun s hs => entsL_64 E s (List.mem_reverse.1 hs)
    refine c_region ?_; refine wl_val (r_assign (v := .slice none 0 0) rfl) rfl ?_; refine wl_nil ?_; refine c_then ?_; refine c_seq ?_; refine c_seq ?_; refine c_region ?_; refine wl_val (r_move (v := .slice _ _ _) rfl) rfl ?_; refine wl_val (r_len (T := 124) rfl ti124.und rfl _ rfl) rfl ?_; refine wl_val (r_move (v := .int .i64 0) rfl) rfl ?_; refine wl_nil ?_; refine c_then ?_; refine c_block ?_; refine c_loopE [3, 6, 30, 31] (fun d e w' => ∃ (i : Nat) (F : List MapE) (ck : Nat) (a7 : Option Addr) (c7 : Nat), Kw.look e 32 = vi i ∧ Kw.look e 7 = .slice a7 i c7 ∧ d = n4 - i ∧ St w [] w' [.row (.slice a7 i c7) 49 32 i ((keysM F).flatten.map b8), .blk bn (cl [.map (some bu)] 198), .blk bu (mobj F ck), .row (.slice a4 n4 c4) 131 64 n4 (((entsL E).reverse).flatten.map b8), .blk bm (cl [.map (some bv)] 198), .blk bv (mobj E clock)] ∧ (i ≤ n4) ∧ (WfM F ck) ∧ (F.length = i) ∧ (entsL F = (entsL E).reverse.take i) ∧ (i ≤ c7)) (n4 - 0) ?_ ?_
    · exact ⟨0, [], 0, none, 0, rfl, rfl, rfl, (hS18.perm ((List.Perm.cons _ ((List.Perm.cons _ (List.Perm.refl _)).trans (List.perm_middle (l₁ := [_, _, _])).symm)).trans (List.perm_middle (l₁ := [_, _, _])).symm)).nilRow, Nat.zero_le _, WfM.nil, rfl, rfl, Nat.zero_le _⟩
    · rintro d30 e27 w28 ⟨i, F, ck, a7, c7, hc0_32, hc0_7, rfl, hS29, hi, hwF, hFi, hFe, hc7⟩ -
      refine c_set (d := 32) hc0_32 ?_; refine c_set (d := 7) hc0_7 ?_; refine c_seq ?_; refine c_region ?_
      refine wl_dec (r_lss rfl rfl) rfl (fun h10_0 => ?_) (fun h10_0 => ?_)
      · refine wl_nil ?_
        refine c_then ?_; refine c_seq ?_; refine c_true rfl ?_; refine wp_skip ?_; refine c_then ?_; refine c_seq ?_; refine c_block ?_; refine c_seq ?_; refine c_region ?_; refine wl_val (r_ixN ti124.und ti131 rfl rfl (St.rowAt hS29 (.tail _ (.tail _ (.tail _ (.head _))))) h64r (by rw [List.length_reverse, entsL_len]; exact hEn) (by omega) (by decide)) rfl ?_; refine wl_val (r_loadN ti131 ag131 rfl (St.rowAt hS29 (.tail _ (.tail _ (.tail _ (.head _))))) h64r (by rw [List.length_reverse, entsL_len]; omega) (by decide)) rfl ?_; refine wl_exv (x_alloc (C := ((List.replicate 64 (0 : UInt8)).map b8)) hS29 ti131 rfl) rfl ?_; rintro _ w31 ⟨b9, rfl, hS32⟩; refine wl_exs (x_storeW [] hS32 ti131 rfl rfl (by rw [List.length_map, h64r.gt (by rw [List.length_reverse, entsL_len]; omega)]) (by simp) (one_b8 _)) rfl ?_; intro w33 hS34; simp only [List.cons_append, List.nil_append] at hS34; refine wl_nil ?_; refine c_then ?_; refine c_seq ?_; refine c_seq ?_; refine c_region ?_; refine wl_val (r_move (v := .pointer _) rfl) rfl ?_; refine wl_val (r_field fa131_0 rfl) rfl ?_; refine wl_val (r_loadBPm ti49 rfl rfl (hS34.heap (.head _)) (by rw [h64r.gt (by rw [List.length_reverse, entsL_len]; omega)]; decide)) rfl ?_; refine wl_val (r_field fa131_1 rfl) rfl ?_; refine wl_val (r_loadBPm ti49 rfl rfl (hS34.heap (.head _)) (by rw [h64r.gt (by rw [List.length_reverse, entsL_len]; omega)]; decide)) rfl ?_; refine wl_call (r_call fn95 rfl rfl) rfl (mset_in F ck bn bu (gt E (E.length - 1 - i)).k (gt E (E.length - 1 - i)).v _ _ _ (hS34.heap (.tail _ (.tail _ (.head _)))) (hS34.heap (.tail _ (.tail _ (.tail _ (.head _))))) hwF hnu (by omega) (rev_k (by omega)) (rev_v (by omega))) ?_
        rintro _ w35 (⟨hv, rfl, hx36⟩ | ⟨hv, rfl, hx36⟩)
        · exact absurd hv (hnz _ (gt_mem E _ (by omega)))
        · have hS37 := St.callM (X := [_, _]) (L := [_, _, _, _, _]) (hS34.perm ((List.Perm.cons _ ((List.Perm.cons _ (List.Perm.refl _)).trans (List.perm_middle (l₁ := [_, _])).symm)).trans (List.perm_middle (l₁ := [_, _])).symm)) hx36 (by simp [Item.id])
          simp only [List.cons_append, List.nil_append] at hS37
          rw [putM_new (rev_none hwf (by omega) hFe)] at hS37
          dsimp only at hS37
          refine wl_dec_f (r_neq rfl rfl) rfl (by decide) ?_; refine wl_nil ?_; refine c_then ?_; refine c_false rfl ?_; refine wp_skip ?_; refine c_then ?_; refine c_region ?_; refine wl_val (r_move (v := .slice _ _ _) rfl) rfl ?_; refine wl_val (r_field fa131_0 rfl) rfl ?_; refine wl_val (r_loadBPm ti49 rfl rfl (hS37.heap (.tail _ (.tail _ (.head _)))) (by rw [h64r.gt (by rw [List.length_reverse, entsL_len]; omega)]; decide)) rfl ?_; refine wl_exv (x_litA1 hS37 ti53.und ti49 rfl (by rw [List.length_map, rev_k (by omega)]; exact s32 _) rfl (by decide) (by decide)) rfl ?_; rintro _ w38 ⟨b46, rfl, hS39⟩; refine wl_exv (x_append [_, _, _, _] hS39 ti53.und ti49 rfl (by decide) rfl rfl (Row.of_at (at_all (hS39.heap (.head _)))) (by rw [List.length_map, rev_k (by omega)]; exact s32 _) (by first | exact one_b8 _ | exact one_v32 _ | (intro c hc; simp only [List.mem_cons, List.not_mem_nil, or_false] at hc; (first | subst hc | rcases hc with rfl | rfl) <;> rfl)) (by first | omega | (simp [*]; done) | (simp [*] <;> omega)) (by first | omega | (simp [*]; done) | (simp [*] <;> omega)) _ rfl) rfl ?_; rintro _ w40 ⟨aq42, cq42, rfl, hcq42, hS41⟩; simp only [List.cons_append, List.nil_append] at hS41; refine wl_val (r_assign (v := .slice _ _ _) rfl) rfl ?_; refine wl_nil ?_; refine c_inN ?_; refine c_then ?_; refine c_region ?_; refine wl_val (r_addn (b := 1) rfl rfl (by omega)) rfl ?_; refine wl_val (r_move (v := .int .i64 _) rfl) rfl ?_; refine wl_nil ?_; refine c_then ?_
          rw [rev_k (by omega)] at hS41
          have e1 : (keysM F).flatten.map b8 ++ ((gt E (E.length - 1 - i)).k.1).map b8 = (keysM (F ++ [⟨ck, (gt E (E.length - 1 - i)).k, (gt E (E.length - 1 - i)).v⟩])).flatten.map b8 := by simp [keysM]
          rw [e1] at hS41
          exact ⟨n4 - (i + 1), _, by omega, rfl, ⟨i + 1, _, ck + 1, _, _, rfl, rfl, rfl, (hS41.perm (List.Perm.cons _ ((List.Perm.cons _ ((List.Perm.cons _ (List.Perm.refl _)).trans (List.perm_middle (l₁ := [_, _])).symm)).trans (List.perm_middle (l₁ := [_, _])).symm))).drop1.drop1, by omega, hwF.new (rev_none hwf (by omega) hFe), by rw [List.length_append, hFi]; rfl, rev_step (by omega) hFe, hcq42⟩, ⟨rfl, rfl, rfl, rfl, trivial⟩⟩
      refine wl_nil ?_; refine c_then ?_; refine c_seq ?_; refine c_false rfl ?_; refine wp_exit ?_; refine c_thenE ?_; refine c_thenE ?_; refine c_inE ?_; refine c_then ?_; refine c_seq ?_
      have hin : i = n4 := by omega
      have hFr : entsL F = (entsL E).reverse := by rw [hFe, List.take_of_length_le (by rw [List.length_reverse, entsL_len]; omega)]
      have hsame := ents_same hwf hFr
      refine c_region ?_; refine wl_val (r_move (v := .slice _ _ _) rfl) rfl ?_
      have hown := (St.get hS29 (.head _)).1
      refine wl_call (r_call fn96 rfl rfl) rfl (sortM_ok (keysM F) _ _ _ _ hown (keysM_32 _) (by simp [keysM]; omega) (by omega)) ?_; rintro _ w43 ⟨rfl, hx44⟩
      have hS45 := St.callM (X := [_]) (L := [_, _, _, _, _]) hS29 hx44 (fun k hk => ⟨_, List.mem_singleton.2 rfl, by simpa [Item.id] using hk⟩)
      simp only [List.cons_append, List.nil_append] at hS45; refine wl_nil ?_; refine c_then ?_; refine c_seq ?_; refine c_region ?_; refine wl_val (r_move (v := .pointer _) rfl) rfl ?_; refine wl_call (r_call fn91 rfl rfl) rfl (mroot_ok F ck bn bu _ (hS45.heap (.tail _ (.head _))) (hS45.heap (.tail _ (.tail _ (.head _)))) hwF hnu (by omega)) ?_; rintro _ w46 ⟨rfl, hx47⟩
      have hS48 := St.callM (X := [_, _]) (L := [_, _, _, _]) (hS45.perm ((List.Perm.cons _ ((List.Perm.cons _ (List.Perm.refl _)).trans (List.perm_middle (l₁ := [_])).symm)).trans (List.perm_middle (l₁ := [_])).symm)) hx47 (by simp [Item.id])
      simp only [List.cons_append, List.nil_append] at hS48; refine wl_val (r_move (v := .pointer _) rfl) rfl ?_; refine wl_call (r_call fn91 rfl rfl) rfl (mroot_ok E clock bm bv _ (hS48.heap (.tail _ (.tail _ (.tail _ (.tail _ (.head _)))))) (hS48.heap (.tail _ (.tail _ (.tail _ (.tail _ (.tail _ (.head _))))))) hwf hne (by omega)) ?_; rintro _ w49 ⟨rfl, hx50⟩
      have hS51 := St.callM (X := [_, _]) (L := [_, _, _, _]) (hS48.perm ((List.Perm.cons _ ((List.Perm.cons _ (List.Perm.refl _)).trans (List.perm_middle (l₁ := [_, _, _, _])).symm)).trans (List.perm_middle (l₁ := [_, _, _, _])).symm)) hx50 (by simp [Item.id])
      simp only [List.cons_append, List.nil_append] at hS51; refine wl_dec_t (r_eqlA (u := undef) eg49 rfl rfl (eqIs_b8 ti49.und ti5 _ _ (mapRootF_len _ _ _) (mapRootF_len _ _ _))) rfl ((ents_root hwF).trans (hsame.1.trans (ents_root hwf).symm)) ?_; refine wl_val (r_move (v := .bool _) rfl) rfl ?_; refine wl_val (r_move (v := .pointer _) rfl) rfl ?_; refine wl_call (r_call fn99 rfl rfl) rfl (mkeys_ok E clock bm bv _ (hS51.heap (.head _)) (hS51.heap (.tail _ (.head _))) hwf hne (by omega)) ?_; rintro _ w52 ⟨a58, c58, rfl, hc58, hx53⟩
      have hS54 := St.callM (X := [_, _]) (L := [_, _, _, _]) hS51 hx53 (by simp [Item.id])
      simp only [List.cons_append, List.nil_append] at hS54; refine wl_val (r_move (v := .slice _ _ _) rfl) rfl ?_; refine wl_call (r_call fn76 rfl rfl) rfl (equals_t (sortL (keysM E)) (sortL (keysM F)) _ _ _ _ _ _ _ (St.rowAt hS54 (.head _)) (St.rowAt hS54 (.tail _ (.tail _ (.tail _ (.tail _ (.tail _ (.head _))))))) (sort_32 (keysM_32 _)) (sort_32 (keysM_32 _)) (by rw [sortL_len]; simp [keysM]) (by rw [sortL_len]; simp [keysM]; omega) (by omega) hsame.2.symm) ?_; rintro _ w55 ⟨rfl, hx56⟩
      have hS57 := hS54.ext hx56
      refine wl_val (r_pick_t rfl (v := .bool _) rfl) rfl ?_; refine wl_val (r_assign (v := .bool _) rfl) rfl ?_; refine wl_nil ?_; refine c_then ?_; refine wp_ret ?_; refine ret1 Try.results17 ?_
      exact ⟨rfl, hS57.fin⟩


theorem own : ownKnob Try.prog.godebug = none := by kernel_rfl
theorem laidOut : laidOutB Try.prog = true := by kernel_rfl
theorem readable122 : Try.prog.readableRec 122 = true := by kernel_rfl
theorem inside122 : decide (122 < Try.prog.types.size) = true := by kernel_rfl
theorem lifted (os : Os) (started : os.Started) (H : Type) (enc : TypeId × Value → H) :
    ReturnsInHanded {} Try.checked os 17 .any (Rows.mapsMatchSpec.pre6 enc Try.prog Try.f17 Rows.mapsMatchRow.domain false) (Rows.mapsMatchSpec.post enc Try.prog Try.f17 false true false false) := by
  refine returnsInHanded_of_change_sized (C := Try.checked) own started (by kernel_rfl) Try.func17
    (ChangeSpec.witness6 (enc := enc) (C := Try.checked) false ⟨#[], #[.slice none 0 0], []⟩ 8 (by kernel_rfl) (by kernel_rfl) (by kernel_rfl) (by kernel_rfl)) ?_
  intro W base args ds gs before hval0 hW hcnd hsz0 _
  have hval : ∀ (j : Nat) t v, Try.f17.params[j]? = some t → args[j]? = some v → Value.okWide Try.prog W .any base t v := hval0
  have hW' := hW
  obtain ⟨p, q, hA0, hV, rfl, hfz, hnd⟩ := hW
  have hA : DataW.TrodAll enc Try.prog W 0 (fun _ => true) true Try.f17.params.toList args.toList ds p := hA0
  have hsz : (DataW.weightsEach Try.prog (Try.f17.params.toList ++ Rows.mapsMatchSpec.plain.varTypes Try.prog) (ds ++ gs)).all (· ≤ reachBytes) = true := hsz0
  rw [Try.params17] at hA hval hsz
  obtain ⟨v0, vs0, d0, ds0, p0, q0, hargs, rfl, rfl, h0, r0⟩ := trodAll_cons hA
  obtain ⟨rfl, rfl, rfl⟩ := trodAll_nil r0
  obtain rfl : args = #[v0] := by cases args; simp_all
  obtain ⟨rfl, rfl⟩ := trodVars_none hV
  have lt0 : ∀ x ∈ p0, x.block < W.heap.size := by obtain ⟨m, hm⟩ := h0; exact DataW.trod_lt m _ _ _ hm
  have ok0 := hval 0 122 v0 rfl rfl
  obtain ⟨⟨al, cl, l⟩, rfl, rl, lcl, ccl, halll⟩ := open_slice (j := 0) Try.underlying122 (opens_slice (sz := 3) (bts := 24) Try.underlying122 (by kernel_rfl) (by decide) (by kernel_rfl) (fun _ => rfl) (opens_step (opens_struct Try.underlying190 (by kernel_rfl) (opensFs_cons (sz := 1) (opens_i64 Try.underlying3) rfl (by kernel_rfl) (opensFs_cons (sz := 1) (opens_i64 Try.underlying3) rfl (by kernel_rfl) (opensFs_cons (sz := 1) (opens_i64 Try.underlying3) rfl (by kernel_rfl) opensFs_nil (by simp)) (by simp)) (by simp))))) ok0 h0 hsz rfl rfl
  simp only [Sl.v] at *
  refine Calls.mono (walk l al cl W rl lcl) fun e W' ⟨v, he, hv, hs⟩ => ?_
  subst hv; subst he
  have bel := hs.below
  exact ⟨_, rfl, _, _, _, [], _, [], hW', trodAll_mk1 (shut_bool Try.underlying4 _), (trodAll_cons_mk (Below.trod laidOut readable122 (of_decide_eq_true inside122) h0 bel lt0) trodAll_mk0), rfl, bel.frame _, fun h => by cases h⟩
end Go.Proofs.Ytfohfnpehfcaaaa.lawMapsMatch
