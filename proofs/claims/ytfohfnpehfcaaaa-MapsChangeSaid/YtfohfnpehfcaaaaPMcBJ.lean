/- What the law's proof leans on. No condition. -/
import Derived.Test.YtfohfnpehfcaaaaPMcAH
import Derived.Test.YtfohfnpehfcaaaaPMcAV
import Derived.Test.YtfohfnpehfcaaaaPMcBF
import Derived.Test.YtfohfnpehfcaaaaPMcBI
section
namespace Go.Proofs.Ytfohfnpehfcaaaa
open Go.Kw
set_option linter.unusedVariables false
set_option linter.unusedSimpArgs false
set_option maxRecDepth 100000
theorem tip : TI Try.prog 95 sd95 33 56 (.agg (Z32L.map b8 ++ [Value.slice none 0 0]).toArray) := ti95

theorem mapProve_ok (E : List MapE) (clock bm bv : Nat) (k : Sum32) (w : World) (hm : w.heap[bm]? = some (cl [.map (some bv)] 198)) (hb : w.heap[bv]? = some (mobj E clock)) (hwf : WfM E clock) (hne : bm ≠ bv) (hsz : E.length < 1000) :
    Ret Try.prog 101 [pt bm 0, suv k] w (fun x w' => ∃ (T : Nat) (pa : Option Addr) (pn pc : Nat), x = .agg ((marksTo (entM E (keysD E)) k.1 T).map b8 ++ [Value.slice pa pn pc]).toArray ∧ EndsAt (entM E (keysD E)) k.1 T ∧ (fullP (entM E (keysD E)) k.1 T).length = pn ∧ pn ≤ pc ∧ St w [bm, bv] w' [.row (.slice pa pn pc) 49 32 pn ((fullP (entM E (keysD E)) k.1 T).flatten.map b8), .blk bm (cl [.map (some bv)] 198), .blk bv (mobj E clock)]) := by
  have hpt : Parts 0 (entM E (keysD E)) := parts_perm (parts_ents hwf) (ent_perm hwf).symm
  have hk32 := s32 k
  refine enter Try.func101 rfl Try.ntmps101 rfl ?_
  have hS : St w [bm, bv] w [.blk bm (cl [.map (some bv)] 198), .blk bv (mobj E clock)] := St.own2 hm hb hne
  refine c_seq ?_; refine c_region ?_; refine wl_exv (x_box hS (v := .agg _) rfl rfl) rfl ?_; rintro _ w1 ⟨b3, rfl, hS2⟩; refine wl_exv (x_alloc (C := (Z32L.map b8 ++ [Value.slice none 0 0])) hS2 tip rfl) rfl ?_; rintro _ w3 ⟨b4, rfl, hS4⟩; refine wl_nil ?_; refine c_then ?_; refine c_seq ?_; refine c_region ?_; refine wl_val (r_buildZ pl95 tip) rfl ?_; refine wl_exv (x_alloc (C := (Z32L.map b8 ++ [Value.slice none 0 0])) hS4 tip rfl) rfl ?_; rintro _ w5 ⟨b5, rfl, hS6⟩; refine wl_exs (x_storeW [] hS6 tip rfl rfl rfl rfl (one_app (one_b8 _) (one_cons rfl one_nil))) rfl ?_; intro w7 hS8; simp only [List.cons_append, List.nil_append] at hS8; refine wl_nil ?_; refine c_then ?_; refine c_seq ?_; refine c_region ?_; refine wl_val (r_move (v := .pointer _) rfl) rfl ?_; refine wl_call (r_call fn99 rfl rfl) rfl (mkeys_ok E clock bm bv _ (hS8.heap (.tail _ (.tail _ (.tail _ (.head _))))) (hS8.heap (.tail _ (.tail _ (.tail _ (.tail _ (.head _)))))) hwf hne hsz) ?_; rintro _ w9 ⟨a12, c12, rfl, hc12, hx10⟩
  have hS11 := St.callM (X := [_, _]) (L := [_, _, _]) (hS8.perm ((List.Perm.cons _ ((List.Perm.cons _ (List.Perm.refl _)).trans (List.perm_middle (l₁ := [_, _, _])).symm)).trans (List.perm_middle (l₁ := [_, _, _])).symm)) hx10 (by simp [Item.id])
  simp only [List.cons_append, List.nil_append] at hS11; refine wl_val (r_assign (v := .slice _ _ _) rfl) rfl ?_; refine wl_nil ?_; refine c_then ?_; refine c_seq ?_; refine c_seq ?_; refine c_region ?_; refine wl_val (r_assign (v := .int .i64 0) rfl) rfl ?_; refine wl_nil ?_; refine c_then ?_; refine c_block ?_
  obtain ⟨LT12, hLT12, hS13⟩ := St.frame [_] [_, _, _, _, _] (hS11.perm ((List.Perm.cons _ (List.Perm.refl _)).trans (List.perm_middle (l₁ := [_, _, _])).symm))
  simp only [List.cons_append, List.nil_append] at hS13
  have hm12_r12 := inL hLT12 (.head _)
  have hm12_bm := inL hLT12 (.tail _ (.head _))
  have hm12_bv := inL hLT12 (.tail _ (.tail _ (.head _)))
  have hm12_b4 := inL hLT12 (.tail _ (.tail _ (.tail _ (.head _))))
  have hm12_b3 := inL hLT12 (.tail _ (.tail _ (.tail _ (.tail _ (.head _)))))
  refine c_loopE [0, 3, 4, 5] (fun d e w' => ∃ (lev : Nat) (ds : List Sum32) (a6 : Option Addr) (n6 c6 : Nat) (pa : Option Addr) (pn pc : Nat), Kw.look e 6 = .slice a6 n6 c6 ∧ Kw.look e 7 = vi lev ∧ d = 256 - lev ∧ St w [bm, bv] w' (.blk b5 (cl ((marksTo (entM E (keysD E)) k.1 lev).map b8 ++ [Value.slice pa pn pc]) 95) :: .row (.slice pa pn pc) 49 32 pn ((sibsTo (entM E (keysD E)) k.1 lev).flatten.map b8) :: LT12) ∧ (KeysP a12 E lev ds a6 n6 c6) ∧ (entM E ds = lvlL (entM E (keysD E)) k.1 lev) ∧ (∀ j, j < lev → 2 ≤ (lvlL (entM E (keysD E)) k.1 j).length) ∧ ((sibsTo (entM E (keysD E)) k.1 lev).length = pn) ∧ (pn ≤ pc) ∧ (lev ≤ 256)) (256 - 0) ?_ ?_
  · exact ⟨0, keysD E, _, _, _, none, 0, 0, rfl, rfl, rfl, ((St.nilRow hS13).perm (List.Perm.swap _ _ _)), ⟨keysD_len E, hc12, fun W h => by rw [keysD_raw]; exact h, keysD_lt hwf, alike0 _, keysD_get E, by omega⟩, rfl, fun j hj => by omega, rfl, Nat.le_refl _, Nat.zero_le _⟩
  · rintro d17 e14 w15 ⟨lev, ds, a6, n6, c6, pa, pn, pc, hc0_6, hc0_7, rfl, hS16, hK, hcur, hmore, hpn, hpc, hle⟩ -
    refine c_set (d := 6) hc0_6 ?_; refine c_set (d := 7) hc0_7 ?_; refine c_seq ?_; refine c_seq ?_; refine c_region ?_; refine wl_val (r_move (v := .slice _ _ _) rfl) rfl ?_; refine wl_val (r_len (T := 53) rfl ti53.und rfl _ rfl) rfl ?_
    refine wl_dec (r_gtr rfl rfl) rfl (fun h4_2 => ?_) (fun h4_2 => ?_)
    · refine wl_nil ?_
      refine c_then ?_; refine c_true rfl ?_; refine wp_skip ?_; refine c_then ?_; refine c_seq ?_; refine c_block ?_; refine c_seq ?_
      have hl2 : 2 ≤ (lvlL (entM E (keysD E)) k.1 lev).length := by rw [← hcur, entM_len, hK.len]; omega
      have hlev := lvl_lt hpt hle hl2
      have hsl := sibs_len (entM E (keysD E)) k.1 lev
      refine c_region ?_; refine wl_val (r_move (v := .slice _ _ _) rfl) rfl ?_; refine wl_val (r_move (v := .int .i64 _) rfl) rfl ?_; refine wl_call (r_call fn164 rfl rfl) rfl (halves_ok (rawL ds) _ n6 _ lev _ (hK.row _ (St.rowAt hS16 (.tail _ (.tail _ hm12_r12)))) (rawL_32 ds) (by rw [rawL_len]; exact hK.len) hK.cap (by have := hK.small; omega) hlev) ?_; rintro _ w18 ⟨i, hi, hz, hnz, rfl, hx19⟩
      have hS20 := hS16.ext hx19
      have hH := hK.halves hlev hi hz hnz
      refine wl_val (r_move (v := .tuple _) rfl) rfl ?_; refine wl_val (r_extract (v := .slice _ _ _) rfl rfl) rfl ?_; refine wl_val (r_extract (v := .slice _ _ _) rfl rfl) rfl ?_; refine wl_val (r_assign (v := .slice _ _ _) rfl) rfl ?_; refine wl_val (r_assign (v := .slice _ _ _) rfl) rfl ?_; refine wl_nil ?_; refine c_then ?_; refine c_cutE [0, 3, 4, 5, 6, 7] (fun e w' => ∃ (da db : List Sum32) (a8 : Option Addr) (n8 c8 : Nat) (a9 : Option Addr) (n9 c9 : Nat), Kw.look e 8 = .slice a8 n8 c8 ∧ Kw.look e 9 = .slice a9 n9 c9 ∧ St w [bm, bv] w' (.blk b5 (cl ((marksTo (entM E (keysD E)) k.1 lev).map b8 ++ [Value.slice pa pn pc]) 95) :: .row (.slice pa pn pc) 49 32 pn ((sibsTo (entM E (keysD E)) k.1 lev).flatten.map b8) :: LT12) ∧ (KeysP a12 E (lev + 1) da a8 n8 c8) ∧ (KeysP a12 E (lev + 1) db a9 n9 c9) ∧ (entM E da = lvlL (entM E (keysD E)) k.1 (lev + 1)) ∧ (entM E db = outL (entM E (keysD E)) k.1 lev)) ?_ ?_
      · refine c_seq ?_
        refine c_region ?_; refine wl_val (r_loadB ti49 rfl rfl (hS20.heap (.tail _ (.tail _ hm12_b3))) (by first | (simp [*]; done) | (simp [*] <;> omega) | omega)) rfl ?_; refine wl_val (r_move (v := .int .i64 _) rfl) rfl ?_; refine wl_call (r_call fn165 rfl rfl) rfl (bit_ok _ _ _ hk32 hlev) ?_; rintro _ w25 ⟨rfl, hx26⟩
        have hS27 := hS20.ext hx26
        refine wl_dec (r_eql rfl rfl) rfl (fun h7_3 => ?_) (fun h7_3 => ?_)
        · refine wl_nil ?_
          refine c_then ?_; refine c_true rfl ?_; refine c_region ?_; refine wl_val (r_move (v := .slice _ _ _) rfl) rfl ?_; refine wl_val (r_move (v := .slice _ _ _) rfl) rfl ?_; refine wl_val (r_assign (v := .slice _ _ _) rfl) rfl ?_; refine wl_val (r_assign (v := .slice _ _ _) rfl) rfl ?_; refine wl_nil ?_; refine c_then ?_
          have hbk : bitL k.1 lev = 1 := by omega
          exact ⟨_, rfl, ⟨ds.drop i, ds.take i, _, _, _, _, _, _, rfl, rfl, hS27, hH.2.1, hH.1.1, by rw [lvlL, ← hcur, hbk, filter_one]; exact hH.2.2, by rw [outL, ← hcur, hbk, filter_zero]; exact hH.1.2⟩, ⟨rfl, rfl, rfl, rfl, rfl, rfl, trivial⟩⟩
        refine wl_nil ?_; refine c_then ?_; refine c_false rfl ?_; refine wp_skip ?_; refine c_then ?_
        have hbk : bitL k.1 lev = 0 := by have := bitL_01 k.1 lev; omega
        exact ⟨_, rfl, ⟨ds.take i, ds.drop i, _, _, _, _, _, _, rfl, rfl, hS27, hH.1.1, hH.2.1, by rw [lvlL, ← hcur, hbk]; exact hH.1.2, by rw [outL, ← hcur, hbk]; exact hH.2.2⟩, ⟨rfl, rfl, rfl, rfl, rfl, rfl, trivial⟩⟩
      · rintro e21 w22 ⟨da, db, a8, n8, c8, a9, n9, c9, hc24_8, hc24_9, hS23, hKa, hKb, hca, hcb⟩ -
        refine c_set (d := 8) hc24_8 ?_; refine c_set (d := 9) hc24_9 ?_; refine c_seq ?_; refine c_seq ?_; refine c_region ?_; refine wl_val (r_move (v := .slice _ _ _) rfl) rfl ?_; refine wl_val (r_len (T := 53) rfl ti53.und rfl _ rfl) rfl ?_
        refine wl_dec (r_gtr rfl rfl) rfl (fun h9_2 => ?_) (fun h9_2 => ?_)
        · refine wl_nil ?_
          refine c_then ?_; refine c_true rfl ?_; refine c_seq ?_; refine c_drawS 10 hMixed hS23 ?_; intro w28 hS29; refine g_take 0 rfl (by decide +kernel) rfl (fun _ _ _ h => h) hS29 (fun wF hF => r_move (v := .int .i64 _) rfl) ?_; refine g_take 1 rfl (by decide +kernel) rfl (fun _ _ _ h => h) hS29 (fun wF hF => r_quon (b := 8) rfl rfl (by omega) (by omega)) ?_; refine g_take 2 rfl (by decide +kernel) rfl (fun _ _ _ h => h) hS29 (fun wF hF => r_field fa95_0 rfl) ?_; refine g_take 3 rfl (by decide +kernel) rfl (fun _ _ _ h => h) hS29 (fun wF hF => r_ixA (sz := 1) ti31.und ti5 rfl rfl (by first | omega | (simp [*]; done) | (simp [*] <;> omega)) (Nat.zero_add _ |>.trans (Nat.mul_one _))) ?_; refine g_take 4 rfl (by decide +kernel) rfl (fun _ _ _ h => h) hS29 (fun wF hF => r_loadB1 ti5.und rfl rfl (hF.heap (.head _)) (mp_gt (by rw [marks_len]; omega))) ?_; refine g_take 5 rfl (by decide +kernel) rfl (fun _ _ _ h => h) hS29 (fun wF hF => r_move (v := .int .i64 _) rfl) ?_; refine g_take 6 rfl (by decide +kernel) rfl (fun _ _ _ h => h) hS29 (fun wF hF => r_remn (b := 8) rfl rfl (by omega)) ?_; refine g_take 7 rfl (by decide +kernel) rfl (fun _ _ _ h => h) hS29 (fun wF hF => r_shr8 (a := 128) rfl rfl (by first | omega | (simp [*]; done) | (simp [*] <;> omega))) ?_; refine g_take 8 rfl (by decide +kernel) rfl (fun _ _ _ h => h) hS29 (fun wF hF => r_or8 rfl rfl) ?_; refine g_take 9 rfl (by decide +kernel) rfl (fun _ _ _ h => h) hS29 (fun wF hF => r_field fa95_0 rfl) ?_; refine g_tail (by decide +kernel) rfl (by decide +kernel) ?_
          refine wl_val (r_ixA (sz := 1) ti31.und ti5 rfl rfl (by first | omega | (simp [*]; done) | (simp [*] <;> omega)) (Nat.zero_add _ |>.trans (Nat.mul_one _))) rfl ?_; refine wl_exs (x_store1 (v := b8 _) [] hS29 ti5 rfl rfl rfl (by simp [marks_len]; omega)) rfl ?_; intro w30 hS31; simp only [List.cons_append, List.nil_append] at hS31
          rw [mp_set (by rw [marks_len]; omega)] at hS31
          refine wl_nil ?_; refine c_then ?_; refine c_drawS 8 hMixed hS31 ?_; intro w32 hS33; refine g_take 0 rfl (by decide +kernel) rfl (fun _ _ _ h => h) hS33 (fun wF hF => r_field fa95_1 rfl) ?_; refine g_take 1 rfl (by decide +kernel) rfl (fun _ _ _ h => h) hS33 (fun wF hF => r_loadB1 ti53.und rfl rfl (hF.heap (.head _)) (mp_get (by simp [marks_len]))) ?_; refine g_take 2 rfl (by decide +kernel) rfl (fun _ _ _ h => h) hS33 (fun wF hF => r_move (v := .pointer _) rfl) ?_; refine g_take 3 rfl (by decide +kernel) rfl (fun _ _ _ h => h) hS33 (fun wF hF => r_move (v := .slice _ _ _) rfl) ?_; refine g_take 4 rfl (by decide +kernel) rfl (fun _ _ _ h => h) hS33 (fun wF hF => r_move (v := .int .i64 _) rfl) ?_; refine g_take 5 rfl (by decide +kernel) rfl (fun _ _ _ h => h) hS33 (fun wF hF => r_addn (b := 1) rfl rfl (by omega)) ?_; refine g_one 6 (by decide +kernel) (by decide +kernel) ?_; refine o_call rfl (r_call fn159 rfl rfl) rfl (part_ok E clock bm bv hwf (255 - lev) db (lev + 1) _ n9 _ _ (by omega) (hKb.row _ (St.rowAt hS33 (.tail _ (.tail _ hm12_r12)))) hKb.len hKb.cap hKb.small hKb.lt hKb.alike hKb.got (hS33.heap (.tail _ (.tail _ hm12_bm))) (hS33.heap (.tail _ (.tail _ hm12_bv)))) ?_; rintro _ w34 ⟨rfl, hx35⟩
          have hS36 := hS33.ext hx35
          refine ⟨hS36, ?_⟩
          refine g_one 7 (by decide +kernel) (by decide +kernel) ?_; refine o_exv rfl (x_litA1 hS36 ti53.und ti49 rfl (by rw [List.length_map, mapRootF_len]) rfl (by decide) (by decide)) rfl ?_; rintro _ w37 ⟨b51, rfl, hS38⟩
          refine ⟨hS38.drop1, ?_⟩
          refine g_tail (by decide +kernel) rfl (by decide +kernel) ?_; refine wl_exv (x_append [_, _] hS38 ti53.und ti49 rfl (by decide) rfl rfl (Row.of_at (at_all (hS38.heap (.head _)))) (by rw [List.length_map, mapRootF_len]) (by first | exact one_b8 _ | exact one_v32 _ | (intro c hc; simp only [List.mem_cons, List.not_mem_nil, or_false] at hc; (first | subst hc | rcases hc with rfl | rfl) <;> rfl)) (by first | omega | (simp [*]; done) | (simp [*] <;> omega)) (by first | omega | (simp [*]; done) | (simp [*] <;> omega)) _ rfl) rfl ?_; rintro _ w39 ⟨aq41, cq41, rfl, hcq41, hS40⟩; simp only [List.cons_append, List.nil_append] at hS40; refine wl_val (r_field fa95_1 rfl) rfl ?_; refine wl_exs (x_store1 (v := .slice _ _ _) [_] hS40 ti53 rfl rfl rfl (by simp [marks_len])) rfl ?_; intro w42 hS43; simp only [List.cons_append, List.nil_append] at hS43
          rw [mp_setR (by simp [marks_len])] at hS43
          refine wl_nil ?_; refine c_then ?_; refine c_region ?_; refine wl_val (r_move (v := .slice _ _ _) rfl) rfl ?_; refine wl_val (r_assign (v := .slice _ _ _) rfl) rfl ?_; refine wl_nil ?_; refine c_inN ?_; refine c_then ?_; refine c_region ?_; refine wl_val (r_move (v := .int .i64 _) rfl) rfl ?_; refine wl_val (r_addn (b := 1) rfl rfl (by omega)) rfl ?_; refine wl_val (r_assign (v := .int .i64 _) rfl) rfl ?_; refine wl_nil ?_; refine c_then ?_
          have e0 : ¬ (outL (entM E (keysD E)) k.1 lev).length = 0 := by rw [← hcb, entM_len, hKb.len]; omega
          have e1 : (marksTo (entM E (keysD E)) k.1 lev).set (lev / 8) (gt (marksTo (entM E (keysD E)) k.1 lev) (lev / 8) ||| ((128 : UInt8) >>> UInt8.ofNat (lev % 8))) = marksTo (entM E (keysD E)) k.1 (lev + 1) := by rw [marksTo, if_neg e0]; rfl
          have e2 : sibsTo (entM E (keysD E)) k.1 (lev + 1) = sibsTo (entM E (keysD E)) k.1 lev ++ [mapRootF (255 - lev) (entM E db) (lev + 1)] := by rw [sibsTo, if_neg e0, hcb]
          rw [e1] at hS43
          rw [← List.map_append, ← flat_snoc, ← e2] at hS43
          exact ⟨256 - (lev + 1), _, by omega, rfl, ⟨lev + 1, da, _, _, _, _, _, _, rfl, rfl, rfl, hS43.drop1, hKa, hca, fun j hj => by by_cases e : j = lev; (subst e; exact hl2); exact hmore j (by omega), by rw [e2, List.length_append, hpn]; rfl, hcq41, by omega⟩, ⟨rfl, rfl, rfl, rfl, trivial⟩⟩
        refine wl_nil ?_; refine c_then ?_; refine c_false rfl ?_; refine wp_skip ?_; refine c_then ?_; refine c_region ?_; refine wl_val (r_move (v := .slice _ _ _) rfl) rfl ?_; refine wl_val (r_assign (v := .slice _ _ _) rfl) rfl ?_; refine wl_nil ?_; refine c_inN ?_; refine c_then ?_; refine c_region ?_; refine wl_val (r_move (v := .int .i64 _) rfl) rfl ?_; refine wl_val (r_addn (b := 1) rfl rfl (by omega)) rfl ?_; refine wl_val (r_assign (v := .int .i64 _) rfl) rfl ?_; refine wl_nil ?_; refine c_then ?_
        have e0 : (outL (entM E (keysD E)) k.1 lev).length = 0 := by rw [← hcb, entM_len, hKb.len]; omega
        have e1 : marksTo (entM E (keysD E)) k.1 lev = marksTo (entM E (keysD E)) k.1 (lev + 1) := by rw [marksTo, if_pos e0]
        have e2 : sibsTo (entM E (keysD E)) k.1 lev = sibsTo (entM E (keysD E)) k.1 (lev + 1) := by rw [sibsTo, if_pos e0]
        rw [e1, e2] at hS23
        exact ⟨256 - (lev + 1), _, by omega, rfl, ⟨lev + 1, da, _, _, _, _, _, _, rfl, rfl, rfl, hS23, hKa, hca, fun j hj => by by_cases e : j = lev; (subst e; exact hl2); exact hmore j (by omega), by rw [← e2]; exact hpn, hpc, by omega⟩, ⟨rfl, rfl, rfl, rfl, trivial⟩⟩
    refine wl_nil ?_; refine c_then ?_; refine c_false rfl ?_; refine wp_exit ?_; refine c_thenE ?_; refine c_thenE ?_; refine c_inE ?_; refine c_then ?_; refine c_seq ?_; refine c_seq ?_; refine c_drawS 8 hMixed hS16 ?_; intro w44 hS45; refine g_take 0 rfl (by decide +kernel) rfl (fun _ _ _ h => h) hS45 (fun wF hF => r_move (v := .slice _ _ _) rfl) ?_; refine g_take 1 rfl (by decide +kernel) rfl (fun _ _ _ h => h) hS45 (fun wF hF => r_len (T := 53) rfl ti53.und rfl _ rfl) ?_
    refine g_dec 2 rfl (by decide +kernel) rfl (fun _ _ _ _ h => h) hS45 (fun wF hF => r_eql rfl rfl) (fun h13_2 => ?_) (fun h13_2 => ?_)
    · refine g_take 3 rfl (by decide +kernel) rfl (fun _ _ _ h => h) hS45 (fun wF hF => r_move (v := .bool _) rfl) ?_
      refine g_take 4 rfl (by decide +kernel) rfl (fun _ _ _ h => h) hS45 (fun wF hF => r_move (v := .slice _ _ _) rfl) ?_; refine g_take 5 rfl (by decide +kernel) rfl (fun _ _ _ h => h) hS45 (fun wF hF => r_ix32 (m := 0) ti53.und ti49 rfl rfl (hK.row _ (St.rowAt hF (.tail _ (.tail _ hm12_r12)))) (rawL_32 ds) (by rw [rawL_len]; exact hK.len) (by omega)) ?_; refine g_take 6 rfl (by decide +kernel) rfl (fun _ _ _ h => h) hS45 (fun wF hF => r_load32 ti49 rfl rfl (hK.row _ (St.rowAt hF (.tail _ (.tail _ hm12_r12)))) (rawL_32 ds) (by rw [rawL_len, hK.len]; omega)) ?_; refine g_take 7 rfl (by decide +kernel) rfl (fun _ _ _ h => h) hS45 (fun wF hF => r_loadB ti49 rfl rfl (hF.heap (.tail _ (.tail _ hm12_b3))) (by first | (simp [*]; done) | (simp [*] <;> omega) | omega)) ?_; refine g_tail (by decide +kernel) rfl (by decide +kernel) ?_
      refine wl_dec (r_neqA (u := undef) eg49 rfl rfl (eqIs_b8 ti49.und ti5 _ _ ((rawL_32 ds).gt (by rw [rawL_len, hK.len]; omega)) hk32)) rfl (fun h13_8 => ?_) (fun h13_8 => ?_)
      · refine wl_val (r_pick_t rfl (v := .bool _) rfl) rfl ?_
        refine wl_nil ?_; refine c_then ?_; refine c_true rfl ?_
        have hsl := sibs_len (entM E (keysD E)) k.1 lev
        obtain ⟨v0, hg⟩ := hK.got _ (gt_mem ds 0 (by rw [hK.len]; omega))
        refine c_drawS 14 hMixed hS45 ?_; intro w46 hS47; refine g_take 0 rfl (by decide +kernel) rfl (fun _ _ _ h => h) hS47 (fun wF hF => r_field fa95_1 rfl) ?_; refine g_take 1 rfl (by decide +kernel) rfl (fun _ _ _ h => h) hS47 (fun wF hF => r_loadB1 ti53.und rfl rfl (hF.heap (.head _)) (mp_get (by simp [marks_len]))) ?_; refine g_take 2 rfl (by decide +kernel) rfl (fun _ _ _ h => h) hS47 (fun wF hF => r_move (v := .slice _ _ _) rfl) ?_; refine g_take 3 rfl (by decide +kernel) rfl (fun _ _ _ h => h) hS47 (fun wF hF => r_ix32 (m := 0) ti53.und ti49 rfl rfl (hK.row _ (St.rowAt hF (.tail _ (.tail _ hm12_r12)))) (rawL_32 ds) (by rw [rawL_len]; exact hK.len) (by omega)) ?_; refine g_take 4 rfl (by decide +kernel) rfl (fun _ _ _ h => h) hS47 (fun wF hF => r_load32 ti49 rfl rfl (hK.row _ (St.rowAt hF (.tail _ (.tail _ hm12_r12)))) (rawL_32 ds) (by rw [rawL_len, hK.len]; omega)) ?_; refine g_take 5 rfl (by decide +kernel) rfl (fun _ _ _ h => h) hS47 (fun wF hF => r_move (v := .pointer _) rfl) ?_; refine g_take 6 rfl (by decide +kernel) rfl (fun _ _ _ h => h) hS47 (fun wF hF => r_nilCheck rfl) ?_; refine g_take 7 rfl (by decide +kernel) rfl (fun _ _ _ h => h) hS47 (fun wF hF => r_field fa198_0 rfl) ?_; refine g_take 8 rfl (by decide +kernel) rfl (fun _ _ _ h => h) hS47 (fun wF hF => r_loadB1 ti196.und rfl rfl (hF.heap (.tail _ (.tail _ hm12_bm))) rfl) ?_; refine g_take 9 rfl (by decide +kernel) rfl (fun _ _ _ h => h) hS47 (fun wF hF => r_move (v := .slice _ _ _) rfl) ?_; refine g_take 10 rfl (by decide +kernel) rfl (fun _ _ _ h => h) hS47 (fun wF hF => r_ix32 (m := 0) ti53.und ti49 rfl rfl (hK.row _ (St.rowAt hF (.tail _ (.tail _ hm12_r12)))) (rawL_32 ds) (by rw [rawL_len]; exact hK.len) (by omega)) ?_
        refine g_take 11 rfl (by decide +kernel) rfl (fun _ _ _ h => h) hS47 (fun wF hF => r_load32 ti49 rfl rfl (hK.row _ (St.rowAt hF (.tail _ (.tail _ hm12_r12)))) (rawL_32 ds) (by rw [rawL_len, hK.len]; omega)) ?_; refine g_one 12 (by decide +kernel) (by decide +kernel) ?_; refine o_val rfl (r_lookup1_some (q := gt ds 0) sumKeys hwf ti196.und rfl (congrArg (fun z : List UInt8 => Value.agg (z.map b8).toArray) (rawL_gt (by rw [hK.len]; omega))) (hS47.heap (.tail _ (.tail _ hm12_bv))) hg) rfl ?_
        refine ⟨hS47, ?_⟩
        refine g_one 13 (by decide +kernel) (by decide +kernel) ?_; refine o_exv rfl (x_litA2 hS47 ti53.und ti49 rfl (by rw [List.length_map]; exact ((rawL_32 ds).gt (by rw [rawL_len, hK.len]; omega))) (by rw [List.length_map]; exact s32 _) rfl (by decide) (by decide)) rfl ?_; rintro _ w48 ⟨b78, rfl, hS49⟩
        refine ⟨hS49.drop1, ?_⟩
        refine g_tail (by decide +kernel) rfl (by decide +kernel) ?_; refine wl_exv (x_append [_, _] hS49 ti53.und ti49 rfl (by decide) rfl rfl (Row.of_at (at_all (hS49.heap (.head _)))) (by rw [List.length_append, List.length_map, List.length_map, v0.2, ((rawL_32 ds).gt (by rw [rawL_len, hK.len]; omega))]) (one_app (one_b8 _) (one_b8 _)) (by first | omega | (simp [*]; done) | (simp [*] <;> omega)) (by first | omega | (simp [*]; done) | (simp [*] <;> omega)) _ rfl) rfl ?_; rintro _ w50 ⟨aq52, cq52, rfl, hcq52, hS51⟩; simp only [List.cons_append, List.nil_append] at hS51; refine wl_val (r_field fa95_1 rfl) rfl ?_; refine wl_exs (x_store1 (v := .slice _ _ _) [_] hS51 ti53 rfl rfl rfl (by simp [marks_len])) rfl ?_; intro w53 hS54; simp only [List.cons_append, List.nil_append] at hS54
        rw [mp_setR (by simp [marks_len])] at hS54
        refine wl_nil ?_; refine c_then ?_; refine c_seq ?_; refine c_region ?_; refine wl_val (r_loadB tip ag95 rfl (hS54.heap (.tail _ (.head _))) (by simp [marks_len])) rfl ?_
        subst hLT12
        refine wl_exs (x_storeW [_, _, _, _, _, _] hS54 tip rfl rfl (by simp [marks_len]) (by simp) (one_app (one_b8 _) (one_cons rfl one_nil))) rfl ?_; intro w55 hS56; simp only [List.cons_append, List.nil_append] at hS56; refine wl_nil ?_; refine c_then ?_; refine wp_ret ?_; refine retc Try.results101 ⟨_, rfl, run_loadVar_blk tip ag95 (hS56.heap (.tail _ (.tail _ (.tail _ (.tail _ (.tail _ (.tail _ (.head _)))))))) (by simp [marks_len])⟩ ?_
        have hT : EndsAt (entM E (keysD E)) k.1 lev := ⟨hle, hmore, by rw [← hcur, entM_len, hK.len]; omega⟩
        have hdl : 0 < ds.length := by rw [hK.len]; omega
        have hfl : fullP (entM E (keysD E)) k.1 lev = sibsTo (entM E (keysD E)) k.1 lev ++ [gt (rawL ds) 0, v0.1] := by rw [fullP, ← hcur, last_one (by rw [entM_len, hK.len]; omega) (by rw [ent_at hdl]; exact h13_8), ent_at hdl, ent_val hdl hg]
        have e9 : (sibsTo (entM E (keysD E)) k.1 lev).flatten.map b8 ++ ((gt (rawL ds) 0).map b8 ++ v0.1.map b8) = (fullP (entM E (keysD E)) k.1 lev).flatten.map b8 := by rw [hfl]; simp
        rw [e9] at hS56
        exact ⟨lev, _, _, _, rfl, hT, by rw [hfl, List.length_append, hpn]; rfl, hcq52, (hS56.perm (List.Perm.cons _ (List.Perm.cons _ ((List.Perm.cons _ ((List.Perm.cons _ ((List.Perm.cons _ (List.Perm.refl _)).trans (List.perm_middle (l₁ := [_, _, _])).symm)).trans (List.perm_middle (l₁ := [_, _, _])).symm)).trans (List.perm_middle (l₁ := [_])).symm)))).drop1.drop1.drop1.drop1.drop1⟩
      refine wl_val (r_pick_t rfl (v := .bool _) rfl) rfl ?_; refine wl_nil ?_; refine c_then ?_; refine c_false rfl ?_; refine wp_skip ?_; refine c_then ?_; refine c_seq ?_; refine c_region ?_; refine wl_val (r_loadB tip ag95 rfl (hS45.heap (.head _)) (by simp [marks_len])) rfl ?_
      subst hLT12
      refine wl_exs (x_storeW [_, _, _, _, _] hS45 tip rfl rfl (by simp [marks_len]) (by simp) (one_app (one_b8 _) (one_cons rfl one_nil))) rfl ?_; intro w57 hS58; simp only [List.cons_append, List.nil_append] at hS58; refine wl_nil ?_; refine c_then ?_; refine wp_ret ?_; refine retc Try.results101 ⟨_, rfl, run_loadVar_blk tip ag95 (hS58.heap (.tail _ (.tail _ (.tail _ (.tail _ (.tail _ (.head _))))))) (by simp [marks_len])⟩ ?_
      have hT : EndsAt (entM E (keysD E)) k.1 lev := ⟨hle, hmore, by rw [← hcur, entM_len, hK.len]; omega⟩
      have hfl : fullP (entM E (keysD E)) k.1 lev = sibsTo (entM E (keysD E)) k.1 lev := by rw [fullP, ← hcur, last_same (by rw [ent_at (by rw [hK.len]; omega)]; exact Classical.not_not.1 h13_8), List.append_nil]
      exact ⟨lev, _, _, _, rfl, hT, by rw [hfl]; exact hpn, hpc, by rw [hfl]; exact (hS58.perm (List.Perm.cons _ ((List.Perm.cons _ ((List.Perm.cons _ ((List.Perm.cons _ (List.Perm.refl _)).trans (List.perm_middle (l₁ := [_, _, _])).symm)).trans (List.perm_middle (l₁ := [_, _, _])).symm)).trans (List.perm_middle (l₁ := [_])).symm))).drop1.drop1.drop1.drop1⟩
    refine g_take 3 rfl (by decide +kernel) rfl (fun _ _ _ h => h) hS45 (fun wF hF => r_move (v := .bool _) rfl) ?_; refine g_takeN 4 rfl (by decide +kernel) rfl (fun _ _ _ h => h) hS45 ?_; refine g_takeN 5 rfl (by decide +kernel) rfl (fun _ _ _ h => h) hS45 ?_; refine g_takeN 6 rfl (by decide +kernel) rfl (fun _ _ _ h => h) hS45 ?_; refine g_takeN 7 rfl (by decide +kernel) rfl (fun _ _ _ h => h) hS45 ?_; refine g_tail (by decide +kernel) rfl (by decide +kernel) ?_; refine wl_not rfl ?_; refine wl_val (r_pick_f rfl (v := .bool false) rfl) rfl ?_; refine wl_nil ?_; refine c_then ?_; refine c_false rfl ?_; refine wp_skip ?_; refine c_then ?_; refine c_seq ?_; refine c_region ?_; refine wl_val (r_loadB tip ag95 rfl (hS45.heap (.head _)) (by simp [marks_len])) rfl ?_
    subst hLT12
    refine wl_exs (x_storeW [_, _, _, _, _] hS45 tip rfl rfl (by simp [marks_len]) (by simp) (one_app (one_b8 _) (one_cons rfl one_nil))) rfl ?_; intro w59 hS60; simp only [List.cons_append, List.nil_append] at hS60; refine wl_nil ?_; refine c_then ?_; refine wp_ret ?_; refine retc Try.results101 ⟨_, rfl, run_loadVar_blk tip ag95 (hS60.heap (.tail _ (.tail _ (.tail _ (.tail _ (.tail _ (.head _))))))) (by simp [marks_len])⟩ ?_
    have hT : EndsAt (entM E (keysD E)) k.1 lev := ⟨hle, hmore, by rw [← hcur, entM_len, hK.len]; omega⟩
    have hfl : fullP (entM E (keysD E)) k.1 lev = sibsTo (entM E (keysD E)) k.1 lev := by rw [fullP, ← hcur, last_none (by rw [entM_len, hK.len]; omega), List.append_nil]
    exact ⟨lev, _, _, _, rfl, hT, by rw [hfl]; exact hpn, hpc, by rw [hfl]; exact (hS60.perm (List.Perm.cons _ ((List.Perm.cons _ ((List.Perm.cons _ ((List.Perm.cons _ (List.Perm.refl _)).trans (List.perm_middle (l₁ := [_, _, _])).symm)).trans (List.perm_middle (l₁ := [_, _, _])).symm)).trans (List.perm_middle (l₁ := [_])).symm))).drop1.drop1.drop1.drop1⟩

end Go.Proofs.Ytfohfnpehfcaaaa
end
section
namespace Go.Proofs.Ytfohfnpehfcaaaa
open Go.Kw
set_option linter.unusedVariables false
set_option linter.unusedSimpArgs false
set_option maxRecDepth 100000
theorem mapProve2_ok (E : List MapE) (clock bm bv : Nat) (k : Sum32) (w : World) (hm : w.heap[bm]? = some (cl [.map (some bv)] 198)) (hb : w.heap[bv]? = some (mobj E clock)) (hwf : WfM E clock) (hne : bm ≠ bv) (hsz : E.length < 1000) :
    Ret Try.prog 101 [pt bm 0, suv k] w (fun x w' => ∃ (T : Nat) (pa : Option Addr) (pn pc : Nat), x = .agg ((marksTo (entsL E) k.1 T).map b8 ++ [Value.slice pa pn pc]).toArray ∧ EndsAt (entsL E) k.1 T ∧ (fullP (entsL E) k.1 T).length = pn ∧ pn ≤ pc ∧ St w [bm, bv] w' [.row (.slice pa pn pc) 49 32 pn ((fullP (entsL E) k.1 T).flatten.map b8), .blk bm (cl [.map (some bv)] 198), .blk bv (mobj E clock)]) :=
  (mapProve_ok E clock bm bv k w hm hb hwf hne hsz).mono fun x w' h => by
    obtain ⟨T, pa, pn, pc, hx, hT, hn, hc, hS⟩ := h
    have hpe := ent_perm hwf
    rw [marks_perm hpe] at hx
    rw [full_perm hT hpe (parts_perm (parts_ents hwf) hpe.symm)] at hn hS
    exact ⟨T, pa, pn, pc, hx, hT.perm hpe, hn, hc, hS⟩

theorem mroot2_ok (E : List MapE) (clock bm bv : Nat) (w : World) (hm : w.heap[bm]? = some (cl [.map (some bv)] 198)) (hb : w.heap[bv]? = some (mobj E clock)) (hwf : WfM E clock) (hne : bm ≠ bv) (hsz : E.length < 1000) :
    Ret Try.prog 91 [pt bm 0] w (fun x w' => x = .agg ((mapRootF 256 (entsL E) 0).map b8).toArray ∧ St w [bm, bv] w' [.blk bm (cl [.map (some bv)] 198), .blk bv (mobj E clock)]) :=
  (mroot_ok E clock bm bv w hm hb hwf hne hsz).mono fun x w' h => by rw [ents_root hwf] at h; exact h

end Go.Proofs.Ytfohfnpehfcaaaa
end
