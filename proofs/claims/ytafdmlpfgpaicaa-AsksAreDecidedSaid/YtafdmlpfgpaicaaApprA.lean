/- Approvals counted. No condition. -/
import Derived.Test.YtafdmlpfgpaicaaFacts
import Derived.Test.YtafdmlpfgpaicaaDecA
namespace Go.Proofs.Ytafdmlpfgpaicaa
open Go.Kw
set_option linter.unusedVariables false
set_option linter.unusedSimpArgs false
set_option maxRecDepth 100000
set_option maxHeartbeats 4000000 in
theorem enough_ok (al : Bool) (ru nd : Int) (fr : List UInt8) (l : List ApprD) (a : Option Addr) (n c : Nat) (w : World) (hb : Row w a (l.flatMap ApprD.v)) (hl : l.length = n) (hn : n ≤ 140737488351232) (hall : ∀ x ∈ l, ApprAt w x) :
    Ret Try.prog 24 [.agg (decV al ru nd fr).toArray, .slice a n c] w (fun v w' => (∃ k i e, ErrAt l k i e ∧ v = .tuple #[.bool false, .int .i64 e] ∧ St w [] w' []) ∨ (okTo l l.length ∧ v = .tuple #[.bool (al && decide (nd ≤ ((membersTo l fr l.length).length : Int))), vi 0] ∧ St w [] w' [])) := by
  subst hl
  refine enter Try.func24 rfl Try.ntmps24 rfl ?_
  have hS := St.refl w []
  refine c_seq ?_; refine c_region ?_; refine wl_exv (x_box hS (v := .agg _) rfl rfl) rfl ?_; rintro _ w1 ⟨b2, rfl, hS2⟩; refine wl_val (r_assign (v := .bool false) rfl) rfl ?_; refine wl_val (r_assign (v := .int .i64 0) rfl) rfl ?_; refine wl_nil ?_; refine c_then ?_; refine c_seq ?_; refine c_region ?_; refine wl_exv (x_makeMap idv hS2) rfl ?_; rintro _ w3 ⟨b11, rfl, hS4⟩; refine wl_val (r_assign (v := .map _) rfl) rfl ?_; refine wl_nil ?_; refine c_then ?_; refine c_seq ?_; refine c_seq ?_; refine c_region ?_; refine wl_val (r_move (v := .slice _ _ _) rfl) rfl ?_; refine wl_val (r_len (T := 56) rfl ti56.und rfl _ rfl) rfl ?_; refine wl_val (r_move (v := .int .i64 0) rfl) rfl ?_; refine wl_nil ?_; refine c_then ?_; refine c_block ?_; refine c_loopE [2, 6, 12, 13] (fun d e w' => ∃ (k : Nat), Kw.look e 14 = vi k ∧ d = l.length - k ∧ St w [] w' [.blk b11 (ents idv (membersTo l fr k)), .blk b2 (cl (decV al ru nd fr) 50)] ∧ (k ≤ l.length) ∧ (okTo l k)) (l.length - 0) ?_ ?_
  · exact ⟨0, rfl, rfl, hS4, Nat.zero_le _, fun j hj => by omega⟩
  · rintro d8 e5 w6 ⟨k, hc0_14, rfl, hS7, hk, hot⟩ -
    refine c_set (d := 14) hc0_14 ?_; refine c_seq ?_; refine c_region ?_
    refine wl_dec (r_lss rfl rfl) rfl (fun h3_0 => ?_) (fun h3_0 => ?_)
    · refine wl_nil ?_
      refine c_then ?_; refine c_seq ?_; refine c_true rfl ?_; refine wp_skip ?_; refine c_then ?_; refine c_seq ?_; refine c_block ?_; refine c_seq ?_; refine c_region ?_; refine wl_val (r_ixF appr_v17 ti56.und ti61 rfl rfl (hb.st hS7) (by first | (simp [*]; done) | (simp [*] <;> omega) | omega) (by first | omega | (simp [*]; done) | (simp [*] <;> omega)) (by decide)) rfl ?_; refine wl_val (r_loadF appr_v17 ti61 ag61 rfl (hb.st hS7) (by first | omega | (simp [*]; done) | (simp [*] <;> omega)) (by decide)) rfl ?_; refine wl_exv (x_alloc (C := [.int .u8 0, .int .u8 0, .int .u8 0, .int .u8 0, .int .u8 0, .int .u8 0, .int .u8 0, .int .u8 0, .int .u8 0, .int .u8 0, .int .u8 0, .int .u8 0, .int .u8 0, .int .u8 0, .int .u8 0, .int .u8 0, .slice none 0 0]) hS7 ti61 rfl) rfl ?_; rintro _ w9 ⟨bb8, rfl, hS10⟩; refine wl_exs (x_storeW [] hS10 ti61 rfl rfl (appr_v17 _) rfl (one_appr _)) rfl ?_; intro w11 hS12; simp only [List.cons_append, List.nil_append] at hS12; refine wl_nil ?_; refine c_then ?_; refine c_seq ?_; refine c_seq ?_
      have hga := hall (gt l k) (gt_mem l k (by omega))
      have hro := hga.h1
      have hrn := hga.rn
      refine c_region ?_; refine wl_val (r_field fa61_1 rfl) rfl ?_; refine wl_val (r_loadB1 ti30.und rfl rfl (hS12.heap (.head _)) appr_ro) rfl ?_; refine wl_val (r_len (T := 30) rfl ti30.und rfl _ rfl) rfl ?_; refine wl_val (r_move (v := .int .i64 0) rfl) rfl ?_; refine wl_nil ?_; refine c_then ?_; refine c_block ?_; refine c_loopE [2, 6, 8, 12, 13, 14, 19, 20] (fun d e w' => ∃ (i : Nat), Kw.look e 21 = vi i ∧ d = (gt l k).ro.length - i ∧ St w [] w' [.blk bb8 (cl (gt l k).v 61), .blk b11 (ents idv (membersTo l fr k)), .blk b2 (cl (decV al ru nd fr) 50)] ∧ (i ≤ (gt l k).ro.length) ∧ (okAll (gt l k).ro i)) ((gt l k).ro.length - 0) ?_ ?_
      · exact ⟨0, rfl, rfl, hS12, Nat.zero_le _, fun j hj => by omega⟩
      · rintro d16 e13 w14 ⟨i, hc1_21, rfl, hS15, hi, hoi⟩ -
        refine c_set (d := 21) hc1_21 ?_; refine c_seq ?_; refine c_region ?_
        refine wl_dec (r_lss rfl rfl) rfl (fun h6_0 => ?_) (fun h6_0 => ?_)
        · refine wl_nil ?_
          refine c_then ?_; refine c_seq ?_; refine c_true rfl ?_; refine wp_skip ?_; refine c_then ?_; refine c_seq ?_; refine c_block ?_; refine c_seq ?_; refine c_region ?_; refine wl_val (r_move (v := .int .i64 _) rfl) rfl ?_; refine wl_val (r_ixS ti30.und ti9 rfl rfl (hro.st hS15) (by first | omega | (simp [*]; done) | (simp [*] <;> omega)) (by first | (simp [*]; done) | (simp [*] <;> omega) | omega)) rfl ?_; refine wl_val (r_loadS1 ti9.und rfl rfl (hro.st hS15) (by rw [Nat.mul_one]; exact map_gt _ _ _ (by first | omega | (simp [*]; done) | (simp [*] <;> omega)))) rfl ?_; refine wl_val (r_assign (v := .int .i64 _) rfl) rfl ?_; refine wl_val (r_assign (v := .string _) rfl) rfl ?_; refine wl_nil ?_; refine c_then ?_; refine c_seq ?_; refine c_seq ?_; refine c_region ?_; refine wl_val (r_move (v := .string _) rfl) rfl ?_; refine wl_call (r_call fn28 rfl rfl) rfl (notName_ok (gt (gt l k).ro i) _ (hga.rl _ (gt_mem _ i (by omega)))) ?_
          rintro _ w17 (⟨hnn, rfl, hx18⟩ | ⟨hnn, rfl, hx18⟩)
          · have hS19 := hS15.ext hx18
            refine wl_nil ?_; refine c_then ?_; refine c_true rfl ?_; refine c_seq ?_; refine c_region ?_; refine wl_val (r_assign (v := .bool false) rfl) rfl ?_; refine wl_val (r_assign (v := .int .i64 6) rfl) rfl ?_; refine wl_nil ?_; refine c_then ?_; refine wp_ret ?_; refine c_thenR ?_; refine c_inR ?_; refine c_thenR ?_; refine c_thenR ?_; refine c_inR ?_; refine c_thenR ?_; refine c_inR ?_; refine c_thenR ?_; refine c_thenR ?_; refine c_inR ?_; refine c_thenR ?_; refine ret2 Try.results24 rfl rfl ?_
            first | exact .inl ⟨k, i, 6, ⟨by omega, by omega, hot, hoi, .inl ⟨hnn, rfl⟩⟩, rfl, hS19.fin⟩ | exact .inl ⟨k, i, 9, ⟨by omega, by omega, hot, hoi, .inr ⟨hnn, by omega, h10_10, rfl⟩⟩, rfl, hS19.fin⟩ | exact .inr ⟨hot, by rw [hal]; rfl, hS19.fin⟩
          have hS19 := hS15.ext hx18
          refine wl_nil ?_; refine c_then ?_; refine c_false rfl ?_; refine wp_skip ?_; refine c_then ?_; refine c_seq ?_; refine c_region ?_; refine wl_val (r_move (v := .int .i64 _) rfl) rfl ?_
          refine wl_dec (r_gtr rfl rfl) rfl (fun h10_1 => ?_) (fun h10_1 => ?_)
          · refine wl_val (r_move (v := .bool _) rfl) rfl ?_
            refine wl_val (r_move (v := .string _) rfl) rfl ?_; refine wl_val (r_field fa61_1 rfl) rfl ?_; refine wl_val (r_loadB1 ti30.und rfl rfl (hS19.heap (.head _)) appr_ro) rfl ?_; refine wl_val (r_move (v := .int .i64 _) rfl) rfl ?_; refine wl_val (r_subn (b := 1) rfl rfl (by omega) (by omega)) rfl ?_; refine wl_val (r_ixS ti30.und ti9 rfl rfl (hro.st hS19) (by first | omega | (simp [*]; done) | (simp [*] <;> omega)) (by first | (simp [*]; done) | (simp [*] <;> omega) | omega)) rfl ?_; refine wl_val (r_loadS1 ti9.und rfl rfl (hro.st hS19) (by rw [Nat.mul_one]; exact map_gt _ _ _ (by first | omega | (simp [*]; done) | (simp [*] <;> omega)))) rfl ?_
            refine wl_dec (r_leqStrL rfl rfl) rfl (fun h10_10 => ?_) (fun h10_10 => ?_)
            · refine wl_val (r_pick_t rfl (v := .bool _) rfl) rfl ?_
              refine wl_nil ?_; refine c_then ?_; refine c_true rfl ?_; refine c_seq ?_; refine c_region ?_; refine wl_val (r_assign (v := .bool false) rfl) rfl ?_; refine wl_val (r_assign (v := .int .i64 9) rfl) rfl ?_; refine wl_nil ?_; refine c_then ?_; refine wp_ret ?_; refine c_inR ?_; refine c_thenR ?_; refine c_thenR ?_; refine c_inR ?_; refine c_thenR ?_; refine c_inR ?_; refine c_thenR ?_; refine c_thenR ?_; refine c_inR ?_; refine c_thenR ?_; refine ret2 Try.results24 rfl rfl ?_
              first | exact .inl ⟨k, i, 6, ⟨by omega, by omega, hot, hoi, .inl ⟨hnn, rfl⟩⟩, rfl, hS19.fin⟩ | exact .inl ⟨k, i, 9, ⟨by omega, by omega, hot, hoi, .inr ⟨hnn, by omega, h10_10, rfl⟩⟩, rfl, hS19.fin⟩ | exact .inr ⟨hot, by rw [hal]; rfl, hS19.fin⟩
            refine wl_val (r_pick_t rfl (v := .bool _) rfl) rfl ?_; refine wl_nil ?_; refine c_then ?_; refine c_false rfl ?_; refine wp_skip ?_; refine c_inN ?_; refine c_then ?_; refine c_region ?_; refine wl_val (r_addn (b := 1) rfl rfl (by omega)) rfl ?_; refine wl_val (r_move (v := .int .i64 _) rfl) rfl ?_; refine wl_nil ?_; refine c_then ?_
            exact ⟨(gt l k).ro.length - (i + 1), _, by omega, rfl, ⟨i + 1, rfl, rfl, hS19, by omega, okAll_step hoi ⟨hnn, fun h0 => by first | exact absurd h0 (by omega) | exact Decidable.of_not_not h10_10⟩⟩, ⟨rfl, rfl, rfl, rfl, rfl, rfl, rfl, rfl, trivial⟩⟩
          refine wl_val (r_move (v := .bool _) rfl) rfl ?_; refine wl_not rfl ?_; refine wl_not rfl ?_; refine wl_not rfl ?_; refine wl_not rfl ?_; refine wl_not rfl ?_; refine wl_not rfl ?_; refine wl_not rfl ?_; refine wl_not rfl ?_; refine wl_val (r_pick_f rfl (v := .bool false) rfl) rfl ?_; refine wl_nil ?_; refine c_then ?_; refine c_false rfl ?_; refine wp_skip ?_; refine c_inN ?_; refine c_then ?_; refine c_region ?_; refine wl_val (r_addn (b := 1) rfl rfl (by omega)) rfl ?_; refine wl_val (r_move (v := .int .i64 _) rfl) rfl ?_; refine wl_nil ?_; refine c_then ?_
          exact ⟨(gt l k).ro.length - (i + 1), _, by omega, rfl, ⟨i + 1, rfl, rfl, hS19, by omega, okAll_step hoi ⟨hnn, fun h0 => by first | exact absurd h0 (by omega) | exact Decidable.of_not_not h10_10⟩⟩, ⟨rfl, rfl, rfl, rfl, rfl, rfl, rfl, rfl, trivial⟩⟩
        refine wl_nil ?_; refine c_then ?_; refine c_seq ?_; refine c_false rfl ?_; refine wp_exit ?_; refine c_thenE ?_; refine c_thenE ?_; refine c_inE ?_; refine c_then ?_; refine c_seq ?_
        obtain rfl : i = (gt l k).ro.length := by omega
        refine c_region ?_; refine wl_val (r_field fa61_1 rfl) rfl ?_; refine wl_val (r_loadB1 ti30.und rfl rfl (hS15.heap (.head _)) appr_ro) rfl ?_; refine wl_val (r_field fa50_3 rfl) rfl ?_; refine wl_val (r_loadB1 ti9.und rfl rfl (hS15.heap (.tail _ (.tail _ (.head _)))) rfl) rfl ?_; refine wl_call (r_call fn56 rfl rfl) rfl (containsS_ok (gt l k).ro _ (gt l k).ro.length _ fr _ (hro.st hS15) rfl hga.rn) ?_
        rintro _ w20 (⟨hin, rfl, hx21⟩ | ⟨hin, rfl, hx21⟩)
        · have hS22 := hS15.ext hx21
          refine wl_nil ?_; refine c_then ?_; refine c_true rfl ?_; refine c_region ?_; refine wl_val (r_move (v := .map _) rfl) rfl ?_; refine wl_val (r_field fa61_0 rfl) rfl ?_; refine wl_val (r_loadPX ti29 rfl rfl (Row.of_at (appr_at0 (hS22.heap (.head _)))) (by decide) (by rw [List.length_map, (gt l k).me.2])) rfl ?_; refine wl_exs (x_mapPut [_] hS22 idKeys ti87.und rfl rfl rfl) rfl ?_; intro w23 hS24; simp only [List.cons_append, List.nil_append] at hS24; refine wl_nil ?_; refine c_inN ?_; refine c_then ?_; refine c_region ?_; refine wl_val (r_addn (b := 1) rfl rfl (by omega)) rfl ?_; refine wl_val (r_move (v := .int .i64 _) rfl) rfl ?_; refine wl_nil ?_; refine c_then ?_
          rw [← members_y hin] at hS24
          exact ⟨l.length - (k + 1), _, by omega, rfl, ⟨k + 1, rfl, rfl, hS24.drop1, by omega, okTo_step hot hoi⟩, ⟨rfl, rfl, rfl, rfl, trivial⟩⟩
        have hS22 := hS15.ext hx21
        refine wl_nil ?_; refine c_then ?_; refine c_false rfl ?_; refine wp_skip ?_; refine c_inN ?_; refine c_then ?_; refine c_region ?_; refine wl_val (r_addn (b := 1) rfl rfl (by omega)) rfl ?_; refine wl_val (r_move (v := .int .i64 _) rfl) rfl ?_; refine wl_nil ?_; refine c_then ?_
        rw [← members_n hin] at hS22
        exact ⟨l.length - (k + 1), _, by omega, rfl, ⟨k + 1, rfl, rfl, hS22.drop1, by omega, okTo_step hot hoi⟩, ⟨rfl, rfl, rfl, rfl, trivial⟩⟩
    refine wl_nil ?_; refine c_then ?_; refine c_seq ?_; refine c_false rfl ?_; refine wp_exit ?_; refine c_thenE ?_; refine c_thenE ?_; refine c_inE ?_; refine c_then ?_; refine c_seq ?_
    rcases bool_cases al with hal | hal
    · obtain rfl : k = l.length := by omega
      refine c_region ?_; refine wl_val (r_field fa50_0 rfl) rfl ?_; refine wl_val (r_loadB1 ti4.und rfl rfl (hS7.heap (.tail _ (.head _))) (by first | exact dec_al_t hal | exact dec_al_f hal)) rfl ?_; refine wl_val (r_move (v := .bool _) rfl) rfl ?_; refine wl_val (r_move (v := .map _) rfl) rfl ?_; refine wl_val (r_lenMap rfl ti87.und rfl (hS7.heap (.head _)) _ rfl) rfl ?_; refine wl_val (r_field fa50_2 rfl) rfl ?_; refine wl_val (r_loadB1 ti3.und rfl rfl (hS7.heap (.tail _ (.head _))) rfl) rfl ?_; refine wl_val (r_geq rfl rfl) rfl ?_; refine wl_val (r_pick_t rfl (v := .bool _) rfl) rfl ?_; refine wl_val (r_assign (v := .bool _) rfl) rfl ?_; refine wl_val (r_assign (v := .int .i64 0) rfl) rfl ?_; refine wl_nil ?_; refine c_then ?_; refine wp_ret ?_; refine ret2 Try.results24 rfl rfl ?_
      first | exact .inl ⟨k, i, 6, ⟨by omega, by omega, hot, hoi, .inl ⟨hnn, rfl⟩⟩, rfl, hS7.fin⟩ | exact .inl ⟨k, i, 9, ⟨by omega, by omega, hot, hoi, .inr ⟨hnn, by omega, h10_10, rfl⟩⟩, rfl, hS7.fin⟩ | exact .inr ⟨hot, by rw [hal]; rfl, hS7.fin⟩
    obtain rfl : k = l.length := by omega
    refine c_region ?_; refine wl_val (r_field fa50_0 rfl) rfl ?_; refine wl_val (r_loadB1 ti4.und rfl rfl (hS7.heap (.tail _ (.head _))) (by first | exact dec_al_t hal | exact dec_al_f hal)) rfl ?_; refine wl_val (r_move (v := .bool _) rfl) rfl ?_; refine wl_not rfl ?_; refine wl_not rfl ?_; refine wl_not rfl ?_; refine wl_not rfl ?_; refine wl_not rfl ?_; refine wl_val (r_pick_f rfl (v := .bool false) rfl) rfl ?_; refine wl_val (r_assign (v := .bool _) rfl) rfl ?_; refine wl_val (r_assign (v := .int .i64 0) rfl) rfl ?_; refine wl_nil ?_; refine c_then ?_; refine wp_ret ?_; refine ret2 Try.results24 rfl rfl ?_
    first | exact .inl ⟨k, i, 6, ⟨by omega, by omega, hot, hoi, .inl ⟨hnn, rfl⟩⟩, rfl, hS7.fin⟩ | exact .inl ⟨k, i, 9, ⟨by omega, by omega, hot, hoi, .inr ⟨hnn, by omega, h10_10, rfl⟩⟩, rfl, hS7.fin⟩ | exact .inr ⟨hot, by rw [hal]; rfl, hS7.fin⟩

set_option maxHeartbeats 4000000 in
theorem renough_ok (al : Bool) (ru nd : Int) (fr : List UInt8) (l : List ApprD) (a : Option Addr) (n c : Nat) (w : World) (hb : Row w a (l.flatMap ApprD.v)) (hl : l.length = n) (hn : n ≤ 140737488351232) (hall : ∀ x ∈ l, ApprAt w x) :
    Ret Try.prog 25 [.agg (decV al ru nd fr).toArray, .slice a n c] w (fun v w' => v = .bool (al && decide (nd ≤ ((membersTo l fr l.length).length : Int))) ∧ St w [] w' []) := by
  subst hl
  refine enter Try.func25 rfl Try.ntmps25 rfl ?_
  have hS := St.refl w []
  refine c_seq ?_; refine c_region ?_; refine wl_exv (x_box hS (v := .agg _) rfl rfl) rfl ?_; rintro _ w1 ⟨b2, rfl, hS2⟩; refine wl_val (r_assign (v := .bool false) rfl) rfl ?_; refine wl_nil ?_; refine c_then ?_; refine c_seq ?_; refine c_region ?_; refine wl_exv (x_makeMap idv hS2) rfl ?_; rintro _ w3 ⟨bb8, rfl, hS4⟩; refine wl_val (r_assign (v := .map _) rfl) rfl ?_; refine wl_nil ?_; refine c_then ?_; refine c_seq ?_; refine c_seq ?_; refine c_region ?_; refine wl_val (r_move (v := .slice _ _ _) rfl) rfl ?_; refine wl_val (r_len (T := 56) rfl ti56.und rfl _ rfl) rfl ?_; refine wl_val (r_move (v := .int .i64 0) rfl) rfl ?_; refine wl_nil ?_; refine c_then ?_; refine c_block ?_; refine c_loopE [2, 4, 5, 9, 10] (fun d e w' => ∃ (k : Nat), Kw.look e 11 = vi k ∧ d = l.length - k ∧ St w [] w' [.blk bb8 (ents idv (membersTo l fr k)), .blk b2 (cl (decV al ru nd fr) 50)] ∧ (k ≤ l.length)) (l.length - 0) ?_ ?_
  · exact ⟨0, rfl, rfl, hS4, Nat.zero_le _⟩
  · rintro d8 e5 w6 ⟨k, hc0_11, rfl, hS7, hk⟩ -
    refine c_set (d := 11) hc0_11 ?_; refine c_seq ?_; refine c_region ?_
    refine wl_dec (r_lss rfl rfl) rfl (fun h3_0 => ?_) (fun h3_0 => ?_)
    · refine wl_nil ?_
      refine c_then ?_; refine c_seq ?_; refine c_true rfl ?_; refine wp_skip ?_; refine c_then ?_; refine c_seq ?_; refine c_block ?_; refine c_seq ?_; refine c_region ?_; refine wl_val (r_ixF appr_v17 ti56.und ti61 rfl rfl (hb.st hS7) (by first | (simp [*]; done) | (simp [*] <;> omega) | omega) (by first | omega | (simp [*]; done) | (simp [*] <;> omega)) (by decide)) rfl ?_; refine wl_val (r_loadF appr_v17 ti61 ag61 rfl (hb.st hS7) (by first | omega | (simp [*]; done) | (simp [*] <;> omega)) (by decide)) rfl ?_; refine wl_exv (x_alloc (C := [.int .u8 0, .int .u8 0, .int .u8 0, .int .u8 0, .int .u8 0, .int .u8 0, .int .u8 0, .int .u8 0, .int .u8 0, .int .u8 0, .int .u8 0, .int .u8 0, .int .u8 0, .int .u8 0, .int .u8 0, .int .u8 0, .slice none 0 0]) hS7 ti61 rfl) rfl ?_; rintro _ w9 ⟨b7, rfl, hS10⟩; refine wl_exs (x_storeW [] hS10 ti61 rfl rfl (appr_v17 _) rfl (one_appr _)) rfl ?_; intro w11 hS12; simp only [List.cons_append, List.nil_append] at hS12; refine wl_nil ?_; refine c_then ?_; refine c_seq ?_
      have hga := hall (gt l k) (gt_mem l k (by omega))
      have hro := hga.h1
      refine c_region ?_; refine wl_val (r_field fa61_1 rfl) rfl ?_; refine wl_val (r_loadB1 ti30.und rfl rfl (hS12.heap (.head _)) appr_ro) rfl ?_; refine wl_val (r_field fa50_3 rfl) rfl ?_; refine wl_val (r_loadB1 ti9.und rfl rfl (hS12.heap (.tail _ (.tail _ (.head _)))) rfl) rfl ?_; refine wl_call (r_call fn56 rfl rfl) rfl (containsS_ok (gt l k).ro _ (gt l k).ro.length _ fr _ (hro.st hS12) rfl hga.rn) ?_
      rintro _ w13 (⟨hin, rfl, hx14⟩ | ⟨hin, rfl, hx14⟩)
      · have hS15 := hS12.ext hx14
        refine wl_nil ?_; refine c_then ?_; refine c_true rfl ?_; refine c_region ?_; refine wl_val (r_move (v := .map _) rfl) rfl ?_; refine wl_val (r_field fa61_0 rfl) rfl ?_; refine wl_val (r_loadPX ti29 rfl rfl (Row.of_at (appr_at0 (hS15.heap (.head _)))) (by decide) (by rw [List.length_map, (gt l k).me.2])) rfl ?_; refine wl_exs (x_mapPut [_] hS15 idKeys ti87.und rfl rfl rfl) rfl ?_; intro w16 hS17; simp only [List.cons_append, List.nil_append] at hS17; refine wl_nil ?_; refine c_inN ?_; refine c_then ?_; refine c_region ?_; refine wl_val (r_addn (b := 1) rfl rfl (by omega)) rfl ?_; refine wl_val (r_move (v := .int .i64 _) rfl) rfl ?_; refine wl_nil ?_; refine c_then ?_
        rw [← members_y hin] at hS17
        exact ⟨l.length - (k + 1), _, by omega, rfl, ⟨k + 1, rfl, rfl, hS17.drop1, by omega⟩, ⟨rfl, rfl, rfl, rfl, rfl, trivial⟩⟩
      have hS15 := hS12.ext hx14
      refine wl_nil ?_; refine c_then ?_; refine c_false rfl ?_; refine wp_skip ?_; refine c_inN ?_; refine c_then ?_; refine c_region ?_; refine wl_val (r_addn (b := 1) rfl rfl (by omega)) rfl ?_; refine wl_val (r_move (v := .int .i64 _) rfl) rfl ?_; refine wl_nil ?_; refine c_then ?_
      rw [← members_n hin] at hS15
      exact ⟨l.length - (k + 1), _, by omega, rfl, ⟨k + 1, rfl, rfl, hS15.drop1, by omega⟩, ⟨rfl, rfl, rfl, rfl, rfl, trivial⟩⟩
    refine wl_nil ?_; refine c_then ?_; refine c_seq ?_; refine c_false rfl ?_; refine wp_exit ?_; refine c_thenE ?_; refine c_thenE ?_; refine c_inE ?_; refine c_then ?_; refine c_seq ?_
    rcases bool_cases al with hal | hal
    · obtain rfl : k = l.length := by omega
      refine c_region ?_; refine wl_val (r_field fa50_0 rfl) rfl ?_; refine wl_val (r_loadB1 ti4.und rfl rfl (hS7.heap (.tail _ (.head _))) (by first | exact dec_al_t hal | exact dec_al_f hal)) rfl ?_; refine wl_val (r_move (v := .bool _) rfl) rfl ?_; refine wl_val (r_move (v := .map _) rfl) rfl ?_; refine wl_val (r_lenMap rfl ti87.und rfl (hS7.heap (.head _)) _ rfl) rfl ?_; refine wl_val (r_field fa50_2 rfl) rfl ?_; refine wl_val (r_loadB1 ti3.und rfl rfl (hS7.heap (.tail _ (.head _))) rfl) rfl ?_; refine wl_val (r_geq rfl rfl) rfl ?_; refine wl_val (r_pick_t rfl (v := .bool _) rfl) rfl ?_; refine wl_val (r_assign (v := .bool _) rfl) rfl ?_; refine wl_nil ?_; refine c_then ?_; refine wp_ret ?_; refine ret1 Try.results25 ?_
      exact ⟨by rw [hal]; rfl, hS7.fin⟩
    obtain rfl : k = l.length := by omega
    refine c_region ?_; refine wl_val (r_field fa50_0 rfl) rfl ?_; refine wl_val (r_loadB1 ti4.und rfl rfl (hS7.heap (.tail _ (.head _))) (by first | exact dec_al_t hal | exact dec_al_f hal)) rfl ?_; refine wl_val (r_move (v := .bool _) rfl) rfl ?_; refine wl_not rfl ?_; refine wl_not rfl ?_; refine wl_not rfl ?_; refine wl_not rfl ?_; refine wl_not rfl ?_; refine wl_val (r_pick_f rfl (v := .bool false) rfl) rfl ?_; refine wl_val (r_assign (v := .bool _) rfl) rfl ?_; refine wl_nil ?_; refine c_then ?_; refine wp_ret ?_; refine ret1 Try.results25 ?_
    exact ⟨by rw [hal]; rfl, hS7.fin⟩

end Go.Proofs.Ytafdmlpfgpaicaa
