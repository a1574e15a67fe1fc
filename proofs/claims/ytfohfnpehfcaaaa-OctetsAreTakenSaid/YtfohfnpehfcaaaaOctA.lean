/- Parts of octets. No condition. -/
import Derived.Test.YtfohfnpehfcaaaaFacts
import Derived.Test.YtfohfnpehfcaaaaHeadB
import Derived.Test.YtfohfnpehfcaaaaOct
namespace Go.Proofs.Ytfohfnpehfcaaaa
open Go.Kw
set_option linter.unusedVariables false
set_option linter.unusedSimpArgs false
set_option maxRecDepth 100000
theorem part_ok (a : Option Addr) (n c : Nat) (f t : Int) (w : World) (hc : n ≤ c) (hn : n ≤ 140737488351232) :
    Ret Try.prog 110 [.slice a n c, .int .i64 f, .int .i64 t] w (fun v w' => ((f < 0 ∨ t < f) ∧ v = .tuple #[.slice none 0 0, vi 4] ∧ St w [] w' []) ∨ ((0 ≤ f ∧ f ≤ t ∧ n < t) ∧ v = .tuple #[.slice none 0 0, vi 1] ∧ St w [] w' []) ∨ ((0 ≤ f ∧ f ≤ t ∧ t ≤ n) ∧ v = .tuple #[.slice (sub a t.toNat f.toNat 1) (t.toNat - f.toNat) (t.toNat - f.toNat), vi 0] ∧ St w [] w' [])) := by
  refine enter Try.func110 rfl Try.ntmps110 rfl ?_
  have hS := St.refl w []
  refine c_seq ?_
  refine c_region ?_
  refine wl_val (r_assign (v := .slice none 0 0) rfl) rfl ?_
  refine wl_val (r_assign (v := .int .i64 0) rfl) rfl ?_
  refine wl_nil ?_
  refine c_then ?_
  refine c_seq ?_
  refine c_seq ?_
  refine c_region ?_
  refine wl_val (r_move (v := .int .i64 _) rfl) rfl ?_
  refine wl_dec (r_lss rfl rfl) rfl (fun h1_1 => ?_) (fun h1_1 => ?_)
  · refine wl_val (r_move (v := .bool _) rfl) rfl ?_
    refine wl_not rfl ?_
    refine wl_not rfl ?_
    refine wl_not rfl ?_
    refine wl_val (r_pick_t rfl (v := .bool true) rfl) rfl ?_
    refine wl_nil ?_
    refine c_then ?_
    refine c_true rfl ?_
    refine c_seq ?_
    refine c_region ?_
    refine wl_val (r_assign (v := .slice none 0 0) rfl) rfl ?_
    refine wl_val (r_assign (v := .int .i64 4) rfl) rfl ?_
    refine wl_nil ?_
    refine c_then ?_
    refine wp_ret ?_
    refine c_thenR ?_
    refine ret2 Try.results110 rfl rfl ?_
    first | exact .inl ⟨by omega, rfl, hS.fin⟩ | exact .inr (.inl ⟨by omega, rfl, hS.fin⟩) | exact .inr (.inr ⟨by omega, rfl, hS.fin⟩)
  · refine wl_val (r_move (v := .bool _) rfl) rfl ?_
    refine wl_val (r_move (v := .int .i64 _) rfl) rfl ?_
    refine wl_val (r_move (v := .int .i64 _) rfl) rfl ?_
    refine wl_dec (r_lss rfl rfl) rfl (fun h1_5 => ?_) (fun h1_5 => ?_)
    · refine wl_val (r_pick_f rfl (v := .bool _) rfl) rfl ?_
      refine wl_nil ?_
      refine c_then ?_
      refine c_true rfl ?_
      refine c_seq ?_
      refine c_region ?_
      refine wl_val (r_assign (v := .slice none 0 0) rfl) rfl ?_
      refine wl_val (r_assign (v := .int .i64 4) rfl) rfl ?_
      refine wl_nil ?_
      refine c_then ?_
      refine wp_ret ?_
      refine c_thenR ?_
      refine ret2 Try.results110 rfl rfl ?_
      first | exact .inl ⟨by omega, rfl, hS.fin⟩ | exact .inr (.inl ⟨by omega, rfl, hS.fin⟩) | exact .inr (.inr ⟨by omega, rfl, hS.fin⟩)
    · refine wl_val (r_pick_f rfl (v := .bool _) rfl) rfl ?_
      refine wl_nil ?_
      refine c_then ?_
      refine c_false rfl ?_
      refine wp_skip ?_
      refine c_then ?_
      refine c_seq ?_
      refine c_seq ?_
      refine c_region ?_
      refine wl_val (r_move (v := .int .i64 _) rfl) rfl ?_
      refine wl_val (r_move (v := .slice _ _ _) rfl) rfl ?_
      refine wl_val (r_len (T := 22) rfl ti22.und rfl _ rfl) rfl ?_
      refine wl_dec (r_gtr rfl rfl) rfl (fun h3_3 => ?_) (fun h3_3 => ?_)
      · refine wl_nil ?_
        refine c_then ?_
        refine c_true rfl ?_
        refine c_seq ?_
        refine c_region ?_
        refine wl_val (r_assign (v := .slice none 0 0) rfl) rfl ?_
        refine wl_val (r_assign (v := .int .i64 1) rfl) rfl ?_
        refine wl_nil ?_
        refine c_then ?_
        refine wp_ret ?_
        refine c_thenR ?_
        refine ret2 Try.results110 rfl rfl ?_
        first | exact .inl ⟨by omega, rfl, hS.fin⟩ | exact .inr (.inl ⟨by omega, rfl, hS.fin⟩) | exact .inr (.inr ⟨by omega, rfl, hS.fin⟩)
      · refine wl_nil ?_
        refine c_then ?_
        refine c_false rfl ?_
        refine wp_skip ?_
        refine c_then ?_
        refine c_seq ?_
        obtain ⟨f', rfl⟩ : ∃ i : Nat, f = (i : Int) := ⟨f.toNat, (by omega)⟩
        obtain ⟨t', rfl⟩ : ∃ i : Nat, t = (i : Int) := ⟨t.toNat, (by omega)⟩
        refine c_region ?_
        refine wl_val (r_move (v := .slice _ _ _) rfl) rfl ?_
        refine wl_val (r_move (v := .int .i64 _) rfl) rfl ?_
        refine wl_val (r_move (v := .int .i64 _) rfl) rfl ?_
        refine wl_val (r_move (v := .int .i64 _) rfl) rfl ?_
        refine wl_val (r_sl_lhm ti22.und ti5 rfl rfl rfl rfl (by omega) (by omega) (by omega)) rfl ?_
        refine wl_val (r_assign (v := .slice _ _ _) rfl) rfl ?_
        refine wl_val (r_assign (v := .int .i64 0) rfl) rfl ?_
        refine wl_nil ?_
        refine c_then ?_
        refine wp_ret ?_
        refine ret2 Try.results110 rfl rfl ?_
        first | exact .inl ⟨by omega, rfl, hS.fin⟩ | exact .inr (.inl ⟨by omega, rfl, hS.fin⟩) | exact .inr (.inr ⟨by omega, rfl, hS.fin⟩)

theorem part0_ok (a : Option Addr) (c : Nat) (f t : Int) (w : World) :
    Ret Try.prog 28 [.slice a 0 c, .int .i64 f, .int .i64 t] w (fun v w' => v = .bool true ∧ St w [] w' []) := by
  refine enter Try.func28 rfl Try.ntmps28 rfl ?_
  have hS := St.refl w []
  refine c_seq ?_
  refine c_region ?_
  refine wl_val (r_assign (v := .bool false) rfl) rfl ?_
  refine wl_nil ?_
  refine c_then ?_
  refine c_seq ?_
  refine c_region ?_
  refine wl_val (r_move (v := .slice _ _ _) rfl) rfl ?_
  refine wl_val (r_move (v := .int .i64 _) rfl) rfl ?_
  refine wl_val (r_move (v := .int .i64 _) rfl) rfl ?_
  refine wl_call (r_call fn110 rfl rfl) rfl (part_ok a 0 c f t _ (Nat.zero_le _) (by decide)) ?_
  rintro _ w1 (⟨hq, rfl, hx2⟩ | ⟨hq, rfl, hx2⟩ | ⟨hq, rfl, hx2⟩)
  · have hS3 := hS.ext hx2
    refine wl_val (r_move (v := .tuple _) rfl) rfl ?_
    refine wl_val (r_extract (v := .slice _ _ _) rfl rfl) rfl ?_
    refine wl_val (r_extract (v := .int .i64 _) rfl rfl) rfl ?_
    refine wl_val (r_assign (v := .slice _ _ _) rfl) rfl ?_
    refine wl_val (r_assign (v := .int .i64 _) rfl) rfl ?_
    refine wl_nil ?_
    refine c_then ?_
    refine c_seq ?_
    refine c_block ?_
    refine c_seq ?_
    refine c_region ?_
    refine wl_val (r_move (v := .int .i64 _) rfl) rfl ?_
    refine wl_dec (r_lss rfl rfl) rfl (fun h2_1 => ?_) (fun h2_1 => ?_)
    · refine wl_val (r_move (v := .bool _) rfl) rfl ?_
      refine wl_not rfl ?_
      refine wl_not rfl ?_
      refine wl_not rfl ?_
      refine wl_val (r_pick_t rfl (v := .bool true) rfl) rfl ?_
      refine wl_val (r_assign (v := .bool _) rfl) rfl ?_
      refine wl_nil ?_
      refine c_then ?_
      refine c_true rfl ?_
      refine c_seq ?_
      refine c_region ?_
      refine wl_val (r_move (v := .int .i64 _) rfl) rfl ?_
      refine wl_dec_t (r_eql rfl rfl) rfl (by decide) ?_
      refine wl_val (r_move (v := .bool _) rfl) rfl ?_
      refine wl_val (r_move (v := .slice _ _ _) rfl) rfl ?_
      refine wl_val (r_len (T := 22) rfl ti22.und rfl _ rfl) rfl ?_
      refine wl_dec_t (r_eql rfl rfl) rfl rfl ?_
      refine wl_val (r_pick_t rfl (v := .bool _) rfl) rfl ?_
      refine wl_val (r_assign (v := .bool _) rfl) rfl ?_
      refine wl_nil ?_
      refine c_then ?_
      refine wp_ret ?_
      refine c_inR ?_
      refine c_thenR ?_
      refine ret1 Try.results28 ?_
      exact ⟨rfl, hS3.fin⟩
    · refine wl_val (r_move (v := .bool _) rfl) rfl ?_
      refine wl_val (r_move (v := .int .i64 _) rfl) rfl ?_
      refine wl_val (r_move (v := .int .i64 _) rfl) rfl ?_
      refine wl_dec_t (r_lss rfl rfl) rfl (by omega) ?_
      refine wl_val (r_pick_f rfl (v := .bool _) rfl) rfl ?_
      refine wl_val (r_assign (v := .bool _) rfl) rfl ?_
      refine wl_nil ?_
      refine c_then ?_
      refine c_true rfl ?_
      refine c_seq ?_
      refine c_region ?_
      refine wl_val (r_move (v := .int .i64 _) rfl) rfl ?_
      refine wl_dec_t (r_eql rfl rfl) rfl (by decide) ?_
      refine wl_val (r_move (v := .bool _) rfl) rfl ?_
      refine wl_val (r_move (v := .slice _ _ _) rfl) rfl ?_
      refine wl_val (r_len (T := 22) rfl ti22.und rfl _ rfl) rfl ?_
      refine wl_dec_t (r_eql rfl rfl) rfl rfl ?_
      refine wl_val (r_pick_t rfl (v := .bool _) rfl) rfl ?_
      refine wl_val (r_assign (v := .bool _) rfl) rfl ?_
      refine wl_nil ?_
      refine c_then ?_
      refine wp_ret ?_
      refine c_inR ?_
      refine c_thenR ?_
      refine ret1 Try.results28 ?_
      exact ⟨rfl, hS3.fin⟩
  · have hS3 := hS.ext hx2
    refine wl_val (r_move (v := .tuple _) rfl) rfl ?_
    refine wl_val (r_extract (v := .slice _ _ _) rfl rfl) rfl ?_
    refine wl_val (r_extract (v := .int .i64 _) rfl rfl) rfl ?_
    refine wl_val (r_assign (v := .slice _ _ _) rfl) rfl ?_
    refine wl_val (r_assign (v := .int .i64 _) rfl) rfl ?_
    refine wl_nil ?_
    refine c_then ?_
    refine c_seq ?_
    refine c_block ?_
    refine c_seq ?_
    refine c_region ?_
    refine wl_val (r_move (v := .int .i64 _) rfl) rfl ?_
    refine wl_dec_f (r_lss rfl rfl) rfl (by omega) ?_
    refine wl_val (r_move (v := .bool _) rfl) rfl ?_
    refine wl_val (r_move (v := .int .i64 _) rfl) rfl ?_
    refine wl_val (r_move (v := .int .i64 _) rfl) rfl ?_
    refine wl_dec_f (r_lss rfl rfl) rfl (by omega) ?_
    refine wl_val (r_pick_f rfl (v := .bool _) rfl) rfl ?_
    refine wl_val (r_assign (v := .bool _) rfl) rfl ?_
    refine wl_nil ?_
    refine c_then ?_
    refine c_false rfl ?_
    refine c_seq ?_
    refine c_region ?_
    refine wl_val (r_move (v := .int .i64 _) rfl) rfl ?_
    refine wl_val (r_move (v := .slice _ _ _) rfl) rfl ?_
    refine wl_val (r_len (T := 22) rfl ti22.und rfl _ rfl) rfl ?_
    refine wl_dec_t (r_gtr rfl rfl) rfl (by omega) ?_
    refine wl_val (r_assign (v := .bool _) rfl) rfl ?_
    refine wl_nil ?_
    refine c_then ?_
    refine c_true rfl ?_
    refine c_seq ?_
    refine c_region ?_
    refine wl_val (r_move (v := .int .i64 _) rfl) rfl ?_
    refine wl_dec_t (r_eql rfl rfl) rfl (by decide) ?_
    refine wl_val (r_move (v := .bool _) rfl) rfl ?_
    refine wl_val (r_move (v := .slice _ _ _) rfl) rfl ?_
    refine wl_val (r_len (T := 22) rfl ti22.und rfl _ rfl) rfl ?_
    refine wl_dec_t (r_eql rfl rfl) rfl rfl ?_
    refine wl_val (r_pick_t rfl (v := .bool _) rfl) rfl ?_
    refine wl_val (r_assign (v := .bool _) rfl) rfl ?_
    refine wl_nil ?_
    refine c_then ?_
    refine wp_ret ?_
    refine c_inR ?_
    refine c_thenR ?_
    refine ret1 Try.results28 ?_
    exact ⟨rfl, hS3.fin⟩
  · have hS3 := hS.ext hx2
    refine wl_val (r_move (v := .tuple _) rfl) rfl ?_
    refine wl_val (r_extract (v := .slice _ _ _) rfl rfl) rfl ?_
    refine wl_val (r_extract (v := .int .i64 _) rfl rfl) rfl ?_
    refine wl_val (r_assign (v := .slice _ _ _) rfl) rfl ?_
    refine wl_val (r_assign (v := .int .i64 _) rfl) rfl ?_
    refine wl_nil ?_
    refine c_then ?_
    refine c_seq ?_
    refine c_block ?_
    refine c_seq ?_
    refine c_region ?_
    refine wl_val (r_move (v := .int .i64 _) rfl) rfl ?_
    refine wl_dec_f (r_lss rfl rfl) rfl (by omega) ?_
    refine wl_val (r_move (v := .bool _) rfl) rfl ?_
    refine wl_val (r_move (v := .int .i64 _) rfl) rfl ?_
    refine wl_val (r_move (v := .int .i64 _) rfl) rfl ?_
    refine wl_dec_f (r_lss rfl rfl) rfl (by omega) ?_
    refine wl_val (r_pick_f rfl (v := .bool _) rfl) rfl ?_
    refine wl_val (r_assign (v := .bool _) rfl) rfl ?_
    refine wl_nil ?_
    refine c_then ?_
    refine c_false rfl ?_
    refine c_seq ?_
    refine c_region ?_
    refine wl_val (r_move (v := .int .i64 _) rfl) rfl ?_
    refine wl_val (r_move (v := .slice _ _ _) rfl) rfl ?_
    refine wl_val (r_len (T := 22) rfl ti22.und rfl _ rfl) rfl ?_
    refine wl_dec_f (r_gtr rfl rfl) rfl (by omega) ?_
    refine wl_val (r_assign (v := .bool _) rfl) rfl ?_
    refine wl_nil ?_
    refine c_then ?_
    refine c_false rfl ?_
    refine wp_skip ?_
    refine c_inN ?_
    refine c_then ?_
    refine c_seq ?_
    refine c_seq ?_
    obtain ⟨f', rfl⟩ : ∃ i : Nat, f = (i : Int) := ⟨f.toNat, (by omega)⟩
    obtain ⟨t', rfl⟩ : ∃ i : Nat, t = (i : Int) := ⟨t.toNat, (by omega)⟩
    simp only [Int.toNat_natCast] at *
    refine c_region ?_
    refine wl_val (r_move (v := .int .i64 _) rfl) rfl ?_
    refine wl_dec_f (r_neq rfl rfl) rfl (by decide) ?_
    refine wl_val (r_move (v := .bool _) rfl) rfl ?_
    refine wl_val (r_move (v := .slice _ _ _) rfl) rfl ?_
    refine wl_val (r_len (T := 22) rfl ti22.und rfl _ rfl) rfl ?_
    refine wl_val (r_move (v := .int .i64 _) rfl) rfl ?_
    refine wl_val (r_move (v := .int .i64 _) rfl) rfl ?_
    refine wl_val (r_subn rfl rfl (by omega) (by omega)) rfl ?_
    refine wl_dec_f (r_neq rfl rfl) rfl (fun h => h rfl) ?_
    refine wl_val (r_pick_f rfl (v := .bool _) rfl) rfl ?_
    refine wl_val (r_move (v := .bool _) rfl) rfl ?_
    refine wl_val (r_move (v := .slice _ _ _) rfl) rfl ?_
    refine wl_val (r_cap (T := 22) rfl ti22.und rfl _ rfl) rfl ?_
    refine wl_val (r_move (v := .int .i64 _) rfl) rfl ?_
    refine wl_val (r_move (v := .int .i64 _) rfl) rfl ?_
    refine wl_val (r_subn rfl rfl (by omega) (by omega)) rfl ?_
    refine wl_dec_f (r_neq rfl rfl) rfl (fun h => h rfl) ?_
    refine wl_val (r_pick_f rfl (v := .bool _) rfl) rfl ?_
    refine wl_val (r_move (v := .bool _) rfl) rfl ?_
    refine wl_val (r_move (v := .slice _ _ _) rfl) rfl ?_
    refine wl_val (r_move (v := .slice _ _ _) rfl) rfl ?_
    refine wl_val (r_move (v := .int .i64 _) rfl) rfl ?_
    refine wl_val (r_move (v := .int .i64 _) rfl) rfl ?_
    refine wl_val (r_sl_lh ti22.und ti5 rfl rfl rfl (by omega) (by omega)) rfl ?_
    refine wl_call (r_call fn26 rfl rfl) rfl (bytesEq_t [] [] _ _ _ _ _ _ _ Row.nil Row.nil (by simp; try omega) (by simp; try omega) rfl) ?_
    rintro _ w4 ⟨rfl, hx5⟩
    have hS6 := hS3.ext hx5
    refine wl_val (r_not rfl) rfl ?_
    refine wl_val (r_pick_f rfl (v := .bool _) rfl) rfl ?_
    refine wl_nil ?_
    refine c_then ?_
    refine c_false rfl ?_
    refine wp_skip ?_
    refine c_then ?_
    refine c_seq ?_
    refine c_region ?_
    refine wl_val (r_move (v := .slice _ _ _) rfl) rfl ?_
    refine wl_call (r_call fn21 rfl rfl) rfl (clone_n [] _ 0 _ _ Row.nil rfl (by decide)) ?_
    rintro _ w7 ⟨a73, c73, rfl, hc73, hx8⟩
    have hS9 := hS6.call hx8
    simp only [List.cons_append, List.nil_append] at hS9
    refine wl_val (r_assign (v := .slice _ _ _) rfl) rfl ?_
    refine wl_nil ?_
    refine c_then ?_
    refine c_seq ?_
    refine c_region ?_
    refine wl_val (r_move (v := .slice _ _ _) rfl) rfl ?_
    refine wl_exv (x_lit (vs := (([1, 2, 3] : List UInt8).map b8)) hS9 ti22.und ti5 rfl rfl rfl (by repeat' first | exact one_nil | exact one_b8 _ | exact one_v32 _ | exact one_all rfl | refine one_cons rfl ?_ | refine one_app ?_ ?_) (by decide)) rfl ?_
    rintro _ w10 ⟨b75, rfl, hS11⟩
    refine wl_exv (x_appendFull hS11 ti22.und ti5 rfl rfl Row.nil (by simp; omega) rfl (Row.of_at (at_all (hS11.heap (.head _)))) (by first | (simp [*]; done) | (simp [*] <;> omega) | omega) (by decide) (by omega) (fun _ => by omega) _ rfl) rfl ?_
    rintro _ w12 ⟨b76, cq14, Dq14, rfl, hcq14, hS13⟩
    refine wl_val (r_assign (v := .slice _ _ _) rfl) rfl ?_
    refine wl_nil ?_
    refine c_then ?_
    refine c_seq ?_
    refine c_seq ?_
    refine c_region ?_
    refine wl_val (r_move (v := .slice _ _ _) rfl) rfl ?_
    refine wl_val (r_len (T := 22) rfl ti22.und rfl _ rfl) rfl ?_
    refine wl_dec_f (r_gtr rfl rfl) rfl (by omega) ?_
    refine wl_nil ?_
    refine c_then ?_
    refine c_false rfl ?_
    refine wp_skip ?_
    refine c_then ?_
    refine c_seq ?_
    refine c_region ?_
    refine wl_val (r_move (v := .slice _ _ _) rfl) rfl ?_
    refine wl_val (r_move (v := .slice _ _ _) rfl) rfl ?_
    refine wl_call (r_call fn26 rfl rfl) rfl (bytesEq_t [] [] _ _ _ _ _ _ _ Row.nil Row.nil rfl rfl rfl) ?_
    rintro _ w15 ⟨rfl, hx16⟩
    have hS17 := hS13.ext hx16
    refine wl_val (r_assign (v := .bool _) rfl) rfl ?_
    refine wl_nil ?_
    refine c_then ?_
    refine wp_ret ?_
    refine ret1 Try.results28 ?_
    exact ⟨rfl, hS17.fin⟩

theorem part1_ok (l : List UInt8) (D : List Value) (g n c : Nat) (f t : Int) (w : World) (hb : w.heap[g]? = some (cl (l.map b8 ++ D) 5)) (hl : l.length = n) (hc : n ≤ c) (hn : n ≤ 140737488351232) :
    Ret Try.prog 28 [.slice (some ⟨g, 0, none⟩) n c, .int .i64 f, .int .i64 t] w (fun v w' => v = .bool true ∧ St w [g] w' [(.blk g (cl (l.map b8 ++ D) 5))]) := by
  subst hl
  refine enter Try.func28 rfl Try.ntmps28 rfl ?_
  have hS : St w [g] w [(.blk g (cl (l.map b8 ++ D) 5))] := St.own hb
  refine c_seq ?_
  refine c_region ?_
  refine wl_val (r_assign (v := .bool false) rfl) rfl ?_
  refine wl_nil ?_
  refine c_then ?_
  refine c_seq ?_
  refine c_region ?_
  refine wl_val (r_move (v := .slice _ _ _) rfl) rfl ?_
  refine wl_val (r_move (v := .int .i64 _) rfl) rfl ?_
  refine wl_val (r_move (v := .int .i64 _) rfl) rfl ?_
  refine wl_call (r_call fn110 rfl rfl) rfl (part_ok _ l.length c f t _ hc hn) ?_
  rintro _ w1 (⟨hq, rfl, hx2⟩ | ⟨hq, rfl, hx2⟩ | ⟨hq, rfl, hx2⟩)
  · have hS3 := hS.ext hx2
    refine wl_val (r_move (v := .tuple _) rfl) rfl ?_
    refine wl_val (r_extract (v := .slice _ _ _) rfl rfl) rfl ?_
    refine wl_val (r_extract (v := .int .i64 _) rfl rfl) rfl ?_
    refine wl_val (r_assign (v := .slice _ _ _) rfl) rfl ?_
    refine wl_val (r_assign (v := .int .i64 _) rfl) rfl ?_
    refine wl_nil ?_
    refine c_then ?_
    refine c_seq ?_
    refine c_block ?_
    refine c_seq ?_
    refine c_region ?_
    refine wl_val (r_move (v := .int .i64 _) rfl) rfl ?_
    refine wl_dec (r_lss rfl rfl) rfl (fun h2_1 => ?_) (fun h2_1 => ?_)
    · refine wl_val (r_move (v := .bool _) rfl) rfl ?_
      refine wl_not rfl ?_
      refine wl_not rfl ?_
      refine wl_not rfl ?_
      refine wl_val (r_pick_t rfl (v := .bool true) rfl) rfl ?_
      refine wl_val (r_assign (v := .bool _) rfl) rfl ?_
      refine wl_nil ?_
      refine c_then ?_
      refine c_true rfl ?_
      refine c_seq ?_
      refine c_region ?_
      refine wl_val (r_move (v := .int .i64 _) rfl) rfl ?_
      refine wl_dec_t (r_eql rfl rfl) rfl (by decide) ?_
      refine wl_val (r_move (v := .bool _) rfl) rfl ?_
      refine wl_val (r_move (v := .slice _ _ _) rfl) rfl ?_
      refine wl_val (r_len (T := 22) rfl ti22.und rfl _ rfl) rfl ?_
      refine wl_dec_t (r_eql rfl rfl) rfl rfl ?_
      refine wl_val (r_pick_t rfl (v := .bool _) rfl) rfl ?_
      refine wl_val (r_assign (v := .bool _) rfl) rfl ?_
      refine wl_nil ?_
      refine c_then ?_
      refine wp_ret ?_
      refine c_inR ?_
      refine c_thenR ?_
      refine ret1 Try.results28 ?_
      exact ⟨rfl, hS3⟩
    · refine wl_val (r_move (v := .bool _) rfl) rfl ?_
      refine wl_val (r_move (v := .int .i64 _) rfl) rfl ?_
      refine wl_val (r_move (v := .int .i64 _) rfl) rfl ?_
      refine wl_dec_t (r_lss rfl rfl) rfl (by omega) ?_
      refine wl_val (r_pick_f rfl (v := .bool _) rfl) rfl ?_
      refine wl_val (r_assign (v := .bool _) rfl) rfl ?_
      refine wl_nil ?_
      refine c_then ?_
      refine c_true rfl ?_
      refine c_seq ?_
      refine c_region ?_
      refine wl_val (r_move (v := .int .i64 _) rfl) rfl ?_
      refine wl_dec_t (r_eql rfl rfl) rfl (by decide) ?_
      refine wl_val (r_move (v := .bool _) rfl) rfl ?_
      refine wl_val (r_move (v := .slice _ _ _) rfl) rfl ?_
      refine wl_val (r_len (T := 22) rfl ti22.und rfl _ rfl) rfl ?_
      refine wl_dec_t (r_eql rfl rfl) rfl rfl ?_
      refine wl_val (r_pick_t rfl (v := .bool _) rfl) rfl ?_
      refine wl_val (r_assign (v := .bool _) rfl) rfl ?_
      refine wl_nil ?_
      refine c_then ?_
      refine wp_ret ?_
      refine c_inR ?_
      refine c_thenR ?_
      refine ret1 Try.results28 ?_
      exact ⟨rfl, hS3⟩
  · have hS3 := hS.ext hx2
    refine wl_val (r_move (v := .tuple _) rfl) rfl ?_
    refine wl_val (r_extract (v := .slice _ _ _) rfl rfl) rfl ?_
    refine wl_val (r_extract (v := .int .i64 _) rfl rfl) rfl ?_
    refine wl_val (r_assign (v := .slice _ _ _) rfl) rfl ?_
    refine wl_val (r_assign (v := .int .i64 _) rfl) rfl ?_
    refine wl_nil ?_
    refine c_then ?_
    refine c_seq ?_
    refine c_block ?_
    refine c_seq ?_
    refine c_region ?_
    refine wl_val (r_move (v := .int .i64 _) rfl) rfl ?_
    refine wl_dec_f (r_lss rfl rfl) rfl (by omega) ?_
    refine wl_val (r_move (v := .bool _) rfl) rfl ?_
    refine wl_val (r_move (v := .int .i64 _) rfl) rfl ?_
    refine wl_val (r_move (v := .int .i64 _) rfl) rfl ?_
    refine wl_dec_f (r_lss rfl rfl) rfl (by omega) ?_
    refine wl_val (r_pick_f rfl (v := .bool _) rfl) rfl ?_
    refine wl_val (r_assign (v := .bool _) rfl) rfl ?_
    refine wl_nil ?_
    refine c_then ?_
    refine c_false rfl ?_
    refine c_seq ?_
    refine c_region ?_
    refine wl_val (r_move (v := .int .i64 _) rfl) rfl ?_
    refine wl_val (r_move (v := .slice _ _ _) rfl) rfl ?_
    refine wl_val (r_len (T := 22) rfl ti22.und rfl _ rfl) rfl ?_
    refine wl_dec_t (r_gtr rfl rfl) rfl (by omega) ?_
    refine wl_val (r_assign (v := .bool _) rfl) rfl ?_
    refine wl_nil ?_
    refine c_then ?_
    refine c_true rfl ?_
    refine c_seq ?_
    refine c_region ?_
    refine wl_val (r_move (v := .int .i64 _) rfl) rfl ?_
    refine wl_dec_t (r_eql rfl rfl) rfl (by decide) ?_
    refine wl_val (r_move (v := .bool _) rfl) rfl ?_
    refine wl_val (r_move (v := .slice _ _ _) rfl) rfl ?_
    refine wl_val (r_len (T := 22) rfl ti22.und rfl _ rfl) rfl ?_
    refine wl_dec_t (r_eql rfl rfl) rfl rfl ?_
    refine wl_val (r_pick_t rfl (v := .bool _) rfl) rfl ?_
    refine wl_val (r_assign (v := .bool _) rfl) rfl ?_
    refine wl_nil ?_
    refine c_then ?_
    refine wp_ret ?_
    refine c_inR ?_
    refine c_thenR ?_
    refine ret1 Try.results28 ?_
    exact ⟨rfl, hS3⟩
  · have hS3 := hS.ext hx2
    refine wl_val (r_move (v := .tuple _) rfl) rfl ?_
    refine wl_val (r_extract (v := .slice _ _ _) rfl rfl) rfl ?_
    refine wl_val (r_extract (v := .int .i64 _) rfl rfl) rfl ?_
    refine wl_val (r_assign (v := .slice _ _ _) rfl) rfl ?_
    refine wl_val (r_assign (v := .int .i64 _) rfl) rfl ?_
    refine wl_nil ?_
    refine c_then ?_
    refine c_seq ?_
    refine c_block ?_
    refine c_seq ?_
    refine c_region ?_
    refine wl_val (r_move (v := .int .i64 _) rfl) rfl ?_
    refine wl_dec_f (r_lss rfl rfl) rfl (by omega) ?_
    refine wl_val (r_move (v := .bool _) rfl) rfl ?_
    refine wl_val (r_move (v := .int .i64 _) rfl) rfl ?_
    refine wl_val (r_move (v := .int .i64 _) rfl) rfl ?_
    refine wl_dec_f (r_lss rfl rfl) rfl (by omega) ?_
    refine wl_val (r_pick_f rfl (v := .bool _) rfl) rfl ?_
    refine wl_val (r_assign (v := .bool _) rfl) rfl ?_
    refine wl_nil ?_
    refine c_then ?_
    refine c_false rfl ?_
    refine c_seq ?_
    refine c_region ?_
    refine wl_val (r_move (v := .int .i64 _) rfl) rfl ?_
    refine wl_val (r_move (v := .slice _ _ _) rfl) rfl ?_
    refine wl_val (r_len (T := 22) rfl ti22.und rfl _ rfl) rfl ?_
    refine wl_dec_f (r_gtr rfl rfl) rfl (by omega) ?_
    refine wl_val (r_assign (v := .bool _) rfl) rfl ?_
    refine wl_nil ?_
    refine c_then ?_
    refine c_false rfl ?_
    refine wp_skip ?_
    refine c_inN ?_
    refine c_then ?_
    refine c_seq ?_
    refine c_seq ?_
    obtain ⟨f', rfl⟩ : ∃ i : Nat, f = (i : Int) := ⟨f.toNat, (by omega)⟩
    obtain ⟨t', rfl⟩ : ∃ i : Nat, t = (i : Int) := ⟨t.toNat, (by omega)⟩
    simp only [Int.toNat_natCast] at *
    refine c_region ?_
    refine wl_val (r_move (v := .int .i64 _) rfl) rfl ?_
    refine wl_dec_f (r_neq rfl rfl) rfl (by decide) ?_
    refine wl_val (r_move (v := .bool _) rfl) rfl ?_
    refine wl_val (r_move (v := .slice _ _ _) rfl) rfl ?_
    refine wl_val (r_len (T := 22) rfl ti22.und rfl _ rfl) rfl ?_
    refine wl_val (r_move (v := .int .i64 _) rfl) rfl ?_
    refine wl_val (r_move (v := .int .i64 _) rfl) rfl ?_
    refine wl_val (r_subn rfl rfl (by omega) (by omega)) rfl ?_
    refine wl_dec_f (r_neq rfl rfl) rfl (fun h => h rfl) ?_
    refine wl_val (r_pick_f rfl (v := .bool _) rfl) rfl ?_
    refine wl_val (r_move (v := .bool _) rfl) rfl ?_
    refine wl_val (r_move (v := .slice _ _ _) rfl) rfl ?_
    refine wl_val (r_cap (T := 22) rfl ti22.und rfl _ rfl) rfl ?_
    refine wl_val (r_move (v := .int .i64 _) rfl) rfl ?_
    refine wl_val (r_move (v := .int .i64 _) rfl) rfl ?_
    refine wl_val (r_subn rfl rfl (by omega) (by omega)) rfl ?_
    refine wl_dec_f (r_neq rfl rfl) rfl (fun h => h rfl) ?_
    refine wl_val (r_pick_f rfl (v := .bool _) rfl) rfl ?_
    refine wl_val (r_move (v := .bool _) rfl) rfl ?_
    refine wl_val (r_move (v := .slice _ _ _) rfl) rfl ?_
    refine wl_val (r_move (v := .slice _ _ _) rfl) rfl ?_
    refine wl_val (r_move (v := .int .i64 _) rfl) rfl ?_
    refine wl_val (r_move (v := .int .i64 _) rfl) rfl ?_
    refine wl_val (r_sl_lh ti22.und ti5 rfl rfl rfl (by omega) (by omega)) rfl ?_
    refine wl_call (r_call fn26 rfl rfl) rfl (bytesEq_t ((l.drop f').take (t' - f')) ((l.drop f').take (t' - f')) _ _ _ _ _ _ _ (pre_subm (f := f') (t := t') (hS3.heap (.head _))) (pre_sub (f := f') (k := t' - f') hc (hS3.heap (.head _))) (by rw [List.length_take, List.length_drop]; omega) (by rw [List.length_take, List.length_drop]; omega) rfl) ?_
    rintro _ w4 ⟨rfl, hx5⟩
    have hS6 := hS3.ext hx5
    refine wl_val (r_not rfl) rfl ?_
    refine wl_val (r_pick_f rfl (v := .bool _) rfl) rfl ?_
    refine wl_nil ?_
    refine c_then ?_
    refine c_false rfl ?_
    refine wp_skip ?_
    refine c_then ?_
    refine c_seq ?_
    refine c_region ?_
    refine wl_val (r_move (v := .slice _ _ _) rfl) rfl ?_
    refine wl_call (r_call fn21 rfl rfl) rfl (clone_n l _ l.length _ _ (Row.of_pre (hS6.heap (.head _))) rfl (by omega)) ?_
    rintro _ w7 ⟨a73, c73, rfl, hc73, hx8⟩
    have hS9 := hS6.call hx8
    simp only [List.cons_append, List.nil_append] at hS9
    refine wl_val (r_assign (v := .slice _ _ _) rfl) rfl ?_
    refine wl_nil ?_
    refine c_then ?_
    refine c_seq ?_
    refine c_region ?_
    refine wl_val (r_move (v := .slice _ _ _) rfl) rfl ?_
    refine wl_exv (x_lit (vs := (([1, 2, 3] : List UInt8).map b8)) hS9 ti22.und ti5 rfl rfl rfl (by repeat' first | exact one_nil | exact one_b8 _ | exact one_v32 _ | exact one_all rfl | refine one_cons rfl ?_ | refine one_app ?_ ?_) (by decide)) rfl ?_
    rintro _ w10 ⟨b75, rfl, hS11⟩
    refine wl_exv (x_appendFull hS11 ti22.und ti5 rfl rfl (pre_subm (f := f') (t := t') (hS11.heap (.tail _ (.tail _ (.head _))))) (by rw [List.length_map, List.length_take, List.length_drop]; omega) rfl (Row.of_at (at_all (hS11.heap (.head _)))) (by first | (simp [*]; done) | (simp [*] <;> omega) | omega) (by decide) (by omega) sub_some _ rfl) rfl ?_
    rintro _ w12 ⟨b76, cq14, Dq14, rfl, hcq14, hS13⟩
    refine wl_val (r_assign (v := .slice _ _ _) rfl) rfl ?_
    refine wl_nil ?_
    refine c_then ?_
    refine c_seq ?_
    refine c_seq ?_
    refine c_region ?_
    refine wl_val (r_move (v := .slice _ _ _) rfl) rfl ?_
    refine wl_val (r_len (T := 22) rfl ti22.und rfl _ rfl) rfl ?_
    refine wl_dec (r_gtr rfl rfl) rfl (fun h10_2 => ?_) (fun h10_2 => ?_)
    · refine wl_nil ?_
      refine c_then ?_
      refine c_true rfl ?_
      refine c_seq ?_
      refine c_set (d := 7) (v := .slice (some ⟨g, f', none⟩) (t' - f') (t' - f')) (congrArg (fun x => Value.slice x (t' - f') (t' - f')) (sub_lt0 (by omega))) ?_
      refine c_region ?_
      refine wl_val (r_move (v := .slice _ _ _) rfl) rfl ?_
      refine wl_val (r_ixBO (m := 0) ti22.und ti5 rfl rfl (by first | omega | (simp [*]; done) | (simp [*] <;> omega))) rfl ?_
      refine wl_val (r_loadB1 ti5.und rfl rfl (hS13.heap (.tail _ (.tail _ (.tail _ (.head _))))) (pre_get (l := l) (m := f') (by omega))) rfl ?_
      refine wl_val (r_add8 (b := 1) rfl rfl) rfl ?_
      refine wl_val (r_ixBO (m := 0) ti22.und ti5 rfl rfl (by first | omega | (simp [*]; done) | (simp [*] <;> omega))) rfl ?_
      refine wl_exs (x_store1 (v := b8 _) [_, _, _] hS13 ti5 rfl rfl rfl (by simp; omega)) rfl ?_
      intro w15 hS16
      simp only [List.cons_append, List.nil_append] at hS16
      simp only [Nat.add_zero, Nat.zero_add] at hS16
      rw [pre_set (by omega)] at hS16
      refine wl_nil ?_
      refine c_then ?_
      refine c_seq ?_
      refine c_seq ?_
      refine c_drawS 18 hMixed hS16 ?_
      intro w17 hS18
      refine g_take 0 rfl (by decide +kernel) rfl (fun _ _ _ h => h) hS18 (fun wF hF => r_move (v := .slice _ _ _) rfl) ?_
      refine g_take 1 rfl (by decide +kernel) rfl (fun _ _ _ h => h) hS18 (fun wF hF => r_move (v := .int .i64 _) rfl) ?_
      refine g_take 2 rfl (by decide +kernel) rfl (fun _ _ _ h => h) hS18 (fun wF hF => r_ixBO ti22.und ti5 rfl rfl (by first | omega | (simp [*]; done) | (simp [*] <;> omega))) ?_
      refine g_take 3 rfl (by decide +kernel) rfl (fun _ _ _ h => h) hS18 (fun wF hF => r_loadB1 ti5.und rfl rfl (hF.heap (.tail _ (.tail _ (.tail _ (.head _))))) (pre_get_set0 (l := l) (m := f') (by omega))) ?_
      refine g_take 4 rfl (by decide +kernel) rfl (fun _ _ _ h => h) hS18 (fun wF hF => r_move (v := .slice _ _ _) rfl) ?_
      refine g_take 5 rfl (by decide +kernel) rfl (fun _ _ _ h => h) hS18 (fun wF hF => r_move (v := .int .i64 _) rfl) ?_
      refine g_take 6 rfl (by decide +kernel) rfl (fun _ _ _ h => h) hS18 (fun wF hF => r_ixS ti22.und ti5 rfl rfl (St.rowAt hF (.tail _ (.tail _ (.head _)))) (by first | omega | (simp [*]; done) | (simp [*] <;> omega)) (by first | (simp [*]; done) | (simp [*] <;> omega) | omega)) ?_
      refine g_take 7 rfl (by decide +kernel) rfl (fun _ _ _ h => h) hS18 (fun wF hF => r_loadS1 ti5.und rfl rfl (St.rowAt hF (.tail _ (.tail _ (.head _)))) (by rw [Nat.mul_one]; exact map_gt _ _ _ (by omega))) ?_
      refine g_take 8 rfl (by decide +kernel) rfl (fun _ _ _ h => h) hS18 (fun wF hF => r_add8 (b := 1) rfl rfl) ?_
      refine g_dec_f 9 rfl (by decide +kernel) rfl (fun _ _ _ _ h => h) hS18 (fun wF hF => r_neq rfl rfl) (fun h => h rfl) ?_
      refine g_take 10 rfl (by decide +kernel) rfl (fun _ _ _ h => h) hS18 (fun wF hF => r_move (v := .bool _) rfl) ?_
      refine g_take 11 rfl (by decide +kernel) rfl (fun _ _ _ h => h) hS18 (fun wF hF => r_move (v := .slice _ _ _) rfl) ?_
      refine g_take 12 rfl (by decide +kernel) rfl (fun _ _ _ h => h) hS18 (fun wF hF => r_ixBO (m := 0) ti22.und ti5 rfl rfl (by first | omega | (simp [*]; done) | (simp [*] <;> omega))) ?_
      refine g_take 13 rfl (by decide +kernel) rfl (fun _ _ _ h => h) hS18 (fun wF hF => r_loadB1 ti5.und rfl rfl (hF.heap (.head _)) (by rw [List.append_assoc]; exact first_get (l := l) (f := f') (k := t' - f') (by omega) (by omega) _)) ?_
      refine g_take 14 rfl (by decide +kernel) rfl (fun _ _ _ h => h) hS18 (fun wF hF => r_move (v := .slice _ _ _) rfl) ?_
      refine g_take 15 rfl (by decide +kernel) rfl (fun _ _ _ h => h) hS18 (fun wF hF => r_move (v := .int .i64 _) rfl) ?_
      refine g_take 16 rfl (by decide +kernel) rfl (fun _ _ _ h => h) hS18 (fun wF hF => r_ixS ti22.und ti5 rfl rfl (St.rowAt hF (.tail _ (.tail _ (.head _)))) (by first | omega | (simp [*]; done) | (simp [*] <;> omega)) (by first | (simp [*]; done) | (simp [*] <;> omega) | omega)) ?_
      refine g_take 17 rfl (by decide +kernel) rfl (fun _ _ _ h => h) hS18 (fun wF hF => r_loadS1 ti5.und rfl rfl (St.rowAt hF (.tail _ (.tail _ (.head _)))) (by rw [Nat.mul_one]; exact map_gt _ _ _ (by omega))) ?_
      refine g_tail (by decide +kernel) rfl (by decide +kernel) ?_
      refine wl_dec_f (r_neq rfl rfl) rfl (fun h => h rfl) ?_
      refine wl_val (r_pick_f rfl (v := .bool _) rfl) rfl ?_
      refine wl_nil ?_
      refine c_then ?_
      refine c_false rfl ?_
      refine wp_skip ?_
      refine c_then ?_
      refine c_region ?_
      refine wl_val (r_move (v := .slice _ _ _) rfl) rfl ?_
      refine wl_val (r_move (v := .int .i64 _) rfl) rfl ?_
      refine wl_val (r_ixBO ti22.und ti5 rfl rfl (by first | omega | (simp [*]; done) | (simp [*] <;> omega))) rfl ?_
      refine wl_val (r_loadB1 ti5.und rfl rfl (hS18.heap (.tail _ (.tail _ (.tail _ (.head _))))) (pre_get_set0 (l := l) (m := f') (by omega))) rfl ?_
      refine wl_val (r_sub8 (b := 1) rfl rfl) rfl ?_
      refine wl_val (r_ixBO ti22.und ti5 rfl rfl (by first | omega | (simp [*]; done) | (simp [*] <;> omega))) rfl ?_
      refine wl_exs (x_store1 (v := b8 _) [_, _, _] hS18 ti5 rfl rfl rfl (by simp; omega)) rfl ?_
      intro w19 hS20
      simp only [List.cons_append, List.nil_append] at hS20
      simp only [Nat.add_zero, Nat.zero_add] at hS20
      rw [pre_set (by simp; omega), set_back (by omega) (by simp)] at hS20
      refine wl_nil ?_
      refine c_then ?_
      refine c_seq ?_
      refine c_region ?_
      refine wl_val (r_move (v := .slice _ _ _) rfl) rfl ?_
      refine wl_val (r_move (v := .slice _ _ _) rfl) rfl ?_
      refine wl_call (r_call fn26 rfl rfl) rfl (bytesEq_t l l _ _ _ _ _ _ _ (Row.of_pre (hS20.heap (.tail _ (.tail _ (.tail _ (.head _)))))) (St.rowAt hS20 (.tail _ (.tail _ (.head _)))) rfl rfl rfl) ?_
      rintro _ w21 ⟨rfl, hx22⟩
      have hS23 := hS20.ext hx22
      refine wl_val (r_assign (v := .bool _) rfl) rfl ?_
      refine wl_nil ?_
      refine c_then ?_
      refine wp_ret ?_
      refine ret1 Try.results28 ?_
      exact ⟨rfl, hS23.drop1.drop1.drop1⟩
    · refine wl_nil ?_
      refine c_then ?_
      refine c_false rfl ?_
      refine wp_skip ?_
      refine c_then ?_
      refine c_seq ?_
      refine c_region ?_
      refine wl_val (r_move (v := .slice _ _ _) rfl) rfl ?_
      refine wl_val (r_move (v := .slice _ _ _) rfl) rfl ?_
      refine wl_call (r_call fn26 rfl rfl) rfl (bytesEq_t l l _ _ _ _ _ _ _ (Row.of_pre (hS13.heap (.tail _ (.tail _ (.tail _ (.head _)))))) (St.rowAt hS13 (.tail _ (.tail _ (.head _)))) rfl rfl rfl) ?_
      rintro _ w24 ⟨rfl, hx25⟩
      have hS26 := hS13.ext hx25
      refine wl_val (r_assign (v := .bool _) rfl) rfl ?_
      refine wl_nil ?_
      refine c_then ?_
      refine wp_ret ?_
      refine ret1 Try.results28 ?_
      exact ⟨rfl, hS26.drop1.drop1.drop1⟩

theorem take16_in (l : List UInt8) (a : Option Addr) (n c : Nat) (p : Int) (w : World) (hb : Row w a (l.map b8)) (hl : l.length = n) (hc : n ≤ c) (hn : n ≤ 140737488351232) (h0 : 0 ≤ p) (h1 : p + 16 ≤ n) :
    Ret Try.prog 23 [.slice a n c, .int .i64 p] w (fun v w' => v = .tuple #[.agg (((l.drop p.toNat).take 16).map b8).toArray, vi 0] ∧ St w [] w' []) := by
  subst hl
  refine (take16_ok l a c p w hb hc (by omega) (by omega) (by omega)).mono fun v w' h => ?_
  have hz : roomI l.length p 16 = 0 := room_in h0 h1
  rwa [hz, takeL_in hz] at h
theorem take16_no (l : List UInt8) (a : Option Addr) (n c : Nat) (p : Int) (w : World) (hb : Row w a (l.map b8)) (hl : l.length = n) (hc : n ≤ c) (hn : n ≤ 140737488351232) (hp1 : -9223372036854775808 ≤ p) (hp2 : p ≤ 9223372036854775807) :
    Ret Try.prog 23 [.slice a n c, .int .i64 p] w (fun v w' => v = .tuple #[.agg ((takeL l p 16).map b8).toArray, .int .i64 (roomI n p 16)] ∧ St w [] w' []) := by
  subst hl
  exact take16_ok l a c p w hb hc (by omega) hp1 hp2

theorem take32_in (l : List UInt8) (a : Option Addr) (n c : Nat) (p : Int) (w : World) (hb : Row w a (l.map b8)) (hl : l.length = n) (hc : n ≤ c) (hn : n ≤ 140737488351232) (h0 : 0 ≤ p) (h1 : p + 32 ≤ n) :
    Ret Try.prog 24 [.slice a n c, .int .i64 p] w (fun v w' => v = .tuple #[.agg (((l.drop p.toNat).take 32).map b8).toArray, vi 0] ∧ St w [] w' []) := by
  subst hl
  refine (take32_ok l a c p w hb hc (by omega) (by omega) (by omega)).mono fun v w' h => ?_
  have hz : roomI l.length p 32 = 0 := room_in h0 h1
  rwa [hz, takeL_in hz] at h
theorem take32_no (l : List UInt8) (a : Option Addr) (n c : Nat) (p : Int) (w : World) (hb : Row w a (l.map b8)) (hl : l.length = n) (hc : n ≤ c) (hn : n ≤ 140737488351232) (hp1 : -9223372036854775808 ≤ p) (hp2 : p ≤ 9223372036854775807) :
    Ret Try.prog 24 [.slice a n c, .int .i64 p] w (fun v w' => v = .tuple #[.agg ((takeL l p 32).map b8).toArray, .int .i64 (roomI n p 32)] ∧ St w [] w' []) := by
  subst hl
  exact take32_ok l a c p w hb hc (by omega) hp1 hp2

theorem take64_in (l : List UInt8) (a : Option Addr) (n c : Nat) (p : Int) (w : World) (hb : Row w a (l.map b8)) (hl : l.length = n) (hc : n ≤ c) (hn : n ≤ 140737488351232) (h0 : 0 ≤ p) (h1 : p + 64 ≤ n) :
    Ret Try.prog 25 [.slice a n c, .int .i64 p] w (fun v w' => v = .tuple #[.agg (((l.drop p.toNat).take 64).map b8).toArray, vi 0] ∧ St w [] w' []) := by
  subst hl
  refine (take64_ok l a c p w hb hc (by omega) (by omega) (by omega)).mono fun v w' h => ?_
  have hz : roomI l.length p 64 = 0 := room_in h0 h1
  rwa [hz, takeL_in hz] at h
theorem take64_no (l : List UInt8) (a : Option Addr) (n c : Nat) (p : Int) (w : World) (hb : Row w a (l.map b8)) (hl : l.length = n) (hc : n ≤ c) (hn : n ≤ 140737488351232) (hp1 : -9223372036854775808 ≤ p) (hp2 : p ≤ 9223372036854775807) :
    Ret Try.prog 25 [.slice a n c, .int .i64 p] w (fun v w' => v = .tuple #[.agg ((takeL l p 64).map b8).toArray, .int .i64 (roomI n p 64)] ∧ St w [] w' []) := by
  subst hl
  exact take64_ok l a c p w hb hc (by omega) hp1 hp2

end Go.Proofs.Ytfohfnpehfcaaaa
