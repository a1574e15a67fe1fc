/- Proofs asked for and shown. No condition. -/
import Derived.Test.YtfohfnpehfcaaaaFacts
import Derived.Test.YtfohfnpehfcaaaaTreeD
namespace Go.Proofs.Ytfohfnpehfcaaaa
open Go.Kw
set_option linter.unusedVariables false
set_option linter.unusedSimpArgs false
set_option maxRecDepth 100000
theorem prove_ok (l : List (List UInt8)) (a : Option Addr) (n c : Nat) (ix : Int) (w : World) (hb : Row w a (l.flatten.map b8)) (h32 : S32 l) (hl : l.length = n) (hc : n ≤ c) (hi1 : -9223372036854775808 ≤ ix) (hi2 : ix ≤ 9223372036854775807) :
    Ret Try.prog 75 [.slice a n c, .int .i64 ix] w (fun v w' => (n = 0 ∧ v = .tuple #[.agg #[.int .i64 0, .int .i64 0, .slice none 0 0], vi 10] ∧ St w [] w' []) ∨ (65536 < n ∧ v = .tuple #[.agg #[.int .i64 0, .int .i64 0, .slice none 0 0], vi 5] ∧ St w [] w' []) ∨ ((0 < n ∧ n ≤ 65536 ∧ (ix < 0 ∨ n ≤ ix)) ∧ v = .tuple #[.agg #[.int .i64 0, .int .i64 0, .slice none 0 0], vi 7] ∧ St w [] w' []) ∨ ((0 < n ∧ n ≤ 65536 ∧ ¬ (ix < 0 ∨ n ≤ ix)) ∧ ∃ a' c', v = .tuple #[.agg #[.int .i64 ix, vi n, .slice a' (stepsL ix.toNat n) c'], vi 0] ∧ stepsL ix.toNat n ≤ c' ∧ St w [] w' [.row (.slice a' (stepsL ix.toNat n) c') 49 32 (stepsL ix.toNat n) ((pathL l ix.toNat).flatten.map b8)])) := by
  refine enter Try.func75 rfl Try.ntmps75 rfl ?_
  have hS := St.refl w []
  refine c_seq ?_
  refine c_region ?_
  refine wl_exv (x_alloc (C := [.int .i64 0, .int .i64 0, .slice none 0 0]) hS ti55 rfl) rfl ?_
  rintro _ w1 ⟨b4, rfl, hS2⟩
  refine wl_val (r_assign (v := .int .i64 0) rfl) rfl ?_
  refine wl_nil ?_
  refine c_then ?_
  refine c_seq ?_
  refine c_seq ?_
  refine c_region ?_
  refine wl_val (r_move (v := .slice _ _ _) rfl) rfl ?_
  refine wl_call (r_call fn127 rfl rfl) rfl (listFault_ok _ _ _ _) ?_
  rintro _ w3 (⟨hlf, rfl, hx4⟩ | ⟨hlf, rfl, hx4⟩ | ⟨hlf, rfl, hx4⟩)
  · have hS5 := hS2.ext hx4
    refine wl_val (r_assign (v := .int .i64 _) rfl) rfl ?_
    refine wl_nil ?_
    refine c_then ?_
    refine c_seq ?_
    refine c_region ?_
    refine wl_val (r_move (v := .int .i64 _) rfl) rfl ?_
    refine wl_dec_t (r_neq rfl rfl) rfl (by decide) ?_
    refine wl_nil ?_
    refine c_then ?_
    refine c_true rfl ?_
    refine c_seq ?_
    refine c_region ?_
    refine wl_val (r_buildZ pl55 ti55) rfl ?_
    refine wl_val (r_move (v := .int .i64 _) rfl) rfl ?_
    refine wl_exs (x_storeW [] hS5 ti55 rfl rfl (by first | (simp [*]; done) | (simp [*] <;> omega) | omega) (by first | (simp [*]; done) | (simp [*] <;> omega) | omega) (by repeat' first | exact one_nil | exact one_b8 _ | exact one_v32 _ | exact one_all rfl | refine one_cons rfl ?_ | refine one_app ?_ ?_)) rfl ?_
    intro w6 hS7
    simp only [List.cons_append, List.nil_append] at hS7
    refine wl_val (r_assign (v := .int .i64 _) rfl) rfl ?_
    refine wl_nil ?_
    refine c_then ?_
    refine wp_ret ?_
    refine c_thenR ?_
    refine ret2 Try.results75 ⟨_, rfl, run_loadVar_blk ti55 ag55 (hS7.heap (.head _)) (by first | (simp [*]; done) | (simp [*] <;> omega) | omega)⟩ rfl ?_
    first | exact .inl ⟨by omega, rfl, hS7.fin⟩ | exact .inr (.inl ⟨by omega, rfl, hS7.fin⟩) | exact .inr (.inr (.inl ⟨by omega, rfl, hS7.fin⟩))
  · have hS5 := hS2.ext hx4
    refine wl_val (r_assign (v := .int .i64 _) rfl) rfl ?_
    refine wl_nil ?_
    refine c_then ?_
    refine c_seq ?_
    refine c_region ?_
    refine wl_val (r_move (v := .int .i64 _) rfl) rfl ?_
    refine wl_dec_t (r_neq rfl rfl) rfl (by decide) ?_
    refine wl_nil ?_
    refine c_then ?_
    refine c_true rfl ?_
    refine c_seq ?_
    refine c_region ?_
    refine wl_val (r_buildZ pl55 ti55) rfl ?_
    refine wl_val (r_move (v := .int .i64 _) rfl) rfl ?_
    refine wl_exs (x_storeW [] hS5 ti55 rfl rfl (by first | (simp [*]; done) | (simp [*] <;> omega) | omega) (by first | (simp [*]; done) | (simp [*] <;> omega) | omega) (by repeat' first | exact one_nil | exact one_b8 _ | exact one_v32 _ | exact one_all rfl | refine one_cons rfl ?_ | refine one_app ?_ ?_)) rfl ?_
    intro w8 hS9
    simp only [List.cons_append, List.nil_append] at hS9
    refine wl_val (r_assign (v := .int .i64 _) rfl) rfl ?_
    refine wl_nil ?_
    refine c_then ?_
    refine wp_ret ?_
    refine c_thenR ?_
    refine ret2 Try.results75 ⟨_, rfl, run_loadVar_blk ti55 ag55 (hS9.heap (.head _)) (by first | (simp [*]; done) | (simp [*] <;> omega) | omega)⟩ rfl ?_
    first | exact .inl ⟨by omega, rfl, hS9.fin⟩ | exact .inr (.inl ⟨by omega, rfl, hS9.fin⟩) | exact .inr (.inr (.inl ⟨by omega, rfl, hS9.fin⟩))
  · have hS5 := hS2.ext hx4
    refine wl_val (r_assign (v := .int .i64 _) rfl) rfl ?_
    refine wl_nil ?_
    refine c_then ?_
    refine c_seq ?_
    refine c_region ?_
    refine wl_val (r_move (v := .int .i64 _) rfl) rfl ?_
    refine wl_dec_f (r_neq rfl rfl) rfl (by decide) ?_
    refine wl_nil ?_
    refine c_then ?_
    refine c_false rfl ?_
    refine wp_skip ?_
    refine c_then ?_
    refine c_seq ?_
    refine c_seq ?_
    refine c_region ?_
    refine wl_val (r_move (v := .int .i64 _) rfl) rfl ?_
    refine wl_dec (r_lss rfl rfl) rfl (fun h4_1 => ?_) (fun h4_1 => ?_)
    · refine wl_val (r_move (v := .bool _) rfl) rfl ?_
      refine wl_not rfl ?_
      refine wl_not rfl ?_
      refine wl_not rfl ?_
      refine wl_not rfl ?_
      refine wl_val (r_pick_t rfl (v := .bool true) rfl) rfl ?_
      refine wl_nil ?_
      refine c_then ?_
      refine c_true rfl ?_
      refine c_seq ?_
      refine c_region ?_
      refine wl_val (r_buildZ pl55 ti55) rfl ?_
      refine wl_exs (x_storeW [] hS5 ti55 rfl rfl (by first | (simp [*]; done) | (simp [*] <;> omega) | omega) (by first | (simp [*]; done) | (simp [*] <;> omega) | omega) (by repeat' first | exact one_nil | exact one_b8 _ | exact one_v32 _ | exact one_all rfl | refine one_cons rfl ?_ | refine one_app ?_ ?_)) rfl ?_
      intro w10 hS11
      simp only [List.cons_append, List.nil_append] at hS11
      refine wl_val (r_assign (v := .int .i64 7) rfl) rfl ?_
      refine wl_nil ?_
      refine c_then ?_
      refine wp_ret ?_
      refine c_thenR ?_
      refine ret2 Try.results75 ⟨_, rfl, run_loadVar_blk ti55 ag55 (hS11.heap (.head _)) (by first | (simp [*]; done) | (simp [*] <;> omega) | omega)⟩ rfl ?_
      first | exact .inl ⟨by omega, rfl, hS11.fin⟩ | exact .inr (.inl ⟨by omega, rfl, hS11.fin⟩) | exact .inr (.inr (.inl ⟨by omega, rfl, hS11.fin⟩))
    · refine wl_val (r_move (v := .bool _) rfl) rfl ?_
      refine wl_val (r_move (v := .int .i64 _) rfl) rfl ?_
      refine wl_val (r_move (v := .slice _ _ _) rfl) rfl ?_
      refine wl_val (r_len (T := 53) rfl ti53.und rfl _ rfl) rfl ?_
      refine wl_dec (r_geq rfl rfl) rfl (fun h4_6 => ?_) (fun h4_6 => ?_)
      · refine wl_val (r_pick_f rfl (v := .bool _) rfl) rfl ?_
        refine wl_nil ?_
        refine c_then ?_
        refine c_true rfl ?_
        refine c_seq ?_
        refine c_region ?_
        refine wl_val (r_buildZ pl55 ti55) rfl ?_
        refine wl_exs (x_storeW [] hS5 ti55 rfl rfl (by first | (simp [*]; done) | (simp [*] <;> omega) | omega) (by first | (simp [*]; done) | (simp [*] <;> omega) | omega) (by repeat' first | exact one_nil | exact one_b8 _ | exact one_v32 _ | exact one_all rfl | refine one_cons rfl ?_ | refine one_app ?_ ?_)) rfl ?_
        intro w12 hS13
        simp only [List.cons_append, List.nil_append] at hS13
        refine wl_val (r_assign (v := .int .i64 7) rfl) rfl ?_
        refine wl_nil ?_
        refine c_then ?_
        refine wp_ret ?_
        refine c_thenR ?_
        refine ret2 Try.results75 ⟨_, rfl, run_loadVar_blk ti55 ag55 (hS13.heap (.head _)) (by first | (simp [*]; done) | (simp [*] <;> omega) | omega)⟩ rfl ?_
        first | exact .inl ⟨by omega, rfl, hS13.fin⟩ | exact .inr (.inl ⟨by omega, rfl, hS13.fin⟩) | exact .inr (.inr (.inl ⟨by omega, rfl, hS13.fin⟩))
      · refine wl_val (r_pick_f rfl (v := .bool _) rfl) rfl ?_
        refine wl_nil ?_
        refine c_then ?_
        refine c_false rfl ?_
        refine wp_skip ?_
        refine c_then ?_
        refine c_seq ?_
        obtain ⟨ix', rfl⟩ : ∃ i : Nat, ix = (i : Int) := ⟨ix.toNat, (by omega)⟩
        refine c_region ?_
        refine wl_val (r_move (v := .int .i64 _) rfl) rfl ?_
        refine wl_val (r_move (v := .slice _ _ _) rfl) rfl ?_
        refine wl_val (r_len (T := 53) rfl ti53.und rfl _ rfl) rfl ?_
        refine wl_val (r_move (v := .slice _ _ _) rfl) rfl ?_
        refine wl_val (r_move (v := .int .i64 _) rfl) rfl ?_
        refine wl_call (r_call fn150 rfl rfl) rfl (path_ok n l ix' _ _ _ (hb.st hS5) h32 hl (by omega) hc (by omega)) ?_
        rintro _ w14 ⟨a27, c27, rfl, hc27, hx15⟩
        have hS16 := hS5.call hx15
        simp only [List.cons_append, List.nil_append] at hS16
        refine wl_val (r_buildF (vs := [.int .i64 _, .int .i64 _, .slice _ _ _]) (out := [.int .i64 _, .int .i64 _, .slice _ _ _]) pl55 ti55 rfl rfl (by intro i hi; match i, hi with | 0, _ => rfl | 1, _ => rfl | 2, _ => rfl) rfl) rfl ?_
        refine wl_exs (x_storeW [_] hS16 ti55 rfl rfl (by first | (simp [*]; done) | (simp [*] <;> omega) | omega) (by first | (simp [*]; done) | (simp [*] <;> omega) | omega) (by repeat' first | exact one_nil | exact one_b8 _ | exact one_v32 _ | exact one_all rfl | refine one_cons rfl ?_ | refine one_app ?_ ?_)) rfl ?_
        intro w17 hS18
        simp only [List.cons_append, List.nil_append] at hS18
        refine wl_val (r_assign (v := .int .i64 0) rfl) rfl ?_
        refine wl_nil ?_
        refine c_then ?_
        refine wp_ret ?_
        refine ret2 Try.results75 ⟨_, rfl, run_loadVar_blk ti55 ag55 (hS18.heap (.tail _ (.head _))) (by first | (simp [*]; done) | (simp [*] <;> omega) | omega)⟩ rfl ?_
        exact .inr (.inr (.inr ⟨by omega, _, _, rfl, hc27, (hS18.perm ((List.Perm.cons _ (List.Perm.refl _)).trans (List.perm_middle (l₁ := [_])).symm)).drop1⟩))

theorem proveG_ok (l : List (List UInt8)) (a : Option Addr) (n c : Nat) (ix : Int) (w : World) (hb : Row w a (l.flatten.map b8)) (h32 : S32 l) (hl : l.length = n) (hc : n ≤ c) (hi1 : -9223372036854775808 ≤ ix) (hi2 : ix ≤ 9223372036854775807) :
    Ret Try.prog 80 [.slice a n c, .int .i64 ix] w (fun v w' => (n = 0 ∧ v = .tuple #[.agg #[.int .i64 0, .int .i64 0, .slice none 0 0], vi 10] ∧ St w [] w' []) ∨ (65536 < n ∧ v = .tuple #[.agg #[.int .i64 0, .int .i64 0, .slice none 0 0], vi 5] ∧ St w [] w' []) ∨ ((0 < n ∧ n ≤ 65536 ∧ (ix < 1 ∨ n < ix)) ∧ v = .tuple #[.agg #[.int .i64 0, .int .i64 0, .slice none 0 0], vi 4] ∧ St w [] w' []) ∨ ((0 < n ∧ n ≤ 65536 ∧ ¬ (ix < 1 ∨ n < ix)) ∧ ∃ a' c', v = .tuple #[.agg #[.int .i64 ix, vi n, .slice a' (gstepsL ix.toNat n true) c'], vi 0] ∧ gstepsL ix.toNat n true ≤ c' ∧ St w [] w' [.row (.slice a' (gstepsL ix.toNat n true) c') 49 32 (gstepsL ix.toNat n true) ((gpathL l ix.toNat true).flatten.map b8)])) := by
  refine enter Try.func80 rfl Try.ntmps80 rfl ?_
  have hS := St.refl w []
  refine c_seq ?_
  refine c_region ?_
  refine wl_exv (x_alloc (C := [.int .i64 0, .int .i64 0, .slice none 0 0]) hS ti55 rfl) rfl ?_
  rintro _ w1 ⟨b4, rfl, hS2⟩
  refine wl_val (r_assign (v := .int .i64 0) rfl) rfl ?_
  refine wl_nil ?_
  refine c_then ?_
  refine c_seq ?_
  refine c_seq ?_
  refine c_region ?_
  refine wl_val (r_move (v := .slice _ _ _) rfl) rfl ?_
  refine wl_call (r_call fn127 rfl rfl) rfl (listFault_ok _ _ _ _) ?_
  rintro _ w3 (⟨hlf, rfl, hx4⟩ | ⟨hlf, rfl, hx4⟩ | ⟨hlf, rfl, hx4⟩)
  · have hS5 := hS2.ext hx4
    refine wl_val (r_assign (v := .int .i64 _) rfl) rfl ?_
    refine wl_nil ?_
    refine c_then ?_
    refine c_seq ?_
    refine c_region ?_
    refine wl_val (r_move (v := .int .i64 _) rfl) rfl ?_
    refine wl_dec_t (r_neq rfl rfl) rfl (by decide) ?_
    refine wl_nil ?_
    refine c_then ?_
    refine c_true rfl ?_
    refine c_seq ?_
    refine c_region ?_
    refine wl_val (r_buildZ pl55 ti55) rfl ?_
    refine wl_val (r_move (v := .int .i64 _) rfl) rfl ?_
    refine wl_exs (x_storeW [] hS5 ti55 rfl rfl (by first | (simp [*]; done) | (simp [*] <;> omega) | omega) (by first | (simp [*]; done) | (simp [*] <;> omega) | omega) (by repeat' first | exact one_nil | exact one_b8 _ | exact one_v32 _ | exact one_all rfl | refine one_cons rfl ?_ | refine one_app ?_ ?_)) rfl ?_
    intro w6 hS7
    simp only [List.cons_append, List.nil_append] at hS7
    refine wl_val (r_assign (v := .int .i64 _) rfl) rfl ?_
    refine wl_nil ?_
    refine c_then ?_
    refine wp_ret ?_
    refine c_thenR ?_
    refine ret2 Try.results80 ⟨_, rfl, run_loadVar_blk ti55 ag55 (hS7.heap (.head _)) (by first | (simp [*]; done) | (simp [*] <;> omega) | omega)⟩ rfl ?_
    first | exact .inl ⟨by omega, rfl, hS7.fin⟩ | exact .inr (.inl ⟨by omega, rfl, hS7.fin⟩) | exact .inr (.inr (.inl ⟨by omega, rfl, hS7.fin⟩))
  · have hS5 := hS2.ext hx4
    refine wl_val (r_assign (v := .int .i64 _) rfl) rfl ?_
    refine wl_nil ?_
    refine c_then ?_
    refine c_seq ?_
    refine c_region ?_
    refine wl_val (r_move (v := .int .i64 _) rfl) rfl ?_
    refine wl_dec_t (r_neq rfl rfl) rfl (by decide) ?_
    refine wl_nil ?_
    refine c_then ?_
    refine c_true rfl ?_
    refine c_seq ?_
    refine c_region ?_
    refine wl_val (r_buildZ pl55 ti55) rfl ?_
    refine wl_val (r_move (v := .int .i64 _) rfl) rfl ?_
    refine wl_exs (x_storeW [] hS5 ti55 rfl rfl (by first | (simp [*]; done) | (simp [*] <;> omega) | omega) (by first | (simp [*]; done) | (simp [*] <;> omega) | omega) (by repeat' first | exact one_nil | exact one_b8 _ | exact one_v32 _ | exact one_all rfl | refine one_cons rfl ?_ | refine one_app ?_ ?_)) rfl ?_
    intro w8 hS9
    simp only [List.cons_append, List.nil_append] at hS9
    refine wl_val (r_assign (v := .int .i64 _) rfl) rfl ?_
    refine wl_nil ?_
    refine c_then ?_
    refine wp_ret ?_
    refine c_thenR ?_
    refine ret2 Try.results80 ⟨_, rfl, run_loadVar_blk ti55 ag55 (hS9.heap (.head _)) (by first | (simp [*]; done) | (simp [*] <;> omega) | omega)⟩ rfl ?_
    first | exact .inl ⟨by omega, rfl, hS9.fin⟩ | exact .inr (.inl ⟨by omega, rfl, hS9.fin⟩) | exact .inr (.inr (.inl ⟨by omega, rfl, hS9.fin⟩))
  · have hS5 := hS2.ext hx4
    refine wl_val (r_assign (v := .int .i64 _) rfl) rfl ?_
    refine wl_nil ?_
    refine c_then ?_
    refine c_seq ?_
    refine c_region ?_
    refine wl_val (r_move (v := .int .i64 _) rfl) rfl ?_
    refine wl_dec_f (r_neq rfl rfl) rfl (by decide) ?_
    refine wl_nil ?_
    refine c_then ?_
    refine c_false rfl ?_
    refine wp_skip ?_
    refine c_then ?_
    refine c_seq ?_
    refine c_seq ?_
    refine c_region ?_
    refine wl_val (r_move (v := .int .i64 _) rfl) rfl ?_
    refine wl_dec (r_lss rfl rfl) rfl (fun h4_1 => ?_) (fun h4_1 => ?_)
    · refine wl_val (r_move (v := .bool _) rfl) rfl ?_
      refine wl_not rfl ?_
      refine wl_not rfl ?_
      refine wl_not rfl ?_
      refine wl_not rfl ?_
      refine wl_val (r_pick_t rfl (v := .bool true) rfl) rfl ?_
      refine wl_nil ?_
      refine c_then ?_
      refine c_true rfl ?_
      refine c_seq ?_
      refine c_region ?_
      refine wl_val (r_buildZ pl55 ti55) rfl ?_
      refine wl_exs (x_storeW [] hS5 ti55 rfl rfl (by first | (simp [*]; done) | (simp [*] <;> omega) | omega) (by first | (simp [*]; done) | (simp [*] <;> omega) | omega) (by repeat' first | exact one_nil | exact one_b8 _ | exact one_v32 _ | exact one_all rfl | refine one_cons rfl ?_ | refine one_app ?_ ?_)) rfl ?_
      intro w10 hS11
      simp only [List.cons_append, List.nil_append] at hS11
      refine wl_val (r_assign (v := .int .i64 4) rfl) rfl ?_
      refine wl_nil ?_
      refine c_then ?_
      refine wp_ret ?_
      refine c_thenR ?_
      refine ret2 Try.results80 ⟨_, rfl, run_loadVar_blk ti55 ag55 (hS11.heap (.head _)) (by first | (simp [*]; done) | (simp [*] <;> omega) | omega)⟩ rfl ?_
      first | exact .inl ⟨by omega, rfl, hS11.fin⟩ | exact .inr (.inl ⟨by omega, rfl, hS11.fin⟩) | exact .inr (.inr (.inl ⟨by omega, rfl, hS11.fin⟩))
    · refine wl_val (r_move (v := .bool _) rfl) rfl ?_
      refine wl_val (r_move (v := .int .i64 _) rfl) rfl ?_
      refine wl_val (r_move (v := .slice _ _ _) rfl) rfl ?_
      refine wl_val (r_len (T := 53) rfl ti53.und rfl _ rfl) rfl ?_
      refine wl_dec (r_gtr rfl rfl) rfl (fun h4_6 => ?_) (fun h4_6 => ?_)
      · refine wl_val (r_pick_f rfl (v := .bool _) rfl) rfl ?_
        refine wl_nil ?_
        refine c_then ?_
        refine c_true rfl ?_
        refine c_seq ?_
        refine c_region ?_
        refine wl_val (r_buildZ pl55 ti55) rfl ?_
        refine wl_exs (x_storeW [] hS5 ti55 rfl rfl (by first | (simp [*]; done) | (simp [*] <;> omega) | omega) (by first | (simp [*]; done) | (simp [*] <;> omega) | omega) (by repeat' first | exact one_nil | exact one_b8 _ | exact one_v32 _ | exact one_all rfl | refine one_cons rfl ?_ | refine one_app ?_ ?_)) rfl ?_
        intro w12 hS13
        simp only [List.cons_append, List.nil_append] at hS13
        refine wl_val (r_assign (v := .int .i64 4) rfl) rfl ?_
        refine wl_nil ?_
        refine c_then ?_
        refine wp_ret ?_
        refine c_thenR ?_
        refine ret2 Try.results80 ⟨_, rfl, run_loadVar_blk ti55 ag55 (hS13.heap (.head _)) (by first | (simp [*]; done) | (simp [*] <;> omega) | omega)⟩ rfl ?_
        first | exact .inl ⟨by omega, rfl, hS13.fin⟩ | exact .inr (.inl ⟨by omega, rfl, hS13.fin⟩) | exact .inr (.inr (.inl ⟨by omega, rfl, hS13.fin⟩))
      · refine wl_val (r_pick_f rfl (v := .bool _) rfl) rfl ?_
        refine wl_nil ?_
        refine c_then ?_
        refine c_false rfl ?_
        refine wp_skip ?_
        refine c_then ?_
        refine c_seq ?_
        obtain ⟨ix', rfl⟩ : ∃ i : Nat, ix = (i : Int) := ⟨ix.toNat, (by omega)⟩
        refine c_region ?_
        refine wl_val (r_move (v := .int .i64 _) rfl) rfl ?_
        refine wl_val (r_move (v := .slice _ _ _) rfl) rfl ?_
        refine wl_val (r_len (T := 53) rfl ti53.und rfl _ rfl) rfl ?_
        refine wl_val (r_move (v := .slice _ _ _) rfl) rfl ?_
        refine wl_val (r_move (v := .int .i64 _) rfl) rfl ?_
        refine wl_call (r_call fn151 rfl rfl) rfl (gpath_ok n l ix' true _ _ _ (hb.st hS5) h32 hl (by omega) (by omega) hc (by omega)) ?_
        rintro _ w14 ⟨a27, c27, rfl, hc27, hx15⟩
        have hS16 := hS5.call hx15
        simp only [List.cons_append, List.nil_append] at hS16
        refine wl_val (r_buildF (vs := [.int .i64 _, .int .i64 _, .slice _ _ _]) (out := [.int .i64 _, .int .i64 _, .slice _ _ _]) pl55 ti55 rfl rfl (by intro i hi; match i, hi with | 0, _ => rfl | 1, _ => rfl | 2, _ => rfl) rfl) rfl ?_
        refine wl_exs (x_storeW [_] hS16 ti55 rfl rfl (by first | (simp [*]; done) | (simp [*] <;> omega) | omega) (by first | (simp [*]; done) | (simp [*] <;> omega) | omega) (by repeat' first | exact one_nil | exact one_b8 _ | exact one_v32 _ | exact one_all rfl | refine one_cons rfl ?_ | refine one_app ?_ ?_)) rfl ?_
        intro w17 hS18
        simp only [List.cons_append, List.nil_append] at hS18
        refine wl_val (r_assign (v := .int .i64 0) rfl) rfl ?_
        refine wl_nil ?_
        refine c_then ?_
        refine wp_ret ?_
        refine ret2 Try.results80 ⟨_, rfl, run_loadVar_blk ti55 ag55 (hS18.heap (.tail _ (.head _))) (by first | (simp [*]; done) | (simp [*] <;> omega) | omega)⟩ rfl ?_
        exact .inr (.inr (.inr ⟨by omega, _, _, rfl, hc27, (hS18.perm ((List.Perm.cons _ (List.Perm.refl _)).trans (List.perm_middle (l₁ := [_])).symm)).drop1⟩))

theorem shows_ok (root : List UInt8) (hroot : root.length = 32) (leaf : List UInt8) (ix sz : Int) (pa : Option Addr) (pc : Nat) (pl : List (List UInt8)) (w : World) (hleaf : leaf.length = 32) (hp : Row w pa (pl.flatten.map b8)) (h32 : S32 pl) (hpc : pl.length ≤ pc) (hpm : pl.length ≤ 4398046511104) (hi1 : -9223372036854775808 ≤ ix) (hi2 : ix ≤ 9223372036854775807) (hs1 : -9223372036854775808 ≤ sz) (hs2 : sz ≤ 9223372036854775807) :
    Ret Try.prog 79 [.agg (root.map b8).toArray, .agg (leaf.map b8).toArray, .agg #[.int .i64 ix, .int .i64 sz, .slice pa pl.length pc]] w (fun v w' => v = .int .i64 (provedE root leaf ix sz pl) ∧ St w [] w' []) := by
  refine enter Try.func79 rfl Try.ntmps79 rfl ?_
  have hS := St.refl w []
  refine c_seq ?_
  refine c_region ?_
  refine wl_exv (x_box hS (v := .agg _) rfl rfl) rfl ?_
  rintro _ w1 ⟨b3, rfl, hS2⟩
  refine wl_exv (x_box hS2 (v := .agg _) rfl rfl) rfl ?_
  rintro _ w3 ⟨b4, rfl, hS4⟩
  refine wl_exv (x_box hS4 (v := .agg _) rfl rfl) rfl ?_
  rintro _ w5 ⟨b5, rfl, hS6⟩
  refine wl_val (r_assign (v := .int .i64 0) rfl) rfl ?_
  refine wl_nil ?_
  refine c_then ?_
  refine c_seq ?_
  refine c_region ?_
  refine wl_val (r_loadB ti49 rfl rfl (hS6.heap (.tail _ (.head _))) (by first | (simp [*]; done) | (simp [*] <;> omega) | omega)) rfl ?_
  refine wl_val (r_loadB ti55 ag55 rfl (hS6.heap (.head _)) (by first | (simp [*]; done) | (simp [*] <;> omega) | omega)) rfl ?_
  refine wl_call (r_call fn61 rfl rfl) rfl (rrootBy_ok leaf ix sz pa pc pl _ hleaf (hp.st hS6) h32 hpc hpm hi1 hi2 hs1 hs2) ?_
  rintro _ w7 ⟨rfl, hx8⟩
  have hS9 := hS6.ext hx8
  refine wl_val (r_move (v := .tuple _) rfl) rfl ?_
  refine wl_val (r_extract (v := .agg _) rfl rfl) rfl ?_
  refine wl_val (r_extract (v := .int .i64 _) rfl rfl) rfl ?_
  refine wl_exv (x_alloc (C := ((List.replicate 32 (0 : UInt8)).map b8)) hS9 ti49 rfl) rfl ?_
  rintro _ w10 ⟨b7, rfl, hS11⟩
  refine wl_exs (x_storeW [] hS11 ti49 rfl rfl (by rw [List.length_map]; exact rootByL_len _ _ _ _ hleaf) (by simp) (one_b8 _)) rfl ?_
  intro w12 hS13
  simp only [List.cons_append, List.nil_append] at hS13
  refine wl_val (r_assign (v := .int .i64 _) rfl) rfl ?_
  refine wl_nil ?_
  refine c_then ?_
  refine c_seq ?_
  refine c_seq ?_
  refine c_region ?_
  refine wl_val (r_move (v := .int .i64 _) rfl) rfl ?_
  refine wl_dec (r_eql rfl rfl) rfl (fun h2_1 => ?_) (fun h2_1 => ?_)
  · refine wl_val (r_move (v := .bool _) rfl) rfl ?_
    refine wl_val (r_loadB ti49 rfl rfl (hS13.heap (.head _)) (by rw [List.length_map]; exact rootByL_len _ _ _ _ hleaf)) rfl ?_
    refine wl_val (r_loadB ti49 rfl rfl (hS13.heap (.tail _ (.tail _ (.tail _ (.head _))))) (by first | (simp [*]; done) | (simp [*] <;> omega) | omega)) rfl ?_
    refine wl_dec (r_neqA (u := undef) eg49 rfl rfl (eqIs_b8 ti49.und ti5 _ _ (rootByL_len _ _ _ _ hleaf) hroot)) rfl (fun h2_5 => ?_) (fun h2_5 => ?_)
    · refine wl_val (r_pick_t rfl (v := .bool _) rfl) rfl ?_
      refine wl_nil ?_
      refine c_then ?_
      refine c_true rfl ?_
      refine c_region ?_
      refine wl_val (r_assign (v := .int .i64 12) rfl) rfl ?_
      refine wl_nil ?_
      refine c_then ?_
      refine c_seq ?_
      refine c_region ?_
      refine wl_val (r_move (v := .int .i64 _) rfl) rfl ?_
      refine wl_val (r_assign (v := .int .i64 _) rfl) rfl ?_
      refine wl_nil ?_
      refine c_then ?_
      refine wp_ret ?_
      refine ret1 Try.results79 ?_
      exact ⟨congrArg (Value.int .i64) ((provedE_bad h2_1 h2_5).symm), hS13.fin⟩
    · refine wl_val (r_pick_t rfl (v := .bool _) rfl) rfl ?_
      refine wl_nil ?_
      refine c_then ?_
      refine c_false rfl ?_
      refine wp_skip ?_
      refine c_then ?_
      refine c_seq ?_
      refine c_region ?_
      refine wl_val (r_move (v := .int .i64 _) rfl) rfl ?_
      refine wl_val (r_assign (v := .int .i64 _) rfl) rfl ?_
      refine wl_nil ?_
      refine c_then ?_
      refine wp_ret ?_
      refine ret1 Try.results79 ?_
      exact ⟨congrArg (Value.int .i64) ((provedE_ok h2_5).symm), hS13.fin⟩
  · refine wl_val (r_move (v := .bool _) rfl) rfl ?_
    refine wl_not rfl ?_
    refine wl_not rfl ?_
    refine wl_not rfl ?_
    refine wl_val (r_pick_f rfl (v := .bool false) rfl) rfl ?_
    refine wl_nil ?_
    refine c_then ?_
    refine c_false rfl ?_
    refine wp_skip ?_
    refine c_then ?_
    refine c_seq ?_
    refine c_region ?_
    refine wl_val (r_move (v := .int .i64 _) rfl) rfl ?_
    refine wl_val (r_assign (v := .int .i64 _) rfl) rfl ?_
    refine wl_nil ?_
    refine c_then ?_
    refine wp_ret ?_
    refine ret1 Try.results79 ?_
    exact ⟨congrArg (Value.int .i64) ((provedE_no h2_1).symm), hS13.fin⟩

theorem proved_n (root leaf : List UInt8) (ix sz : Int) (pa : Option Addr) (pn pc : Nat) (pl : List (List UInt8)) (w : World) (hroot : root.length = 32) (hleaf : leaf.length = 32) (hp : Row w pa (pl.flatten.map b8)) (h32 : S32 pl) (hpl : pl.length = pn) (hpc : pn ≤ pc) (hpm : pn ≤ 4398046511104) (hi1 : -9223372036854775808 ≤ ix) (hi2 : ix ≤ 9223372036854775807) (hs1 : -9223372036854775808 ≤ sz) (hs2 : sz ≤ 9223372036854775807) :
    Ret Try.prog 62 [.agg (root.map b8).toArray, .agg (leaf.map b8).toArray, .agg #[.int .i64 ix, .int .i64 sz, .slice pa pn pc]] w (fun v w' => v = .int .i64 (provedE root leaf ix sz pl) ∧ St w [] w' []) := by
  subst hpl
  exact proved_ok root hroot leaf ix sz pa pc pl w hleaf hp h32 hpc hpm hi1 hi2 hs1 hs2

theorem shows_n (root leaf : List UInt8) (ix sz : Int) (pa : Option Addr) (pn pc : Nat) (pl : List (List UInt8)) (w : World) (hroot : root.length = 32) (hleaf : leaf.length = 32) (hp : Row w pa (pl.flatten.map b8)) (h32 : S32 pl) (hpl : pl.length = pn) (hpc : pn ≤ pc) (hpm : pn ≤ 4398046511104) (hi1 : -9223372036854775808 ≤ ix) (hi2 : ix ≤ 9223372036854775807) (hs1 : -9223372036854775808 ≤ sz) (hs2 : sz ≤ 9223372036854775807) :
    Ret Try.prog 79 [.agg (root.map b8).toArray, .agg (leaf.map b8).toArray, .agg #[.int .i64 ix, .int .i64 sz, .slice pa pn pc]] w (fun v w' => v = .int .i64 (provedE root leaf ix sz pl) ∧ St w [] w' []) := by
  subst hpl
  exact shows_ok root hroot leaf ix sz pa pc pl w hleaf hp h32 hpc hpm hi1 hi2 hs1 hs2

theorem grown_n (older newer : List UInt8) (ix sz : Int) (pa : Option Addr) (pn pc : Nat) (pl : List (List UInt8)) (w : World) (ho : older.length = 32) (hnw : newer.length = 32) (hp : Row w pa (pl.flatten.map b8)) (h32 : S32 pl) (hpl : pl.length = pn) (hpc : pn ≤ pc) (hpm : pn ≤ 4398046511104) (hi1 : -9223372036854775808 ≤ ix) (hi2 : ix ≤ 9223372036854775807) (hs1 : -9223372036854775808 ≤ sz) (hs2 : sz ≤ 9223372036854775807) :
    Ret Try.prog 63 [.agg (older.map b8).toArray, .agg (newer.map b8).toArray, .agg #[.int .i64 ix, .int .i64 sz, .slice pa pn pc]] w (fun v w' => v = .int .i64 (grownE older newer ix sz pl) ∧ St w [] w' []) := by
  subst hpl
  exact grown_ok older newer ix sz pa pc pl w ho hnw hp h32 hpc hpm hi1 hi2 hs1 hs2

theorem rgrown_n (older newer : List UInt8) (ix sz : Int) (pa : Option Addr) (pn pc : Nat) (pl : List (List UInt8)) (w : World) (ho : older.length = 32) (hnw : newer.length = 32) (hp : Row w pa (pl.flatten.map b8)) (h32 : S32 pl) (hpl : pl.length = pn) (hpc : pn ≤ pc) (hpm : pn ≤ 4398046511104) (hi1 : -9223372036854775808 ≤ ix) (hi2 : ix ≤ 9223372036854775807) (hs1 : -9223372036854775808 ≤ sz) (hs2 : sz ≤ 9223372036854775807) :
    Ret Try.prog 64 [.agg (older.map b8).toArray, .agg (newer.map b8).toArray, .agg #[.int .i64 ix, .int .i64 sz, .slice pa pn pc]] w (fun v w' => v = .int .i64 (grownE older newer ix sz pl) ∧ St w [] w' []) := by
  subst hpl
  exact rgrown_ok older newer ix sz pa pc pl w ho hnw hp h32 hpc hpm hi1 hi2 hs1 hs2

theorem sameProof_ok (i1 s1 i2 s2 : Int) (p1 p2 : Option Addr) (n1 n2 c1 c2 : Nat) (x y : List (List UInt8)) (w : World) (h1 : Row w p1 (x.flatten.map b8)) (h2 : Row w p2 (y.flatten.map b8)) (t1 : S32 x) (t2 : S32 y) (l1 : x.length = n1) (l2 : y.length = n2) (hn : n1 ≤ 4398046511104) :
    Ret Try.prog 38 [.agg #[.int .i64 i1, .int .i64 s1, .slice p1 n1 c1], .agg #[.int .i64 i2, .int .i64 s2, .slice p2 n2 c2]] w (fun v w' => v = .bool (decide (i1 = i2 ∧ s1 = s2 ∧ x = y)) ∧ St w [] w' []) := by
  refine enter Try.func38 rfl Try.ntmps38 rfl ?_
  have hS := St.refl w []
  refine c_seq ?_
  refine c_region ?_
  refine wl_exv (x_box hS (v := .agg _) rfl rfl) rfl ?_
  rintro _ w1 ⟨b2, rfl, hS2⟩
  refine wl_exv (x_box hS2 (v := .agg _) rfl rfl) rfl ?_
  rintro _ w3 ⟨b3, rfl, hS4⟩
  refine wl_val (r_assign (v := .bool false) rfl) rfl ?_
  refine wl_nil ?_
  refine c_then ?_
  refine c_seq ?_
  refine c_region ?_
  refine wl_val (r_field fa55_0 rfl) rfl ?_
  refine wl_val (r_loadB1 ti3.und rfl rfl (hS4.heap (.tail _ (.head _))) rfl) rfl ?_
  refine wl_val (r_field fa55_0 rfl) rfl ?_
  refine wl_val (r_loadB1 ti3.und rfl rfl (hS4.heap (.head _)) rfl) rfl ?_
  refine wl_dec (r_eql rfl rfl) rfl (fun h1_4 => ?_) (fun h1_4 => ?_)
  · refine wl_val (r_move (v := .bool _) rfl) rfl ?_
    refine wl_val (r_field fa55_1 rfl) rfl ?_
    refine wl_val (r_loadB1 ti3.und rfl rfl (hS4.heap (.tail _ (.head _))) rfl) rfl ?_
    refine wl_val (r_field fa55_1 rfl) rfl ?_
    refine wl_val (r_loadB1 ti3.und rfl rfl (hS4.heap (.head _)) rfl) rfl ?_
    refine wl_dec (r_eql rfl rfl) rfl (fun h1_10 => ?_) (fun h1_10 => ?_)
    · refine wl_val (r_pick_t rfl (v := .bool _) rfl) rfl ?_
      refine wl_val (r_move (v := .bool _) rfl) rfl ?_
      refine wl_val (r_field fa55_2 rfl) rfl ?_
      refine wl_val (r_loadB1 ti53.und rfl rfl (hS4.heap (.tail _ (.head _))) rfl) rfl ?_
      refine wl_val (r_field fa55_2 rfl) rfl ?_
      refine wl_val (r_loadB1 ti53.und rfl rfl (hS4.heap (.head _)) rfl) rfl ?_
      refine wl_call (r_call fn76 rfl rfl) rfl (equals_ok x y _ _ _ _ _ _ _ (h1.st hS4) (h2.st hS4) t1 t2 l1 l2 hn) ?_
      rintro _ w5 ⟨rfl, hx6⟩
      have hS7 := hS4.ext hx6
      refine wl_val (r_pick_t rfl (v := .bool _) rfl) rfl ?_
      refine wl_val (r_assign (v := .bool _) rfl) rfl ?_
      refine wl_nil ?_
      refine c_then ?_
      refine wp_ret ?_
      refine ret1 Try.results38 ?_
      exact ⟨congrArg Value.bool (decide_eq_decide.2 ⟨fun h => ⟨h1_4, h1_10, h⟩, fun h => h.2.2⟩), hS7.fin⟩
    · refine wl_val (r_pick_t rfl (v := .bool _) rfl) rfl ?_
      refine wl_val (r_move (v := .bool _) rfl) rfl ?_
      refine wl_not rfl ?_
      refine wl_not rfl ?_
      refine wl_not rfl ?_
      refine wl_not rfl ?_
      refine wl_not rfl ?_
      refine wl_val (r_pick_f rfl (v := .bool false) rfl) rfl ?_
      refine wl_val (r_assign (v := .bool _) rfl) rfl ?_
      refine wl_nil ?_
      refine c_then ?_
      refine wp_ret ?_
      refine ret1 Try.results38 ?_
      exact ⟨congrArg Value.bool (decide_eq_false (fun h => h1_10 h.2.1)).symm, hS4.fin⟩
  · refine wl_val (r_move (v := .bool _) rfl) rfl ?_
    refine wl_not rfl ?_
    refine wl_not rfl ?_
    refine wl_not rfl ?_
    refine wl_not rfl ?_
    refine wl_not rfl ?_
    refine wl_val (r_pick_f rfl (v := .bool false) rfl) rfl ?_
    refine wl_val (r_move (v := .bool _) rfl) rfl ?_
    refine wl_not rfl ?_
    refine wl_not rfl ?_
    refine wl_not rfl ?_
    refine wl_not rfl ?_
    refine wl_not rfl ?_
    refine wl_val (r_pick_f rfl (v := .bool false) rfl) rfl ?_
    refine wl_val (r_assign (v := .bool _) rfl) rfl ?_
    refine wl_nil ?_
    refine c_then ?_
    refine wp_ret ?_
    refine ret1 Try.results38 ?_
    exact ⟨congrArg Value.bool (decide_eq_false (fun h => h1_4 h.1)).symm, hS4.fin⟩

theorem equals_t (xs ys : List (List UInt8)) (a1 a2 : Option Addr) (n1 n2 c1 c2 : Nat) (w : World) (h1 : Row w a1 (xs.flatten.map b8)) (h2 : Row w a2 (ys.flatten.map b8)) (s1 : S32 xs) (s2 : S32 ys) (l1 : xs.length = n1) (l2 : ys.length = n2) (hn : n1 ≤ 4398046511104) (h : xs = ys) :
    Ret Try.prog 76 [.slice a1 n1 c1, .slice a2 n2 c2] w (fun v w' => v = .bool true ∧ St w [] w' []) :=
  (equals_ok xs ys a1 a2 n1 n2 c1 c2 w h1 h2 s1 s2 l1 l2 hn).mono fun v w' hv => by rw [decide_eq_true h] at hv; exact hv

end Go.Proofs.Ytfohfnpehfcaaaa
