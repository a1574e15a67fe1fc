/- Heads, parsed. No condition. -/
import Derived.Test.YtfohfnpehfcaaaaFacts
import Derived.Test.YtfohfnpehfcaaaaHeadA
namespace Go.Proofs.Ytfohfnpehfcaaaa
open Go.Kw
set_option linter.unusedVariables false
set_option linter.unusedSimpArgs false
set_option maxRecDepth 100000
set_option maxHeartbeats 4000000 in
theorem parseHead_ok (l : List UInt8) (a : Option Addr) (n c : Nat) (X1 X2 : Nat) (w : World) (hb : Row w a (l.map b8)) (hl : l.length = n) (hc : n ≤ c) (hn : n ≤ 140737488351232) (hx1 : natN ((l.drop 4).take 8) = X1) (hx2 : natN ((l.drop 12).take 8) = X2) :
    Ret Try.prog 59 [.slice a n c] w (fun v w' => (n < 84 ∧ v = .tuple #[.agg (headV 0 0 (List.replicate 32 0) (List.replicate 32 0)).toArray, vi 1] ∧ St w [] w' []) ∨ (84 ≤ n ∧ (¬ l.take 4 = [75, 87, 72, 49] ∨ 84 < n) ∧ v = .tuple #[.agg (headV 0 0 (List.replicate 32 0) (List.replicate 32 0)).toArray, vi 2] ∧ St w [] w' []) ∨ (n = 84 ∧ l.take 4 = [75, 87, 72, 49] ∧ ¬ (X1 ≤ 65536 ∧ X2 ≤ 1099511627776) ∧ v = .tuple #[.agg (headV 0 0 (List.replicate 32 0) (List.replicate 32 0)).toArray, vi 4] ∧ St w [] w' []) ∨ (n = 84 ∧ l.take 4 = [75, 87, 72, 49] ∧ (X1 ≤ 65536 ∧ X2 ≤ 1099511627776) ∧ v = .tuple #[.agg (headV X1 X2 ((l.drop 20).take 32) ((l.drop 52).take 32)).toArray, vi 0] ∧ St w [] w' [])) := by
  refine enter Try.func59 rfl Try.ntmps59 rfl ?_
  have hS := St.refl w []
  refine c_seq ?_
  refine c_region ?_
  refine wl_exv (x_alloc (C := (headV 0 0 (List.replicate 32 0) (List.replicate 32 0))) hS tih rfl) rfl ?_
  rintro _ w1 ⟨b2, rfl, hS2⟩
  refine wl_val (r_assign (v := .int .i64 0) rfl) rfl ?_
  refine wl_nil ?_
  refine c_then ?_
  refine c_seq ?_
  refine c_seq ?_
  refine c_region ?_
  refine wl_val (r_move (v := .slice _ _ _) rfl) rfl ?_
  refine wl_val (r_len (T := 22) rfl ti22.und rfl _ rfl) rfl ?_
  refine wl_dec (r_lss rfl rfl) rfl (fun h1_2 => ?_) (fun h1_2 => ?_)
  · refine wl_nil ?_
    refine c_then ?_
    refine c_true rfl ?_
    refine c_seq ?_
    refine c_region ?_
    refine wl_val (r_buildZ pl83 tih) rfl ?_
    refine wl_exs (x_storeW [] hS2 tih rfl rfl (by first | (simp [*]; done) | (simp [*] <;> omega) | omega) (by first | (simp [*]; done) | (simp [*] <;> omega) | omega) (by repeat' first | exact one_nil | exact one_b8 _ | exact one_v32 _ | exact one_all rfl | refine one_cons rfl ?_ | refine one_app ?_ ?_)) rfl ?_
    intro w3 hS4
    simp only [List.cons_append, List.nil_append] at hS4
    refine wl_val (r_assign (v := .int .i64 1) rfl) rfl ?_
    refine wl_nil ?_
    refine c_then ?_
    refine wp_ret ?_
    refine c_thenR ?_
    refine ret2 Try.results59 ⟨_, rfl, run_loadVar_blk tih ag83 (hS4.heap (.head _)) (by first | (simp [*]; done) | exact (headV_len (by rw [List.length_take, List.length_drop]; omega) (by rw [List.length_take, List.length_drop]; omega)))⟩ rfl ?_
    first | exact .inl ⟨by omega, rfl, hS4.fin⟩ | exact .inr (.inl ⟨by omega, by first | exact .inl (by assumption) | exact .inr (by omega), rfl, hS4.fin⟩) | exact .inr (.inr (.inl ⟨by omega, Decidable.of_not_not (by assumption), by omega, rfl, hS4.fin⟩)) | exact .inr (.inr (.inr ⟨by omega, Decidable.of_not_not (by assumption), by omega, rfl, hS4.fin⟩))
  · refine wl_nil ?_
    refine c_then ?_
    refine c_false rfl ?_
    refine wp_skip ?_
    refine c_then ?_
    refine c_seq ?_
    refine c_seq ?_
    refine c_region ?_
    refine wl_val (r_move (v := .slice _ _ _) rfl) rfl ?_
    refine wl_val (r_sl_h (h := 4) ti22.und ti5 rfl rfl (by omega)) rfl ?_
    have hr4 : Row w a ((l.take 4).map b8) := by rw [List.map_take]; exact hb.take
    refine wl_val (r_bytesToStr ti9.und ti22.und ti5.und rfl (hr4.st hS2) (by rw [List.length_take]; omega)) rfl ?_
    refine wl_dec (r_neqStrL rfl rfl) rfl (fun h3_3 => ?_) (fun h3_3 => ?_)
    · refine wl_val (r_move (v := .bool _) rfl) rfl ?_
      refine wl_not rfl ?_
      refine wl_not rfl ?_
      refine wl_not rfl ?_
      refine wl_val (r_pick_t rfl (v := .bool true) rfl) rfl ?_
      refine wl_nil ?_
      refine c_then ?_
      refine c_true rfl ?_
      refine c_seq ?_
      refine c_region ?_
      refine wl_val (r_buildZ pl83 tih) rfl ?_
      refine wl_exs (x_storeW [] hS2 tih rfl rfl (by first | (simp [*]; done) | (simp [*] <;> omega) | omega) (by first | (simp [*]; done) | (simp [*] <;> omega) | omega) (by repeat' first | exact one_nil | exact one_b8 _ | exact one_v32 _ | exact one_all rfl | refine one_cons rfl ?_ | refine one_app ?_ ?_)) rfl ?_
      intro w5 hS6
      simp only [List.cons_append, List.nil_append] at hS6
      refine wl_val (r_assign (v := .int .i64 2) rfl) rfl ?_
      refine wl_nil ?_
      refine c_then ?_
      refine wp_ret ?_
      refine c_thenR ?_
      refine ret2 Try.results59 ⟨_, rfl, run_loadVar_blk tih ag83 (hS6.heap (.head _)) (by first | (simp [*]; done) | exact (headV_len (by rw [List.length_take, List.length_drop]; omega) (by rw [List.length_take, List.length_drop]; omega)))⟩ rfl ?_
      first | exact .inl ⟨by omega, rfl, hS6.fin⟩ | exact .inr (.inl ⟨by omega, by first | exact .inl (by assumption) | exact .inr (by omega), rfl, hS6.fin⟩) | exact .inr (.inr (.inl ⟨by omega, Decidable.of_not_not (by assumption), by omega, rfl, hS6.fin⟩)) | exact .inr (.inr (.inr ⟨by omega, Decidable.of_not_not (by assumption), by omega, rfl, hS6.fin⟩))
    · refine wl_val (r_move (v := .bool _) rfl) rfl ?_
      refine wl_val (r_move (v := .slice _ _ _) rfl) rfl ?_
      refine wl_val (r_len (T := 22) rfl ti22.und rfl _ rfl) rfl ?_
      refine wl_dec (r_gtr rfl rfl) rfl (fun h3_7 => ?_) (fun h3_7 => ?_)
      · refine wl_val (r_pick_f rfl (v := .bool _) rfl) rfl ?_
        refine wl_nil ?_
        refine c_then ?_
        refine c_true rfl ?_
        refine c_seq ?_
        refine c_region ?_
        refine wl_val (r_buildZ pl83 tih) rfl ?_
        refine wl_exs (x_storeW [] hS2 tih rfl rfl (by first | (simp [*]; done) | (simp [*] <;> omega) | omega) (by first | (simp [*]; done) | (simp [*] <;> omega) | omega) (by repeat' first | exact one_nil | exact one_b8 _ | exact one_v32 _ | exact one_all rfl | refine one_cons rfl ?_ | refine one_app ?_ ?_)) rfl ?_
        intro w7 hS8
        simp only [List.cons_append, List.nil_append] at hS8
        refine wl_val (r_assign (v := .int .i64 2) rfl) rfl ?_
        refine wl_nil ?_
        refine c_then ?_
        refine wp_ret ?_
        refine c_thenR ?_
        refine ret2 Try.results59 ⟨_, rfl, run_loadVar_blk tih ag83 (hS8.heap (.head _)) (by first | (simp [*]; done) | exact (headV_len (by rw [List.length_take, List.length_drop]; omega) (by rw [List.length_take, List.length_drop]; omega)))⟩ rfl ?_
        first | exact .inl ⟨by omega, rfl, hS8.fin⟩ | exact .inr (.inl ⟨by omega, by first | exact .inl (by assumption) | exact .inr (by omega), rfl, hS8.fin⟩) | exact .inr (.inr (.inl ⟨by omega, Decidable.of_not_not (by assumption), by omega, rfl, hS8.fin⟩)) | exact .inr (.inr (.inr ⟨by omega, Decidable.of_not_not (by assumption), by omega, rfl, hS8.fin⟩))
      · refine wl_val (r_pick_f rfl (v := .bool _) rfl) rfl ?_
        refine wl_nil ?_
        refine c_then ?_
        refine c_false rfl ?_
        refine wp_skip ?_
        refine c_then ?_
        refine c_seq ?_
        refine c_region ?_
        refine wl_val (r_move (v := .slice _ _ _) rfl) rfl ?_
        refine wl_call (r_call fn120 rfl rfl) rfl (long_br l a n c 4 _ (hb.st hS2) hl hc hn (by omega) X1 hx1) ?_
        rintro _ w9 (⟨hqDST, rfl, hx10⟩ | ⟨hqDST, rfl, hx10⟩)
        · have hS11 := hS2.ext hx10
          refine wl_val (r_move (v := .tuple _) rfl) rfl ?_
          refine wl_val (r_extract (v := .int .i64 _) rfl rfl) rfl ?_
          refine wl_val (r_extract (v := .int .i64 _) rfl rfl) rfl ?_
          refine wl_val (r_assign (v := .int .i64 _) rfl) rfl ?_
          refine wl_val (r_assign (v := .int .i64 _) rfl) rfl ?_
          refine wl_nil ?_
          refine c_then ?_
          refine c_seq ?_
          refine c_region ?_
          refine wl_val (r_move (v := .slice _ _ _) rfl) rfl ?_
          refine wl_call (r_call fn120 rfl rfl) rfl (long_br l a n c 12 _ (hb.st hS11) hl hc hn (by omega) X2 hx2) ?_
          rintro _ w12 (⟨hqDST, rfl, hx13⟩ | ⟨hqDST, rfl, hx13⟩)
          · have hS14 := hS11.ext hx13
            refine wl_val (r_move (v := .tuple _) rfl) rfl ?_
            refine wl_val (r_extract (v := .int .i64 _) rfl rfl) rfl ?_
            refine wl_val (r_extract (v := .int .i64 _) rfl rfl) rfl ?_
            refine wl_val (r_assign (v := .int .i64 _) rfl) rfl ?_
            refine wl_val (r_assign (v := .int .i64 _) rfl) rfl ?_
            refine wl_nil ?_
            refine c_then ?_
            refine c_seq ?_
            refine c_drawS 12 hMixed hS14 ?_
            intro w15 hS16
            refine g_take 0 rfl (by decide +kernel) rfl (fun _ _ _ h => h) hS16 (fun wF hF => r_move (v := .int .i64 _) rfl) ?_
            refine g_take 1 rfl (by decide +kernel) rfl (fun _ _ _ h => h) hS16 (fun wF hF => r_move (v := .int .i64 _) rfl) ?_
            refine g_take 2 rfl (by decide +kernel) rfl (fun _ _ _ h => h) hS16 (fun wF hF => r_move (v := .slice _ _ _) rfl) ?_
            refine g_take 3 rfl (by decide +kernel) rfl (fun _ _ _ h => h) hS16 (fun wF hF => r_sl_lh (l := 20) (h := 52) ti22.und ti5 rfl rfl rfl (by omega) (by omega)) ?_
            have hr20 : Row w (Kw.sub a c 20 1) (((l.drop 20).take 32).map b8) := hb.mid (by omega) _ _
            refine g_take 4 rfl (by decide +kernel) rfl (fun _ _ _ h => h) hS16 (fun wF hF => r_s2a ti49.und rfl (by omega)) ?_
            refine g_take 5 rfl (by decide +kernel) rfl (fun _ _ _ h => h) hS16 (fun wF hF => r_loadPX ti49 rfl rfl (hr20.st hF) (by omega) (by rw [List.length_map, List.length_take, List.length_drop]; omega)) ?_
            refine g_take 6 rfl (by decide +kernel) rfl (fun _ _ _ h => h) hS16 (fun wF hF => r_move (v := .slice _ _ _) rfl) ?_
            refine g_take 7 rfl (by decide +kernel) rfl (fun _ _ _ h => h) hS16 (fun wF hF => r_sl_lh (l := 52) (h := 84) ti22.und ti5 rfl rfl rfl (by omega) (by omega)) ?_
            have hr52 : Row w (Kw.sub a c 52 1) (((l.drop 52).take 32).map b8) := hb.mid (by omega) _ _
            refine g_take 8 rfl (by decide +kernel) rfl (fun _ _ _ h => h) hS16 (fun wF hF => r_s2a ti49.und rfl (by omega)) ?_
            refine g_take 9 rfl (by decide +kernel) rfl (fun _ _ _ h => h) hS16 (fun wF hF => r_loadPX ti49 rfl rfl (hr52.st hF) (by omega) (by rw [List.length_map, List.length_take, List.length_drop]; omega)) ?_
            refine g_take 10 rfl (by decide +kernel) rfl (fun _ _ _ h => h) hS16 (fun wF hF => r_buildHead pl83 tih (by rw [List.length_take, List.length_drop]; omega) (by rw [List.length_take, List.length_drop]; omega) rfl) ?_
            refine g_one 11 (by decide +kernel) (by decide +kernel) ?_
            refine o_exv rfl (x_alloc (C := (headV 0 0 (List.replicate 32 0) (List.replicate 32 0))) hS16 tih rfl) rfl ?_
            rintro _ w17 ⟨bb8, rfl, hS18⟩
            refine ⟨hS18.drop1, ?_⟩
            refine g_tail (by decide +kernel) rfl (by decide +kernel) ?_
            refine wl_exs (x_storeW [] hS18 tih rfl rfl (headV_len (by rw [List.length_take, List.length_drop]; omega) (by rw [List.length_take, List.length_drop]; omega)) (by first | (simp [*]; done) | (simp [*] <;> omega) | omega) one_head) rfl ?_
            intro w19 hS20
            simp only [List.cons_append, List.nil_append] at hS20
            refine wl_nil ?_
            refine c_then ?_
            refine c_seq ?_
            refine c_seq ?_
            refine c_region ?_
            refine wl_val (r_loadB tih ag83 rfl (hS20.heap (.head _)) (headV_len (by rw [List.length_take, List.length_drop]; omega) (by rw [List.length_take, List.length_drop]; omega))) rfl ?_
            refine wl_call (r_call fn54 rfl rfl) rfl (printHead_ok _ _ _ _ _ (by rw [List.length_take, List.length_drop]; omega) (by rw [List.length_take, List.length_drop]; omega)) ?_
            rintro _ w21 (⟨hg, rfl, hx22⟩ | ⟨hg, ahg, chg, rfl, hchg, hx22⟩)
            · have hS23 := hS20.ext hx22
              refine wl_val (r_move (v := .tuple _) rfl) rfl ?_
              refine wl_val (r_extract (v := .slice _ _ _) rfl rfl) rfl ?_
              refine wl_val (r_extract (v := .int .i64 _) rfl rfl) rfl ?_
              refine wl_val (r_assign (v := .slice _ _ _) rfl) rfl ?_
              refine wl_val (r_assign (v := .int .i64 _) rfl) rfl ?_
              refine wl_nil ?_
              refine c_then ?_
              refine c_seq ?_
              refine c_region ?_
              refine wl_val (r_move (v := .int .i64 _) rfl) rfl ?_
              refine wl_dec_f (r_neq rfl rfl) rfl (by decide) ?_
              refine wl_val (r_move (v := .bool _) rfl) rfl ?_
              refine wl_val (r_move (v := .int .i64 _) rfl) rfl ?_
              refine wl_dec_f (r_neq rfl rfl) rfl (by decide) ?_
              refine wl_val (r_pick_f rfl (v := .bool _) rfl) rfl ?_
              refine wl_val (r_move (v := .bool _) rfl) rfl ?_
              refine wl_val (r_move (v := .int .i64 _) rfl) rfl ?_
              refine wl_dec_t (r_neq rfl rfl) rfl (by decide) ?_
              refine wl_val (r_pick_f rfl (v := .bool _) rfl) rfl ?_
              refine wl_nil ?_
              refine c_then ?_
              refine c_true rfl ?_
              refine c_seq ?_
              refine c_region ?_
              refine wl_val (r_buildZ pl83 tih) rfl ?_
              refine wl_exs (x_storeW [_] hS23 tih rfl rfl (by first | (simp [*]; done) | (simp [*] <;> omega) | omega) (by first | (simp [*]; done) | (simp [*] <;> omega) | omega) (by repeat' first | exact one_nil | exact one_b8 _ | exact one_v32 _ | exact one_all rfl | refine one_cons rfl ?_ | refine one_app ?_ ?_)) rfl ?_
              intro w24 hS25
              simp only [List.cons_append, List.nil_append] at hS25
              refine wl_val (r_assign (v := .int .i64 4) rfl) rfl ?_
              refine wl_nil ?_
              refine c_then ?_
              refine wp_ret ?_
              refine c_thenR ?_
              refine ret2 Try.results59 ⟨_, rfl, run_loadVar_blk tih ag83 (hS25.heap (.tail _ (.head _))) (by first | (simp [*]; done) | exact (headV_len (by rw [List.length_take, List.length_drop]; omega) (by rw [List.length_take, List.length_drop]; omega)))⟩ rfl ?_
              first | exact .inl ⟨by omega, rfl, hS25.fin⟩ | exact .inr (.inl ⟨by omega, by first | exact .inl (by assumption) | exact .inr (by omega), rfl, hS25.fin⟩) | exact .inr (.inr (.inl ⟨by omega, Decidable.of_not_not (by assumption), by omega, rfl, hS25.fin⟩)) | exact .inr (.inr (.inr ⟨by omega, Decidable.of_not_not (by assumption), by omega, rfl, hS25.fin⟩))
            · have hS23 := hS20.call hx22
              simp only [List.cons_append, List.nil_append] at hS23
              refine wl_val (r_move (v := .tuple _) rfl) rfl ?_
              refine wl_val (r_extract (v := .slice _ _ _) rfl rfl) rfl ?_
              refine wl_val (r_extract (v := .int .i64 _) rfl rfl) rfl ?_
              refine wl_val (r_assign (v := .slice _ _ _) rfl) rfl ?_
              refine wl_val (r_assign (v := .int .i64 _) rfl) rfl ?_
              refine wl_nil ?_
              refine c_then ?_
              refine c_seq ?_
              refine c_region ?_
              refine wl_val (r_move (v := .int .i64 _) rfl) rfl ?_
              refine wl_dec_f (r_neq rfl rfl) rfl (by decide) ?_
              refine wl_val (r_move (v := .bool _) rfl) rfl ?_
              refine wl_val (r_move (v := .int .i64 _) rfl) rfl ?_
              refine wl_dec_f (r_neq rfl rfl) rfl (by decide) ?_
              refine wl_val (r_pick_f rfl (v := .bool _) rfl) rfl ?_
              refine wl_val (r_move (v := .bool _) rfl) rfl ?_
              refine wl_val (r_move (v := .int .i64 _) rfl) rfl ?_
              refine wl_dec_f (r_neq rfl rfl) rfl (by decide) ?_
              refine wl_val (r_pick_f rfl (v := .bool _) rfl) rfl ?_
              refine wl_nil ?_
              refine c_then ?_
              refine c_false rfl ?_
              refine wp_skip ?_
              refine c_then ?_
              refine c_seq ?_
              refine c_region ?_
              refine wl_val (r_loadB tih ag83 rfl (hS23.heap (.tail _ (.head _))) (headV_len (by rw [List.length_take, List.length_drop]; omega) (by rw [List.length_take, List.length_drop]; omega))) rfl ?_
              refine wl_exs (x_storeW [_, _] hS23 tih rfl rfl (headV_len (by rw [List.length_take, List.length_drop]; omega) (by rw [List.length_take, List.length_drop]; omega)) (by first | (simp [*]; done) | (simp [*] <;> omega) | omega) one_head) rfl ?_
              intro w26 hS27
              simp only [List.cons_append, List.nil_append] at hS27
              refine wl_val (r_assign (v := .int .i64 0) rfl) rfl ?_
              refine wl_nil ?_
              refine c_then ?_
              refine wp_ret ?_
              refine ret2 Try.results59 ⟨_, rfl, run_loadVar_blk tih ag83 (hS27.heap (.tail _ (.tail _ (.head _)))) (by first | (simp [*]; done) | exact (headV_len (by rw [List.length_take, List.length_drop]; omega) (by rw [List.length_take, List.length_drop]; omega)))⟩ rfl ?_
              first | exact .inl ⟨by omega, rfl, hS27.fin⟩ | exact .inr (.inl ⟨by omega, by first | exact .inl (by assumption) | exact .inr (by omega), rfl, hS27.fin⟩) | exact .inr (.inr (.inl ⟨by omega, Decidable.of_not_not (by assumption), by omega, rfl, hS27.fin⟩)) | exact .inr (.inr (.inr ⟨by omega, Decidable.of_not_not (by assumption), by omega, rfl, hS27.fin⟩))
          · have hS14 := hS11.ext hx13
            refine wl_val (r_move (v := .tuple _) rfl) rfl ?_
            refine wl_val (r_extract (v := .int .i64 _) rfl rfl) rfl ?_
            refine wl_val (r_extract (v := .int .i64 _) rfl rfl) rfl ?_
            refine wl_val (r_assign (v := .int .i64 _) rfl) rfl ?_
            refine wl_val (r_assign (v := .int .i64 _) rfl) rfl ?_
            refine wl_nil ?_
            refine c_then ?_
            refine c_seq ?_
            refine c_drawS 12 hMixed hS14 ?_
            intro w28 hS29
            refine g_take 0 rfl (by decide +kernel) rfl (fun _ _ _ h => h) hS29 (fun wF hF => r_move (v := .int .i64 _) rfl) ?_
            refine g_take 1 rfl (by decide +kernel) rfl (fun _ _ _ h => h) hS29 (fun wF hF => r_move (v := .int .i64 _) rfl) ?_
            refine g_take 2 rfl (by decide +kernel) rfl (fun _ _ _ h => h) hS29 (fun wF hF => r_move (v := .slice _ _ _) rfl) ?_
            refine g_take 3 rfl (by decide +kernel) rfl (fun _ _ _ h => h) hS29 (fun wF hF => r_sl_lh (l := 20) (h := 52) ti22.und ti5 rfl rfl rfl (by omega) (by omega)) ?_
            have hr20 : Row w (Kw.sub a c 20 1) (((l.drop 20).take 32).map b8) := hb.mid (by omega) _ _
            refine g_take 4 rfl (by decide +kernel) rfl (fun _ _ _ h => h) hS29 (fun wF hF => r_s2a ti49.und rfl (by omega)) ?_
            refine g_take 5 rfl (by decide +kernel) rfl (fun _ _ _ h => h) hS29 (fun wF hF => r_loadPX ti49 rfl rfl (hr20.st hF) (by omega) (by rw [List.length_map, List.length_take, List.length_drop]; omega)) ?_
            refine g_take 6 rfl (by decide +kernel) rfl (fun _ _ _ h => h) hS29 (fun wF hF => r_move (v := .slice _ _ _) rfl) ?_
            refine g_take 7 rfl (by decide +kernel) rfl (fun _ _ _ h => h) hS29 (fun wF hF => r_sl_lh (l := 52) (h := 84) ti22.und ti5 rfl rfl rfl (by omega) (by omega)) ?_
            have hr52 : Row w (Kw.sub a c 52 1) (((l.drop 52).take 32).map b8) := hb.mid (by omega) _ _
            refine g_take 8 rfl (by decide +kernel) rfl (fun _ _ _ h => h) hS29 (fun wF hF => r_s2a ti49.und rfl (by omega)) ?_
            refine g_take 9 rfl (by decide +kernel) rfl (fun _ _ _ h => h) hS29 (fun wF hF => r_loadPX ti49 rfl rfl (hr52.st hF) (by omega) (by rw [List.length_map, List.length_take, List.length_drop]; omega)) ?_
            refine g_take 10 rfl (by decide +kernel) rfl (fun _ _ _ h => h) hS29 (fun wF hF => r_buildHead pl83 tih (by rw [List.length_take, List.length_drop]; omega) (by rw [List.length_take, List.length_drop]; omega) rfl) ?_
            refine g_one 11 (by decide +kernel) (by decide +kernel) ?_
            refine o_exv rfl (x_alloc (C := (headV 0 0 (List.replicate 32 0) (List.replicate 32 0))) hS29 tih rfl) rfl ?_
            rintro _ w30 ⟨bb8, rfl, hS31⟩
            refine ⟨hS31.drop1, ?_⟩
            refine g_tail (by decide +kernel) rfl (by decide +kernel) ?_
            refine wl_exs (x_storeW [] hS31 tih rfl rfl (headV_len (by rw [List.length_take, List.length_drop]; omega) (by rw [List.length_take, List.length_drop]; omega)) (by first | (simp [*]; done) | (simp [*] <;> omega) | omega) one_head) rfl ?_
            intro w32 hS33
            simp only [List.cons_append, List.nil_append] at hS33
            refine wl_nil ?_
            refine c_then ?_
            refine c_seq ?_
            refine c_seq ?_
            refine c_region ?_
            refine wl_val (r_loadB tih ag83 rfl (hS33.heap (.head _)) (headV_len (by rw [List.length_take, List.length_drop]; omega) (by rw [List.length_take, List.length_drop]; omega))) rfl ?_
            refine wl_call (r_call fn54 rfl rfl) rfl (printHead_ok _ _ _ _ _ (by rw [List.length_take, List.length_drop]; omega) (by rw [List.length_take, List.length_drop]; omega)) ?_
            rintro _ w34 (⟨hg, rfl, hx35⟩ | ⟨hg, ahg, chg, rfl, hchg, hx35⟩)
            · have hS36 := hS33.ext hx35
              refine wl_val (r_move (v := .tuple _) rfl) rfl ?_
              refine wl_val (r_extract (v := .slice _ _ _) rfl rfl) rfl ?_
              refine wl_val (r_extract (v := .int .i64 _) rfl rfl) rfl ?_
              refine wl_val (r_assign (v := .slice _ _ _) rfl) rfl ?_
              refine wl_val (r_assign (v := .int .i64 _) rfl) rfl ?_
              refine wl_nil ?_
              refine c_then ?_
              refine c_seq ?_
              refine c_region ?_
              refine wl_val (r_move (v := .int .i64 _) rfl) rfl ?_
              refine wl_dec_f (r_neq rfl rfl) rfl (by decide) ?_
              refine wl_val (r_move (v := .bool _) rfl) rfl ?_
              refine wl_val (r_move (v := .int .i64 _) rfl) rfl ?_
              refine wl_dec_t (r_neq rfl rfl) rfl (by decide) ?_
              refine wl_val (r_pick_f rfl (v := .bool _) rfl) rfl ?_
              refine wl_val (r_move (v := .bool _) rfl) rfl ?_
              refine wl_not rfl ?_
              refine wl_not rfl ?_
              refine wl_val (r_pick_t rfl (v := .bool true) rfl) rfl ?_
              refine wl_nil ?_
              refine c_then ?_
              refine c_true rfl ?_
              refine c_seq ?_
              refine c_region ?_
              refine wl_val (r_buildZ pl83 tih) rfl ?_
              refine wl_exs (x_storeW [_] hS36 tih rfl rfl (by first | (simp [*]; done) | (simp [*] <;> omega) | omega) (by first | (simp [*]; done) | (simp [*] <;> omega) | omega) (by repeat' first | exact one_nil | exact one_b8 _ | exact one_v32 _ | exact one_all rfl | refine one_cons rfl ?_ | refine one_app ?_ ?_)) rfl ?_
              intro w37 hS38
              simp only [List.cons_append, List.nil_append] at hS38
              refine wl_val (r_assign (v := .int .i64 4) rfl) rfl ?_
              refine wl_nil ?_
              refine c_then ?_
              refine wp_ret ?_
              refine c_thenR ?_
              refine ret2 Try.results59 ⟨_, rfl, run_loadVar_blk tih ag83 (hS38.heap (.tail _ (.head _))) (by first | (simp [*]; done) | exact (headV_len (by rw [List.length_take, List.length_drop]; omega) (by rw [List.length_take, List.length_drop]; omega)))⟩ rfl ?_
              first | exact .inl ⟨by omega, rfl, hS38.fin⟩ | exact .inr (.inl ⟨by omega, by first | exact .inl (by assumption) | exact .inr (by omega), rfl, hS38.fin⟩) | exact .inr (.inr (.inl ⟨by omega, Decidable.of_not_not (by assumption), by omega, rfl, hS38.fin⟩)) | exact .inr (.inr (.inr ⟨by omega, Decidable.of_not_not (by assumption), by omega, rfl, hS38.fin⟩))
            · have hS36 := hS33.call hx35
              simp only [List.cons_append, List.nil_append] at hS36
              refine wl_val (r_move (v := .tuple _) rfl) rfl ?_
              refine wl_val (r_extract (v := .slice _ _ _) rfl rfl) rfl ?_
              refine wl_val (r_extract (v := .int .i64 _) rfl rfl) rfl ?_
              refine wl_val (r_assign (v := .slice _ _ _) rfl) rfl ?_
              refine wl_val (r_assign (v := .int .i64 _) rfl) rfl ?_
              refine wl_nil ?_
              refine c_then ?_
              refine c_seq ?_
              refine c_region ?_
              refine wl_val (r_move (v := .int .i64 _) rfl) rfl ?_
              refine wl_dec_f (r_neq rfl rfl) rfl (by decide) ?_
              refine wl_val (r_move (v := .bool _) rfl) rfl ?_
              refine wl_val (r_move (v := .int .i64 _) rfl) rfl ?_
              refine wl_dec_t (r_neq rfl rfl) rfl (by decide) ?_
              refine wl_val (r_pick_f rfl (v := .bool _) rfl) rfl ?_
              refine wl_val (r_move (v := .bool _) rfl) rfl ?_
              refine wl_not rfl ?_
              refine wl_not rfl ?_
              refine wl_val (r_pick_t rfl (v := .bool true) rfl) rfl ?_
              refine wl_nil ?_
              refine c_then ?_
              refine c_true rfl ?_
              refine c_seq ?_
              refine c_region ?_
              refine wl_val (r_buildZ pl83 tih) rfl ?_
              refine wl_exs (x_storeW [_, _] hS36 tih rfl rfl (by first | (simp [*]; done) | (simp [*] <;> omega) | omega) (by first | (simp [*]; done) | (simp [*] <;> omega) | omega) (by repeat' first | exact one_nil | exact one_b8 _ | exact one_v32 _ | exact one_all rfl | refine one_cons rfl ?_ | refine one_app ?_ ?_)) rfl ?_
              intro w39 hS40
              simp only [List.cons_append, List.nil_append] at hS40
              refine wl_val (r_assign (v := .int .i64 4) rfl) rfl ?_
              refine wl_nil ?_
              refine c_then ?_
              refine wp_ret ?_
              refine c_thenR ?_
              refine ret2 Try.results59 ⟨_, rfl, run_loadVar_blk tih ag83 (hS40.heap (.tail _ (.tail _ (.head _)))) (by first | (simp [*]; done) | exact (headV_len (by rw [List.length_take, List.length_drop]; omega) (by rw [List.length_take, List.length_drop]; omega)))⟩ rfl ?_
              first | exact .inl ⟨by omega, rfl, hS40.fin⟩ | exact .inr (.inl ⟨by omega, by first | exact .inl (by assumption) | exact .inr (by omega), rfl, hS40.fin⟩) | exact .inr (.inr (.inl ⟨by omega, Decidable.of_not_not (by assumption), by omega, rfl, hS40.fin⟩)) | exact .inr (.inr (.inr ⟨by omega, Decidable.of_not_not (by assumption), by omega, rfl, hS40.fin⟩))
        · have hS11 := hS2.ext hx10
          refine wl_val (r_move (v := .tuple _) rfl) rfl ?_
          refine wl_val (r_extract (v := .int .i64 _) rfl rfl) rfl ?_
          refine wl_val (r_extract (v := .int .i64 _) rfl rfl) rfl ?_
          refine wl_val (r_assign (v := .int .i64 _) rfl) rfl ?_
          refine wl_val (r_assign (v := .int .i64 _) rfl) rfl ?_
          refine wl_nil ?_
          refine c_then ?_
          refine c_seq ?_
          refine c_region ?_
          refine wl_val (r_move (v := .slice _ _ _) rfl) rfl ?_
          refine wl_call (r_call fn120 rfl rfl) rfl (long_br l a n c 12 _ (hb.st hS11) hl hc hn (by omega) X2 hx2) ?_
          rintro _ w41 (⟨hqDST, rfl, hx42⟩ | ⟨hqDST, rfl, hx42⟩)
          · have hS43 := hS11.ext hx42
            refine wl_val (r_move (v := .tuple _) rfl) rfl ?_
            refine wl_val (r_extract (v := .int .i64 _) rfl rfl) rfl ?_
            refine wl_val (r_extract (v := .int .i64 _) rfl rfl) rfl ?_
            refine wl_val (r_assign (v := .int .i64 _) rfl) rfl ?_
            refine wl_val (r_assign (v := .int .i64 _) rfl) rfl ?_
            refine wl_nil ?_
            refine c_then ?_
            refine c_seq ?_
            refine c_drawS 12 hMixed hS43 ?_
            intro w44 hS45
            refine g_take 0 rfl (by decide +kernel) rfl (fun _ _ _ h => h) hS45 (fun wF hF => r_move (v := .int .i64 _) rfl) ?_
            refine g_take 1 rfl (by decide +kernel) rfl (fun _ _ _ h => h) hS45 (fun wF hF => r_move (v := .int .i64 _) rfl) ?_
            refine g_take 2 rfl (by decide +kernel) rfl (fun _ _ _ h => h) hS45 (fun wF hF => r_move (v := .slice _ _ _) rfl) ?_
            refine g_take 3 rfl (by decide +kernel) rfl (fun _ _ _ h => h) hS45 (fun wF hF => r_sl_lh (l := 20) (h := 52) ti22.und ti5 rfl rfl rfl (by omega) (by omega)) ?_
            have hr20 : Row w (Kw.sub a c 20 1) (((l.drop 20).take 32).map b8) := hb.mid (by omega) _ _
            refine g_take 4 rfl (by decide +kernel) rfl (fun _ _ _ h => h) hS45 (fun wF hF => r_s2a ti49.und rfl (by omega)) ?_
            refine g_take 5 rfl (by decide +kernel) rfl (fun _ _ _ h => h) hS45 (fun wF hF => r_loadPX ti49 rfl rfl (hr20.st hF) (by omega) (by rw [List.length_map, List.length_take, List.length_drop]; omega)) ?_
            refine g_take 6 rfl (by decide +kernel) rfl (fun _ _ _ h => h) hS45 (fun wF hF => r_move (v := .slice _ _ _) rfl) ?_
            refine g_take 7 rfl (by decide +kernel) rfl (fun _ _ _ h => h) hS45 (fun wF hF => r_sl_lh (l := 52) (h := 84) ti22.und ti5 rfl rfl rfl (by omega) (by omega)) ?_
            have hr52 : Row w (Kw.sub a c 52 1) (((l.drop 52).take 32).map b8) := hb.mid (by omega) _ _
            refine g_take 8 rfl (by decide +kernel) rfl (fun _ _ _ h => h) hS45 (fun wF hF => r_s2a ti49.und rfl (by omega)) ?_
            refine g_take 9 rfl (by decide +kernel) rfl (fun _ _ _ h => h) hS45 (fun wF hF => r_loadPX ti49 rfl rfl (hr52.st hF) (by omega) (by rw [List.length_map, List.length_take, List.length_drop]; omega)) ?_
            refine g_take 10 rfl (by decide +kernel) rfl (fun _ _ _ h => h) hS45 (fun wF hF => r_buildHead pl83 tih (by rw [List.length_take, List.length_drop]; omega) (by rw [List.length_take, List.length_drop]; omega) rfl) ?_
            refine g_one 11 (by decide +kernel) (by decide +kernel) ?_
            refine o_exv rfl (x_alloc (C := (headV 0 0 (List.replicate 32 0) (List.replicate 32 0))) hS45 tih rfl) rfl ?_
            rintro _ w46 ⟨bb8, rfl, hS47⟩
            refine ⟨hS47.drop1, ?_⟩
            refine g_tail (by decide +kernel) rfl (by decide +kernel) ?_
            refine wl_exs (x_storeW [] hS47 tih rfl rfl (headV_len (by rw [List.length_take, List.length_drop]; omega) (by rw [List.length_take, List.length_drop]; omega)) (by first | (simp [*]; done) | (simp [*] <;> omega) | omega) one_head) rfl ?_
            intro w48 hS49
            simp only [List.cons_append, List.nil_append] at hS49
            refine wl_nil ?_
            refine c_then ?_
            refine c_seq ?_
            refine c_seq ?_
            refine c_region ?_
            refine wl_val (r_loadB tih ag83 rfl (hS49.heap (.head _)) (headV_len (by rw [List.length_take, List.length_drop]; omega) (by rw [List.length_take, List.length_drop]; omega))) rfl ?_
            refine wl_call (r_call fn54 rfl rfl) rfl (printHead_ok _ _ _ _ _ (by rw [List.length_take, List.length_drop]; omega) (by rw [List.length_take, List.length_drop]; omega)) ?_
            rintro _ w50 (⟨hg, rfl, hx51⟩ | ⟨hg, ahg, chg, rfl, hchg, hx51⟩)
            · have hS52 := hS49.ext hx51
              refine wl_val (r_move (v := .tuple _) rfl) rfl ?_
              refine wl_val (r_extract (v := .slice _ _ _) rfl rfl) rfl ?_
              refine wl_val (r_extract (v := .int .i64 _) rfl rfl) rfl ?_
              refine wl_val (r_assign (v := .slice _ _ _) rfl) rfl ?_
              refine wl_val (r_assign (v := .int .i64 _) rfl) rfl ?_
              refine wl_nil ?_
              refine c_then ?_
              refine c_seq ?_
              refine c_region ?_
              refine wl_val (r_move (v := .int .i64 _) rfl) rfl ?_
              refine wl_dec_t (r_neq rfl rfl) rfl (by decide) ?_
              refine wl_val (r_move (v := .bool _) rfl) rfl ?_
              refine wl_not rfl ?_
              refine wl_not rfl ?_
              refine wl_val (r_pick_t rfl (v := .bool true) rfl) rfl ?_
              refine wl_val (r_move (v := .bool _) rfl) rfl ?_
              refine wl_not rfl ?_
              refine wl_not rfl ?_
              refine wl_val (r_pick_t rfl (v := .bool true) rfl) rfl ?_
              refine wl_nil ?_
              refine c_then ?_
              refine c_true rfl ?_
              refine c_seq ?_
              refine c_region ?_
              refine wl_val (r_buildZ pl83 tih) rfl ?_
              refine wl_exs (x_storeW [_] hS52 tih rfl rfl (by first | (simp [*]; done) | (simp [*] <;> omega) | omega) (by first | (simp [*]; done) | (simp [*] <;> omega) | omega) (by repeat' first | exact one_nil | exact one_b8 _ | exact one_v32 _ | exact one_all rfl | refine one_cons rfl ?_ | refine one_app ?_ ?_)) rfl ?_
              intro w53 hS54
              simp only [List.cons_append, List.nil_append] at hS54
              refine wl_val (r_assign (v := .int .i64 4) rfl) rfl ?_
              refine wl_nil ?_
              refine c_then ?_
              refine wp_ret ?_
              refine c_thenR ?_
              refine ret2 Try.results59 ⟨_, rfl, run_loadVar_blk tih ag83 (hS54.heap (.tail _ (.head _))) (by first | (simp [*]; done) | exact (headV_len (by rw [List.length_take, List.length_drop]; omega) (by rw [List.length_take, List.length_drop]; omega)))⟩ rfl ?_
              first | exact .inl ⟨by omega, rfl, hS54.fin⟩ | exact .inr (.inl ⟨by omega, by first | exact .inl (by assumption) | exact .inr (by omega), rfl, hS54.fin⟩) | exact .inr (.inr (.inl ⟨by omega, Decidable.of_not_not (by assumption), by omega, rfl, hS54.fin⟩)) | exact .inr (.inr (.inr ⟨by omega, Decidable.of_not_not (by assumption), by omega, rfl, hS54.fin⟩))
            · have hS52 := hS49.call hx51
              simp only [List.cons_append, List.nil_append] at hS52
              refine wl_val (r_move (v := .tuple _) rfl) rfl ?_
              refine wl_val (r_extract (v := .slice _ _ _) rfl rfl) rfl ?_
              refine wl_val (r_extract (v := .int .i64 _) rfl rfl) rfl ?_
              refine wl_val (r_assign (v := .slice _ _ _) rfl) rfl ?_
              refine wl_val (r_assign (v := .int .i64 _) rfl) rfl ?_
              refine wl_nil ?_
              refine c_then ?_
              refine c_seq ?_
              refine c_region ?_
              refine wl_val (r_move (v := .int .i64 _) rfl) rfl ?_
              refine wl_dec_t (r_neq rfl rfl) rfl (by decide) ?_
              refine wl_val (r_move (v := .bool _) rfl) rfl ?_
              refine wl_not rfl ?_
              refine wl_not rfl ?_
              refine wl_val (r_pick_t rfl (v := .bool true) rfl) rfl ?_
              refine wl_val (r_move (v := .bool _) rfl) rfl ?_
              refine wl_not rfl ?_
              refine wl_not rfl ?_
              refine wl_val (r_pick_t rfl (v := .bool true) rfl) rfl ?_
              refine wl_nil ?_
              refine c_then ?_
              refine c_true rfl ?_
              refine c_seq ?_
              refine c_region ?_
              refine wl_val (r_buildZ pl83 tih) rfl ?_
              refine wl_exs (x_storeW [_, _] hS52 tih rfl rfl (by first | (simp [*]; done) | (simp [*] <;> omega) | omega) (by first | (simp [*]; done) | (simp [*] <;> omega) | omega) (by repeat' first | exact one_nil | exact one_b8 _ | exact one_v32 _ | exact one_all rfl | refine one_cons rfl ?_ | refine one_app ?_ ?_)) rfl ?_
              intro w55 hS56
              simp only [List.cons_append, List.nil_append] at hS56
              refine wl_val (r_assign (v := .int .i64 4) rfl) rfl ?_
              refine wl_nil ?_
              refine c_then ?_
              refine wp_ret ?_
              refine c_thenR ?_
              refine ret2 Try.results59 ⟨_, rfl, run_loadVar_blk tih ag83 (hS56.heap (.tail _ (.tail _ (.head _)))) (by first | (simp [*]; done) | exact (headV_len (by rw [List.length_take, List.length_drop]; omega) (by rw [List.length_take, List.length_drop]; omega)))⟩ rfl ?_
              first | exact .inl ⟨by omega, rfl, hS56.fin⟩ | exact .inr (.inl ⟨by omega, by first | exact .inl (by assumption) | exact .inr (by omega), rfl, hS56.fin⟩) | exact .inr (.inr (.inl ⟨by omega, Decidable.of_not_not (by assumption), by omega, rfl, hS56.fin⟩)) | exact .inr (.inr (.inr ⟨by omega, Decidable.of_not_not (by assumption), by omega, rfl, hS56.fin⟩))
          · have hS43 := hS11.ext hx42
            refine wl_val (r_move (v := .tuple _) rfl) rfl ?_
            refine wl_val (r_extract (v := .int .i64 _) rfl rfl) rfl ?_
            refine wl_val (r_extract (v := .int .i64 _) rfl rfl) rfl ?_
            refine wl_val (r_assign (v := .int .i64 _) rfl) rfl ?_
            refine wl_val (r_assign (v := .int .i64 _) rfl) rfl ?_
            refine wl_nil ?_
            refine c_then ?_
            refine c_seq ?_
            refine c_drawS 12 hMixed hS43 ?_
            intro w57 hS58
            refine g_take 0 rfl (by decide +kernel) rfl (fun _ _ _ h => h) hS58 (fun wF hF => r_move (v := .int .i64 _) rfl) ?_
            refine g_take 1 rfl (by decide +kernel) rfl (fun _ _ _ h => h) hS58 (fun wF hF => r_move (v := .int .i64 _) rfl) ?_
            refine g_take 2 rfl (by decide +kernel) rfl (fun _ _ _ h => h) hS58 (fun wF hF => r_move (v := .slice _ _ _) rfl) ?_
            refine g_take 3 rfl (by decide +kernel) rfl (fun _ _ _ h => h) hS58 (fun wF hF => r_sl_lh (l := 20) (h := 52) ti22.und ti5 rfl rfl rfl (by omega) (by omega)) ?_
            have hr20 : Row w (Kw.sub a c 20 1) (((l.drop 20).take 32).map b8) := hb.mid (by omega) _ _
            refine g_take 4 rfl (by decide +kernel) rfl (fun _ _ _ h => h) hS58 (fun wF hF => r_s2a ti49.und rfl (by omega)) ?_
            refine g_take 5 rfl (by decide +kernel) rfl (fun _ _ _ h => h) hS58 (fun wF hF => r_loadPX ti49 rfl rfl (hr20.st hF) (by omega) (by rw [List.length_map, List.length_take, List.length_drop]; omega)) ?_
            refine g_take 6 rfl (by decide +kernel) rfl (fun _ _ _ h => h) hS58 (fun wF hF => r_move (v := .slice _ _ _) rfl) ?_
            refine g_take 7 rfl (by decide +kernel) rfl (fun _ _ _ h => h) hS58 (fun wF hF => r_sl_lh (l := 52) (h := 84) ti22.und ti5 rfl rfl rfl (by omega) (by omega)) ?_
            have hr52 : Row w (Kw.sub a c 52 1) (((l.drop 52).take 32).map b8) := hb.mid (by omega) _ _
            refine g_take 8 rfl (by decide +kernel) rfl (fun _ _ _ h => h) hS58 (fun wF hF => r_s2a ti49.und rfl (by omega)) ?_
            refine g_take 9 rfl (by decide +kernel) rfl (fun _ _ _ h => h) hS58 (fun wF hF => r_loadPX ti49 rfl rfl (hr52.st hF) (by omega) (by rw [List.length_map, List.length_take, List.length_drop]; omega)) ?_
            refine g_take 10 rfl (by decide +kernel) rfl (fun _ _ _ h => h) hS58 (fun wF hF => r_buildHead pl83 tih (by rw [List.length_take, List.length_drop]; omega) (by rw [List.length_take, List.length_drop]; omega) rfl) ?_
            refine g_one 11 (by decide +kernel) (by decide +kernel) ?_
            refine o_exv rfl (x_alloc (C := (headV 0 0 (List.replicate 32 0) (List.replicate 32 0))) hS58 tih rfl) rfl ?_
            rintro _ w59 ⟨bb8, rfl, hS60⟩
            refine ⟨hS60.drop1, ?_⟩
            refine g_tail (by decide +kernel) rfl (by decide +kernel) ?_
            refine wl_exs (x_storeW [] hS60 tih rfl rfl (headV_len (by rw [List.length_take, List.length_drop]; omega) (by rw [List.length_take, List.length_drop]; omega)) (by first | (simp [*]; done) | (simp [*] <;> omega) | omega) one_head) rfl ?_
            intro w61 hS62
            simp only [List.cons_append, List.nil_append] at hS62
            refine wl_nil ?_
            refine c_then ?_
            refine c_seq ?_
            refine c_seq ?_
            refine c_region ?_
            refine wl_val (r_loadB tih ag83 rfl (hS62.heap (.head _)) (headV_len (by rw [List.length_take, List.length_drop]; omega) (by rw [List.length_take, List.length_drop]; omega))) rfl ?_
            refine wl_call (r_call fn54 rfl rfl) rfl (printHead_ok _ _ _ _ _ (by rw [List.length_take, List.length_drop]; omega) (by rw [List.length_take, List.length_drop]; omega)) ?_
            rintro _ w63 (⟨hg, rfl, hx64⟩ | ⟨hg, ahg, chg, rfl, hchg, hx64⟩)
            · have hS65 := hS62.ext hx64
              refine wl_val (r_move (v := .tuple _) rfl) rfl ?_
              refine wl_val (r_extract (v := .slice _ _ _) rfl rfl) rfl ?_
              refine wl_val (r_extract (v := .int .i64 _) rfl rfl) rfl ?_
              refine wl_val (r_assign (v := .slice _ _ _) rfl) rfl ?_
              refine wl_val (r_assign (v := .int .i64 _) rfl) rfl ?_
              refine wl_nil ?_
              refine c_then ?_
              refine c_seq ?_
              refine c_region ?_
              refine wl_val (r_move (v := .int .i64 _) rfl) rfl ?_
              refine wl_dec_t (r_neq rfl rfl) rfl (by decide) ?_
              refine wl_val (r_move (v := .bool _) rfl) rfl ?_
              refine wl_not rfl ?_
              refine wl_not rfl ?_
              refine wl_val (r_pick_t rfl (v := .bool true) rfl) rfl ?_
              refine wl_val (r_move (v := .bool _) rfl) rfl ?_
              refine wl_not rfl ?_
              refine wl_not rfl ?_
              refine wl_val (r_pick_t rfl (v := .bool true) rfl) rfl ?_
              refine wl_nil ?_
              refine c_then ?_
              refine c_true rfl ?_
              refine c_seq ?_
              refine c_region ?_
              refine wl_val (r_buildZ pl83 tih) rfl ?_
              refine wl_exs (x_storeW [_] hS65 tih rfl rfl (by first | (simp [*]; done) | (simp [*] <;> omega) | omega) (by first | (simp [*]; done) | (simp [*] <;> omega) | omega) (by repeat' first | exact one_nil | exact one_b8 _ | exact one_v32 _ | exact one_all rfl | refine one_cons rfl ?_ | refine one_app ?_ ?_)) rfl ?_
              intro w66 hS67
              simp only [List.cons_append, List.nil_append] at hS67
              refine wl_val (r_assign (v := .int .i64 4) rfl) rfl ?_
              refine wl_nil ?_
              refine c_then ?_
              refine wp_ret ?_
              refine c_thenR ?_
              refine ret2 Try.results59 ⟨_, rfl, run_loadVar_blk tih ag83 (hS67.heap (.tail _ (.head _))) (by first | (simp [*]; done) | exact (headV_len (by rw [List.length_take, List.length_drop]; omega) (by rw [List.length_take, List.length_drop]; omega)))⟩ rfl ?_
              first | exact .inl ⟨by omega, rfl, hS67.fin⟩ | exact .inr (.inl ⟨by omega, by first | exact .inl (by assumption) | exact .inr (by omega), rfl, hS67.fin⟩) | exact .inr (.inr (.inl ⟨by omega, Decidable.of_not_not (by assumption), by omega, rfl, hS67.fin⟩)) | exact .inr (.inr (.inr ⟨by omega, Decidable.of_not_not (by assumption), by omega, rfl, hS67.fin⟩))
            · have hS65 := hS62.call hx64
              simp only [List.cons_append, List.nil_append] at hS65
              refine wl_val (r_move (v := .tuple _) rfl) rfl ?_
              refine wl_val (r_extract (v := .slice _ _ _) rfl rfl) rfl ?_
              refine wl_val (r_extract (v := .int .i64 _) rfl rfl) rfl ?_
              refine wl_val (r_assign (v := .slice _ _ _) rfl) rfl ?_
              refine wl_val (r_assign (v := .int .i64 _) rfl) rfl ?_
              refine wl_nil ?_
              refine c_then ?_
              refine c_seq ?_
              refine c_region ?_
              refine wl_val (r_move (v := .int .i64 _) rfl) rfl ?_
              refine wl_dec_t (r_neq rfl rfl) rfl (by decide) ?_
              refine wl_val (r_move (v := .bool _) rfl) rfl ?_
              refine wl_not rfl ?_
              refine wl_not rfl ?_
              refine wl_val (r_pick_t rfl (v := .bool true) rfl) rfl ?_
              refine wl_val (r_move (v := .bool _) rfl) rfl ?_
              refine wl_not rfl ?_
              refine wl_not rfl ?_
              refine wl_val (r_pick_t rfl (v := .bool true) rfl) rfl ?_
              refine wl_nil ?_
              refine c_then ?_
              refine c_true rfl ?_
              refine c_seq ?_
              refine c_region ?_
              refine wl_val (r_buildZ pl83 tih) rfl ?_
              refine wl_exs (x_storeW [_, _] hS65 tih rfl rfl (by first | (simp [*]; done) | (simp [*] <;> omega) | omega) (by first | (simp [*]; done) | (simp [*] <;> omega) | omega) (by repeat' first | exact one_nil | exact one_b8 _ | exact one_v32 _ | exact one_all rfl | refine one_cons rfl ?_ | refine one_app ?_ ?_)) rfl ?_
              intro w68 hS69
              simp only [List.cons_append, List.nil_append] at hS69
              refine wl_val (r_assign (v := .int .i64 4) rfl) rfl ?_
              refine wl_nil ?_
              refine c_then ?_
              refine wp_ret ?_
              refine c_thenR ?_
              refine ret2 Try.results59 ⟨_, rfl, run_loadVar_blk tih ag83 (hS69.heap (.tail _ (.tail _ (.head _)))) (by first | (simp [*]; done) | exact (headV_len (by rw [List.length_take, List.length_drop]; omega) (by rw [List.length_take, List.length_drop]; omega)))⟩ rfl ?_
              first | exact .inl ⟨by omega, rfl, hS69.fin⟩ | exact .inr (.inl ⟨by omega, by first | exact .inl (by assumption) | exact .inr (by omega), rfl, hS69.fin⟩) | exact .inr (.inr (.inl ⟨by omega, Decidable.of_not_not (by assumption), by omega, rfl, hS69.fin⟩)) | exact .inr (.inr (.inr ⟨by omega, Decidable.of_not_not (by assumption), by omega, rfl, hS69.fin⟩))

theorem parseHead_print (ct tm : Int) (la ro : List UInt8) (a : Option Addr) (c : Nat) (w : World) (hb : Row w a ((headL ct tm la ro).map b8)) (hc : 84 ≤ c) (hla : la.length = 32) (hro : ro.length = 32) (hg : (0 ≤ ct ∧ ct ≤ 65536 ∧ 0 ≤ tm ∧ tm ≤ 1099511627776)) :
    Ret Try.prog 59 [.slice a 84 c] w (fun v w' => v = .tuple #[.agg (headV ct tm la ro).toArray, vi 0] ∧ St w [] w' []) := by
  have hX : ∀ x : Int, 0 ≤ x → x ≤ 1099511627776 → natN (octs8 (UInt64.ofNat x.toNat)) = x.toNat := fun x h0 h1 => by rw [natN_octs8, UInt64.toNat_ofNat']; omega
  have d0 : (headL ct tm la ro).take 4 = [75, 87, 72, 49] := rfl
  have d4 : ((headL ct tm la ro).drop 4).take 8 = octs8 (UInt64.ofNat ct.toNat) := rfl
  have d12 : ((headL ct tm la ro).drop 12).take 8 = octs8 (UInt64.ofNat tm.toNat) := rfl
  have d20 : ((headL ct tm la ro).drop 20).take 32 = la := by
    show (la ++ ro).take 32 = la
    rw [← hla, List.take_left]
  have d52 : ((headL ct tm la ro).drop 52).take 32 = ro := by
    show ((la ++ ro).drop 32).take 32 = ro
    rw [← hla, List.drop_left, hla, ← hro, List.take_length]
  refine (parseHead_ok (headL ct tm la ro) a 84 c ct.toNat tm.toNat w hb (headL_len hla hro) hc (by decide) (by rw [d4, hX _ hg.1 (by omega)]) (by rw [d12, hX _ (by omega) hg.2.2.2])).mono fun v w' h => ?_
  rw [d20, d52, Int.toNat_of_nonneg hg.1, Int.toNat_of_nonneg hg.2.2.1] at h
  rcases h with ⟨h, _⟩ | ⟨_, h | h, _⟩ | ⟨_, _, h, _⟩ | ⟨_, _, _, h⟩
  · omega
  · exact absurd d0 h
  · omega
  · exact absurd (by omega) h
  · exact h

end Go.Proofs.Ytfohfnpehfcaaaa
