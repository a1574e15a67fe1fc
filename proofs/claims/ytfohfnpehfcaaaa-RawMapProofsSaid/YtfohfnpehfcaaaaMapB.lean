/- Maps: absence, the reference's root. No condition. -/
import Derived.Test.YtfohfnpehfcaaaaFacts
import Derived.Test.YtfohfnpehfcaaaaMapA
namespace Go.Proofs.Ytfohfnpehfcaaaa
open Go.Kw
set_option linter.unusedVariables false
set_option linter.unusedSimpArgs false
set_option maxRecDepth 100000
theorem absent_ok (root k : List UInt8) (lv : List UInt8) (pa : Option Addr) (pc : Nat) (pl : List (List UInt8)) (w : World) (hr : root.length = 32) (hk : k.length = 32) (hlv : lv.length = 32) (hp : Row w pa (pl.flatten.map b8)) (h32 : S32 pl) (hpc : pl.length ≤ pc) (hpm : pl.length ≤ 4398046511104) :
    Ret Try.prog 67 [.agg (root.map b8).toArray, .agg (k.map b8).toArray, .agg (lv.map b8 ++ [Value.slice pa pl.length pc]).toArray] w (fun x w' => x = vi (absentE root k lv pl) ∧ St w [] w' []) := by
  refine enter Try.func67 rfl Try.ntmps67 rfl ?_
  have hS := St.refl w []
  refine c_seq ?_
  refine c_region ?_
  refine wl_exv (x_box hS (v := .agg _) rfl rfl) rfl ?_
  rintro _ w1 ⟨b3, rfl, hS2⟩
  refine wl_exv (x_box hS2 (v := .agg _) rfl rfl) rfl ?_
  rintro _ w3 ⟨b4, rfl, hS4⟩
  refine wl_exv (x_box hS4 (v := .agg _) rfl rfl) rfl ?_
  rintro _ w5 ⟨b5, rfl, hS6⟩
  refine wl_val (r_assign (v := .int .i64 0) rfl) rfl ?_
  refine wl_nil ?_
  refine c_then ?_
  refine c_seq ?_
  refine c_region ?_
  refine wl_val (r_field fa95_0 rfl) rfl ?_
  refine wl_val (r_loadPre ti31 rfl rfl (hS6.heap (.head _)) (by first | (simp [*]; done) | (simp [*] <;> omega) | omega)) rfl ?_
  refine wl_call (r_call fn138 rfl rfl) rfl (marked_ok _ _ (by first | (simp [*]; done) | (simp [*] <;> omega) | omega)) ?_
  rintro _ w7 ⟨rfl, hx8⟩
  have hS9 := hS6.ext hx8
  refine wl_val (r_move (v := .tuple _) rfl) rfl ?_
  refine wl_val (r_extract (v := .int .i64 _) rfl rfl) rfl ?_
  refine wl_val (r_extract (v := .int .i64 _) rfl rfl) rfl ?_
  refine wl_val (r_assign (v := .int .i64 _) rfl) rfl ?_
  refine wl_val (r_assign (v := .int .i64 _) rfl) rfl ?_
  refine wl_nil ?_
  refine c_then ?_
  refine c_seq ?_
  refine c_region ?_
  refine wl_val (r_build0 (cs := ((List.replicate 32 (0 : UInt8)).map b8)) ti49.und ti49 ti5) rfl ?_
  refine wl_exv (x_alloc (C := ((List.replicate 32 (0 : UInt8)).map b8)) hS9 ti49 rfl) rfl ?_
  rintro _ w10 ⟨b9, rfl, hS11⟩
  refine wl_exs (x_storeW [] hS11 ti49 rfl rfl (by first | (simp [*]; done) | (simp [*] <;> omega) | omega) (by first | (simp [*]; done) | (simp [*] <;> omega) | omega) (by repeat' first | exact one_nil | exact one_b8 _ | exact one_v32 _ | exact one_all rfl | refine one_cons rfl ?_ | refine one_app ?_ ?_)) rfl ?_
  intro w12 hS13
  simp only [List.cons_append, List.nil_append] at hS13
  refine wl_nil ?_
  refine c_then ?_
  refine c_seq ?_
  refine c_seq ?_
  have hmt := manyTo_le lv 256
  refine c_region ?_
  refine wl_val (r_field fa95_1 rfl) rfl ?_
  refine wl_val (r_loadB1 ti53.und rfl rfl (hS13.heap (.tail _ (.head _))) (mp_get hlv)) rfl ?_
  refine wl_val (r_len (T := 53) rfl ti53.und rfl _ rfl) rfl ?_
  refine wl_val (r_move (v := .int .i64 _) rfl) rfl ?_
  refine wl_val (r_subi rfl rfl (by omega) (by omega)) rfl ?_
  refine wl_nil ?_
  refine c_then ?_
  refine c_block ?_
  refine c_seq ?_
  refine c_region ?_
  refine wl_dec (r_eql rfl rfl) rfl (fun h5_0 => ?_) (fun h5_0 => ?_)
  · refine wl_val (r_assign (v := .bool _) rfl) rfl ?_
    refine wl_nil ?_
    refine c_then ?_
    refine c_true rfl ?_
    refine wp_skip ?_
    refine c_inN ?_
    refine c_then ?_
    refine c_seq ?_
    refine c_seq ?_
    refine c_drawS 5 hMixed hS13 ?_
    intro w14 hS15
    refine g_take 0 rfl (by decide +kernel) rfl (fun _ _ _ h => h) hS15 (fun wF hF => r_loadB ti49 rfl rfl (hF.heap (.tail _ (.tail _ (.head _)))) (by first | (simp [*]; done) | (simp [*] <;> omega) | omega)) ?_
    refine g_take 1 rfl (by decide +kernel) rfl (fun _ _ _ h => h) hS15 (fun wF hF => r_loadB ti49 rfl rfl (hF.heap (.head _)) (by first | (simp [*]; done) | (simp [*] <;> omega) | omega)) ?_
    refine g_take 2 rfl (by decide +kernel) rfl (fun _ _ _ h => h) hS15 (fun wF hF => r_loadB ti95 ag95 rfl (hF.heap (.tail _ (.head _))) (by first | (simp [*]; done) | (simp [*] <;> omega) | omega)) ?_
    refine g_take 4 rfl (by decide +kernel) rfl (fun _ _ _ h => h) hS15 (fun wF hF => r_loadB ti49 rfl rfl (hF.heap (.tail _ (.tail _ (.tail _ (.head _))))) (by first | (simp [*]; done) | (simp [*] <;> omega) | omega)) ?_
    refine g_one 3 (by decide +kernel) (by decide +kernel) ?_
    refine o_call rfl (r_call fn139 rfl rfl) rfl (up_ok k (_) lv pa pc pl _ hk (by simp) hlv (hp.st hS15) h32 hpc hpm (by omega)) ?_
    rintro _ w16 ⟨rfl, hx17⟩
    have hS18 := hS15.ext hx17
    refine ⟨hS18, ?_⟩
    refine g_tail (by decide +kernel) rfl (by decide +kernel) ?_
    refine wl_dec (r_neqA (u := undef) eg49 rfl rfl (eqIs_b8 ti49.und ti5 _ _ (upAll_len _ _ _ _ (by simp)) hr)) rfl (fun h11_5 => ?_) (fun h11_5 => ?_)
    · refine wl_nil ?_
      refine c_then ?_
      refine c_true rfl ?_
      refine c_seq ?_
      refine c_region ?_
      refine wl_val (r_assign (v := .int .i64 12) rfl) rfl ?_
      refine wl_nil ?_
      refine c_then ?_
      refine wp_ret ?_
      refine c_thenR ?_
      refine ret1 Try.results67 ?_
      exact ⟨congrArg vi (by unfold absentE; rw [if_pos (by omega), if_neg h11_5]), hS18.fin⟩
    · refine wl_nil ?_
      refine c_then ?_
      refine c_false rfl ?_
      refine wp_skip ?_
      refine c_then ?_
      refine c_seq ?_
      refine c_region ?_
      refine wl_val (r_assign (v := .int .i64 0) rfl) rfl ?_
      refine wl_nil ?_
      refine c_then ?_
      refine wp_ret ?_
      refine ret1 Try.results67 ?_
      exact ⟨congrArg vi (by unfold absentE; rw [if_pos (by omega), if_pos (Classical.not_not.1 h11_5)]), hS18.fin⟩
  · refine wl_val (r_assign (v := .bool _) rfl) rfl ?_
    refine wl_nil ?_
    refine c_then ?_
    refine c_false rfl ?_
    refine c_seq ?_
    refine c_region ?_
    refine wl_dec (r_eql rfl rfl) rfl (fun h6_0 => ?_) (fun h6_0 => ?_)
    · refine wl_val (r_assign (v := .bool _) rfl) rfl ?_
      refine wl_nil ?_
      refine c_then ?_
      refine c_true rfl ?_
      refine c_seq ?_
      refine c_drawS 14 hMixed hS13 ?_
      intro w19 hS20
      refine g_take 0 rfl (by decide +kernel) rfl (fun _ _ _ h => h) hS20 (fun wF hF => r_field fa95_1 rfl) ?_
      refine g_take 1 rfl (by decide +kernel) rfl (fun _ _ _ h => h) hS20 (fun wF hF => r_loadB1 ti53.und rfl rfl (hF.heap (.tail _ (.head _))) (mp_get hlv)) ?_
      refine g_take 2 rfl (by decide +kernel) rfl (fun _ _ _ h => h) hS20 (fun wF hF => r_move (v := .int .i64 _) rfl) ?_
      refine g_take 3 rfl (by decide +kernel) rfl (fun _ _ _ h => h) hS20 (fun wF hF => r_ix32 ti53.und ti49 rfl rfl (hp.st hF) h32 rfl (by omega)) ?_
      refine g_take 4 rfl (by decide +kernel) rfl (fun _ _ _ h => h) hS20 (fun wF hF => r_load32 ti49 rfl rfl (hp.st hF) h32 (by omega)) ?_
      refine g_take 5 rfl (by decide +kernel) rfl (fun _ _ _ h => h) hS20 (fun wF hF => r_field fa95_1 rfl) ?_
      refine g_take 6 rfl (by decide +kernel) rfl (fun _ _ _ h => h) hS20 (fun wF hF => r_loadB1 ti53.und rfl rfl (hF.heap (.tail _ (.head _))) (mp_get hlv)) ?_
      refine g_take 7 rfl (by decide +kernel) rfl (fun _ _ _ h => h) hS20 (fun wF hF => r_move (v := .int .i64 _) rfl) ?_
      refine g_take 8 rfl (by decide +kernel) rfl (fun _ _ _ h => h) hS20 (fun wF hF => r_addn (b := 1) rfl rfl (by omega)) ?_
      refine g_take 9 rfl (by decide +kernel) rfl (fun _ _ _ h => h) hS20 (fun wF hF => r_ix32 ti53.und ti49 rfl rfl (hp.st hF) h32 rfl (by omega)) ?_
      refine g_take 10 rfl (by decide +kernel) rfl (fun _ _ _ h => h) hS20 (fun wF hF => r_load32 ti49 rfl rfl (hp.st hF) h32 (by omega)) ?_
      refine g_all (rs := [11, 12]) (by decide +kernel) (by decide +kernel) rfl ?_
      simp only [List.forall_mem_cons, List.not_mem_nil, false_imp_iff, implies_true, and_true]
      refine ⟨?_, ?_⟩
      · refine o_exv rfl (x_alloc (C := ((List.replicate 32 (0 : UInt8)).map b8)) hS20 ti49 rfl) rfl ?_
        rintro _ w21 ⟨b10, rfl, hS22⟩
        refine ⟨hS22.drop1, ?_⟩
        refine g_one 12 (by decide +kernel) (by decide +kernel) ?_
        refine o_exv rfl (x_alloc (C := ((List.replicate 32 (0 : UInt8)).map b8)) hS22 ti49 rfl) rfl ?_
        rintro _ w23 ⟨b11, rfl, hS24⟩
        refine ⟨hS24.drop1.drop1, ?_⟩
        refine g_one 13 (by decide +kernel) (by decide +kernel) ?_
        refine o_exs rfl (x_storeW [_] hS24 ti49 rfl rfl (by rw [List.length_map]; exact h32.gt (by omega)) (by simp) (one_b8 _)) rfl ?_
        intro w25 hS26
        simp only [List.cons_append, List.nil_append] at hS26
        refine ⟨hS26.drop1.drop1, ?_⟩
        refine g_tail (by decide +kernel) rfl (by decide +kernel) ?_
        refine wl_exs (x_storeW [] hS26 ti49 rfl rfl (by rw [List.length_map]; exact h32.gt (by omega)) (by simp) (one_b8 _)) rfl ?_
        intro w27 hS28
        simp only [List.cons_append, List.nil_append] at hS28
        refine wl_nil ?_
        refine c_then ?_
        refine c_seq ?_
        refine c_seq ?_
        refine c_region ?_
        refine wl_val (r_loadB ti49 rfl rfl (hS28.heap (.tail _ (.head _))) (by rw [List.length_map]; exact h32.gt (by omega))) rfl ?_
        refine wl_val (r_loadB ti49 rfl rfl (hS28.heap (.tail _ (.tail _ (.tail _ (.tail _ (.head _)))))) (by first | (simp [*]; done) | (simp [*] <;> omega) | omega)) rfl ?_
        refine wl_dec (r_eqlA (u := undef) eg49 rfl rfl (eqIs_b8 ti49.und ti5 _ _ (h32.gt (by omega)) hk)) rfl (fun h8_2 => ?_) (fun h8_2 => ?_)
        · refine wl_val (r_move (v := .bool _) rfl) rfl ?_
          refine wl_not rfl ?_
          refine wl_not rfl ?_
          refine wl_not rfl ?_
          refine wl_not rfl ?_
          refine wl_not rfl ?_
          refine wl_val (r_pick_t rfl (v := .bool true) rfl) rfl ?_
          refine wl_val (r_move (v := .bool _) rfl) rfl ?_
          refine wl_not rfl ?_
          refine wl_not rfl ?_
          refine wl_not rfl ?_
          refine wl_val (r_pick_t rfl (v := .bool true) rfl) rfl ?_
          refine wl_nil ?_
          refine c_then ?_
          refine c_true rfl ?_
          refine c_seq ?_
          refine c_region ?_
          refine wl_val (r_assign (v := .int .i64 12) rfl) rfl ?_
          refine wl_nil ?_
          refine c_then ?_
          refine wp_ret ?_
          refine c_thenR ?_
          refine c_inR ?_
          refine c_thenR ?_
          refine ret1 Try.results67 ?_
          exact ⟨congrArg vi (by unfold absentE; rw [if_neg (by omega), if_pos (by omega), if_pos (.inl h8_2)]), hS28.fin⟩
        · refine wl_val (r_move (v := .bool _) rfl) rfl ?_
          refine wl_val (r_loadB ti49 rfl rfl (hS28.heap (.tail _ (.head _))) (by rw [List.length_map]; exact h32.gt (by omega))) rfl ?_
          refine wl_val (r_loadB ti49 rfl rfl (hS28.heap (.tail _ (.tail _ (.tail _ (.tail _ (.head _)))))) (by first | (simp [*]; done) | (simp [*] <;> omega) | omega)) rfl ?_
          refine wl_call (r_call fn144 rfl rfl) rfl (differs_ok _ _ _ (h32.gt (by omega)) hk) ?_
          rintro _ w29 ⟨rfl, hx30⟩
          have hS31 := hS28.ext hx30
          refine wl_val (r_move (v := .int .i64 _) rfl) rfl ?_
          refine wl_dec (r_lss rfl rfl) rfl (fun h8_8 => ?_) (fun h8_8 => ?_)
          · refine wl_val (r_pick_f rfl (v := .bool _) rfl) rfl ?_
            refine wl_val (r_move (v := .bool _) rfl) rfl ?_
            refine wl_not rfl ?_
            refine wl_not rfl ?_
            refine wl_not rfl ?_
            refine wl_val (r_pick_t rfl (v := .bool true) rfl) rfl ?_
            refine wl_nil ?_
            refine c_then ?_
            refine c_true rfl ?_
            refine c_seq ?_
            refine c_region ?_
            refine wl_val (r_assign (v := .int .i64 12) rfl) rfl ?_
            refine wl_nil ?_
            refine c_then ?_
            refine wp_ret ?_
            refine c_thenR ?_
            refine c_inR ?_
            refine c_thenR ?_
            refine ret1 Try.results67 ?_
            exact ⟨congrArg vi (by unfold absentE; rw [if_neg (by omega), if_pos (by omega), if_pos (.inr (.inl (by omega)))]), hS31.fin⟩
          · refine wl_val (r_pick_f rfl (v := .bool _) rfl) rfl ?_
            refine wl_val (r_move (v := .bool _) rfl) rfl ?_
            refine wl_val (r_loadB ti49 rfl rfl (hS31.heap (.head _)) (by rw [List.length_map]; exact h32.gt (by omega))) rfl ?_
            refine wl_val (r_build0 (cs := ((List.replicate 32 (0 : UInt8)).map b8)) ti49.und ti49 ti5) rfl ?_
            refine wl_dec (r_eqlA (u := undef) eg49 rfl rfl (eqIs_b8 ti49.und ti5 _ _ (h32.gt (by omega)) (by simp))) rfl (fun h8_13 => ?_) (fun h8_13 => ?_)
            · refine wl_val (r_pick_f rfl (v := .bool _) rfl) rfl ?_
              refine wl_nil ?_
              refine c_then ?_
              refine c_true rfl ?_
              refine c_seq ?_
              refine c_region ?_
              refine wl_val (r_assign (v := .int .i64 12) rfl) rfl ?_
              refine wl_nil ?_
              refine c_then ?_
              refine wp_ret ?_
              refine c_thenR ?_
              refine c_inR ?_
              refine c_thenR ?_
              refine ret1 Try.results67 ?_
              exact ⟨congrArg vi (by unfold absentE; rw [if_neg (by omega), if_pos (by omega), if_pos (.inr (.inr h8_13))]), hS31.fin⟩
            · refine wl_val (r_pick_f rfl (v := .bool _) rfl) rfl ?_
              refine wl_nil ?_
              refine c_then ?_
              refine c_false rfl ?_
              refine wp_skip ?_
              refine c_then ?_
              refine c_region ?_
              refine wl_val (r_loadB ti49 rfl rfl (hS31.heap (.tail _ (.head _))) (by rw [List.length_map]; exact h32.gt (by omega))) rfl ?_
              refine wl_val (r_loadB ti49 rfl rfl (hS31.heap (.head _)) (by rw [List.length_map]; exact h32.gt (by omega))) rfl ?_
              refine wl_call (r_call fn140 rfl rfl) rfl (single_ok _ _ _ (h32.gt (by omega)) (h32.gt (by omega))) ?_
              rintro _ w32 ⟨rfl, hx33⟩
              have hS34 := hS31.ext hx33
              refine wl_exs (x_storeW [_, _] hS34 ti49 rfl rfl (by first | (simp [*]; done) | (simp [*] <;> omega) | omega) (by first | (simp [*]; done) | (simp [*] <;> omega) | omega) (by repeat' first | exact one_nil | exact one_b8 _ | exact one_v32 _ | exact one_all rfl | refine one_cons rfl ?_ | refine one_app ?_ ?_)) rfl ?_
              intro w35 hS36
              simp only [List.cons_append, List.nil_append] at hS36
              refine wl_nil ?_
              refine c_inN ?_
              refine c_then ?_
              refine c_seq ?_
              refine c_seq ?_
              refine c_drawS 5 hMixed hS36 ?_
              intro w37 hS38
              refine g_take 0 rfl (by decide +kernel) rfl (fun _ _ _ h => h) hS38 (fun wF hF => r_loadB ti49 rfl rfl (hF.heap (.tail _ (.tail _ (.tail _ (.tail _ (.head _)))))) (by first | (simp [*]; done) | (simp [*] <;> omega) | omega)) ?_
              refine g_take 1 rfl (by decide +kernel) rfl (fun _ _ _ h => h) hS38 (fun wF hF => r_loadB ti49 rfl rfl (hF.heap (.tail _ (.tail _ (.head _)))) (by first | (simp [*]; done) | (simp [*] <;> omega) | omega)) ?_
              refine g_take 2 rfl (by decide +kernel) rfl (fun _ _ _ h => h) hS38 (fun wF hF => r_loadB ti95 ag95 rfl (hF.heap (.tail _ (.tail _ (.tail _ (.head _))))) (by first | (simp [*]; done) | (simp [*] <;> omega) | omega)) ?_
              refine g_take 4 rfl (by decide +kernel) rfl (fun _ _ _ h => h) hS38 (fun wF hF => r_loadB ti49 rfl rfl (hF.heap (.tail _ (.tail _ (.tail _ (.tail _ (.tail _ (.head _))))))) (by first | (simp [*]; done) | (simp [*] <;> omega) | omega)) ?_
              refine g_one 3 (by decide +kernel) (by decide +kernel) ?_
              refine o_call rfl (r_call fn139 rfl rfl) rfl (up_ok k (_) lv pa pc pl _ hk (by simp) hlv (hp.st hS38) h32 hpc hpm (by omega)) ?_
              rintro _ w39 ⟨rfl, hx40⟩
              have hS41 := hS38.ext hx40
              refine ⟨hS41, ?_⟩
              refine g_tail (by decide +kernel) rfl (by decide +kernel) ?_
              refine wl_dec (r_neqA (u := undef) eg49 rfl rfl (eqIs_b8 ti49.und ti5 _ _ (upAll_len _ _ _ _ (by simp)) hr)) rfl (fun h11_5 => ?_) (fun h11_5 => ?_)
              · refine wl_nil ?_
                refine c_then ?_
                refine c_true rfl ?_
                refine c_seq ?_
                refine c_region ?_
                refine wl_val (r_assign (v := .int .i64 12) rfl) rfl ?_
                refine wl_nil ?_
                refine c_then ?_
                refine wp_ret ?_
                refine c_thenR ?_
                refine ret1 Try.results67 ?_
                exact ⟨congrArg vi (by unfold absentE; rw [if_neg (by omega), if_pos (by omega), if_neg (fun h => h.elim h8_2 (fun h => h.elim (fun h => h8_8 (by omega)) h8_13)), if_neg h11_5]), hS41.fin⟩
              · refine wl_nil ?_
                refine c_then ?_
                refine c_false rfl ?_
                refine wp_skip ?_
                refine c_then ?_
                refine c_seq ?_
                refine c_region ?_
                refine wl_val (r_assign (v := .int .i64 0) rfl) rfl ?_
                refine wl_nil ?_
                refine c_then ?_
                refine wp_ret ?_
                refine ret1 Try.results67 ?_
                exact ⟨congrArg vi (by unfold absentE; rw [if_neg (by omega), if_pos (by omega), if_neg (fun h => h.elim h8_2 (fun h => h.elim (fun h => h8_8 (by omega)) h8_13)), if_pos (Classical.not_not.1 h11_5)]), hS41.fin⟩
      · refine o_exv rfl (x_alloc (C := ((List.replicate 32 (0 : UInt8)).map b8)) hS20 ti49 rfl) rfl ?_
        rintro _ w42 ⟨b11, rfl, hS43⟩
        refine ⟨hS43.drop1, ?_⟩
        refine g_one 11 (by decide +kernel) (by decide +kernel) ?_
        refine o_exv rfl (x_alloc (C := ((List.replicate 32 (0 : UInt8)).map b8)) hS43 ti49 rfl) rfl ?_
        rintro _ w44 ⟨b10, rfl, hS45⟩
        refine ⟨hS45.drop1.drop1, ?_⟩
        refine g_one 13 (by decide +kernel) (by decide +kernel) ?_
        refine o_exs rfl (x_storeW [] hS45 ti49 rfl rfl (by rw [List.length_map]; exact h32.gt (by omega)) (by simp) (one_b8 _)) rfl ?_
        intro w46 hS47
        simp only [List.cons_append, List.nil_append] at hS47
        refine ⟨hS47.drop1.drop1, ?_⟩
        refine g_tail (by decide +kernel) rfl (by decide +kernel) ?_
        refine wl_exs (x_storeW [_] hS47 ti49 rfl rfl (by rw [List.length_map]; exact h32.gt (by omega)) (by simp) (one_b8 _)) rfl ?_
        intro w48 hS49
        simp only [List.cons_append, List.nil_append] at hS49
        refine wl_nil ?_
        refine c_then ?_
        refine c_seq ?_
        refine c_seq ?_
        refine c_region ?_
        refine wl_val (r_loadB ti49 rfl rfl (hS49.heap (.head _)) (by rw [List.length_map]; exact h32.gt (by omega))) rfl ?_
        refine wl_val (r_loadB ti49 rfl rfl (hS49.heap (.tail _ (.tail _ (.tail _ (.tail _ (.head _)))))) (by first | (simp [*]; done) | (simp [*] <;> omega) | omega)) rfl ?_
        refine wl_dec (r_eqlA (u := undef) eg49 rfl rfl (eqIs_b8 ti49.und ti5 _ _ (h32.gt (by omega)) hk)) rfl (fun h8_2 => ?_) (fun h8_2 => ?_)
        · refine wl_val (r_move (v := .bool _) rfl) rfl ?_
          refine wl_not rfl ?_
          refine wl_not rfl ?_
          refine wl_not rfl ?_
          refine wl_not rfl ?_
          refine wl_not rfl ?_
          refine wl_val (r_pick_t rfl (v := .bool true) rfl) rfl ?_
          refine wl_val (r_move (v := .bool _) rfl) rfl ?_
          refine wl_not rfl ?_
          refine wl_not rfl ?_
          refine wl_not rfl ?_
          refine wl_val (r_pick_t rfl (v := .bool true) rfl) rfl ?_
          refine wl_nil ?_
          refine c_then ?_
          refine c_true rfl ?_
          refine c_seq ?_
          refine c_region ?_
          refine wl_val (r_assign (v := .int .i64 12) rfl) rfl ?_
          refine wl_nil ?_
          refine c_then ?_
          refine wp_ret ?_
          refine c_thenR ?_
          refine c_inR ?_
          refine c_thenR ?_
          refine ret1 Try.results67 ?_
          exact ⟨congrArg vi (by unfold absentE; rw [if_neg (by omega), if_pos (by omega), if_pos (.inl h8_2)]), hS49.fin⟩
        · refine wl_val (r_move (v := .bool _) rfl) rfl ?_
          refine wl_val (r_loadB ti49 rfl rfl (hS49.heap (.head _)) (by rw [List.length_map]; exact h32.gt (by omega))) rfl ?_
          refine wl_val (r_loadB ti49 rfl rfl (hS49.heap (.tail _ (.tail _ (.tail _ (.tail _ (.head _)))))) (by first | (simp [*]; done) | (simp [*] <;> omega) | omega)) rfl ?_
          refine wl_call (r_call fn144 rfl rfl) rfl (differs_ok _ _ _ (h32.gt (by omega)) hk) ?_
          rintro _ w50 ⟨rfl, hx51⟩
          have hS52 := hS49.ext hx51
          refine wl_val (r_move (v := .int .i64 _) rfl) rfl ?_
          refine wl_dec (r_lss rfl rfl) rfl (fun h8_8 => ?_) (fun h8_8 => ?_)
          · refine wl_val (r_pick_f rfl (v := .bool _) rfl) rfl ?_
            refine wl_val (r_move (v := .bool _) rfl) rfl ?_
            refine wl_not rfl ?_
            refine wl_not rfl ?_
            refine wl_not rfl ?_
            refine wl_val (r_pick_t rfl (v := .bool true) rfl) rfl ?_
            refine wl_nil ?_
            refine c_then ?_
            refine c_true rfl ?_
            refine c_seq ?_
            refine c_region ?_
            refine wl_val (r_assign (v := .int .i64 12) rfl) rfl ?_
            refine wl_nil ?_
            refine c_then ?_
            refine wp_ret ?_
            refine c_thenR ?_
            refine c_inR ?_
            refine c_thenR ?_
            refine ret1 Try.results67 ?_
            exact ⟨congrArg vi (by unfold absentE; rw [if_neg (by omega), if_pos (by omega), if_pos (.inr (.inl (by omega)))]), hS52.fin⟩
          · refine wl_val (r_pick_f rfl (v := .bool _) rfl) rfl ?_
            refine wl_val (r_move (v := .bool _) rfl) rfl ?_
            refine wl_val (r_loadB ti49 rfl rfl (hS52.heap (.tail _ (.head _))) (by rw [List.length_map]; exact h32.gt (by omega))) rfl ?_
            refine wl_val (r_build0 (cs := ((List.replicate 32 (0 : UInt8)).map b8)) ti49.und ti49 ti5) rfl ?_
            refine wl_dec (r_eqlA (u := undef) eg49 rfl rfl (eqIs_b8 ti49.und ti5 _ _ (h32.gt (by omega)) (by simp))) rfl (fun h8_13 => ?_) (fun h8_13 => ?_)
            · refine wl_val (r_pick_f rfl (v := .bool _) rfl) rfl ?_
              refine wl_nil ?_
              refine c_then ?_
              refine c_true rfl ?_
              refine c_seq ?_
              refine c_region ?_
              refine wl_val (r_assign (v := .int .i64 12) rfl) rfl ?_
              refine wl_nil ?_
              refine c_then ?_
              refine wp_ret ?_
              refine c_thenR ?_
              refine c_inR ?_
              refine c_thenR ?_
              refine ret1 Try.results67 ?_
              exact ⟨congrArg vi (by unfold absentE; rw [if_neg (by omega), if_pos (by omega), if_pos (.inr (.inr h8_13))]), hS52.fin⟩
            · refine wl_val (r_pick_f rfl (v := .bool _) rfl) rfl ?_
              refine wl_nil ?_
              refine c_then ?_
              refine c_false rfl ?_
              refine wp_skip ?_
              refine c_then ?_
              refine c_region ?_
              refine wl_val (r_loadB ti49 rfl rfl (hS52.heap (.head _)) (by rw [List.length_map]; exact h32.gt (by omega))) rfl ?_
              refine wl_val (r_loadB ti49 rfl rfl (hS52.heap (.tail _ (.head _))) (by rw [List.length_map]; exact h32.gt (by omega))) rfl ?_
              refine wl_call (r_call fn140 rfl rfl) rfl (single_ok _ _ _ (h32.gt (by omega)) (h32.gt (by omega))) ?_
              rintro _ w53 ⟨rfl, hx54⟩
              have hS55 := hS52.ext hx54
              refine wl_exs (x_storeW [_, _] hS55 ti49 rfl rfl (by first | (simp [*]; done) | (simp [*] <;> omega) | omega) (by first | (simp [*]; done) | (simp [*] <;> omega) | omega) (by repeat' first | exact one_nil | exact one_b8 _ | exact one_v32 _ | exact one_all rfl | refine one_cons rfl ?_ | refine one_app ?_ ?_)) rfl ?_
              intro w56 hS57
              simp only [List.cons_append, List.nil_append] at hS57
              refine wl_nil ?_
              refine c_inN ?_
              refine c_then ?_
              refine c_seq ?_
              refine c_seq ?_
              refine c_drawS 5 hMixed hS57 ?_
              intro w58 hS59
              refine g_take 0 rfl (by decide +kernel) rfl (fun _ _ _ h => h) hS59 (fun wF hF => r_loadB ti49 rfl rfl (hF.heap (.tail _ (.tail _ (.tail _ (.tail _ (.head _)))))) (by first | (simp [*]; done) | (simp [*] <;> omega) | omega)) ?_
              refine g_take 1 rfl (by decide +kernel) rfl (fun _ _ _ h => h) hS59 (fun wF hF => r_loadB ti49 rfl rfl (hF.heap (.tail _ (.tail _ (.head _)))) (by first | (simp [*]; done) | (simp [*] <;> omega) | omega)) ?_
              refine g_take 2 rfl (by decide +kernel) rfl (fun _ _ _ h => h) hS59 (fun wF hF => r_loadB ti95 ag95 rfl (hF.heap (.tail _ (.tail _ (.tail _ (.head _))))) (by first | (simp [*]; done) | (simp [*] <;> omega) | omega)) ?_
              refine g_take 4 rfl (by decide +kernel) rfl (fun _ _ _ h => h) hS59 (fun wF hF => r_loadB ti49 rfl rfl (hF.heap (.tail _ (.tail _ (.tail _ (.tail _ (.tail _ (.head _))))))) (by first | (simp [*]; done) | (simp [*] <;> omega) | omega)) ?_
              refine g_one 3 (by decide +kernel) (by decide +kernel) ?_
              refine o_call rfl (r_call fn139 rfl rfl) rfl (up_ok k (_) lv pa pc pl _ hk (by simp) hlv (hp.st hS59) h32 hpc hpm (by omega)) ?_
              rintro _ w60 ⟨rfl, hx61⟩
              have hS62 := hS59.ext hx61
              refine ⟨hS62, ?_⟩
              refine g_tail (by decide +kernel) rfl (by decide +kernel) ?_
              refine wl_dec (r_neqA (u := undef) eg49 rfl rfl (eqIs_b8 ti49.und ti5 _ _ (upAll_len _ _ _ _ (by simp)) hr)) rfl (fun h11_5 => ?_) (fun h11_5 => ?_)
              · refine wl_nil ?_
                refine c_then ?_
                refine c_true rfl ?_
                refine c_seq ?_
                refine c_region ?_
                refine wl_val (r_assign (v := .int .i64 12) rfl) rfl ?_
                refine wl_nil ?_
                refine c_then ?_
                refine wp_ret ?_
                refine c_thenR ?_
                refine ret1 Try.results67 ?_
                exact ⟨congrArg vi (by unfold absentE; rw [if_neg (by omega), if_pos (by omega), if_neg (fun h => h.elim h8_2 (fun h => h.elim (fun h => h8_8 (by omega)) h8_13)), if_neg h11_5]), hS62.fin⟩
              · refine wl_nil ?_
                refine c_then ?_
                refine c_false rfl ?_
                refine wp_skip ?_
                refine c_then ?_
                refine c_seq ?_
                refine c_region ?_
                refine wl_val (r_assign (v := .int .i64 0) rfl) rfl ?_
                refine wl_nil ?_
                refine c_then ?_
                refine wp_ret ?_
                refine ret1 Try.results67 ?_
                exact ⟨congrArg vi (by unfold absentE; rw [if_neg (by omega), if_pos (by omega), if_neg (fun h => h.elim h8_2 (fun h => h.elim (fun h => h8_8 (by omega)) h8_13)), if_pos (Classical.not_not.1 h11_5)]), hS62.fin⟩
    · refine wl_val (r_assign (v := .bool _) rfl) rfl ?_
      refine wl_nil ?_
      refine c_then ?_
      refine c_false rfl ?_
      refine c_seq ?_
      refine c_region ?_
      refine wl_val (r_assign (v := .int .i64 12) rfl) rfl ?_
      refine wl_nil ?_
      refine c_then ?_
      refine wp_ret ?_
      refine c_inR ?_
      refine c_thenR ?_
      refine ret1 Try.results67 ?_
      exact ⟨congrArg vi (by unfold absentE; rw [if_neg (by omega), if_neg (by omega)]), hS13.fin⟩

theorem rabsent_ok (root k : List UInt8) (lv : List UInt8) (pa : Option Addr) (pc : Nat) (pl : List (List UInt8)) (w : World) (hr : root.length = 32) (hk : k.length = 32) (hlv : lv.length = 32) (hp : Row w pa (pl.flatten.map b8)) (h32 : S32 pl) (hpc : pl.length ≤ pc) (hpm : pl.length ≤ 4398046511104) :
    Ret Try.prog 68 [.agg (root.map b8).toArray, .agg (k.map b8).toArray, .agg (lv.map b8 ++ [Value.slice pa pl.length pc]).toArray] w (fun x w' => x = vi (absentE root k lv pl) ∧ St w [] w' []) := by
  refine enter Try.func68 rfl Try.ntmps68 rfl ?_
  have hS := St.refl w []
  refine c_seq ?_
  refine c_region ?_
  refine wl_exv (x_box hS (v := .agg _) rfl rfl) rfl ?_
  rintro _ w1 ⟨b3, rfl, hS2⟩
  refine wl_exv (x_box hS2 (v := .agg _) rfl rfl) rfl ?_
  rintro _ w3 ⟨b4, rfl, hS4⟩
  refine wl_exv (x_box hS4 (v := .agg _) rfl rfl) rfl ?_
  rintro _ w5 ⟨b5, rfl, hS6⟩
  refine wl_val (r_assign (v := .int .i64 0) rfl) rfl ?_
  refine wl_nil ?_
  refine c_then ?_
  refine c_seq ?_
  refine c_region ?_
  refine wl_val (r_loadB ti95 ag95 rfl (hS6.heap (.head _)) (by first | (simp [*]; done) | (simp [*] <;> omega) | omega)) rfl ?_
  refine wl_call (r_call fn141 rfl rfl) rfl (depth_ok lv pa pc pl _ hlv (hp.st hS6) h32 hpc hpm) ?_
  rintro _ w7 ⟨rfl, hx8⟩
  have hS9 := hS6.ext hx8
  refine wl_val (r_move (v := .tuple _) rfl) rfl ?_
  refine wl_val (r_extract (v := .int .i64 _) rfl rfl) rfl ?_
  refine wl_val (r_extract (v := .int .i64 _) rfl rfl) rfl ?_
  refine wl_val (r_assign (v := .int .i64 _) rfl) rfl ?_
  refine wl_val (r_assign (v := .int .i64 _) rfl) rfl ?_
  refine wl_nil ?_
  refine c_then ?_
  refine c_seq ?_
  refine c_region ?_
  refine wl_exv (x_alloc (C := ((List.replicate 32 (0 : UInt8)).map b8)) hS9 ti49 rfl) rfl ?_
  rintro _ w10 ⟨b9, rfl, hS11⟩
  refine wl_nil ?_
  refine c_then ?_
  refine c_seq ?_
  refine c_seq ?_
  have hmt := manyTo_le lv 256
  refine c_region ?_
  refine wl_val (r_field fa95_1 rfl) rfl ?_
  refine wl_val (r_loadB1 ti53.und rfl rfl (hS11.heap (.tail _ (.head _))) (mp_get hlv)) rfl ?_
  refine wl_val (r_len (T := 53) rfl ti53.und rfl _ rfl) rfl ?_
  refine wl_nil ?_
  refine c_then ?_
  refine c_block ?_
  refine c_seq ?_
  refine c_region ?_
  refine wl_val (r_move (v := .int .i64 _) rfl) rfl ?_
  refine wl_dec (r_eql rfl rfl) rfl (fun h5_1 => ?_) (fun h5_1 => ?_)
  · refine wl_val (r_assign (v := .bool _) rfl) rfl ?_
    refine wl_nil ?_
    refine c_then ?_
    refine c_true rfl ?_
    refine wp_skip ?_
    refine c_inN ?_
    refine c_then ?_
    refine c_seq ?_
    refine c_seq ?_
    refine c_drawS 5 hMixed hS11 ?_
    intro w12 hS13
    refine g_take 0 rfl (by decide +kernel) rfl (fun _ _ _ h => h) hS13 (fun wF hF => r_loadB ti49 rfl rfl (hF.heap (.tail _ (.tail _ (.head _)))) (by first | (simp [*]; done) | (simp [*] <;> omega) | omega)) ?_
    refine g_take 1 rfl (by decide +kernel) rfl (fun _ _ _ h => h) hS13 (fun wF hF => r_loadB ti49 rfl rfl (hF.heap (.head _)) (by first | (simp [*]; done) | (simp [*] <;> omega) | omega)) ?_
    refine g_take 2 rfl (by decide +kernel) rfl (fun _ _ _ h => h) hS13 (fun wF hF => r_loadB ti95 ag95 rfl (hF.heap (.tail _ (.head _))) (by first | (simp [*]; done) | (simp [*] <;> omega) | omega)) ?_
    refine g_take 4 rfl (by decide +kernel) rfl (fun _ _ _ h => h) hS13 (fun wF hF => r_loadB ti49 rfl rfl (hF.heap (.tail _ (.tail _ (.tail _ (.head _))))) (by first | (simp [*]; done) | (simp [*] <;> omega) | omega)) ?_
    refine g_one 3 (by decide +kernel) (by decide +kernel) ?_
    refine o_call rfl (r_call fn142 rfl rfl) rfl (rup_ok k (_) lv pa pc pl _ hk (by simp) hlv (hp.st hS13) h32 hpc hpm (by omega)) ?_
    rintro _ w14 ⟨rfl, hx15⟩
    have hS16 := hS13.ext hx15
    refine ⟨hS16, ?_⟩
    refine g_tail (by decide +kernel) rfl (by decide +kernel) ?_
    refine wl_dec (r_neqA (u := undef) eg49 rfl rfl (eqIs_b8 ti49.und ti5 _ _ (upAll_len _ _ _ _ (by simp)) hr)) rfl (fun h11_5 => ?_) (fun h11_5 => ?_)
    · refine wl_nil ?_
      refine c_then ?_
      refine c_true rfl ?_
      refine c_seq ?_
      refine c_region ?_
      refine wl_val (r_assign (v := .int .i64 12) rfl) rfl ?_
      refine wl_nil ?_
      refine c_then ?_
      refine wp_ret ?_
      refine c_thenR ?_
      refine ret1 Try.results68 ?_
      exact ⟨congrArg vi (by unfold absentE; rw [if_pos (by omega), if_neg h11_5]), hS16.fin⟩
    · refine wl_nil ?_
      refine c_then ?_
      refine c_false rfl ?_
      refine wp_skip ?_
      refine c_then ?_
      refine c_seq ?_
      refine c_region ?_
      refine wl_val (r_assign (v := .int .i64 0) rfl) rfl ?_
      refine wl_nil ?_
      refine c_then ?_
      refine wp_ret ?_
      refine ret1 Try.results68 ?_
      exact ⟨congrArg vi (by unfold absentE; rw [if_pos (by omega), if_pos (Classical.not_not.1 h11_5)]), hS16.fin⟩
  · refine wl_val (r_assign (v := .bool _) rfl) rfl ?_
    refine wl_nil ?_
    refine c_then ?_
    refine c_false rfl ?_
    refine c_seq ?_
    refine c_region ?_
    refine wl_val (r_move (v := .int .i64 _) rfl) rfl ?_
    refine wl_val (r_addn (b := 2) rfl rfl (by omega)) rfl ?_
    refine wl_dec (r_eql rfl rfl) rfl (fun h6_2 => ?_) (fun h6_2 => ?_)
    · refine wl_val (r_assign (v := .bool _) rfl) rfl ?_
      refine wl_nil ?_
      refine c_then ?_
      refine c_true rfl ?_
      refine c_seq ?_
      refine c_drawS 14 hMixed hS11 ?_
      intro w17 hS18
      refine g_take 0 rfl (by decide +kernel) rfl (fun _ _ _ h => h) hS18 (fun wF hF => r_field fa95_1 rfl) ?_
      refine g_take 1 rfl (by decide +kernel) rfl (fun _ _ _ h => h) hS18 (fun wF hF => r_loadB1 ti53.und rfl rfl (hF.heap (.tail _ (.head _))) (mp_get hlv)) ?_
      refine g_take 2 rfl (by decide +kernel) rfl (fun _ _ _ h => h) hS18 (fun wF hF => r_move (v := .int .i64 _) rfl) ?_
      refine g_take 3 rfl (by decide +kernel) rfl (fun _ _ _ h => h) hS18 (fun wF hF => r_ix32 ti53.und ti49 rfl rfl (hp.st hF) h32 rfl (by omega)) ?_
      refine g_take 4 rfl (by decide +kernel) rfl (fun _ _ _ h => h) hS18 (fun wF hF => r_load32 ti49 rfl rfl (hp.st hF) h32 (by omega)) ?_
      refine g_take 5 rfl (by decide +kernel) rfl (fun _ _ _ h => h) hS18 (fun wF hF => r_field fa95_1 rfl) ?_
      refine g_take 6 rfl (by decide +kernel) rfl (fun _ _ _ h => h) hS18 (fun wF hF => r_loadB1 ti53.und rfl rfl (hF.heap (.tail _ (.head _))) (mp_get hlv)) ?_
      refine g_take 7 rfl (by decide +kernel) rfl (fun _ _ _ h => h) hS18 (fun wF hF => r_move (v := .int .i64 _) rfl) ?_
      refine g_take 8 rfl (by decide +kernel) rfl (fun _ _ _ h => h) hS18 (fun wF hF => r_addn (b := 1) rfl rfl (by omega)) ?_
      refine g_take 9 rfl (by decide +kernel) rfl (fun _ _ _ h => h) hS18 (fun wF hF => r_ix32 ti53.und ti49 rfl rfl (hp.st hF) h32 rfl (by omega)) ?_
      refine g_take 10 rfl (by decide +kernel) rfl (fun _ _ _ h => h) hS18 (fun wF hF => r_load32 ti49 rfl rfl (hp.st hF) h32 (by omega)) ?_
      refine g_all (rs := [11, 12]) (by decide +kernel) (by decide +kernel) rfl ?_
      simp only [List.forall_mem_cons, List.not_mem_nil, false_imp_iff, implies_true, and_true]
      refine ⟨?_, ?_⟩
      · refine o_exv rfl (x_alloc (C := ((List.replicate 32 (0 : UInt8)).map b8)) hS18 ti49 rfl) rfl ?_
        rintro _ w19 ⟨b10, rfl, hS20⟩
        refine ⟨hS20.drop1, ?_⟩
        refine g_one 12 (by decide +kernel) (by decide +kernel) ?_
        refine o_exv rfl (x_alloc (C := ((List.replicate 32 (0 : UInt8)).map b8)) hS20 ti49 rfl) rfl ?_
        rintro _ w21 ⟨b11, rfl, hS22⟩
        refine ⟨hS22.drop1.drop1, ?_⟩
        refine g_one 13 (by decide +kernel) (by decide +kernel) ?_
        refine o_exs rfl (x_storeW [_] hS22 ti49 rfl rfl (by rw [List.length_map]; exact h32.gt (by omega)) (by simp) (one_b8 _)) rfl ?_
        intro w23 hS24
        simp only [List.cons_append, List.nil_append] at hS24
        refine ⟨hS24.drop1.drop1, ?_⟩
        refine g_tail (by decide +kernel) rfl (by decide +kernel) ?_
        refine wl_exs (x_storeW [] hS24 ti49 rfl rfl (by rw [List.length_map]; exact h32.gt (by omega)) (by simp) (one_b8 _)) rfl ?_
        intro w25 hS26
        simp only [List.cons_append, List.nil_append] at hS26
        refine wl_nil ?_
        refine c_then ?_
        refine c_seq ?_
        refine c_seq ?_
        refine c_region ?_
        refine wl_val (r_loadB ti49 rfl rfl (hS26.heap (.tail _ (.head _))) (by rw [List.length_map]; exact h32.gt (by omega))) rfl ?_
        refine wl_val (r_loadB ti49 rfl rfl (hS26.heap (.tail _ (.tail _ (.tail _ (.tail _ (.head _)))))) (by first | (simp [*]; done) | (simp [*] <;> omega) | omega)) rfl ?_
        refine wl_dec (r_eqlA (u := undef) eg49 rfl rfl (eqIs_b8 ti49.und ti5 _ _ (h32.gt (by omega)) hk)) rfl (fun h8_2 => ?_) (fun h8_2 => ?_)
        · refine wl_val (r_move (v := .bool _) rfl) rfl ?_
          refine wl_not rfl ?_
          refine wl_not rfl ?_
          refine wl_not rfl ?_
          refine wl_val (r_pick_t rfl (v := .bool true) rfl) rfl ?_
          refine wl_val (r_move (v := .bool _) rfl) rfl ?_
          refine wl_not rfl ?_
          refine wl_not rfl ?_
          refine wl_not rfl ?_
          refine wl_not rfl ?_
          refine wl_not rfl ?_
          refine wl_val (r_pick_t rfl (v := .bool true) rfl) rfl ?_
          refine wl_nil ?_
          refine c_then ?_
          refine c_true rfl ?_
          refine c_seq ?_
          refine c_region ?_
          refine wl_val (r_assign (v := .int .i64 12) rfl) rfl ?_
          refine wl_nil ?_
          refine c_then ?_
          refine wp_ret ?_
          refine c_thenR ?_
          refine c_inR ?_
          refine c_thenR ?_
          refine ret1 Try.results68 ?_
          exact ⟨congrArg vi (by unfold absentE; rw [if_neg (by omega), if_pos (by omega), if_pos (.inl h8_2)]), hS26.fin⟩
        · refine wl_val (r_move (v := .bool _) rfl) rfl ?_
          refine wl_val (r_loadB ti49 rfl rfl (hS26.heap (.head _)) (by rw [List.length_map]; exact h32.gt (by omega))) rfl ?_
          refine wl_val (r_build0 (cs := ((List.replicate 32 (0 : UInt8)).map b8)) ti49.und ti49 ti5) rfl ?_
          refine wl_dec (r_eqlA (u := undef) eg49 rfl rfl (eqIs_b8 ti49.und ti5 _ _ (h32.gt (by omega)) (by simp))) rfl (fun h8_6 => ?_) (fun h8_6 => ?_)
          · refine wl_val (r_pick_f rfl (v := .bool _) rfl) rfl ?_
            refine wl_val (r_move (v := .bool _) rfl) rfl ?_
            refine wl_not rfl ?_
            refine wl_not rfl ?_
            refine wl_not rfl ?_
            refine wl_not rfl ?_
            refine wl_not rfl ?_
            refine wl_val (r_pick_t rfl (v := .bool true) rfl) rfl ?_
            refine wl_nil ?_
            refine c_then ?_
            refine c_true rfl ?_
            refine c_seq ?_
            refine c_region ?_
            refine wl_val (r_assign (v := .int .i64 12) rfl) rfl ?_
            refine wl_nil ?_
            refine c_then ?_
            refine wp_ret ?_
            refine c_thenR ?_
            refine c_inR ?_
            refine c_thenR ?_
            refine ret1 Try.results68 ?_
            exact ⟨congrArg vi (by unfold absentE; rw [if_neg (by omega), if_pos (by omega), if_pos (.inr (.inr h8_6))]), hS26.fin⟩
          · refine wl_val (r_pick_f rfl (v := .bool _) rfl) rfl ?_
            refine wl_val (r_move (v := .bool _) rfl) rfl ?_
            refine wl_val (r_loadB ti49 rfl rfl (hS26.heap (.tail _ (.head _))) (by rw [List.length_map]; exact h32.gt (by omega))) rfl ?_
            refine wl_val (r_loadB ti49 rfl rfl (hS26.heap (.tail _ (.tail _ (.tail _ (.tail _ (.head _)))))) (by first | (simp [*]; done) | (simp [*] <;> omega) | omega)) rfl ?_
            refine wl_call (r_call fn145 rfl rfl) rfl (rdiffer_ok _ _ _ (h32.gt (by omega)) hk) ?_
            rintro _ w27 ⟨rfl, hx28⟩
            have hS29 := hS26.ext hx28
            refine wl_val (r_move (v := .int .i64 _) rfl) rfl ?_
            refine wl_dec (r_lss rfl rfl) rfl (fun h8_13 => ?_) (fun h8_13 => ?_)
            · refine wl_val (r_pick_f rfl (v := .bool _) rfl) rfl ?_
              refine wl_nil ?_
              refine c_then ?_
              refine c_true rfl ?_
              refine c_seq ?_
              refine c_region ?_
              refine wl_val (r_assign (v := .int .i64 12) rfl) rfl ?_
              refine wl_nil ?_
              refine c_then ?_
              refine wp_ret ?_
              refine c_thenR ?_
              refine c_inR ?_
              refine c_thenR ?_
              refine ret1 Try.results68 ?_
              exact ⟨congrArg vi (by unfold absentE; rw [if_neg (by omega), if_pos (by omega), if_pos (.inr (.inl (by omega)))]), hS29.fin⟩
            · refine wl_val (r_pick_f rfl (v := .bool _) rfl) rfl ?_
              refine wl_nil ?_
              refine c_then ?_
              refine c_false rfl ?_
              refine wp_skip ?_
              refine c_then ?_
              refine c_region ?_
              refine wl_val (r_loadB ti49 rfl rfl (hS29.heap (.tail _ (.head _))) (by rw [List.length_map]; exact h32.gt (by omega))) rfl ?_
              refine wl_val (r_loadB ti49 rfl rfl (hS29.heap (.head _)) (by rw [List.length_map]; exact h32.gt (by omega))) rfl ?_
              refine wl_call (r_call fn143 rfl rfl) rfl (leafOf_ok _ _ _ (h32.gt (by omega)) (h32.gt (by omega))) ?_
              rintro _ w30 ⟨rfl, hx31⟩
              have hS32 := hS29.ext hx31
              refine wl_exs (x_storeW [_, _] hS32 ti49 rfl rfl (by first | (simp [*]; done) | (simp [*] <;> omega) | omega) (by first | (simp [*]; done) | (simp [*] <;> omega) | omega) (by repeat' first | exact one_nil | exact one_b8 _ | exact one_v32 _ | exact one_all rfl | refine one_cons rfl ?_ | refine one_app ?_ ?_)) rfl ?_
              intro w33 hS34
              simp only [List.cons_append, List.nil_append] at hS34
              refine wl_nil ?_
              refine c_inN ?_
              refine c_then ?_
              refine c_seq ?_
              refine c_seq ?_
              refine c_drawS 5 hMixed hS34 ?_
              intro w35 hS36
              refine g_take 0 rfl (by decide +kernel) rfl (fun _ _ _ h => h) hS36 (fun wF hF => r_loadB ti49 rfl rfl (hF.heap (.tail _ (.tail _ (.tail _ (.tail _ (.head _)))))) (by first | (simp [*]; done) | (simp [*] <;> omega) | omega)) ?_
              refine g_take 1 rfl (by decide +kernel) rfl (fun _ _ _ h => h) hS36 (fun wF hF => r_loadB ti49 rfl rfl (hF.heap (.tail _ (.tail _ (.head _)))) (by first | (simp [*]; done) | (simp [*] <;> omega) | omega)) ?_
              refine g_take 2 rfl (by decide +kernel) rfl (fun _ _ _ h => h) hS36 (fun wF hF => r_loadB ti95 ag95 rfl (hF.heap (.tail _ (.tail _ (.tail _ (.head _))))) (by first | (simp [*]; done) | (simp [*] <;> omega) | omega)) ?_
              refine g_take 4 rfl (by decide +kernel) rfl (fun _ _ _ h => h) hS36 (fun wF hF => r_loadB ti49 rfl rfl (hF.heap (.tail _ (.tail _ (.tail _ (.tail _ (.tail _ (.head _))))))) (by first | (simp [*]; done) | (simp [*] <;> omega) | omega)) ?_
              refine g_one 3 (by decide +kernel) (by decide +kernel) ?_
              refine o_call rfl (r_call fn142 rfl rfl) rfl (rup_ok k (_) lv pa pc pl _ hk (by simp) hlv (hp.st hS36) h32 hpc hpm (by omega)) ?_
              rintro _ w37 ⟨rfl, hx38⟩
              have hS39 := hS36.ext hx38
              refine ⟨hS39, ?_⟩
              refine g_tail (by decide +kernel) rfl (by decide +kernel) ?_
              refine wl_dec (r_neqA (u := undef) eg49 rfl rfl (eqIs_b8 ti49.und ti5 _ _ (upAll_len _ _ _ _ (by simp)) hr)) rfl (fun h11_5 => ?_) (fun h11_5 => ?_)
              · refine wl_nil ?_
                refine c_then ?_
                refine c_true rfl ?_
                refine c_seq ?_
                refine c_region ?_
                refine wl_val (r_assign (v := .int .i64 12) rfl) rfl ?_
                refine wl_nil ?_
                refine c_then ?_
                refine wp_ret ?_
                refine c_thenR ?_
                refine ret1 Try.results68 ?_
                exact ⟨congrArg vi (by unfold absentE; rw [if_neg (by omega), if_pos (by omega), if_neg (fun h => h.elim h8_2 (fun h => h.elim (fun h => h8_13 (by omega)) h8_6)), if_neg h11_5]), hS39.fin⟩
              · refine wl_nil ?_
                refine c_then ?_
                refine c_false rfl ?_
                refine wp_skip ?_
                refine c_then ?_
                refine c_seq ?_
                refine c_region ?_
                refine wl_val (r_assign (v := .int .i64 0) rfl) rfl ?_
                refine wl_nil ?_
                refine c_then ?_
                refine wp_ret ?_
                refine ret1 Try.results68 ?_
                exact ⟨congrArg vi (by unfold absentE; rw [if_neg (by omega), if_pos (by omega), if_neg (fun h => h.elim h8_2 (fun h => h.elim (fun h => h8_13 (by omega)) h8_6)), if_pos (Classical.not_not.1 h11_5)]), hS39.fin⟩
      · refine o_exv rfl (x_alloc (C := ((List.replicate 32 (0 : UInt8)).map b8)) hS18 ti49 rfl) rfl ?_
        rintro _ w40 ⟨b11, rfl, hS41⟩
        refine ⟨hS41.drop1, ?_⟩
        refine g_one 11 (by decide +kernel) (by decide +kernel) ?_
        refine o_exv rfl (x_alloc (C := ((List.replicate 32 (0 : UInt8)).map b8)) hS41 ti49 rfl) rfl ?_
        rintro _ w42 ⟨b10, rfl, hS43⟩
        refine ⟨hS43.drop1.drop1, ?_⟩
        refine g_one 13 (by decide +kernel) (by decide +kernel) ?_
        refine o_exs rfl (x_storeW [] hS43 ti49 rfl rfl (by rw [List.length_map]; exact h32.gt (by omega)) (by simp) (one_b8 _)) rfl ?_
        intro w44 hS45
        simp only [List.cons_append, List.nil_append] at hS45
        refine ⟨hS45.drop1.drop1, ?_⟩
        refine g_tail (by decide +kernel) rfl (by decide +kernel) ?_
        refine wl_exs (x_storeW [_] hS45 ti49 rfl rfl (by rw [List.length_map]; exact h32.gt (by omega)) (by simp) (one_b8 _)) rfl ?_
        intro w46 hS47
        simp only [List.cons_append, List.nil_append] at hS47
        refine wl_nil ?_
        refine c_then ?_
        refine c_seq ?_
        refine c_seq ?_
        refine c_region ?_
        refine wl_val (r_loadB ti49 rfl rfl (hS47.heap (.head _)) (by rw [List.length_map]; exact h32.gt (by omega))) rfl ?_
        refine wl_val (r_loadB ti49 rfl rfl (hS47.heap (.tail _ (.tail _ (.tail _ (.tail _ (.head _)))))) (by first | (simp [*]; done) | (simp [*] <;> omega) | omega)) rfl ?_
        refine wl_dec (r_eqlA (u := undef) eg49 rfl rfl (eqIs_b8 ti49.und ti5 _ _ (h32.gt (by omega)) hk)) rfl (fun h8_2 => ?_) (fun h8_2 => ?_)
        · refine wl_val (r_move (v := .bool _) rfl) rfl ?_
          refine wl_not rfl ?_
          refine wl_not rfl ?_
          refine wl_not rfl ?_
          refine wl_val (r_pick_t rfl (v := .bool true) rfl) rfl ?_
          refine wl_val (r_move (v := .bool _) rfl) rfl ?_
          refine wl_not rfl ?_
          refine wl_not rfl ?_
          refine wl_not rfl ?_
          refine wl_not rfl ?_
          refine wl_not rfl ?_
          refine wl_val (r_pick_t rfl (v := .bool true) rfl) rfl ?_
          refine wl_nil ?_
          refine c_then ?_
          refine c_true rfl ?_
          refine c_seq ?_
          refine c_region ?_
          refine wl_val (r_assign (v := .int .i64 12) rfl) rfl ?_
          refine wl_nil ?_
          refine c_then ?_
          refine wp_ret ?_
          refine c_thenR ?_
          refine c_inR ?_
          refine c_thenR ?_
          refine ret1 Try.results68 ?_
          exact ⟨congrArg vi (by unfold absentE; rw [if_neg (by omega), if_pos (by omega), if_pos (.inl h8_2)]), hS47.fin⟩
        · refine wl_val (r_move (v := .bool _) rfl) rfl ?_
          refine wl_val (r_loadB ti49 rfl rfl (hS47.heap (.tail _ (.head _))) (by rw [List.length_map]; exact h32.gt (by omega))) rfl ?_
          refine wl_val (r_build0 (cs := ((List.replicate 32 (0 : UInt8)).map b8)) ti49.und ti49 ti5) rfl ?_
          refine wl_dec (r_eqlA (u := undef) eg49 rfl rfl (eqIs_b8 ti49.und ti5 _ _ (h32.gt (by omega)) (by simp))) rfl (fun h8_6 => ?_) (fun h8_6 => ?_)
          · refine wl_val (r_pick_f rfl (v := .bool _) rfl) rfl ?_
            refine wl_val (r_move (v := .bool _) rfl) rfl ?_
            refine wl_not rfl ?_
            refine wl_not rfl ?_
            refine wl_not rfl ?_
            refine wl_not rfl ?_
            refine wl_not rfl ?_
            refine wl_val (r_pick_t rfl (v := .bool true) rfl) rfl ?_
            refine wl_nil ?_
            refine c_then ?_
            refine c_true rfl ?_
            refine c_seq ?_
            refine c_region ?_
            refine wl_val (r_assign (v := .int .i64 12) rfl) rfl ?_
            refine wl_nil ?_
            refine c_then ?_
            refine wp_ret ?_
            refine c_thenR ?_
            refine c_inR ?_
            refine c_thenR ?_
            refine ret1 Try.results68 ?_
            exact ⟨congrArg vi (by unfold absentE; rw [if_neg (by omega), if_pos (by omega), if_pos (.inr (.inr h8_6))]), hS47.fin⟩
          · refine wl_val (r_pick_f rfl (v := .bool _) rfl) rfl ?_
            refine wl_val (r_move (v := .bool _) rfl) rfl ?_
            refine wl_val (r_loadB ti49 rfl rfl (hS47.heap (.head _)) (by rw [List.length_map]; exact h32.gt (by omega))) rfl ?_
            refine wl_val (r_loadB ti49 rfl rfl (hS47.heap (.tail _ (.tail _ (.tail _ (.tail _ (.head _)))))) (by first | (simp [*]; done) | (simp [*] <;> omega) | omega)) rfl ?_
            refine wl_call (r_call fn145 rfl rfl) rfl (rdiffer_ok _ _ _ (h32.gt (by omega)) hk) ?_
            rintro _ w48 ⟨rfl, hx49⟩
            have hS50 := hS47.ext hx49
            refine wl_val (r_move (v := .int .i64 _) rfl) rfl ?_
            refine wl_dec (r_lss rfl rfl) rfl (fun h8_13 => ?_) (fun h8_13 => ?_)
            · refine wl_val (r_pick_f rfl (v := .bool _) rfl) rfl ?_
              refine wl_nil ?_
              refine c_then ?_
              refine c_true rfl ?_
              refine c_seq ?_
              refine c_region ?_
              refine wl_val (r_assign (v := .int .i64 12) rfl) rfl ?_
              refine wl_nil ?_
              refine c_then ?_
              refine wp_ret ?_
              refine c_thenR ?_
              refine c_inR ?_
              refine c_thenR ?_
              refine ret1 Try.results68 ?_
              exact ⟨congrArg vi (by unfold absentE; rw [if_neg (by omega), if_pos (by omega), if_pos (.inr (.inl (by omega)))]), hS50.fin⟩
            · refine wl_val (r_pick_f rfl (v := .bool _) rfl) rfl ?_
              refine wl_nil ?_
              refine c_then ?_
              refine c_false rfl ?_
              refine wp_skip ?_
              refine c_then ?_
              refine c_region ?_
              refine wl_val (r_loadB ti49 rfl rfl (hS50.heap (.head _)) (by rw [List.length_map]; exact h32.gt (by omega))) rfl ?_
              refine wl_val (r_loadB ti49 rfl rfl (hS50.heap (.tail _ (.head _))) (by rw [List.length_map]; exact h32.gt (by omega))) rfl ?_
              refine wl_call (r_call fn143 rfl rfl) rfl (leafOf_ok _ _ _ (h32.gt (by omega)) (h32.gt (by omega))) ?_
              rintro _ w51 ⟨rfl, hx52⟩
              have hS53 := hS50.ext hx52
              refine wl_exs (x_storeW [_, _] hS53 ti49 rfl rfl (by first | (simp [*]; done) | (simp [*] <;> omega) | omega) (by first | (simp [*]; done) | (simp [*] <;> omega) | omega) (by repeat' first | exact one_nil | exact one_b8 _ | exact one_v32 _ | exact one_all rfl | refine one_cons rfl ?_ | refine one_app ?_ ?_)) rfl ?_
              intro w54 hS55
              simp only [List.cons_append, List.nil_append] at hS55
              refine wl_nil ?_
              refine c_inN ?_
              refine c_then ?_
              refine c_seq ?_
              refine c_seq ?_
              refine c_drawS 5 hMixed hS55 ?_
              intro w56 hS57
              refine g_take 0 rfl (by decide +kernel) rfl (fun _ _ _ h => h) hS57 (fun wF hF => r_loadB ti49 rfl rfl (hF.heap (.tail _ (.tail _ (.tail _ (.tail _ (.head _)))))) (by first | (simp [*]; done) | (simp [*] <;> omega) | omega)) ?_
              refine g_take 1 rfl (by decide +kernel) rfl (fun _ _ _ h => h) hS57 (fun wF hF => r_loadB ti49 rfl rfl (hF.heap (.tail _ (.tail _ (.head _)))) (by first | (simp [*]; done) | (simp [*] <;> omega) | omega)) ?_
              refine g_take 2 rfl (by decide +kernel) rfl (fun _ _ _ h => h) hS57 (fun wF hF => r_loadB ti95 ag95 rfl (hF.heap (.tail _ (.tail _ (.tail _ (.head _))))) (by first | (simp [*]; done) | (simp [*] <;> omega) | omega)) ?_
              refine g_take 4 rfl (by decide +kernel) rfl (fun _ _ _ h => h) hS57 (fun wF hF => r_loadB ti49 rfl rfl (hF.heap (.tail _ (.tail _ (.tail _ (.tail _ (.tail _ (.head _))))))) (by first | (simp [*]; done) | (simp [*] <;> omega) | omega)) ?_
              refine g_one 3 (by decide +kernel) (by decide +kernel) ?_
              refine o_call rfl (r_call fn142 rfl rfl) rfl (rup_ok k (_) lv pa pc pl _ hk (by simp) hlv (hp.st hS57) h32 hpc hpm (by omega)) ?_
              rintro _ w58 ⟨rfl, hx59⟩
              have hS60 := hS57.ext hx59
              refine ⟨hS60, ?_⟩
              refine g_tail (by decide +kernel) rfl (by decide +kernel) ?_
              refine wl_dec (r_neqA (u := undef) eg49 rfl rfl (eqIs_b8 ti49.und ti5 _ _ (upAll_len _ _ _ _ (by simp)) hr)) rfl (fun h11_5 => ?_) (fun h11_5 => ?_)
              · refine wl_nil ?_
                refine c_then ?_
                refine c_true rfl ?_
                refine c_seq ?_
                refine c_region ?_
                refine wl_val (r_assign (v := .int .i64 12) rfl) rfl ?_
                refine wl_nil ?_
                refine c_then ?_
                refine wp_ret ?_
                refine c_thenR ?_
                refine ret1 Try.results68 ?_
                exact ⟨congrArg vi (by unfold absentE; rw [if_neg (by omega), if_pos (by omega), if_neg (fun h => h.elim h8_2 (fun h => h.elim (fun h => h8_13 (by omega)) h8_6)), if_neg h11_5]), hS60.fin⟩
              · refine wl_nil ?_
                refine c_then ?_
                refine c_false rfl ?_
                refine wp_skip ?_
                refine c_then ?_
                refine c_seq ?_
                refine c_region ?_
                refine wl_val (r_assign (v := .int .i64 0) rfl) rfl ?_
                refine wl_nil ?_
                refine c_then ?_
                refine wp_ret ?_
                refine ret1 Try.results68 ?_
                exact ⟨congrArg vi (by unfold absentE; rw [if_neg (by omega), if_pos (by omega), if_neg (fun h => h.elim h8_2 (fun h => h.elim (fun h => h8_13 (by omega)) h8_6)), if_pos (Classical.not_not.1 h11_5)]), hS60.fin⟩
    · refine wl_val (r_assign (v := .bool _) rfl) rfl ?_
      refine wl_nil ?_
      refine c_then ?_
      refine c_false rfl ?_
      refine c_seq ?_
      refine c_region ?_
      refine wl_val (r_assign (v := .int .i64 12) rfl) rfl ?_
      refine wl_nil ?_
      refine c_then ?_
      refine wp_ret ?_
      refine c_inR ?_
      refine c_thenR ?_
      refine ret1 Try.results68 ?_
      exact ⟨congrArg vi (by unfold absentE; rw [if_neg (by omega), if_neg (by omega)]), hS11.fin⟩

theorem rsplit_ok (l : List (List UInt8)) (lev : Nat) (a : Option Addr) (n c : Nat) (w : World) (hb : Row w a (l.flatten.map b8)) (h64 : SN 64 l) (hl : l.length = n) (hc : n ≤ c) (hn : n ≤ 1099511627776) (hlev : lev < 256) :
    Ret Try.prog 160 [.slice a n c, vi lev] w (fun v w' => ∃ a1 n1 c1 a2 n2 c2, v = .tuple #[.slice a1 n1 c1, .slice a2 n2 c2] ∧ (l.filter (fun e => bitL e lev == 0)).length = n1 ∧ n1 ≤ c1 ∧ (l.filter (fun e => !(bitL e lev == 0))).length = n2 ∧ n2 ≤ c2 ∧ n1 ≤ n ∧ n2 ≤ n ∧ St w [] w' [.row (.slice a1 n1 c1) 131 64 n1 ((l.filter (fun e => bitL e lev == 0)).flatten.map b8), .row (.slice a2 n2 c2) 131 64 n2 ((l.filter (fun e => !(bitL e lev == 0))).flatten.map b8)]) := by
  refine enter Try.func160 rfl Try.ntmps160 rfl ?_
  have hS := St.refl w []
  refine c_seq ?_
  refine c_region ?_
  refine wl_val (r_assign (v := .slice none 0 0) rfl) rfl ?_
  refine wl_val (r_assign (v := .slice none 0 0) rfl) rfl ?_
  refine wl_nil ?_
  refine c_then ?_
  refine c_seq ?_
  refine c_seq ?_
  refine c_region ?_
  refine wl_val (r_move (v := .slice _ _ _) rfl) rfl ?_
  refine wl_val (r_len (T := 124) rfl ti124.und rfl _ rfl) rfl ?_
  refine wl_val (r_move (v := .int .i64 0) rfl) rfl ?_
  refine wl_nil ?_
  refine c_then ?_
  refine c_block ?_
  refine c_loopE [1, 8, 9] (fun d e w' => ∃ (i : Nat) (a4 : Option Addr) (n4 : Nat) (c4 : Nat) (a5 : Option Addr) (n5 : Nat) (c5 : Nat), Kw.look e 10 = vi i ∧ Kw.look e 4 = .slice a4 n4 c4 ∧ Kw.look e 5 = .slice a5 n5 c5 ∧ d = n - i ∧ St w [] w' [.row (.slice a4 n4 c4) 131 64 n4 (((l.take i).filter (fun e => bitL e lev == 0)).flatten.map b8), .row (.slice a5 n5 c5) 131 64 n5 (((l.take i).filter (fun e => !(bitL e lev == 0))).flatten.map b8)] ∧ (i ≤ n) ∧ (((l.take i).filter (fun e => bitL e lev == 0)).length = n4) ∧ (((l.take i).filter (fun e => !(bitL e lev == 0))).length = n5) ∧ (n4 ≤ c4) ∧ (n5 ≤ c5) ∧ (n4 ≤ i ∧ n5 ≤ i)) (n - 0) ?_ ?_
  · exact ⟨0, none, 0, 0, none, 0, 0, rfl, rfl, rfl, rfl, hS.nilRow.nilRow, Nat.zero_le _, rfl, rfl, Nat.le_refl _, Nat.le_refl _, Nat.le_refl _, Nat.le_refl _⟩
  · rintro d4 e1 w2 ⟨i, a4, n4, c4, a5, n5, c5, hc0_10, hc0_4, hc0_5, rfl, hS3, hi, hn4, hn5, hc4, hc5, hni⟩ -
    refine c_set (d := 10) hc0_10 ?_
    refine c_set (d := 4) hc0_4 ?_
    refine c_set (d := 5) hc0_5 ?_
    refine c_seq ?_
    refine c_region ?_
    refine wl_dec (r_lss rfl rfl) rfl (fun h2_0 => ?_) (fun h2_0 => ?_)
    · refine wl_nil ?_
      refine c_then ?_
      refine c_seq ?_
      refine c_true rfl ?_
      refine wp_skip ?_
      refine c_then ?_
      refine c_seq ?_
      refine c_block ?_
      refine c_seq ?_
      refine c_region ?_
      refine wl_val (r_ixN ti124.und ti131 rfl rfl (hb.st hS3) h64 hl (by omega) (by decide)) rfl ?_
      refine wl_val (r_loadN ti131 ag131 rfl (hb.st hS3) h64 (by omega) (by decide)) rfl ?_
      refine wl_exv (x_alloc (C := ((List.replicate 64 (0 : UInt8)).map b8)) hS3 ti131 rfl) rfl ?_
      rintro _ w5 ⟨b7, rfl, hS6⟩
      refine wl_exs (x_storeW [] hS6 ti131 rfl rfl (by rw [List.length_map]; exact h64.gt (by omega)) (by simp) (one_b8 _)) rfl ?_
      intro w7 hS8
      simp only [List.cons_append, List.nil_append] at hS8
      refine wl_nil ?_
      refine c_then ?_
      refine c_seq ?_
      refine c_region ?_
      refine wl_val (r_field fa131_0 rfl) rfl ?_
      refine wl_val (r_loadBPm ti49 rfl rfl (hS8.heap (.head _)) (by rw [h64.gt (by omega)]; decide)) rfl ?_
      refine wl_val (r_move (v := .int .i64 _) rfl) rfl ?_
      refine wl_call (r_call fn166 rfl rfl) rfl (rbit_ok _ _ _ (by rw [List.length_take, List.length_drop, h64.gt (by omega)]; decide) hlev) ?_
      rintro _ w9 ⟨rfl, hx10⟩
      have hS11 := hS8.ext hx10
      refine wl_dec (r_eql rfl rfl) rfl (fun h4_4 => ?_) (fun h4_4 => ?_)
      · refine wl_nil ?_
        refine c_then ?_
        refine c_true rfl ?_
        refine c_region ?_
        refine wl_val (r_move (v := .slice _ _ _) rfl) rfl ?_
        refine wl_val (r_loadB ti131 ag131 rfl (hS11.heap (.head _)) (by rw [List.length_map]; exact h64.gt (by omega))) rfl ?_
        refine wl_exv (x_litA1 hS11 ti124.und ti131 rfl (by rw [List.length_map]; exact h64.gt (by omega)) rfl (by decide) (by decide)) rfl ?_
        rintro _ w12 ⟨b21, rfl, hS13⟩
        refine wl_exv (x_append [_, _] hS13 ti124.und ti131 rfl (by decide) rfl rfl (Row.of_at (at_all (hS13.heap (.head _)))) (by rw [List.length_map]; exact h64.gt (by omega)) (by first | exact one_b8 _ | exact one_v32 _ | (intro c hc; simp only [List.mem_cons, List.not_mem_nil, or_false] at hc; (first | subst hc | rcases hc with rfl | rfl) <;> rfl)) (by first | omega | (simp [*]; done) | (simp [*] <;> omega)) (by first | omega | (simp [*]; done) | (simp [*] <;> omega)) _ rfl) rfl ?_
        rintro _ w14 ⟨aq16, cq16, rfl, hcq16, hS15⟩
        simp only [List.cons_append, List.nil_append] at hS15
        refine wl_val (r_assign (v := .slice _ _ _) rfl) rfl ?_
        refine wl_nil ?_
        refine c_inN ?_
        refine c_then ?_
        refine c_region ?_
        refine wl_val (r_addn (b := 1) rfl rfl (by omega)) rfl ?_
        refine wl_val (r_move (v := .int .i64 _) rfl) rfl ?_
        refine wl_nil ?_
        refine c_then ?_
        rw [bitL_take (by omega)] at h4_4
        have hp : (bitL (gt l i) lev == 0) = true := by rw [beq_iff_eq]; omega
        have e0 := filt_t (p := (fun e => bitL e lev == 0)) (l := l) (i := i) (by omega) (by first | exact hp | simp [hp])
        have e1 := filt_f (p := (fun e => !(bitL e lev == 0))) (l := l) (i := i) (by omega) (by first | exact hp | simp [hp])
        rw [← List.map_append, ← flat_snoc, ← e0] at hS15
        rw [← e1] at hS15
        refine ⟨n - (i + 1), _, by omega, rfl, ⟨i + 1, _, _, _, _, _, _, rfl, rfl, rfl, rfl, hS15.drop1.drop1, by omega, ?_, ?_, hcq16, hc5, by omega⟩, ⟨rfl, rfl, rfl, trivial⟩⟩
        · rw [e0]; rw [List.length_append, hn4]; rfl
        · rw [e1]; exact hn5
      · refine wl_nil ?_
        refine c_then ?_
        refine c_false rfl ?_
        refine c_region ?_
        refine wl_val (r_move (v := .slice _ _ _) rfl) rfl ?_
        refine wl_val (r_loadB ti131 ag131 rfl (hS11.heap (.head _)) (by rw [List.length_map]; exact h64.gt (by omega))) rfl ?_
        refine wl_exv (x_litA1 hS11 ti124.und ti131 rfl (by rw [List.length_map]; exact h64.gt (by omega)) rfl (by decide) (by decide)) rfl ?_
        rintro _ w17 ⟨b25, rfl, hS18⟩
        refine wl_exv (x_append [_, _, _] hS18 ti124.und ti131 rfl (by decide) rfl rfl (Row.of_at (at_all (hS18.heap (.head _)))) (by rw [List.length_map]; exact h64.gt (by omega)) (by first | exact one_b8 _ | exact one_v32 _ | (intro c hc; simp only [List.mem_cons, List.not_mem_nil, or_false] at hc; (first | subst hc | rcases hc with rfl | rfl) <;> rfl)) (by first | omega | (simp [*]; done) | (simp [*] <;> omega)) (by first | omega | (simp [*]; done) | (simp [*] <;> omega)) _ rfl) rfl ?_
        rintro _ w19 ⟨aq21, cq21, rfl, hcq21, hS20⟩
        simp only [List.cons_append, List.nil_append] at hS20
        refine wl_val (r_assign (v := .slice _ _ _) rfl) rfl ?_
        refine wl_nil ?_
        refine c_inN ?_
        refine c_then ?_
        refine c_region ?_
        refine wl_val (r_addn (b := 1) rfl rfl (by omega)) rfl ?_
        refine wl_val (r_move (v := .int .i64 _) rfl) rfl ?_
        refine wl_nil ?_
        refine c_then ?_
        rw [bitL_take (by omega)] at h4_4
        have hp : (bitL (gt l i) lev == 0) = false := by rw [beq_eq_false_iff_ne]; omega
        have e0 := filt_f (p := (fun e => bitL e lev == 0)) (l := l) (i := i) (by omega) (by first | exact hp | simp [hp])
        have e1 := filt_t (p := (fun e => !(bitL e lev == 0))) (l := l) (i := i) (by omega) (by first | exact hp | simp [hp])
        rw [← List.map_append, ← flat_snoc, ← e1] at hS20
        rw [← e0] at hS20
        refine ⟨n - (i + 1), _, by omega, rfl, ⟨i + 1, _, _, _, _, _, _, rfl, rfl, rfl, rfl, hS20.drop1.drop1, by omega, ?_, ?_, hc4, hcq21, by omega⟩, ⟨rfl, rfl, rfl, trivial⟩⟩
        · rw [e0]; exact hn4
        · rw [e1]; rw [List.length_append, hn5]; rfl
    · refine wl_nil ?_
      refine c_then ?_
      refine c_seq ?_
      refine c_false rfl ?_
      refine wp_exit ?_
      refine c_thenE ?_
      refine c_thenE ?_
      refine c_inE ?_
      refine c_then ?_
      refine c_seq ?_
      refine c_region ?_
      refine wl_val (r_move (v := .slice _ _ _) rfl) rfl ?_
      refine wl_val (r_move (v := .slice _ _ _) rfl) rfl ?_
      refine wl_val (r_assign (v := .slice _ _ _) rfl) rfl ?_
      refine wl_val (r_assign (v := .slice _ _ _) rfl) rfl ?_
      refine wl_nil ?_
      refine c_then ?_
      refine wp_ret ?_
      refine ret2 Try.results160 rfl rfl ?_
      obtain rfl : i = n := by omega
      rw [List.take_of_length_le (by omega)] at hS3 hn4 hn5
      exact ⟨_, _, _, _, _, _, rfl, hn4, hc4, hn5, hc5, hni.1, hni.2, hS3⟩

theorem rmapRoot_step (f : Nat) (IH : ∀ g, f = g + 1 → ∀ (l : List (List UInt8)) (lev : Nat) (a : Option Addr) (n c : Nat) (w : World), lev + g = 256 → Row w a (l.flatten.map b8) → SN 64 l → l.length = n → n ≤ c → n ≤ 1099511627776 → Parts lev l → Ret Try.prog 92 [.slice a n c, vi lev] w (fun v w' => v = .agg ((mapRootF g l lev).map b8).toArray ∧ St w [] w' [])) (l : List (List UInt8)) (lev : Nat) (a : Option Addr) (n c : Nat) (w : World) (hlf : lev + f = 256) (hb : Row w a (l.flatten.map b8)) (h64 : SN 64 l) (hl : l.length = n) (hc : n ≤ c) (hn : n ≤ 1099511627776) (hpt : Parts lev l) :
    Ret Try.prog 92 [.slice a n c, vi lev] w (fun v w' => v = .agg ((mapRootF f l lev).map b8).toArray ∧ St w [] w' []) := by
  refine enter Try.func92 rfl Try.ntmps92 rfl ?_
  have hS := St.refl w []
  refine c_seq ?_
  refine c_region ?_
  refine wl_exv (x_alloc (C := ((List.replicate 32 (0 : UInt8)).map b8)) hS ti49 rfl) rfl ?_
  rintro _ w1 ⟨b4, rfl, hS2⟩
  refine wl_nil ?_
  refine c_then ?_
  refine c_seq ?_
  refine c_seq ?_
  refine c_region ?_
  refine wl_val (r_move (v := .slice _ _ _) rfl) rfl ?_
  refine wl_val (r_len (T := 124) rfl ti124.und rfl _ rfl) rfl ?_
  refine wl_nil ?_
  refine c_then ?_
  refine c_block ?_
  refine c_seq ?_
  refine c_region ?_
  refine wl_dec (r_eql rfl rfl) rfl (fun h2_0 => ?_) (fun h2_0 => ?_)
  · refine wl_val (r_assign (v := .bool _) rfl) rfl ?_
    refine wl_nil ?_
    refine c_then ?_
    refine c_true rfl ?_
    refine c_seq ?_
    refine c_region ?_
    refine wl_val (r_build0 (cs := ((List.replicate 32 (0 : UInt8)).map b8)) ti49.und ti49 ti5) rfl ?_
    refine wl_exs (x_storeW [] hS2 ti49 rfl rfl (by first | (simp [*]; done) | (simp [*] <;> omega) | omega) (by first | (simp [*]; done) | (simp [*] <;> omega) | omega) (by repeat' first | exact one_nil | exact one_b8 _ | exact one_v32 _ | exact one_all rfl | refine one_cons rfl ?_ | refine one_app ?_ ?_)) rfl ?_
    intro w3 hS4
    simp only [List.cons_append, List.nil_append] at hS4
    refine wl_nil ?_
    refine c_then ?_
    refine wp_ret ?_
    refine c_inR ?_
    refine c_thenR ?_
    refine retc Try.results92 ⟨_, rfl, run_loadVar_blk ti49 rfl (hS4.heap (.head _)) (by first | (rw [List.length_map]; exact mapRootF_len _ _ _) | simp)⟩ ?_
    obtain rfl : l = [] := List.eq_nil_of_length_eq_zero (by omega)
    exact ⟨by rw [mapRootF_0], hS4.fin⟩
  · refine wl_val (r_assign (v := .bool _) rfl) rfl ?_
    refine wl_nil ?_
    refine c_then ?_
    refine c_false rfl ?_
    refine c_seq ?_
    refine c_region ?_
    refine wl_dec (r_eql rfl rfl) rfl (fun h4_0 => ?_) (fun h4_0 => ?_)
    · refine wl_val (r_assign (v := .bool _) rfl) rfl ?_
      refine wl_nil ?_
      refine c_then ?_
      refine c_true rfl ?_
      refine c_seq ?_
      refine c_drawS 8 hMixed hS2 ?_
      intro w5 hS6
      refine g_take 0 rfl (by decide +kernel) rfl (fun _ _ _ h => h) hS6 (fun wF hF => r_move (v := .slice _ _ _) rfl) ?_
      refine g_take 1 rfl (by decide +kernel) rfl (fun _ _ _ h => h) hS6 (fun wF hF => r_ixN (m := 0) ti124.und ti131 rfl rfl (hb.st hF) h64 hl (by omega) (by decide)) ?_
      refine g_take 2 rfl (by decide +kernel) rfl (fun _ _ _ h => h) hS6 (fun wF hF => r_fieldR fa131_0 rfl (hb.st hF) (by rw [flatN_lenV h64]; omega)) ?_
      refine g_take 3 rfl (by decide +kernel) rfl (fun _ _ _ h => h) hS6 (fun wF hF => r_loadNF (off := 0) ti49 rfl rfl (hb.st hF) h64 (by omega) (by decide) (by decide)) ?_
      refine g_take 4 rfl (by decide +kernel) rfl (fun _ _ _ h => h) hS6 (fun wF hF => r_move (v := .slice _ _ _) rfl) ?_
      refine g_take 5 rfl (by decide +kernel) rfl (fun _ _ _ h => h) hS6 (fun wF hF => r_ixN (m := 0) ti124.und ti131 rfl rfl (hb.st hF) h64 hl (by omega) (by decide)) ?_
      refine g_take 6 rfl (by decide +kernel) rfl (fun _ _ _ h => h) hS6 (fun wF hF => r_fieldR fa131_1 rfl (hb.st hF) (by rw [flatN_lenV h64]; omega)) ?_
      refine g_take 7 rfl (by decide +kernel) rfl (fun _ _ _ h => h) hS6 (fun wF hF => r_loadNF (off := 32) ti49 rfl rfl (hb.st hF) h64 (by omega) (by decide) (by decide)) ?_
      refine g_tail (by decide +kernel) rfl (by decide +kernel) ?_
      refine wl_call (r_call fn143 rfl rfl) rfl (leafOf_ok _ _ _ (by simp only [List.length_take, List.length_drop, h64.gt (show 0 < l.length by omega)]; decide) (by simp only [List.length_take, List.length_drop, h64.gt (show 0 < l.length by omega)]; decide)) ?_
      rintro _ w7 ⟨rfl, hx8⟩
      have hS9 := hS6.ext hx8
      refine wl_exs (x_storeW [] hS9 ti49 rfl rfl (by first | (simp [*]; done) | (simp [*] <;> omega) | omega) (by first | (simp [*]; done) | (simp [*] <;> omega) | omega) (by repeat' first | exact one_nil | exact one_b8 _ | exact one_v32 _ | exact one_all rfl | refine one_cons rfl ?_ | refine one_app ?_ ?_)) rfl ?_
      intro w10 hS11
      simp only [List.cons_append, List.nil_append] at hS11
      refine wl_nil ?_
      refine c_then ?_
      refine wp_ret ?_
      refine c_inR ?_
      refine c_thenR ?_
      refine retc Try.results92 ⟨_, rfl, run_loadVar_blk ti49 rfl (hS11.heap (.head _)) (by first | (rw [List.length_map]; exact mapRootF_len _ _ _) | simp)⟩ ?_
      obtain ⟨e, rfl⟩ : ∃ e, l = [e] := List.length_eq_one_iff.1 (by omega)
      rw [ent_split (h64.gt (by omega))]
      exact ⟨by rw [mapRootF_1]; rfl, hS11.fin⟩
    · refine wl_val (r_assign (v := .bool _) rfl) rfl ?_
      refine wl_nil ?_
      refine c_then ?_
      refine c_false rfl ?_
      refine wp_skip ?_
      refine c_inN ?_
      refine c_then ?_
      refine c_seq ?_
      obtain ⟨g, rfl⟩ := hpt.more hlf (by omega)
      refine c_region ?_
      refine wl_val (r_move (v := .slice _ _ _) rfl) rfl ?_
      refine wl_val (r_move (v := .int .i64 _) rfl) rfl ?_
      refine wl_call (r_call fn160 rfl rfl) rfl (rsplit_ok l lev _ _ _ _ (hb.st hS2) h64 hl hc hn (by omega)) ?_
      rintro _ w12 ⟨a1, n1, c1, a2, n2, c2, rfl, hn1, hc1, hn2, hc2, hm1, hm2, hx13⟩
      have hS14 := hS2.call hx13
      simp only [List.cons_append, List.nil_append] at hS14
      refine wl_val (r_move (v := .tuple _) rfl) rfl ?_
      refine wl_val (r_extract (v := .slice _ _ _) rfl rfl) rfl ?_
      refine wl_val (r_extract (v := .slice _ _ _) rfl rfl) rfl ?_
      refine wl_val (r_assign (v := .slice _ _ _) rfl) rfl ?_
      refine wl_val (r_assign (v := .slice _ _ _) rfl) rfl ?_
      refine wl_nil ?_
      refine c_then ?_
      refine c_seq ?_
      refine c_region ?_
      refine wl_val (r_move (v := .slice _ _ _) rfl) rfl ?_
      refine wl_val (r_move (v := .int .i64 _) rfl) rfl ?_
      refine wl_val (r_addn (b := 1) rfl rfl (by omega)) rfl ?_
      refine wl_call (r_call fn92 rfl rfl) rfl (IH g rfl _ _ _ _ _ _ (by omega) (St.rowAt hS14 (.head _)) (h64.filter _) hn1 hc1 (by omega) hpt.zero) ?_
      rintro _ w15 ⟨rfl, hx16⟩
      have hS17 := hS14.ext hx16
      refine wl_val (r_move (v := .slice _ _ _) rfl) rfl ?_
      refine wl_val (r_move (v := .int .i64 _) rfl) rfl ?_
      refine wl_val (r_addn (b := 1) rfl rfl (by omega)) rfl ?_
      refine wl_call (r_call fn92 rfl rfl) rfl (IH g rfl _ _ _ _ _ _ (by omega) (St.rowAt hS17 (.tail _ (.head _))) (h64.filter _) hn2 hc2 (by omega) hpt.one) ?_
      rintro _ w18 ⟨rfl, hx19⟩
      have hS20 := hS17.ext hx19
      refine wl_call (r_call fn53 rfl rfl) rfl (rnode_ok _ _ _ (mapRootF_len _ _ _) (mapRootF_len _ _ _)) ?_
      rintro _ w21 ⟨rfl, hx22⟩
      have hS23 := hS20.ext hx22
      refine wl_exs (x_storeW [_, _] hS23 ti49 rfl rfl (by first | (simp [*]; done) | (simp [*] <;> omega) | omega) (by first | (simp [*]; done) | (simp [*] <;> omega) | omega) (by repeat' first | exact one_nil | exact one_b8 _ | exact one_v32 _ | exact one_all rfl | refine one_cons rfl ?_ | refine one_app ?_ ?_)) rfl ?_
      intro w24 hS25
      simp only [List.cons_append, List.nil_append] at hS25
      refine wl_nil ?_
      refine c_then ?_
      refine wp_ret ?_
      refine retc Try.results92 ⟨_, rfl, run_loadVar_blk ti49 rfl (hS25.heap (.tail _ (.tail _ (.head _)))) (by first | (rw [List.length_map]; exact mapRootF_len _ _ _) | simp)⟩ ?_
      exact ⟨by rw [mapRootF, if_neg (by omega), if_neg (by omega)], hS25.fin⟩

theorem rmapRoot_ok : ∀ (f : Nat) (l : List (List UInt8)) (lev : Nat) (a : Option Addr) (n c : Nat) (w : World) (hlf : lev + f = 256) (hb : Row w a (l.flatten.map b8)) (h64 : SN 64 l) (hl : l.length = n) (hc : n ≤ c) (hn : n ≤ 1099511627776) (hpt : Parts lev l), Ret Try.prog 92 [.slice a n c, vi lev] w (fun v w' => v = .agg ((mapRootF f l lev).map b8).toArray ∧ St w [] w' []) := by
  intro f
  induction f with
  | zero => exact fun l lev a n c w h1 h2 h3 h4 h5 h6 h7 => rmapRoot_step 0 (fun g hg => by omega) l lev a n c w h1 h2 h3 h4 h5 h6 h7
  | succ f ih => exact fun l lev a n c w h1 h2 h3 h4 h5 h6 h7 => rmapRoot_step (f + 1) (fun g hg => (Nat.succ.inj hg) ▸ ih) l lev a n c w h1 h2 h3 h4 h5 h6 h7

theorem changed_ok (root k old v : List UInt8) (lv : List UInt8) (pa : Option Addr) (pc : Nat) (pl : List (List UInt8)) (w : World) (hr : root.length = 32) (hk : k.length = 32) (ho : old.length = 32) (hv : v.length = 32) (hlv : lv.length = 32) (hp : Row w pa (pl.flatten.map b8)) (h32 : S32 pl) (hpc : pl.length ≤ pc) (hpm : pl.length ≤ 4398046511104) :
    Ret Try.prog 69 [.agg (root.map b8).toArray, .agg (k.map b8).toArray, .agg (old.map b8).toArray, .agg (v.map b8).toArray, .agg (lv.map b8 ++ [Value.slice pa pl.length pc]).toArray] w (fun x w' => x = .tuple #[.agg ((changedL root k old v lv pl).1.map b8).toArray, vi (changedL root k old v lv pl).2] ∧ St w [] w' []) := by
  refine enter Try.func69 rfl Try.ntmps69 rfl ?_
  have hS := St.refl w []
  refine c_seq ?_
  refine c_region ?_
  refine wl_exv (x_box hS (v := .agg _) rfl rfl) rfl ?_
  rintro _ w1 ⟨b5, rfl, hS2⟩
  refine wl_exv (x_box hS2 (v := .agg _) rfl rfl) rfl ?_
  rintro _ w3 ⟨b6, rfl, hS4⟩
  refine wl_exv (x_box hS4 (v := .agg _) rfl rfl) rfl ?_
  rintro _ w5 ⟨b7, rfl, hS6⟩
  refine wl_exv (x_box hS6 (v := .agg _) rfl rfl) rfl ?_
  rintro _ w7 ⟨bb8, rfl, hS8⟩
  refine wl_exv (x_box hS8 (v := .agg _) rfl rfl) rfl ?_
  rintro _ w9 ⟨b9, rfl, hS10⟩
  refine wl_exv (x_alloc (C := ((List.replicate 32 (0 : UInt8)).map b8)) hS10 ti49 rfl) rfl ?_
  rintro _ w11 ⟨b10, rfl, hS12⟩
  refine wl_val (r_assign (v := .int .i64 0) rfl) rfl ?_
  refine wl_nil ?_
  refine c_then ?_
  refine c_seq ?_
  refine c_seq ?_
  refine c_region ?_
  refine wl_val (r_loadB ti49 rfl rfl (hS12.heap (.tail _ (.tail _ (.head _)))) (by first | (simp [*]; done) | (simp [*] <;> omega) | omega)) rfl ?_
  refine wl_val (r_build0 (cs := ((List.replicate 32 (0 : UInt8)).map b8)) ti49.und ti49 ti5) rfl ?_
  refine wl_dec (r_eqlA (u := undef) eg49 rfl rfl (eqIs_b8 ti49.und ti5 _ _ (by first | (simp [*]; done) | (simp [*] <;> omega) | omega) (by first | (simp [*]; done) | (simp [*] <;> omega) | omega))) rfl (fun h1_2 => ?_) (fun h1_2 => ?_)
  · refine wl_nil ?_
    refine c_then ?_
    refine c_true rfl ?_
    refine c_seq ?_
    refine c_region ?_
    refine wl_val (r_build0 (cs := ((List.replicate 32 (0 : UInt8)).map b8)) ti49.und ti49 ti5) rfl ?_
    refine wl_exs (x_storeW [] hS12 ti49 rfl rfl (by first | (simp [*]; done) | (simp [*] <;> omega) | omega) (by first | (simp [*]; done) | (simp [*] <;> omega) | omega) (by repeat' first | exact one_nil | exact one_b8 _ | exact one_v32 _ | exact one_all rfl | refine one_cons rfl ?_ | refine one_app ?_ ?_)) rfl ?_
    intro w13 hS14
    simp only [List.cons_append, List.nil_append] at hS14
    refine wl_val (r_assign (v := .int .i64 2) rfl) rfl ?_
    refine wl_nil ?_
    refine c_then ?_
    refine wp_ret ?_
    refine c_thenR ?_
    refine ret2 Try.results69 ⟨_, rfl, run_loadVar_blk ti49 rfl (hS14.heap (.head _)) (by first | (rw [List.length_map]; exact upAll_len _ _ _ _ (by first | assumption | simp [mapRootF_len])) | simp)⟩ rfl ?_
    exact ⟨by unfold changedL; (rw [if_pos h1_2]) <;> rfl, hS14.fin⟩
  · refine wl_nil ?_
    refine c_then ?_
    refine c_false rfl ?_
    refine wp_skip ?_
    refine c_then ?_
    refine c_seq ?_
    refine c_seq ?_
    refine c_region ?_
    refine wl_val (r_loadB ti49 rfl rfl (hS12.heap (.tail _ (.tail _ (.tail _ (.head _))))) (by first | (simp [*]; done) | (simp [*] <;> omega) | omega)) rfl ?_
    refine wl_val (r_build0 (cs := ((List.replicate 32 (0 : UInt8)).map b8)) ti49.und ti49 ti5) rfl ?_
    refine wl_dec (r_neqA (u := undef) eg49 rfl rfl (eqIs_b8 ti49.und ti5 _ _ (by first | (simp [*]; done) | (simp [*] <;> omega) | omega) (by first | (simp [*]; done) | (simp [*] <;> omega) | omega))) rfl (fun h3_2 => ?_) (fun h3_2 => ?_)
    · refine wl_nil ?_
      refine c_then ?_
      refine c_true rfl ?_
      refine c_seq ?_
      refine c_seq ?_
      refine c_region ?_
      refine wl_val (r_loadB ti49 rfl rfl (hS12.heap (.tail _ (.tail _ (.tail _ (.tail _ (.tail _ (.head _))))))) (by first | (simp [*]; done) | (simp [*] <;> omega) | omega)) rfl ?_
      refine wl_val (r_loadB ti49 rfl rfl (hS12.heap (.tail _ (.tail _ (.tail _ (.tail _ (.head _)))))) (by first | (simp [*]; done) | (simp [*] <;> omega) | omega)) rfl ?_
      refine wl_val (r_loadB ti49 rfl rfl (hS12.heap (.tail _ (.tail _ (.tail _ (.head _))))) (by first | (simp [*]; done) | (simp [*] <;> omega) | omega)) rfl ?_
      refine wl_val (r_loadB ti95 ag95 rfl (hS12.heap (.tail _ (.head _))) (by first | (simp [*]; done) | (simp [*] <;> omega) | omega)) rfl ?_
      refine wl_call (r_call fn65 rfl rfl) rfl (there_ok root k old lv pa pc pl _ hr hk ho hlv (hp.st hS12) h32 hpc hpm) ?_
      rintro _ w15 ⟨rfl, hx16⟩
      have hS17 := hS12.ext hx16
      refine wl_val (r_assign (v := .int .i64 _) rfl) rfl ?_
      refine wl_nil ?_
      refine c_then ?_
      refine c_seq ?_
      refine c_region ?_
      refine wl_val (r_move (v := .int .i64 _) rfl) rfl ?_
      refine wl_dec (r_neq rfl rfl) rfl (fun h5_1 => ?_) (fun h5_1 => ?_)
      · refine wl_nil ?_
        refine c_then ?_
        refine c_true rfl ?_
        refine c_seq ?_
        refine c_region ?_
        refine wl_val (r_build0 (cs := ((List.replicate 32 (0 : UInt8)).map b8)) ti49.und ti49 ti5) rfl ?_
        refine wl_val (r_move (v := .int .i64 _) rfl) rfl ?_
        refine wl_exs (x_storeW [] hS17 ti49 rfl rfl (by first | (simp [*]; done) | (simp [*] <;> omega) | omega) (by first | (simp [*]; done) | (simp [*] <;> omega) | omega) (by repeat' first | exact one_nil | exact one_b8 _ | exact one_v32 _ | exact one_all rfl | refine one_cons rfl ?_ | refine one_app ?_ ?_)) rfl ?_
        intro w18 hS19
        simp only [List.cons_append, List.nil_append] at hS19
        refine wl_val (r_assign (v := .int .i64 _) rfl) rfl ?_
        refine wl_nil ?_
        refine c_then ?_
        refine wp_ret ?_
        refine c_thenR ?_
        refine c_thenR ?_
        refine ret2 Try.results69 ⟨_, rfl, run_loadVar_blk ti49 rfl (hS19.heap (.head _)) (by first | (rw [List.length_map]; exact upAll_len _ _ _ _ (by first | assumption | simp [mapRootF_len])) | simp)⟩ rfl ?_
        exact ⟨by unfold changedL; (rw [if_neg h1_2, if_pos h3_2, if_neg (by omega)]) <;> rfl, hS19.fin⟩
      · refine wl_nil ?_
        refine c_then ?_
        refine c_false rfl ?_
        refine wp_skip ?_
        refine c_then ?_
        refine c_seq ?_
        refine c_drawS 5 hMixed hS17 ?_
        intro w20 hS21
        refine g_take 0 rfl (by decide +kernel) rfl (fun _ _ _ h => h) hS21 (fun wF hF => r_loadB ti49 rfl rfl (hF.heap (.tail _ (.tail _ (.tail _ (.tail _ (.head _)))))) (by first | (simp [*]; done) | (simp [*] <;> omega) | omega)) ?_
        refine g_take 1 rfl (by decide +kernel) rfl (fun _ _ _ h => h) hS21 (fun wF hF => r_loadB ti49 rfl rfl (hF.heap (.tail _ (.tail _ (.tail _ (.tail _ (.head _)))))) (by first | (simp [*]; done) | (simp [*] <;> omega) | omega)) ?_
        refine g_take 2 rfl (by decide +kernel) rfl (fun _ _ _ h => h) hS21 (fun wF hF => r_loadB ti49 rfl rfl (hF.heap (.tail _ (.tail _ (.head _)))) (by first | (simp [*]; done) | (simp [*] <;> omega) | omega)) ?_
        refine g_take 4 rfl (by decide +kernel) rfl (fun _ _ _ h => h) hS21 (fun wF hF => r_loadB ti95 ag95 rfl (hF.heap (.tail _ (.head _))) (by first | (simp [*]; done) | (simp [*] <;> omega) | omega)) ?_
        refine g_one 3 (by decide +kernel) (by decide +kernel) ?_
        refine o_call rfl (r_call fn140 rfl rfl) rfl (single_ok _ _ _ (by first | (simp [*]; done) | (simp [*] <;> omega) | omega) (by first | (simp [*]; done) | (simp [*] <;> omega) | omega)) ?_
        rintro _ w22 ⟨rfl, hx23⟩
        have hS24 := hS21.ext hx23
        refine ⟨hS24, ?_⟩
        refine g_tail (by decide +kernel) rfl (by decide +kernel) ?_
        refine wl_call (r_call fn139 rfl rfl) rfl (up_ok k (leafM (k ++ v)) lv pa pc pl _ hk (leafM_len _) hlv (hp.st hS24) h32 hpc hpm (by have := manyTo_le lv 256; unfold thereE at h5_1; split at h5_1 <;> (try split at h5_1) <;> omega)) ?_
        rintro _ w25 ⟨rfl, hx26⟩
        have hS27 := hS24.ext hx26
        refine wl_exs (x_storeW [] hS27 ti49 rfl rfl (by rw [List.length_map]; exact upAll_len _ _ _ _ (by first | assumption | simp [mapRootF_len])) (by simp) (one_b8 _)) rfl ?_
        intro w28 hS29
        simp only [List.cons_append, List.nil_append] at hS29
        refine wl_val (r_assign (v := .int .i64 0) rfl) rfl ?_
        refine wl_nil ?_
        refine c_then ?_
        refine wp_ret ?_
        refine c_thenR ?_
        refine ret2 Try.results69 ⟨_, rfl, run_loadVar_blk ti49 rfl (hS29.heap (.head _)) (by first | (rw [List.length_map]; exact upAll_len _ _ _ _ (by first | assumption | simp [mapRootF_len])) | simp)⟩ rfl ?_
        exact ⟨by unfold changedL; (rw [if_neg h1_2, if_pos h3_2, if_pos (by omega)]) <;> rfl, hS29.fin⟩
    · refine wl_nil ?_
      refine c_then ?_
      refine c_false rfl ?_
      refine wp_skip ?_
      refine c_then ?_
      refine c_seq ?_
      refine c_seq ?_
      refine c_region ?_
      refine wl_val (r_loadB ti49 rfl rfl (hS12.heap (.tail _ (.tail _ (.tail _ (.tail _ (.tail _ (.head _))))))) (by first | (simp [*]; done) | (simp [*] <;> omega) | omega)) rfl ?_
      refine wl_val (r_loadB ti49 rfl rfl (hS12.heap (.tail _ (.tail _ (.tail _ (.tail _ (.head _)))))) (by first | (simp [*]; done) | (simp [*] <;> omega) | omega)) rfl ?_
      refine wl_val (r_loadB ti95 ag95 rfl (hS12.heap (.tail _ (.head _))) (by first | (simp [*]; done) | (simp [*] <;> omega) | omega)) rfl ?_
      refine wl_call (r_call fn67 rfl rfl) rfl (absent_ok root k lv pa pc pl _ hr hk hlv (hp.st hS12) h32 hpc hpm) ?_
      rintro _ w30 ⟨rfl, hx31⟩
      have hS32 := hS12.ext hx31
      refine wl_val (r_assign (v := .int .i64 _) rfl) rfl ?_
      refine wl_nil ?_
      refine c_then ?_
      refine c_seq ?_
      refine c_region ?_
      refine wl_val (r_move (v := .int .i64 _) rfl) rfl ?_
      refine wl_dec (r_neq rfl rfl) rfl (fun h9_1 => ?_) (fun h9_1 => ?_)
      · refine wl_nil ?_
        refine c_then ?_
        refine c_true rfl ?_
        refine c_seq ?_
        refine c_region ?_
        refine wl_val (r_build0 (cs := ((List.replicate 32 (0 : UInt8)).map b8)) ti49.und ti49 ti5) rfl ?_
        refine wl_val (r_move (v := .int .i64 _) rfl) rfl ?_
        refine wl_exs (x_storeW [] hS32 ti49 rfl rfl (by first | (simp [*]; done) | (simp [*] <;> omega) | omega) (by first | (simp [*]; done) | (simp [*] <;> omega) | omega) (by repeat' first | exact one_nil | exact one_b8 _ | exact one_v32 _ | exact one_all rfl | refine one_cons rfl ?_ | refine one_app ?_ ?_)) rfl ?_
        intro w33 hS34
        simp only [List.cons_append, List.nil_append] at hS34
        refine wl_val (r_assign (v := .int .i64 _) rfl) rfl ?_
        refine wl_nil ?_
        refine c_then ?_
        refine wp_ret ?_
        refine c_thenR ?_
        refine ret2 Try.results69 ⟨_, rfl, run_loadVar_blk ti49 rfl (hS34.heap (.head _)) (by first | (rw [List.length_map]; exact upAll_len _ _ _ _ (by first | assumption | simp [mapRootF_len])) | simp)⟩ rfl ?_
        exact ⟨by unfold changedL; (rw [if_neg h1_2, if_neg h3_2, if_neg (by omega)]) <;> rfl, hS34.fin⟩
      · refine wl_nil ?_
        refine c_then ?_
        refine c_false rfl ?_
        refine wp_skip ?_
        refine c_then ?_
        refine c_seq ?_
        have hab := absent_zero (root := root) (k := k) (lv := lv) (p := pl) (by omega)
        have hmt := manyTo_le lv 256
        refine c_region ?_
        refine wl_val (r_loadB ti49 rfl rfl (hS32.heap (.tail _ (.tail _ (.tail _ (.tail _ (.head _)))))) (by first | (simp [*]; done) | (simp [*] <;> omega) | omega)) rfl ?_
        refine wl_val (r_loadB ti49 rfl rfl (hS32.heap (.tail _ (.tail _ (.head _)))) (by first | (simp [*]; done) | (simp [*] <;> omega) | omega)) rfl ?_
        refine wl_call (r_call fn140 rfl rfl) rfl (single_ok _ _ _ (by first | (simp [*]; done) | (simp [*] <;> omega) | omega) (by first | (simp [*]; done) | (simp [*] <;> omega) | omega)) ?_
        rintro _ w35 ⟨rfl, hx36⟩
        have hS37 := hS32.ext hx36
        refine wl_exv (x_alloc (C := ((List.replicate 32 (0 : UInt8)).map b8)) hS37 ti49 rfl) rfl ?_
        rintro _ w38 ⟨b14, rfl, hS39⟩
        refine wl_exs (x_storeW [] hS39 ti49 rfl rfl (by first | (simp [*]; done) | (simp [*] <;> omega) | omega) (by first | (simp [*]; done) | (simp [*] <;> omega) | omega) (by repeat' first | exact one_nil | exact one_b8 _ | exact one_v32 _ | exact one_all rfl | refine one_cons rfl ?_ | refine one_app ?_ ?_)) rfl ?_
        intro w40 hS41
        simp only [List.cons_append, List.nil_append] at hS41
        refine wl_nil ?_
        refine c_then ?_
        refine c_seq ?_
        refine c_region ?_
        refine wl_val (r_field fa95_0 rfl) rfl ?_
        refine wl_val (r_loadPre ti31 rfl rfl (hS41.heap (.tail _ (.tail _ (.head _)))) (by first | (simp [*]; done) | (simp [*] <;> omega) | omega)) rfl ?_
        refine wl_call (r_call fn138 rfl rfl) rfl (marked_ok _ _ (by first | (simp [*]; done) | (simp [*] <;> omega) | omega)) ?_
        rintro _ w42 ⟨rfl, hx43⟩
        have hS44 := hS41.ext hx43
        refine wl_val (r_move (v := .tuple _) rfl) rfl ?_
        refine wl_val (r_extract (v := .int .i64 _) rfl rfl) rfl ?_
        refine wl_val (r_extract (v := .int .i64 _) rfl rfl) rfl ?_
        refine wl_val (r_assign (v := .int .i64 _) rfl) rfl ?_
        refine wl_val (r_assign (v := .int .i64 _) rfl) rfl ?_
        refine wl_nil ?_
        refine c_then ?_
        refine c_seq ?_
        refine c_seq ?_
        refine c_region ?_
        refine wl_val (r_field fa95_1 rfl) rfl ?_
        refine wl_val (r_loadB1 ti53.und rfl rfl (hS44.heap (.tail _ (.tail _ (.head _)))) (mp_get hlv)) rfl ?_
        refine wl_val (r_len (T := 53) rfl ti53.und rfl _ rfl) rfl ?_
        refine wl_val (r_move (v := .int .i64 _) rfl) rfl ?_
        refine wl_dec (r_gtr rfl rfl) rfl (fun h13_4 => ?_) (fun h13_4 => ?_)
        · refine wl_nil ?_
          refine c_then ?_
          refine c_true rfl ?_
          refine c_seq ?_
          obtain ⟨hab1, hab2, hab3⟩ := hab.resolve_left (by omega)
          have hgo : (gt pl (manyTo lv 256)).length = 32 := h32.gt (by omega)
          have hgv : (gt pl (manyTo lv 256 + 1)).length = 32 := h32.gt (by omega)
          have hdt := differL_ne hgo hk hab2
          have hdl := depthTo_le lv 256
          refine c_region ?_
          refine wl_val (r_field fa95_1 rfl) rfl ?_
          refine wl_val (r_loadB1 ti53.und rfl rfl (hS44.heap (.tail _ (.tail _ (.head _)))) (mp_get hlv)) rfl ?_
          refine wl_val (r_move (v := .int .i64 _) rfl) rfl ?_
          refine wl_val (r_ix32 ti53.und ti49 rfl rfl (hp.st hS44) h32 rfl (by omega)) rfl ?_
          refine wl_val (r_load32 ti49 rfl rfl (hp.st hS44) h32 (by omega)) rfl ?_
          refine wl_exv (x_alloc (C := ((List.replicate 32 (0 : UInt8)).map b8)) hS44 ti49 rfl) rfl ?_
          rintro _ w45 ⟨b17, rfl, hS46⟩
          refine wl_exs (x_storeW [] hS46 ti49 rfl rfl (by rw [List.length_map]; exact hgo) (by simp) (one_b8 _)) rfl ?_
          intro w47 hS48
          simp only [List.cons_append, List.nil_append] at hS48
          refine wl_nil ?_
          refine c_then ?_
          refine c_seq ?_
          refine c_region ?_
          refine wl_val (r_loadB ti49 rfl rfl (hS48.heap (.head _)) (by rw [List.length_map]; exact hgo)) rfl ?_
          refine wl_val (r_loadB ti49 rfl rfl (hS48.heap (.tail _ (.tail _ (.tail _ (.tail _ (.tail _ (.tail _ (.head _)))))))) (by first | (simp [*]; done) | (simp [*] <;> omega) | omega)) rfl ?_
          refine wl_call (r_call fn144 rfl rfl) rfl (differs_ok _ _ _ hgo hk) ?_
          rintro _ w49 ⟨rfl, hx50⟩
          have hS51 := hS48.ext hx50
          refine wl_val (r_assign (v := .int .i64 _) rfl) rfl ?_
          refine wl_nil ?_
          refine c_then ?_
          refine c_seq ?_
          refine c_drawS 11 hMixed hS51 ?_
          intro w52 hS53
          refine g_take 0 rfl (by decide +kernel) rfl (fun _ _ _ h => h) hS53 (fun wF hF => r_loadB ti49 rfl rfl (hF.heap (.tail _ (.tail _ (.tail _ (.tail _ (.tail _ (.tail _ (.head _)))))))) (by first | (simp [*]; done) | (simp [*] <;> omega) | omega)) ?_
          refine g_take 1 rfl (by decide +kernel) rfl (fun _ _ _ h => h) hS53 (fun wF hF => r_move (v := .int .i64 _) rfl) ?_
          refine g_take 2 rfl (by decide +kernel) rfl (fun _ _ _ h => h) hS53 (fun wF hF => r_loadB ti49 rfl rfl (hF.heap (.tail _ (.head _))) (by first | (simp [*]; done) | (simp [*] <;> omega) | omega)) ?_
          refine g_take 3 rfl (by decide +kernel) rfl (fun _ _ _ h => h) hS53 (fun wF hF => r_loadB ti49 rfl rfl (hF.heap (.head _)) (by rw [List.length_map]; exact hgo)) ?_
          refine g_take 4 rfl (by decide +kernel) rfl (fun _ _ _ h => h) hS53 (fun wF hF => r_field fa95_1 rfl) ?_
          refine g_take 5 rfl (by decide +kernel) rfl (fun _ _ _ h => h) hS53 (fun wF hF => r_loadB1 ti53.und rfl rfl (hF.heap (.tail _ (.tail _ (.tail _ (.head _))))) (mp_get hlv)) ?_
          refine g_take 6 rfl (by decide +kernel) rfl (fun _ _ _ h => h) hS53 (fun wF hF => r_move (v := .int .i64 _) rfl) ?_
          refine g_take 7 rfl (by decide +kernel) rfl (fun _ _ _ h => h) hS53 (fun wF hF => r_addn (b := 1) rfl rfl (by omega)) ?_
          refine g_take 8 rfl (by decide +kernel) rfl (fun _ _ _ h => h) hS53 (fun wF hF => r_ix32 ti53.und ti49 rfl rfl (hp.st hF) h32 rfl (by omega)) ?_
          refine g_take 9 rfl (by decide +kernel) rfl (fun _ _ _ h => h) hS53 (fun wF hF => r_load32 ti49 rfl rfl (hp.st hF) h32 (by omega)) ?_
          refine g_one 10 (by decide +kernel) (by decide +kernel) ?_
          refine o_call rfl (r_call fn140 rfl rfl) rfl (single_ok _ _ _ hgo hgv) ?_
          rintro _ w54 ⟨rfl, hx55⟩
          have hS56 := hS53.ext hx55
          refine ⟨hS56, ?_⟩
          refine g_tail (by decide +kernel) rfl (by decide +kernel) ?_
          refine wl_call (r_call fn146 rfl rfl) rfl (side_ok k _ _ _ _ hk (by omega) (leafM_len _) (leafM_len _)) ?_
          rintro _ w57 ⟨rfl, hx58⟩
          have hS59 := hS56.ext hx58
          refine wl_exs (x_storeW [_] hS59 ti49 rfl rfl (by first | (simp [*]; done) | (simp [*] <;> omega) | omega) (by first | (simp [*]; done) | (simp [*] <;> omega) | omega) (by repeat' first | exact one_nil | exact one_b8 _ | exact one_v32 _ | exact one_all rfl | refine one_cons rfl ?_ | refine one_app ?_ ?_)) rfl ?_
          intro w60 hS61
          simp only [List.cons_append, List.nil_append] at hS61
          refine wl_nil ?_
          refine c_then ?_
          refine c_seq ?_
          refine c_region ?_
          refine wl_val (r_move (v := .int .i64 _) rfl) rfl ?_
          refine wl_val (r_subi rfl rfl (by omega) (by omega)) rfl ?_
          refine wl_val (r_assign (v := .int .i64 _) rfl) rfl ?_
          refine wl_nil ?_
          refine c_then ?_
          refine c_block ?_
          obtain ⟨LT62, hLT62, hS63⟩ := St.frame [_] [_, _, _, _, _, _, _] (hS61.perm ((List.Perm.cons _ (List.Perm.refl _)).trans (List.perm_middle (l₁ := [_])).symm))
          simp only [List.cons_append, List.nil_append] at hS63
          have hm62_b17 := inL hLT62 (.head _)
          have hm62_b10 := inL hLT62 (.tail _ (.head _))
          have hm62_b9 := inL hLT62 (.tail _ (.tail _ (.head _)))
          have hm62_bb8 := inL hLT62 (.tail _ (.tail _ (.tail _ (.head _))))
          have hm62_b7 := inL hLT62 (.tail _ (.tail _ (.tail _ (.tail _ (.head _)))))
          have hm62_b6 := inL hLT62 (.tail _ (.tail _ (.tail _ (.tail _ (.tail _ (.head _))))))
          have hm62_b5 := inL hLT62 (.tail _ (.tail _ (.tail _ (.tail _ (.tail _ (.tail _ (.head _)))))))
          refine c_loopE [6, 9, 10, 11, 14, 16] (fun d e w' => ∃ (n : Nat) (s : List UInt8), Kw.look e 19 = .int .i64 (((depthTo lv 256 + n : Nat) : Int) - 1) ∧ d = 0 + n ∧ St w [] w' (.blk b14 (cl (s.map b8) 49) :: LT62) ∧ (depthTo lv 256 + n ≤ 256) ∧ (s.length = 32) ∧ (chainL k (depthTo lv 256) n s = chainL k (depthTo lv 256) (differL (gt pl (manyTo lv 256)) k - depthTo lv 256) (sideL k (differL (gt pl (manyTo lv 256)) k) (leafM (k ++ v)) (leafM ((gt pl (manyTo lv 256)) ++ (gt pl (manyTo lv 256 + 1))))))) (0 + (differL (gt pl (manyTo lv 256)) k - depthTo lv 256)) ?_ ?_
          · exact ⟨differL (gt pl (manyTo lv 256)) k - depthTo lv 256, _, congrArg (Value.int .i64) (by omega), rfl, hS63, by omega, sideL_len _ _ _ _, rfl⟩
          · rintro d67 e64 w65 ⟨n, s, hc0_19, rfl, hS66, hn, hsl, hch⟩ -
            refine c_set (d := 19) hc0_19 ?_
            refine c_seq ?_
            refine c_seq ?_
            refine c_region ?_
            refine wl_val (r_move (v := .int .i64 _) rfl) rfl ?_
            refine wl_val (r_move (v := .int .i64 _) rfl) rfl ?_
            refine wl_dec (r_geq rfl rfl) rfl (fun h18_2 => ?_) (fun h18_2 => ?_)
            · refine wl_nil ?_
              refine c_then ?_
              refine c_true rfl ?_
              refine wp_skip ?_
              refine c_then ?_
              refine c_seq ?_
              refine c_block ?_
              obtain ⟨m', rfl⟩ : ∃ m', n = m' + 1 := ⟨n - 1, by omega⟩
              refine c_set (d := 19) (v := vi (depthTo lv 256 + m')) (congrArg (Value.int .i64) (by omega)) ?_
              refine c_region ?_
              refine wl_val (r_loadB ti49 rfl rfl (hS66.heap (.tail _ hm62_b6)) (by first | (simp [*]; done) | (simp [*] <;> omega) | omega)) rfl ?_
              refine wl_val (r_move (v := .int .i64 _) rfl) rfl ?_
              refine wl_val (r_loadB ti49 rfl rfl (hS66.heap (.head _)) (by rw [List.length_map]; exact hsl)) rfl ?_
              refine wl_val (r_build0 (cs := ((List.replicate 32 (0 : UInt8)).map b8)) ti49.und ti49 ti5) rfl ?_
              refine wl_call (r_call fn146 rfl rfl) rfl (side_ok k _ _ _ _ hk (by omega) hsl (by simp)) ?_
              rintro _ w68 ⟨rfl, hx69⟩
              have hS70 := hS66.ext hx69
              refine wl_exs (x_storeW [] hS70 ti49 rfl rfl (by simp) (by rw [List.length_map]; exact hsl) (one_b8 _)) rfl ?_
              intro w71 hS72
              simp only [List.cons_append, List.nil_append] at hS72
              refine wl_nil ?_
              refine c_inN ?_
              refine c_then ?_
              refine c_region ?_
              refine wl_val (r_move (v := .int .i64 _) rfl) rfl ?_
              refine wl_val (r_subi rfl rfl (by omega) (by omega)) rfl ?_
              refine wl_val (r_assign (v := .int .i64 _) rfl) rfl ?_
              refine wl_nil ?_
              refine c_then ?_
              exact ⟨0 + m', _, by omega, rfl, ⟨m', _, rfl, rfl, hS72, by omega, sideL_len _ _ _ _, by rw [← hch, chainL]⟩, ⟨rfl, rfl, rfl, rfl, rfl, rfl, trivial⟩⟩
            · refine wl_nil ?_
              refine c_then ?_
              refine c_false rfl ?_
              refine wp_exit ?_
              refine c_thenE ?_
              refine c_thenE ?_
              refine c_inE ?_
              refine c_then ?_
              refine c_seq ?_
              refine c_region ?_
              refine wl_val (r_loadB ti49 rfl rfl (hS66.heap (.tail _ hm62_b6)) (by first | (simp [*]; done) | (simp [*] <;> omega) | omega)) rfl ?_
              refine wl_val (r_loadB ti49 rfl rfl (hS66.heap (.head _)) (by first | (rw [List.length_map]; first | assumption | simp) | simp)) rfl ?_
              refine wl_val (r_loadB ti95 ag95 rfl (hS66.heap (.tail _ hm62_b9)) (by first | (simp [*]; done) | (simp [*] <;> omega) | omega)) rfl ?_
              refine wl_call (r_call fn139 rfl rfl) rfl (up_ok k (_) lv pa pc pl _ hk (by first | assumption | simp) hlv (hp.st hS66) h32 hpc hpm (by rcases hab with h | ⟨h, _⟩ <;> omega)) ?_
              rintro _ w73 ⟨rfl, hx74⟩
              have hS75 := hS66.ext hx74
              subst hLT62
              refine wl_exs (x_storeW [_, _] hS75 ti49 rfl rfl (by rw [List.length_map]; exact upAll_len _ _ _ _ (by first | assumption | simp [mapRootF_len])) (by simp) (one_b8 _)) rfl ?_
              intro w76 hS77
              simp only [List.cons_append, List.nil_append] at hS77
              refine wl_val (r_assign (v := .int .i64 0) rfl) rfl ?_
              refine wl_nil ?_
              refine c_then ?_
              refine wp_ret ?_
              obtain rfl : n = 0 := by omega
              refine ret2 Try.results69 ⟨_, rfl, run_loadVar_blk ti49 rfl (hS77.heap (.tail _ (.tail _ (.head _)))) (by first | (rw [List.length_map]; exact upAll_len _ _ _ _ (by first | assumption | simp [mapRootF_len])) | simp)⟩ rfl ?_
              exact ⟨by unfold changedL; (rw [if_neg h1_2, if_neg h3_2, if_pos (by omega), if_neg (by omega), ← hch, chainL]) <;> rfl, hS77.fin⟩
        · refine wl_nil ?_
          refine c_then ?_
          refine c_false rfl ?_
          refine wp_skip ?_
          refine c_then ?_
          refine c_seq ?_
          refine c_region ?_
          refine wl_val (r_loadB ti49 rfl rfl (hS44.heap (.tail _ (.tail _ (.tail _ (.tail _ (.tail _ (.head _))))))) (by first | (simp [*]; done) | (simp [*] <;> omega) | omega)) rfl ?_
          refine wl_val (r_loadB ti49 rfl rfl (hS44.heap (.head _)) (by first | (rw [List.length_map]; first | assumption | simp) | simp)) rfl ?_
          refine wl_val (r_loadB ti95 ag95 rfl (hS44.heap (.tail _ (.tail _ (.head _)))) (by first | (simp [*]; done) | (simp [*] <;> omega) | omega)) rfl ?_
          refine wl_call (r_call fn139 rfl rfl) rfl (up_ok k (_) lv pa pc pl _ hk (by first | assumption | simp) hlv (hp.st hS44) h32 hpc hpm (by rcases hab with h | ⟨h, _⟩ <;> omega)) ?_
          rintro _ w78 ⟨rfl, hx79⟩
          have hS80 := hS44.ext hx79
          refine wl_exs (x_storeW [_] hS80 ti49 rfl rfl (by rw [List.length_map]; exact upAll_len _ _ _ _ (by first | assumption | simp [mapRootF_len])) (by simp) (one_b8 _)) rfl ?_
          intro w81 hS82
          simp only [List.cons_append, List.nil_append] at hS82
          refine wl_val (r_assign (v := .int .i64 0) rfl) rfl ?_
          refine wl_nil ?_
          refine c_then ?_
          refine wp_ret ?_
          refine ret2 Try.results69 ⟨_, rfl, run_loadVar_blk ti49 rfl (hS82.heap (.tail _ (.head _))) (by first | (rw [List.length_map]; exact upAll_len _ _ _ _ (by first | assumption | simp [mapRootF_len])) | simp)⟩ rfl ?_
          exact ⟨by unfold changedL; (rw [if_neg h1_2, if_neg h3_2, if_pos (by omega), if_pos (by rcases hab with h | ⟨h, _⟩ <;> omega)]) <;> rfl, hS82.fin⟩

theorem rchanged_ok (root k old v : List UInt8) (lv : List UInt8) (pa : Option Addr) (pc : Nat) (pl : List (List UInt8)) (w : World) (hr : root.length = 32) (hk : k.length = 32) (ho : old.length = 32) (hv : v.length = 32) (hlv : lv.length = 32) (hp : Row w pa (pl.flatten.map b8)) (h32 : S32 pl) (hpc : pl.length ≤ pc) (hpm : pl.length ≤ 4398046511104) :
    Ret Try.prog 70 [.agg (root.map b8).toArray, .agg (k.map b8).toArray, .agg (old.map b8).toArray, .agg (v.map b8).toArray, .agg (lv.map b8 ++ [Value.slice pa pl.length pc]).toArray] w (fun x w' => x = .tuple #[.agg ((changedL root k old v lv pl).1.map b8).toArray, vi (changedL root k old v lv pl).2] ∧ St w [] w' []) := by
  refine enter Try.func70 rfl Try.ntmps70 rfl ?_
  have hS := St.refl w []
  refine c_seq ?_
  refine c_region ?_
  refine wl_exv (x_box hS (v := .agg _) rfl rfl) rfl ?_
  rintro _ w1 ⟨b5, rfl, hS2⟩
  refine wl_exv (x_box hS2 (v := .agg _) rfl rfl) rfl ?_
  rintro _ w3 ⟨b6, rfl, hS4⟩
  refine wl_exv (x_box hS4 (v := .agg _) rfl rfl) rfl ?_
  rintro _ w5 ⟨b7, rfl, hS6⟩
  refine wl_exv (x_box hS6 (v := .agg _) rfl rfl) rfl ?_
  rintro _ w7 ⟨bb8, rfl, hS8⟩
  refine wl_exv (x_box hS8 (v := .agg _) rfl rfl) rfl ?_
  rintro _ w9 ⟨b9, rfl, hS10⟩
  refine wl_exv (x_alloc (C := ((List.replicate 32 (0 : UInt8)).map b8)) hS10 ti49 rfl) rfl ?_
  rintro _ w11 ⟨b10, rfl, hS12⟩
  refine wl_val (r_assign (v := .int .i64 0) rfl) rfl ?_
  refine wl_nil ?_
  refine c_then ?_
  refine c_seq ?_
  refine c_seq ?_
  refine c_region ?_
  refine wl_val (r_loadB ti49 rfl rfl (hS12.heap (.tail _ (.tail _ (.head _)))) (by first | (simp [*]; done) | (simp [*] <;> omega) | omega)) rfl ?_
  refine wl_val (r_build0 (cs := ((List.replicate 32 (0 : UInt8)).map b8)) ti49.und ti49 ti5) rfl ?_
  refine wl_dec (r_eqlA (u := undef) eg49 rfl rfl (eqIs_b8 ti49.und ti5 _ _ (by first | (simp [*]; done) | (simp [*] <;> omega) | omega) (by first | (simp [*]; done) | (simp [*] <;> omega) | omega))) rfl (fun h1_2 => ?_) (fun h1_2 => ?_)
  · refine wl_nil ?_
    refine c_then ?_
    refine c_true rfl ?_
    refine c_seq ?_
    refine c_region ?_
    refine wl_val (r_build0 (cs := ((List.replicate 32 (0 : UInt8)).map b8)) ti49.und ti49 ti5) rfl ?_
    refine wl_exs (x_storeW [] hS12 ti49 rfl rfl (by first | (simp [*]; done) | (simp [*] <;> omega) | omega) (by first | (simp [*]; done) | (simp [*] <;> omega) | omega) (by repeat' first | exact one_nil | exact one_b8 _ | exact one_v32 _ | exact one_all rfl | refine one_cons rfl ?_ | refine one_app ?_ ?_)) rfl ?_
    intro w13 hS14
    simp only [List.cons_append, List.nil_append] at hS14
    refine wl_val (r_assign (v := .int .i64 2) rfl) rfl ?_
    refine wl_nil ?_
    refine c_then ?_
    refine wp_ret ?_
    refine c_thenR ?_
    refine ret2 Try.results70 ⟨_, rfl, run_loadVar_blk ti49 rfl (hS14.heap (.head _)) (by first | (rw [List.length_map]; exact upAll_len _ _ _ _ (by first | assumption | simp [mapRootF_len])) | simp)⟩ rfl ?_
    exact ⟨by unfold changedL; (rw [if_pos h1_2]) <;> rfl, hS14.fin⟩
  · refine wl_nil ?_
    refine c_then ?_
    refine c_false rfl ?_
    refine wp_skip ?_
    refine c_then ?_
    refine c_seq ?_
    refine c_seq ?_
    refine c_region ?_
    refine wl_val (r_loadB ti49 rfl rfl (hS12.heap (.tail _ (.tail _ (.tail _ (.head _))))) (by first | (simp [*]; done) | (simp [*] <;> omega) | omega)) rfl ?_
    refine wl_val (r_build0 (cs := ((List.replicate 32 (0 : UInt8)).map b8)) ti49.und ti49 ti5) rfl ?_
    refine wl_dec (r_neqA (u := undef) eg49 rfl rfl (eqIs_b8 ti49.und ti5 _ _ (by first | (simp [*]; done) | (simp [*] <;> omega) | omega) (by first | (simp [*]; done) | (simp [*] <;> omega) | omega))) rfl (fun h3_2 => ?_) (fun h3_2 => ?_)
    · refine wl_nil ?_
      refine c_then ?_
      refine c_true rfl ?_
      refine c_seq ?_
      refine c_seq ?_
      refine c_region ?_
      refine wl_val (r_loadB ti49 rfl rfl (hS12.heap (.tail _ (.tail _ (.tail _ (.tail _ (.tail _ (.head _))))))) (by first | (simp [*]; done) | (simp [*] <;> omega) | omega)) rfl ?_
      refine wl_val (r_loadB ti49 rfl rfl (hS12.heap (.tail _ (.tail _ (.tail _ (.tail _ (.head _)))))) (by first | (simp [*]; done) | (simp [*] <;> omega) | omega)) rfl ?_
      refine wl_val (r_loadB ti49 rfl rfl (hS12.heap (.tail _ (.tail _ (.tail _ (.head _))))) (by first | (simp [*]; done) | (simp [*] <;> omega) | omega)) rfl ?_
      refine wl_val (r_loadB ti95 ag95 rfl (hS12.heap (.tail _ (.head _))) (by first | (simp [*]; done) | (simp [*] <;> omega) | omega)) rfl ?_
      refine wl_call (r_call fn66 rfl rfl) rfl (rthere_ok root k old lv pa pc pl _ hr hk ho hlv (hp.st hS12) h32 hpc hpm) ?_
      rintro _ w15 ⟨rfl, hx16⟩
      have hS17 := hS12.ext hx16
      refine wl_val (r_assign (v := .int .i64 _) rfl) rfl ?_
      refine wl_nil ?_
      refine c_then ?_
      refine c_seq ?_
      refine c_region ?_
      refine wl_val (r_move (v := .int .i64 _) rfl) rfl ?_
      refine wl_dec (r_neq rfl rfl) rfl (fun h5_1 => ?_) (fun h5_1 => ?_)
      · refine wl_nil ?_
        refine c_then ?_
        refine c_true rfl ?_
        refine c_seq ?_
        refine c_region ?_
        refine wl_val (r_build0 (cs := ((List.replicate 32 (0 : UInt8)).map b8)) ti49.und ti49 ti5) rfl ?_
        refine wl_val (r_move (v := .int .i64 _) rfl) rfl ?_
        refine wl_exs (x_storeW [] hS17 ti49 rfl rfl (by first | (simp [*]; done) | (simp [*] <;> omega) | omega) (by first | (simp [*]; done) | (simp [*] <;> omega) | omega) (by repeat' first | exact one_nil | exact one_b8 _ | exact one_v32 _ | exact one_all rfl | refine one_cons rfl ?_ | refine one_app ?_ ?_)) rfl ?_
        intro w18 hS19
        simp only [List.cons_append, List.nil_append] at hS19
        refine wl_val (r_assign (v := .int .i64 _) rfl) rfl ?_
        refine wl_nil ?_
        refine c_then ?_
        refine wp_ret ?_
        refine c_thenR ?_
        refine c_thenR ?_
        refine ret2 Try.results70 ⟨_, rfl, run_loadVar_blk ti49 rfl (hS19.heap (.head _)) (by first | (rw [List.length_map]; exact upAll_len _ _ _ _ (by first | assumption | simp [mapRootF_len])) | simp)⟩ rfl ?_
        exact ⟨by unfold changedL; (rw [if_neg h1_2, if_pos h3_2, if_neg (by omega)]) <;> rfl, hS19.fin⟩
      · refine wl_nil ?_
        refine c_then ?_
        refine c_false rfl ?_
        refine wp_skip ?_
        refine c_then ?_
        refine c_seq ?_
        refine c_drawS 5 hMixed hS17 ?_
        intro w20 hS21
        refine g_take 0 rfl (by decide +kernel) rfl (fun _ _ _ h => h) hS21 (fun wF hF => r_loadB ti49 rfl rfl (hF.heap (.tail _ (.tail _ (.tail _ (.tail _ (.head _)))))) (by first | (simp [*]; done) | (simp [*] <;> omega) | omega)) ?_
        refine g_take 1 rfl (by decide +kernel) rfl (fun _ _ _ h => h) hS21 (fun wF hF => r_loadB ti49 rfl rfl (hF.heap (.tail _ (.tail _ (.tail _ (.tail _ (.head _)))))) (by first | (simp [*]; done) | (simp [*] <;> omega) | omega)) ?_
        refine g_take 2 rfl (by decide +kernel) rfl (fun _ _ _ h => h) hS21 (fun wF hF => r_loadB ti49 rfl rfl (hF.heap (.tail _ (.tail _ (.head _)))) (by first | (simp [*]; done) | (simp [*] <;> omega) | omega)) ?_
        refine g_take 4 rfl (by decide +kernel) rfl (fun _ _ _ h => h) hS21 (fun wF hF => r_loadB ti95 ag95 rfl (hF.heap (.tail _ (.head _))) (by first | (simp [*]; done) | (simp [*] <;> omega) | omega)) ?_
        refine g_one 3 (by decide +kernel) (by decide +kernel) ?_
        refine o_call rfl (r_call fn143 rfl rfl) rfl (leafOf_ok _ _ _ (by first | (simp [*]; done) | (simp [*] <;> omega) | omega) (by first | (simp [*]; done) | (simp [*] <;> omega) | omega)) ?_
        rintro _ w22 ⟨rfl, hx23⟩
        have hS24 := hS21.ext hx23
        refine ⟨hS24, ?_⟩
        refine g_tail (by decide +kernel) rfl (by decide +kernel) ?_
        refine wl_call (r_call fn142 rfl rfl) rfl (rup_ok k (leafM (k ++ v)) lv pa pc pl _ hk (leafM_len _) hlv (hp.st hS24) h32 hpc hpm (by have := manyTo_le lv 256; unfold thereE at h5_1; split at h5_1 <;> (try split at h5_1) <;> omega)) ?_
        rintro _ w25 ⟨rfl, hx26⟩
        have hS27 := hS24.ext hx26
        refine wl_exs (x_storeW [] hS27 ti49 rfl rfl (by rw [List.length_map]; exact upAll_len _ _ _ _ (by first | assumption | simp [mapRootF_len])) (by simp) (one_b8 _)) rfl ?_
        intro w28 hS29
        simp only [List.cons_append, List.nil_append] at hS29
        refine wl_val (r_assign (v := .int .i64 0) rfl) rfl ?_
        refine wl_nil ?_
        refine c_then ?_
        refine wp_ret ?_
        refine c_thenR ?_
        refine ret2 Try.results70 ⟨_, rfl, run_loadVar_blk ti49 rfl (hS29.heap (.head _)) (by first | (rw [List.length_map]; exact upAll_len _ _ _ _ (by first | assumption | simp [mapRootF_len])) | simp)⟩ rfl ?_
        exact ⟨by unfold changedL; (rw [if_neg h1_2, if_pos h3_2, if_pos (by omega)]) <;> rfl, hS29.fin⟩
    · refine wl_nil ?_
      refine c_then ?_
      refine c_false rfl ?_
      refine wp_skip ?_
      refine c_then ?_
      refine c_seq ?_
      refine c_seq ?_
      refine c_region ?_
      refine wl_val (r_loadB ti49 rfl rfl (hS12.heap (.tail _ (.tail _ (.tail _ (.tail _ (.tail _ (.head _))))))) (by first | (simp [*]; done) | (simp [*] <;> omega) | omega)) rfl ?_
      refine wl_val (r_loadB ti49 rfl rfl (hS12.heap (.tail _ (.tail _ (.tail _ (.tail _ (.head _)))))) (by first | (simp [*]; done) | (simp [*] <;> omega) | omega)) rfl ?_
      refine wl_val (r_loadB ti95 ag95 rfl (hS12.heap (.tail _ (.head _))) (by first | (simp [*]; done) | (simp [*] <;> omega) | omega)) rfl ?_
      refine wl_call (r_call fn68 rfl rfl) rfl (rabsent_ok root k lv pa pc pl _ hr hk hlv (hp.st hS12) h32 hpc hpm) ?_
      rintro _ w30 ⟨rfl, hx31⟩
      have hS32 := hS12.ext hx31
      refine wl_val (r_assign (v := .int .i64 _) rfl) rfl ?_
      refine wl_nil ?_
      refine c_then ?_
      refine c_seq ?_
      refine c_region ?_
      refine wl_val (r_move (v := .int .i64 _) rfl) rfl ?_
      refine wl_dec (r_neq rfl rfl) rfl (fun h9_1 => ?_) (fun h9_1 => ?_)
      · refine wl_nil ?_
        refine c_then ?_
        refine c_true rfl ?_
        refine c_seq ?_
        refine c_region ?_
        refine wl_val (r_build0 (cs := ((List.replicate 32 (0 : UInt8)).map b8)) ti49.und ti49 ti5) rfl ?_
        refine wl_val (r_move (v := .int .i64 _) rfl) rfl ?_
        refine wl_exs (x_storeW [] hS32 ti49 rfl rfl (by first | (simp [*]; done) | (simp [*] <;> omega) | omega) (by first | (simp [*]; done) | (simp [*] <;> omega) | omega) (by repeat' first | exact one_nil | exact one_b8 _ | exact one_v32 _ | exact one_all rfl | refine one_cons rfl ?_ | refine one_app ?_ ?_)) rfl ?_
        intro w33 hS34
        simp only [List.cons_append, List.nil_append] at hS34
        refine wl_val (r_assign (v := .int .i64 _) rfl) rfl ?_
        refine wl_nil ?_
        refine c_then ?_
        refine wp_ret ?_
        refine c_thenR ?_
        refine ret2 Try.results70 ⟨_, rfl, run_loadVar_blk ti49 rfl (hS34.heap (.head _)) (by first | (rw [List.length_map]; exact upAll_len _ _ _ _ (by first | assumption | simp [mapRootF_len])) | simp)⟩ rfl ?_
        exact ⟨by unfold changedL; (rw [if_neg h1_2, if_neg h3_2, if_neg (by omega)]) <;> rfl, hS34.fin⟩
      · refine wl_nil ?_
        refine c_then ?_
        refine c_false rfl ?_
        refine wp_skip ?_
        refine c_then ?_
        refine c_seq ?_
        have hab := absent_zero (root := root) (k := k) (lv := lv) (p := pl) (by omega)
        have hmt := manyTo_le lv 256
        refine c_region ?_
        refine wl_val (r_loadB ti95 ag95 rfl (hS32.heap (.tail _ (.head _))) (by first | (simp [*]; done) | (simp [*] <;> omega) | omega)) rfl ?_
        refine wl_call (r_call fn141 rfl rfl) rfl (depth_ok lv pa pc pl _ hlv (hp.st hS32) h32 hpc hpm) ?_
        rintro _ w35 ⟨rfl, hx36⟩
        have hS37 := hS32.ext hx36
        refine wl_val (r_move (v := .tuple _) rfl) rfl ?_
        refine wl_val (r_extract (v := .int .i64 _) rfl rfl) rfl ?_
        refine wl_val (r_extract (v := .int .i64 _) rfl rfl) rfl ?_
        refine wl_val (r_assign (v := .int .i64 _) rfl) rfl ?_
        refine wl_val (r_assign (v := .int .i64 _) rfl) rfl ?_
        refine wl_nil ?_
        refine c_then ?_
        refine c_seq ?_
        refine c_seq ?_
        refine c_region ?_
        refine wl_val (r_field fa95_1 rfl) rfl ?_
        refine wl_val (r_loadB1 ti53.und rfl rfl (hS37.heap (.tail _ (.head _))) (mp_get hlv)) rfl ?_
        refine wl_val (r_len (T := 53) rfl ti53.und rfl _ rfl) rfl ?_
        refine wl_val (r_move (v := .int .i64 _) rfl) rfl ?_
        refine wl_dec (r_eql rfl rfl) rfl (fun h12_4 => ?_) (fun h12_4 => ?_)
        · refine wl_nil ?_
          refine c_then ?_
          refine c_true rfl ?_
          refine c_seq ?_
          refine c_drawS 5 hMixed hS37 ?_
          intro w38 hS39
          refine g_take 0 rfl (by decide +kernel) rfl (fun _ _ _ h => h) hS39 (fun wF hF => r_loadB ti49 rfl rfl (hF.heap (.tail _ (.tail _ (.tail _ (.tail _ (.head _)))))) (by first | (simp [*]; done) | (simp [*] <;> omega) | omega)) ?_
          refine g_take 1 rfl (by decide +kernel) rfl (fun _ _ _ h => h) hS39 (fun wF hF => r_loadB ti49 rfl rfl (hF.heap (.tail _ (.tail _ (.tail _ (.tail _ (.head _)))))) (by first | (simp [*]; done) | (simp [*] <;> omega) | omega)) ?_
          refine g_take 2 rfl (by decide +kernel) rfl (fun _ _ _ h => h) hS39 (fun wF hF => r_loadB ti49 rfl rfl (hF.heap (.tail _ (.tail _ (.head _)))) (by first | (simp [*]; done) | (simp [*] <;> omega) | omega)) ?_
          refine g_take 4 rfl (by decide +kernel) rfl (fun _ _ _ h => h) hS39 (fun wF hF => r_loadB ti95 ag95 rfl (hF.heap (.tail _ (.head _))) (by first | (simp [*]; done) | (simp [*] <;> omega) | omega)) ?_
          refine g_one 3 (by decide +kernel) (by decide +kernel) ?_
          refine o_call rfl (r_call fn143 rfl rfl) rfl (leafOf_ok _ _ _ (by first | (simp [*]; done) | (simp [*] <;> omega) | omega) (by first | (simp [*]; done) | (simp [*] <;> omega) | omega)) ?_
          rintro _ w40 ⟨rfl, hx41⟩
          have hS42 := hS39.ext hx41
          refine ⟨hS42, ?_⟩
          refine g_tail (by decide +kernel) rfl (by decide +kernel) ?_
          refine wl_call (r_call fn142 rfl rfl) rfl (rup_ok k (leafM (k ++ v)) lv pa pc pl _ hk (leafM_len _) hlv (hp.st hS42) h32 hpc hpm (by omega)) ?_
          rintro _ w43 ⟨rfl, hx44⟩
          have hS45 := hS42.ext hx44
          refine wl_exs (x_storeW [] hS45 ti49 rfl rfl (by rw [List.length_map]; exact upAll_len _ _ _ _ (by first | assumption | simp [mapRootF_len])) (by simp) (one_b8 _)) rfl ?_
          intro w46 hS47
          simp only [List.cons_append, List.nil_append] at hS47
          refine wl_val (r_assign (v := .int .i64 0) rfl) rfl ?_
          refine wl_nil ?_
          refine c_then ?_
          refine wp_ret ?_
          refine c_thenR ?_
          refine ret2 Try.results70 ⟨_, rfl, run_loadVar_blk ti49 rfl (hS47.heap (.head _)) (by first | (rw [List.length_map]; exact upAll_len _ _ _ _ (by first | assumption | simp [mapRootF_len])) | simp)⟩ rfl ?_
          exact ⟨by unfold changedL; (rw [if_neg h1_2, if_neg h3_2, if_pos (by omega), if_pos (by rcases hab with h | ⟨h, _⟩ <;> omega)]) <;> rfl, hS47.fin⟩
        · refine wl_nil ?_
          refine c_then ?_
          refine c_false rfl ?_
          refine wp_skip ?_
          refine c_then ?_
          refine c_seq ?_
          obtain ⟨hab1, hab2, hab3⟩ := hab.resolve_left (by omega)
          have hgo : (gt pl (manyTo lv 256)).length = 32 := h32.gt (by omega)
          have hgv : (gt pl (manyTo lv 256 + 1)).length = 32 := h32.gt (by omega)
          have hdt := differL_ne hgo hk hab2
          have hdl := depthTo_le lv 256
          refine c_drawS 15 hMixed hS37 ?_
          intro w48 hS49
          refine g_take 0 rfl (by decide +kernel) rfl (fun _ _ _ h => h) hS49 (fun wF hF => r_loadB ti49 rfl rfl (hF.heap (.tail _ (.tail _ (.tail _ (.tail _ (.head _)))))) (by first | (simp [*]; done) | (simp [*] <;> omega) | omega)) ?_
          refine g_take 1 rfl (by decide +kernel) rfl (fun _ _ _ h => h) hS49 (fun wF hF => r_loadB ti49 rfl rfl (hF.heap (.tail _ (.tail _ (.head _)))) (by first | (simp [*]; done) | (simp [*] <;> omega) | omega)) ?_
          refine g_take 2 rfl (by decide +kernel) rfl (fun _ _ _ h => h) hS49 (fun wF hF => r_buildF (vs := [.agg _, .agg _]) pl131 ti131 rfl (by simp only [List.map_cons, List.map_nil, List.flatten_cons, List.flatten_nil, cellsL_agg, cellsL_int, cellsL_bool, cellsL_string, cellsL_slice, cellsL_pointer, List.append_nil, List.cons_append, List.nil_append]; rfl) (by intro i hi; match i, hi with | 0, _ => simp [cellsL, Value.cells, *] | 1, _ => simp [cellsL, Value.cells, *]) (by simp [Value.cells, *])) ?_
          refine g_take 3 rfl (by decide +kernel) rfl (fun _ _ _ h => h) hS49 (fun wF hF => r_field fa95_1 rfl) ?_
          refine g_take 4 rfl (by decide +kernel) rfl (fun _ _ _ h => h) hS49 (fun wF hF => r_loadB1 ti53.und rfl rfl (hF.heap (.tail _ (.head _))) (mp_get hlv)) ?_
          refine g_take 5 rfl (by decide +kernel) rfl (fun _ _ _ h => h) hS49 (fun wF hF => r_move (v := .int .i64 _) rfl) ?_
          refine g_take 6 rfl (by decide +kernel) rfl (fun _ _ _ h => h) hS49 (fun wF hF => r_ix32 ti53.und ti49 rfl rfl (hp.st hF) h32 rfl (by omega)) ?_
          refine g_take 7 rfl (by decide +kernel) rfl (fun _ _ _ h => h) hS49 (fun wF hF => r_load32 ti49 rfl rfl (hp.st hF) h32 (by omega)) ?_
          refine g_take 8 rfl (by decide +kernel) rfl (fun _ _ _ h => h) hS49 (fun wF hF => r_field fa95_1 rfl) ?_
          refine g_take 9 rfl (by decide +kernel) rfl (fun _ _ _ h => h) hS49 (fun wF hF => r_loadB1 ti53.und rfl rfl (hF.heap (.tail _ (.head _))) (mp_get hlv)) ?_
          refine g_take 10 rfl (by decide +kernel) rfl (fun _ _ _ h => h) hS49 (fun wF hF => r_move (v := .int .i64 _) rfl) ?_
          refine g_take 11 rfl (by decide +kernel) rfl (fun _ _ _ h => h) hS49 (fun wF hF => r_addn (b := 1) rfl rfl (by omega)) ?_
          refine g_take 12 rfl (by decide +kernel) rfl (fun _ _ _ h => h) hS49 (fun wF hF => r_ix32 ti53.und ti49 rfl rfl (hp.st hF) h32 rfl (by omega)) ?_
          refine g_take 13 rfl (by decide +kernel) rfl (fun _ _ _ h => h) hS49 (fun wF hF => r_load32 ti49 rfl rfl (hp.st hF) h32 (by omega)) ?_
          refine g_take 14 rfl (by decide +kernel) rfl (fun _ _ _ h => h) hS49 (fun wF hF => r_buildF (vs := [.agg _, .agg _]) pl131 ti131 rfl (by simp only [List.map_cons, List.map_nil, List.flatten_cons, List.flatten_nil, cellsL_agg, cellsL_int, cellsL_bool, cellsL_string, cellsL_slice, cellsL_pointer, List.append_nil, List.cons_append, List.nil_append]; rfl) (by intro i hi; match i, hi with | 0, _ => simp [cellsL, Value.cells, *] | 1, _ => simp [cellsL, Value.cells, *]) (by simp [Value.cells, *])) ?_
          refine g_tail (by decide +kernel) rfl (by decide +kernel) ?_
          refine wl_exv (x_litA2 hS49 ti124.und ti131 rfl (by first | (simp [*]; done) | (simp [*] <;> omega) | omega) (by first | (simp [*]; done) | (simp [*] <;> omega) | omega) rfl (by decide) (by decide)) rfl ?_
          rintro _ w50 ⟨b78, rfl, hS51⟩
          refine wl_val (r_assign (v := .slice _ _ _) rfl) rfl ?_
          refine wl_nil ?_
          refine c_then ?_
          refine c_seq ?_
          refine c_drawS 5 hMixed hS51 ?_
          intro w52 hS53
          refine g_take 0 rfl (by decide +kernel) rfl (fun _ _ _ h => h) hS53 (fun wF hF => r_loadB ti49 rfl rfl (hF.heap (.tail _ (.tail _ (.tail _ (.tail _ (.tail _ (.head _))))))) (by first | (simp [*]; done) | (simp [*] <;> omega) | omega)) ?_
          refine g_take 1 rfl (by decide +kernel) rfl (fun _ _ _ h => h) hS53 (fun wF hF => r_move (v := .slice _ _ _) rfl) ?_
          refine g_take 2 rfl (by decide +kernel) rfl (fun _ _ _ h => h) hS53 (fun wF hF => r_move (v := .int .i64 _) rfl) ?_
          refine g_take 4 rfl (by decide +kernel) rfl (fun _ _ _ h => h) hS53 (fun wF hF => r_loadB ti95 ag95 rfl (hF.heap (.tail _ (.tail _ (.head _)))) (by first | (simp [*]; done) | (simp [*] <;> omega) | omega)) ?_
          refine g_one 3 (by decide +kernel) (by decide +kernel) ?_
          refine o_call rfl (r_call fn92 rfl rfl) rfl (rmapRoot_ok (256 - depthTo lv 256) [k ++ v, (gt pl (manyTo lv 256)) ++ (gt pl (manyTo lv 256 + 1))] (depthTo lv 256) _ 2 _ _ (by omega) (by have hh := (Row.of_at (at_all (hS53.heap (.head _)))); simpa [List.map_append] using hh) (by intro s hs; simp only [List.mem_cons, List.not_mem_nil, or_false] at hs; rcases hs with rfl | rfl <;> simp [*]) rfl (Nat.le_refl _) (by decide) (parts_two hk hgo hab2 hab3)) ?_
          rintro _ w54 ⟨rfl, hx55⟩
          have hS56 := hS53.ext hx55
          refine ⟨hS56, ?_⟩
          refine g_tail (by decide +kernel) rfl (by decide +kernel) ?_
          refine wl_call (r_call fn142 rfl rfl) rfl (rup_ok k (_) lv pa pc pl _ hk (mapRootF_len _ _ _) hlv (hp.st hS56) h32 hpc hpm (by omega)) ?_
          rintro _ w57 ⟨rfl, hx58⟩
          have hS59 := hS56.ext hx58
          refine wl_exs (x_storeW [_] hS59 ti49 rfl rfl (by rw [List.length_map]; exact upAll_len _ _ _ _ (by first | assumption | simp [mapRootF_len])) (by simp) (one_b8 _)) rfl ?_
          intro w60 hS61
          simp only [List.cons_append, List.nil_append] at hS61
          refine wl_val (r_assign (v := .int .i64 0) rfl) rfl ?_
          refine wl_nil ?_
          refine c_then ?_
          refine wp_ret ?_
          refine ret2 Try.results70 ⟨_, rfl, run_loadVar_blk ti49 rfl (hS61.heap (.tail _ (.head _))) (by first | (rw [List.length_map]; exact upAll_len _ _ _ _ (by first | assumption | simp [mapRootF_len])) | simp)⟩ rfl ?_
          exact ⟨by unfold changedL; (rw [if_neg h1_2, if_neg h3_2, if_pos (by omega), if_neg (by omega), mapRoot_chain hk hgo hab2 hab3]) <;> rfl, hS61.fin⟩

end Go.Proofs.Ytfohfnpehfcaaaa
