/- For every head, key, seal and text: PrintHead, ParseHead, SealHead and CheckHead of the program are the reference's; the law's function returns true and turns nothing. No condition. -/
import Derived.Test.YtfohfnpehfcaaaaRows
import Derived.Test.YtfohfnpehfcaaaaOpen
import Derived.Test.YtfohfnpehfcaaaaHeadB
namespace Go.Proofs.Ytfohfnpehfcaaaa.lawHeadsMatch
open Go.Kw Go.Proofs.Ytfohfnpehfcaaaa
open Go.ChangeShapes Go.WideShapes Go.ChangeAt Go.RowKit
set_option linter.unusedVariables false
set_option linter.unusedSimpArgs false
set_option maxRecDepth 100000
set_option maxHeartbeats 20000000

theorem walk (ct tm : Int) (la ro : List UInt8) (k sg l : List UInt8) (a : Option Addr) (c : Nat) (w : World) (hla : la.length = 32) (hro : ro.length = 32) (hk : k.length = 32) (hsg : sg.length = 64) (hb : Row w a (l.map b8)) (hc : l.length ≤ c) (hn : l.length ≤ 140737488351232) :
    Ret Try.prog 9 [.agg (headV ct tm la ro).toArray, .agg (k.map b8).toArray, .agg (sg.map b8).toArray, .slice a l.length c] w (fun v w' => v = .bool true ∧ St w [] w' []) := by
  refine enter Try.func9 rfl Try.ntmps9 rfl ?_
  have hS := St.refl w []
  refine c_seq ?_
  refine c_region ?_
  refine wl_exv (x_box hS (v := .agg _) rfl rfl) rfl ?_
  rintro _ w1 ⟨b4, rfl, hS2⟩
  refine wl_exv (x_box hS2 (v := .agg _) rfl rfl) rfl ?_
  rintro _ w3 ⟨b5, rfl, hS4⟩
  refine wl_exv (x_box hS4 (v := .agg _) rfl rfl) rfl ?_
  rintro _ w5 ⟨b6, rfl, hS6⟩
  refine wl_val (r_assign (v := .bool false) rfl) rfl ?_
  refine wl_nil ?_
  refine c_then ?_
  refine c_seq ?_
  refine c_seq ?_
  refine c_region ?_
  refine wl_call (r_call fn20 rfl rfl) rfl (landed_ok _) ?_
  rintro _ w7 ⟨rfl, hx8⟩
  have hS9 := hS6.ext hx8
  refine wl_val (r_not rfl) rfl ?_
  refine wl_nil ?_
  refine c_then ?_
  refine c_false rfl ?_
  refine wp_skip ?_
  refine c_then ?_
  refine c_seq ?_
  refine c_region ?_
  refine wl_val (r_loadB tih ag83 rfl (hS9.heap (.tail _ (.tail _ (.head _)))) (by first | (simp [*]; done) | (simp [*] <;> omega) | omega)) rfl ?_
  refine wl_call (r_call fn54 rfl rfl) rfl (printHead_ok ct tm la ro _ hla hro) ?_
  rintro _ w10 (⟨hg, rfl, hx11⟩ | ⟨hg, ahg, chg, rfl, hchg, hx11⟩)
  · have hS12 := hS9.ext hx11
    refine wl_val (r_move (v := .tuple _) rfl) rfl ?_
    refine wl_val (r_extract (v := .slice _ _ _) rfl rfl) rfl ?_
    refine wl_val (r_extract (v := .int .i64 _) rfl rfl) rfl ?_
    refine wl_val (r_assign (v := .slice _ _ _) rfl) rfl ?_
    refine wl_val (r_assign (v := .int .i64 _) rfl) rfl ?_
    refine wl_nil ?_
    refine c_then ?_
    refine c_seq ?_
    refine c_region ?_
    refine wl_val (r_loadB tih ag83 rfl (hS12.heap (.tail _ (.tail _ (.head _)))) (by first | (simp [*]; done) | (simp [*] <;> omega) | omega)) rfl ?_
    refine wl_call (r_call fn55 rfl rfl) rfl (rprintHead_ok ct tm la ro _ hla hro) ?_
    rintro _ w13 (⟨hg2, rfl, hx14⟩ | ⟨hg2, ahg2, chg2, rfl, hchg2, hx14⟩)
    · have hS15 := hS12.ext hx14
      refine wl_val (r_move (v := .tuple _) rfl) rfl ?_
      refine wl_val (r_extract (v := .slice _ _ _) rfl rfl) rfl ?_
      refine wl_val (r_extract (v := .int .i64 _) rfl rfl) rfl ?_
      refine wl_val (r_assign (v := .slice _ _ _) rfl) rfl ?_
      refine wl_val (r_assign (v := .int .i64 _) rfl) rfl ?_
      refine wl_nil ?_
      refine c_then ?_
      refine c_seq ?_
      refine c_region ?_
      refine wl_val (r_loadB ti61 rfl rfl (hS15.heap (.tail _ (.head _))) (by first | (simp [*]; done) | (simp [*] <;> omega) | omega)) rfl ?_
      refine wl_val (r_loadB tih ag83 rfl (hS15.heap (.tail _ (.tail _ (.head _)))) (by first | (simp [*]; done) | (simp [*] <;> omega) | omega)) rfl ?_
      refine wl_call (r_call fn56 rfl rfl) rfl (sealHead_ok ct tm la ro k _ hla hro hk) ?_
      rintro _ w16 (⟨hg3, rfl, hx17⟩ | ⟨hg3, rfl, hx17⟩)
      · have hS18 := hS15.ext hx17
        refine wl_val (r_move (v := .tuple _) rfl) rfl ?_
        refine wl_val (r_extract (v := .agg _) rfl rfl) rfl ?_
        refine wl_val (r_extract (v := .int .i64 _) rfl rfl) rfl ?_
        refine wl_exv (x_alloc (C := ((List.replicate 64 (0 : UInt8)).map b8)) hS18 ti65 rfl) rfl ?_
        rintro _ w19 ⟨b13, rfl, hS20⟩
        refine wl_exs (x_storeW [] hS20 ti65 rfl rfl (by first | (simp [*]; done) | (simp [*] <;> omega) | omega) (by first | (simp [*]; done) | (simp [*] <;> omega) | omega) (by repeat' first | exact one_nil | exact one_b8 _ | exact one_v32 _ | exact one_all rfl | refine one_cons rfl ?_ | refine one_app ?_ ?_)) rfl ?_
        intro w21 hS22
        simp only [List.cons_append, List.nil_append] at hS22
        refine wl_val (r_assign (v := .int .i64 _) rfl) rfl ?_
        refine wl_nil ?_
        refine c_then ?_
        refine c_seq ?_
        refine c_seq ?_
        refine c_region ?_
        refine wl_val (r_move (v := .int .i64 _) rfl) rfl ?_
        refine wl_val (r_move (v := .int .i64 _) rfl) rfl ?_
        refine wl_dec_f (r_neq rfl rfl) rfl (by decide) ?_
        refine wl_val (r_move (v := .bool _) rfl) rfl ?_
        refine wl_val (r_move (v := .int .i64 _) rfl) rfl ?_
        refine wl_val (r_move (v := .int .i64 _) rfl) rfl ?_
        refine wl_dec_f (r_neq rfl rfl) rfl (by decide) ?_
        refine wl_val (r_pick_f rfl (v := .bool _) rfl) rfl ?_
        refine wl_val (r_move (v := .bool _) rfl) rfl ?_
        refine wl_val (r_move (v := .slice _ _ _) rfl) rfl ?_
        refine wl_val (r_move (v := .slice _ _ _) rfl) rfl ?_
        refine wl_call (r_call fn26 rfl rfl) rfl (bytesEq_t [] [] none none 0 0 0 0 _ Row.nil Row.nil rfl rfl rfl) ?_
        rintro _ w23 ⟨rfl, hx24⟩
        have hS25 := hS22.ext hx24
        refine wl_val (r_not rfl) rfl ?_
        refine wl_val (r_pick_f rfl (v := .bool _) rfl) rfl ?_
        refine wl_nil ?_
        refine c_then ?_
        refine c_false rfl ?_
        refine wp_skip ?_
        refine c_then ?_
        refine c_seq ?_
        refine c_seq ?_
        refine c_region ?_
        refine wl_val (r_move (v := .int .i64 _) rfl) rfl ?_
        refine wl_dec_t (r_neq rfl rfl) rfl (by decide) ?_
        refine wl_nil ?_
        refine c_then ?_
        refine c_true rfl ?_
        refine c_seq ?_
        refine c_region ?_
        refine wl_val (r_loadB ti65 rfl rfl (hS25.heap (.head _)) (by first | (simp [*]; done) | (simp [*] <;> omega) | omega)) rfl ?_
        refine wl_val (r_build0 (cs := ((List.replicate 64 (0 : UInt8)).map b8)) ti65.und ti65 ti5) rfl ?_
        refine wl_dec_t (r_eqlA (u := undef) eg65 rfl rfl (eqIs_b8 ti65.und ti5 _ _ (by first | (simp [*]; done) | (simp [*] <;> omega) | omega) (by first | (simp [*]; done) | (simp [*] <;> omega) | omega))) rfl rfl ?_
        refine wl_val (r_move (v := .bool _) rfl) rfl ?_
        refine wl_val (r_loadB ti61 rfl rfl (hS25.heap (.tail _ (.tail _ (.head _)))) (by first | (simp [*]; done) | (simp [*] <;> omega) | omega)) rfl ?_
        refine wl_val (r_loadB tih ag83 rfl (hS25.heap (.tail _ (.tail _ (.tail _ (.head _))))) (by first | (simp [*]; done) | (simp [*] <;> omega) | omega)) rfl ?_
        refine wl_val (r_loadB ti65 rfl rfl (hS25.heap (.tail _ (.head _))) (by first | (simp [*]; done) | (simp [*] <;> omega) | omega)) rfl ?_
        refine wl_call (r_call fn57 rfl rfl) rfl (checkHead_ok ct tm la ro k sg _ hla hro hk hsg) ?_
        rintro _ w26 (⟨hg4, rfl, hx27⟩ | ⟨hg4, hg4e, rfl, hx27⟩ | ⟨hg4, hg4e, rfl, hx27⟩)
        · have hS28 := hS25.ext hx27
          refine wl_val (r_move (v := .int .i64 _) rfl) rfl ?_
          refine wl_dec_t (r_eql rfl rfl) rfl (by decide) ?_
          refine wl_val (r_pick_t rfl (v := .bool _) rfl) rfl ?_
          refine wl_val (r_assign (v := .bool _) rfl) rfl ?_
          refine wl_nil ?_
          refine c_then ?_
          refine wp_ret ?_
          refine c_thenR ?_
          refine ret1 Try.results9 ?_
          exact ⟨rfl, hS28.fin⟩
        · exfalso; omega
        · exfalso; omega
      · exfalso; omega
    · exfalso; omega
  · have hS12 := hS9.call hx11
    simp only [List.cons_append, List.nil_append] at hS12
    refine wl_val (r_move (v := .tuple _) rfl) rfl ?_
    refine wl_val (r_extract (v := .slice _ _ _) rfl rfl) rfl ?_
    refine wl_val (r_extract (v := .int .i64 _) rfl rfl) rfl ?_
    refine wl_val (r_assign (v := .slice _ _ _) rfl) rfl ?_
    refine wl_val (r_assign (v := .int .i64 _) rfl) rfl ?_
    refine wl_nil ?_
    refine c_then ?_
    refine c_seq ?_
    refine c_region ?_
    refine wl_val (r_loadB tih ag83 rfl (hS12.heap (.tail _ (.tail _ (.tail _ (.head _))))) (by first | (simp [*]; done) | (simp [*] <;> omega) | omega)) rfl ?_
    refine wl_call (r_call fn55 rfl rfl) rfl (rprintHead_ok ct tm la ro _ hla hro) ?_
    rintro _ w29 (⟨hg2, rfl, hx30⟩ | ⟨hg2, ahg2, chg2, rfl, hchg2, hx30⟩)
    · exfalso; omega
    · have hS31 := hS12.call hx30
      simp only [List.cons_append, List.nil_append] at hS31
      refine wl_val (r_move (v := .tuple _) rfl) rfl ?_
      refine wl_val (r_extract (v := .slice _ _ _) rfl rfl) rfl ?_
      refine wl_val (r_extract (v := .int .i64 _) rfl rfl) rfl ?_
      refine wl_val (r_assign (v := .slice _ _ _) rfl) rfl ?_
      refine wl_val (r_assign (v := .int .i64 _) rfl) rfl ?_
      refine wl_nil ?_
      refine c_then ?_
      refine c_seq ?_
      refine c_region ?_
      refine wl_val (r_loadB ti61 rfl rfl (hS31.heap (.tail _ (.tail _ (.tail _ (.head _))))) (by first | (simp [*]; done) | (simp [*] <;> omega) | omega)) rfl ?_
      refine wl_val (r_loadB tih ag83 rfl (hS31.heap (.tail _ (.tail _ (.tail _ (.tail _ (.head _)))))) (by first | (simp [*]; done) | (simp [*] <;> omega) | omega)) rfl ?_
      refine wl_call (r_call fn56 rfl rfl) rfl (sealHead_ok ct tm la ro k _ hla hro hk) ?_
      rintro _ w32 (⟨hg3, rfl, hx33⟩ | ⟨hg3, rfl, hx33⟩)
      · exfalso; omega
      · have hS34 := hS31.ext hx33
        refine wl_val (r_move (v := .tuple _) rfl) rfl ?_
        refine wl_val (r_extract (v := .agg _) rfl rfl) rfl ?_
        refine wl_val (r_extract (v := .int .i64 _) rfl rfl) rfl ?_
        refine wl_exv (x_alloc (C := ((List.replicate 64 (0 : UInt8)).map b8)) hS34 ti65 rfl) rfl ?_
        rintro _ w35 ⟨b13, rfl, hS36⟩
        refine wl_exs (x_storeW [] hS36 ti65 rfl rfl (by first | (simp [*]; done) | (simp [*] <;> omega) | omega) (by first | (simp [*]; done) | (simp [*] <;> omega) | omega) (by repeat' first | exact one_nil | exact one_b8 _ | exact one_v32 _ | exact one_all rfl | refine one_cons rfl ?_ | refine one_app ?_ ?_)) rfl ?_
        intro w37 hS38
        simp only [List.cons_append, List.nil_append] at hS38
        refine wl_val (r_assign (v := .int .i64 _) rfl) rfl ?_
        refine wl_nil ?_
        refine c_then ?_
        refine c_seq ?_
        refine c_seq ?_
        refine c_region ?_
        refine wl_val (r_move (v := .int .i64 _) rfl) rfl ?_
        refine wl_val (r_move (v := .int .i64 _) rfl) rfl ?_
        refine wl_dec_f (r_neq rfl rfl) rfl (by decide) ?_
        refine wl_val (r_move (v := .bool _) rfl) rfl ?_
        refine wl_val (r_move (v := .int .i64 _) rfl) rfl ?_
        refine wl_val (r_move (v := .int .i64 _) rfl) rfl ?_
        refine wl_dec_f (r_neq rfl rfl) rfl (by decide) ?_
        refine wl_val (r_pick_f rfl (v := .bool _) rfl) rfl ?_
        refine wl_val (r_move (v := .bool _) rfl) rfl ?_
        refine wl_val (r_move (v := .slice _ _ _) rfl) rfl ?_
        refine wl_val (r_move (v := .slice _ _ _) rfl) rfl ?_
        refine wl_call (r_call fn26 rfl rfl) rfl (bytesEq_t (headL ct tm la ro) (headL ct tm la ro) _ _ _ _ _ _ _ (St.rowAt hS38 (.tail _ (.tail _ (.head _)))) (St.rowAt hS38 (.tail _ (.head _))) (headL_len hla hro) (headL_len hla hro) rfl) ?_
        rintro _ w39 ⟨rfl, hx40⟩
        have hS41 := hS38.ext hx40
        refine wl_val (r_not rfl) rfl ?_
        refine wl_val (r_pick_f rfl (v := .bool _) rfl) rfl ?_
        refine wl_nil ?_
        refine c_then ?_
        refine c_false rfl ?_
        refine wp_skip ?_
        refine c_then ?_
        refine c_seq ?_
        refine c_seq ?_
        refine c_region ?_
        refine wl_val (r_move (v := .int .i64 _) rfl) rfl ?_
        refine wl_dec_f (r_neq rfl rfl) rfl (by decide) ?_
        refine wl_nil ?_
        refine c_then ?_
        refine c_false rfl ?_
        refine wp_skip ?_
        refine c_then ?_
        refine c_seq ?_
        refine c_seq ?_
        refine c_drawS 20 hMixed hS41 ?_
        intro w42 hS43
        refine g_take 0 rfl (by decide +kernel) rfl (fun _ _ _ h => h) hS43 (fun wF hF => r_loadB ti65 rfl rfl (hF.heap (.head _)) (by first | (simp [*]; done) | (simp [*] <;> omega) | omega)) ?_
        refine g_take 1 rfl (by decide +kernel) rfl (fun _ _ _ h => h) hS43 (fun wF hF => r_loadB ti61 rfl rfl (hF.heap (.tail _ (.tail _ (.tail _ (.tail _ (.head _)))))) (by first | (simp [*]; done) | (simp [*] <;> omega) | omega)) ?_
        refine g_take 2 rfl (by decide +kernel) rfl (fun _ _ _ h => h) hS43 (fun wF hF => r_loadB tih ag83 rfl (hF.heap (.tail _ (.tail _ (.tail _ (.tail _ (.tail _ (.head _))))))) (by first | (simp [*]; done) | (simp [*] <;> omega) | omega)) ?_
        refine g_one 3 (by decide +kernel) (by decide +kernel) ?_
        refine o_call rfl (r_call fn58 rfl rfl) rfl (rsealHead_ok ct tm la ro k _ hla hro hk hg) ?_
        rintro _ w44 ⟨rfl, hx45⟩
        have hS46 := hS43.ext hx45
        refine ⟨hS46, ?_⟩
        refine g_dec_f 4 rfl (by decide +kernel) rfl (fun _ _ _ _ h => h) hS46 (fun wF hF => r_neqA (u := undef) eg65 rfl rfl (eqIs_b8 ti65.und ti5 _ _ (by first | (simp [*]; done) | (simp [*] <;> omega) | omega) (by first | (simp [*]; done) | (simp [*] <;> omega) | omega))) (fun h => h rfl) ?_
        refine g_take 5 rfl (by decide +kernel) rfl (fun _ _ _ h => h) hS46 (fun wF hF => r_move (v := .bool _) rfl) ?_
        refine g_take 6 rfl (by decide +kernel) rfl (fun _ _ _ h => h) hS46 (fun wF hF => r_loadB ti61 rfl rfl (hF.heap (.tail _ (.tail _ (.tail _ (.tail _ (.head _)))))) (by first | (simp [*]; done) | (simp [*] <;> omega) | omega)) ?_
        refine g_take 7 rfl (by decide +kernel) rfl (fun _ _ _ h => h) hS46 (fun wF hF => r_loadB tih ag83 rfl (hF.heap (.tail _ (.tail _ (.tail _ (.tail _ (.tail _ (.head _))))))) (by first | (simp [*]; done) | (simp [*] <;> omega) | omega)) ?_
        refine g_take 8 rfl (by decide +kernel) rfl (fun _ _ _ h => h) hS46 (fun wF hF => r_loadB ti65 rfl rfl (hF.heap (.head _)) (by first | (simp [*]; done) | (simp [*] <;> omega) | omega)) ?_
        refine g_one 9 (by decide +kernel) (by decide +kernel) ?_
        refine o_call rfl (r_call fn57 rfl rfl) rfl (checkHead_ok ct tm la ro k _ _ hla hro hk (by simp)) ?_
        rintro _ w47 (⟨hg5, rfl, hx48⟩ | ⟨hg5, hg5e, rfl, hx48⟩ | ⟨hg5, hg5e, rfl, hx48⟩)
        · exfalso; omega
        · have hS49 := hS46.ext hx48
          refine ⟨hS49, ?_⟩
          refine g_dec_f 10 rfl (by decide +kernel) rfl (fun _ _ _ _ h => h) hS49 (fun wF hF => r_neq rfl rfl) (by decide) ?_
          refine g_take 11 rfl (by decide +kernel) rfl (fun _ _ _ h => h) hS49 (fun wF hF => r_pick_f rfl (v := .bool _) rfl) ?_
          refine g_take 12 rfl (by decide +kernel) rfl (fun _ _ _ h => h) hS49 (fun wF hF => r_move (v := .bool _) rfl) ?_
          refine g_take 13 rfl (by decide +kernel) rfl (fun _ _ _ h => h) hS49 (fun wF hF => r_loadB ti65 rfl rfl (hF.heap (.tail _ (.tail _ (.tail _ (.head _))))) (by first | (simp [*]; done) | (simp [*] <;> omega) | omega)) ?_
          refine g_take 14 rfl (by decide +kernel) rfl (fun _ _ _ h => h) hS49 (fun wF hF => r_loadB ti65 rfl rfl (hF.heap (.head _)) (by first | (simp [*]; done) | (simp [*] <;> omega) | omega)) ?_
          refine g_dec 15 rfl (by decide +kernel) rfl (fun _ _ _ _ h => h) hS49 (fun wF hF => r_neqA (u := undef) eg65 rfl rfl (eqIs_b8 ti65.und ti5 _ _ (by first | (simp [*]; done) | (simp [*] <;> omega) | omega) (by first | (simp [*]; done) | (simp [*] <;> omega) | omega))) (fun h10_15 => ?_) (fun h10_15 => ?_)
          · refine g_take 16 rfl (by decide +kernel) rfl (fun _ _ _ h => h) hS49 (fun wF hF => r_move (v := .bool _) rfl) ?_
            refine g_take 17 rfl (by decide +kernel) rfl (fun _ _ _ h => h) hS49 (fun wF hF => r_loadB ti61 rfl rfl (hF.heap (.tail _ (.tail _ (.tail _ (.tail _ (.head _)))))) (by first | (simp [*]; done) | (simp [*] <;> omega) | omega)) ?_
            refine g_take 18 rfl (by decide +kernel) rfl (fun _ _ _ h => h) hS49 (fun wF hF => r_loadB tih ag83 rfl (hF.heap (.tail _ (.tail _ (.tail _ (.tail _ (.tail _ (.head _))))))) (by first | (simp [*]; done) | (simp [*] <;> omega) | omega)) ?_
            refine g_take 19 rfl (by decide +kernel) rfl (fun _ _ _ h => h) hS49 (fun wF hF => r_loadB ti65 rfl rfl (hF.heap (.tail _ (.tail _ (.tail _ (.head _))))) (by first | (simp [*]; done) | (simp [*] <;> omega) | omega)) ?_
            refine g_tail (by decide +kernel) rfl (by decide +kernel) ?_
            refine wl_call (r_call fn57 rfl rfl) rfl (checkHead_ok ct tm la ro k sg _ hla hro hk hsg) ?_
            rintro _ w50 (⟨hg6, rfl, hx51⟩ | ⟨hg6, hg6e, rfl, hx51⟩ | ⟨hg6, hg6e, rfl, hx51⟩)
            · exfalso; omega
            · exact absurd hg6e.symm h10_15
            · have hS52 := hS49.ext hx51
              refine wl_dec_f (r_neq rfl rfl) rfl (by decide) ?_
              refine wl_val (r_pick_t rfl (v := .bool _) rfl) rfl ?_
              refine wl_val (r_pick_f rfl (v := .bool _) rfl) rfl ?_
              refine wl_nil ?_
              refine c_then ?_
              refine c_false rfl ?_
              refine wp_skip ?_
              refine c_then ?_
              refine c_seq ?_
              refine c_region ?_
              refine wl_val (r_move (v := .slice _ _ _) rfl) rfl ?_
              refine wl_call (r_call fn59 rfl rfl) rfl (parseHead_print ct tm la ro _ _ _ (St.rowAt hS52 (.tail _ (.tail _ (.head _)))) hchg hla hro hg) ?_
              rintro _ w53 ⟨rfl, hx54⟩
              have hS55 := hS52.ext hx54
              refine wl_val (r_move (v := .tuple _) rfl) rfl ?_
              refine wl_val (r_extract (v := .agg _) rfl rfl) rfl ?_
              refine wl_val (r_extract (v := .int .i64 _) rfl rfl) rfl ?_
              refine wl_exv (x_alloc (C := (headV 0 0 (List.replicate 32 0) (List.replicate 32 0))) hS55 tih rfl) rfl ?_
              rintro _ w56 ⟨b15, rfl, hS57⟩
              refine wl_exs (x_storeW [] hS57 tih rfl rfl (by first | (simp [*]; done) | (simp [*] <;> omega) | omega) (by first | (simp [*]; done) | (simp [*] <;> omega) | omega) (by repeat' first | exact one_nil | exact one_b8 _ | exact one_v32 _ | exact one_all rfl | refine one_cons rfl ?_ | refine one_app ?_ ?_)) rfl ?_
              intro w58 hS59
              simp only [List.cons_append, List.nil_append] at hS59
              refine wl_val (r_assign (v := .int .i64 _) rfl) rfl ?_
              refine wl_nil ?_
              refine c_then ?_
              refine c_seq ?_
              refine c_seq ?_
              refine c_region ?_
              refine wl_val (r_move (v := .int .i64 _) rfl) rfl ?_
              refine wl_dec_f (r_neq rfl rfl) rfl (by decide) ?_
              refine wl_val (r_move (v := .bool _) rfl) rfl ?_
              refine wl_val (r_loadB tih ag83 rfl (hS59.heap (.head _)) (by first | (simp [*]; done) | (simp [*] <;> omega) | omega)) rfl ?_
              refine wl_val (r_loadB tih ag83 rfl (hS59.heap (.tail _ (.tail _ (.tail _ (.tail _ (.tail _ (.tail _ (.head _)))))))) (by first | (simp [*]; done) | (simp [*] <;> omega) | omega)) rfl ?_
              refine wl_dec_f (r_neqA (u := undef) eg83 rfl rfl (eqHead (by simp [*]) (by simp [*]) (by simp [*]) (by simp [*]))) rfl (fun h => h ⟨rfl, rfl, rfl, rfl⟩) ?_
              refine wl_val (r_pick_f rfl (v := .bool _) rfl) rfl ?_
              refine wl_nil ?_
              refine c_then ?_
              refine c_false rfl ?_
              refine wp_skip ?_
              refine c_then ?_
              refine c_seq ?_
              refine c_region ?_
              refine wl_val (r_move (v := .slice _ _ _) rfl) rfl ?_
              refine wl_call (r_call fn59 rfl rfl) rfl (parseHead_ok l a l.length c _ _ _ (hb.st hS59) rfl hc hn rfl rfl) ?_
              rintro _ w60 (⟨hp, rfl, hx61⟩ | ⟨hp, hp2, rfl, hx61⟩ | ⟨hp, hp2, hp3, rfl, hx61⟩ | ⟨hp, hp2, hp3, rfl, hx61⟩)
              · have hS62 := hS59.ext hx61
                refine wl_val (r_move (v := .tuple _) rfl) rfl ?_
                refine wl_val (r_extract (v := .agg _) rfl rfl) rfl ?_
                refine wl_val (r_extract (v := .int .i64 _) rfl rfl) rfl ?_
                refine wl_exs (x_storeW [] hS62 tih rfl rfl (by first | (simp [*]; done) | (simp [*] <;> omega) | omega) (by first | (simp [*]; done) | (simp [*] <;> omega) | omega) (by repeat' first | exact one_nil | exact one_b8 _ | exact one_v32 _ | exact one_all rfl | refine one_cons rfl ?_ | refine one_app ?_ ?_)) rfl ?_
                intro w63 hS64
                simp only [List.cons_append, List.nil_append] at hS64
                refine wl_val (r_assign (v := .int .i64 _) rfl) rfl ?_
                refine wl_nil ?_
                refine c_then ?_
                refine c_seq ?_
                refine c_block ?_
                refine c_seq ?_
                refine c_region ?_
                refine wl_val (r_move (v := .slice _ _ _) rfl) rfl ?_
                refine wl_val (r_len (T := 22) rfl ti22.und rfl _ rfl) rfl ?_
                refine wl_dec_t (r_lss rfl rfl) rfl (by omega) ?_
                refine wl_val (r_assign (v := .bool _) rfl) rfl ?_
                refine wl_nil ?_
                refine c_then ?_
                refine c_true rfl ?_
                refine c_seq ?_
                refine c_region ?_
                refine wl_val (r_move (v := .int .i64 _) rfl) rfl ?_
                refine wl_dec_t (r_eql rfl rfl) rfl (by decide) ?_
                refine wl_val (r_move (v := .bool _) rfl) rfl ?_
                refine wl_val (r_loadB tih ag83 rfl (hS64.heap (.head _)) (by first | (simp [*]; done) | (simp [*] <;> omega) | omega)) rfl ?_
                refine wl_val (r_buildZ pl83 tih) rfl ?_
                refine wl_dec_t (r_eqlA (u := undef) eg83 rfl rfl (eqHead (by simp [*]) (by simp [*]) (by simp [*]) (by simp [*]))) rfl ⟨rfl, rfl, rfl, rfl⟩ ?_
                refine wl_val (r_pick_t rfl (v := .bool _) rfl) rfl ?_
                refine wl_val (r_assign (v := .bool _) rfl) rfl ?_
                refine wl_nil ?_
                refine c_then ?_
                refine wp_ret ?_
                refine c_inR ?_
                refine c_thenR ?_
                refine ret1 Try.results9 ?_
                exact ⟨rfl, hS64.fin⟩
              · have hS62 := hS59.ext hx61
                refine wl_val (r_move (v := .tuple _) rfl) rfl ?_
                refine wl_val (r_extract (v := .agg _) rfl rfl) rfl ?_
                refine wl_val (r_extract (v := .int .i64 _) rfl rfl) rfl ?_
                refine wl_exs (x_storeW [] hS62 tih rfl rfl (by first | (simp [*]; done) | (simp [*] <;> omega) | omega) (by first | (simp [*]; done) | (simp [*] <;> omega) | omega) (by repeat' first | exact one_nil | exact one_b8 _ | exact one_v32 _ | exact one_all rfl | refine one_cons rfl ?_ | refine one_app ?_ ?_)) rfl ?_
                intro w65 hS66
                simp only [List.cons_append, List.nil_append] at hS66
                refine wl_val (r_assign (v := .int .i64 _) rfl) rfl ?_
                refine wl_nil ?_
                refine c_then ?_
                refine c_seq ?_
                refine c_block ?_
                refine c_seq ?_
                refine c_region ?_
                refine wl_val (r_move (v := .slice _ _ _) rfl) rfl ?_
                refine wl_val (r_len (T := 22) rfl ti22.und rfl _ rfl) rfl ?_
                refine wl_dec_f (r_lss rfl rfl) rfl (by omega) ?_
                refine wl_val (r_assign (v := .bool _) rfl) rfl ?_
                refine wl_nil ?_
                refine c_then ?_
                refine c_false rfl ?_
                refine c_seq ?_
                refine c_region ?_
                refine wl_val (r_move (v := .int .i64 _) rfl) rfl ?_
                refine wl_dec_f (r_eql rfl rfl) rfl (by decide) ?_
                refine wl_val (r_assign (v := .bool _) rfl) rfl ?_
                refine wl_nil ?_
                refine c_then ?_
                refine c_false rfl ?_
                refine wp_skip ?_
                refine c_inN ?_
                refine c_then ?_
                refine c_seq ?_
                refine c_region ?_
                refine wl_val (r_loadB tih ag83 rfl (hS66.heap (.head _)) (by first | (simp [*]; done) | (simp [*] <;> omega) | omega)) rfl ?_
                refine wl_val (r_buildZ pl83 tih) rfl ?_
                refine wl_dec_t (r_eqlA (u := undef) eg83 rfl rfl (eqHead (by simp [*]) (by simp [*]) (by simp [*]) (by simp [*]))) rfl ⟨rfl, rfl, rfl, rfl⟩ ?_
                refine wl_val (r_assign (v := .bool _) rfl) rfl ?_
                refine wl_nil ?_
                refine c_then ?_
                refine wp_ret ?_
                refine ret1 Try.results9 ?_
                exact ⟨rfl, hS66.fin⟩
              · have hS62 := hS59.ext hx61
                refine wl_val (r_move (v := .tuple _) rfl) rfl ?_
                refine wl_val (r_extract (v := .agg _) rfl rfl) rfl ?_
                refine wl_val (r_extract (v := .int .i64 _) rfl rfl) rfl ?_
                refine wl_exs (x_storeW [] hS62 tih rfl rfl (by first | (simp [*]; done) | (simp [*] <;> omega) | omega) (by first | (simp [*]; done) | (simp [*] <;> omega) | omega) (by repeat' first | exact one_nil | exact one_b8 _ | exact one_v32 _ | exact one_all rfl | refine one_cons rfl ?_ | refine one_app ?_ ?_)) rfl ?_
                intro w67 hS68
                simp only [List.cons_append, List.nil_append] at hS68
                refine wl_val (r_assign (v := .int .i64 _) rfl) rfl ?_
                refine wl_nil ?_
                refine c_then ?_
                refine c_seq ?_
                refine c_block ?_
                refine c_seq ?_
                refine c_region ?_
                refine wl_val (r_move (v := .slice _ _ _) rfl) rfl ?_
                refine wl_val (r_len (T := 22) rfl ti22.und rfl _ rfl) rfl ?_
                refine wl_dec_f (r_lss rfl rfl) rfl (by omega) ?_
                refine wl_val (r_assign (v := .bool _) rfl) rfl ?_
                refine wl_nil ?_
                refine c_then ?_
                refine c_false rfl ?_
                refine c_seq ?_
                refine c_region ?_
                refine wl_val (r_move (v := .int .i64 _) rfl) rfl ?_
                refine wl_dec_f (r_eql rfl rfl) rfl (by decide) ?_
                refine wl_val (r_assign (v := .bool _) rfl) rfl ?_
                refine wl_nil ?_
                refine c_then ?_
                refine c_false rfl ?_
                refine wp_skip ?_
                refine c_inN ?_
                refine c_then ?_
                refine c_seq ?_
                refine c_region ?_
                refine wl_val (r_loadB tih ag83 rfl (hS68.heap (.head _)) (by first | (simp [*]; done) | (simp [*] <;> omega) | omega)) rfl ?_
                refine wl_val (r_buildZ pl83 tih) rfl ?_
                refine wl_dec_t (r_eqlA (u := undef) eg83 rfl rfl (eqHead (by simp [*]) (by simp [*]) (by simp [*]) (by simp [*]))) rfl ⟨rfl, rfl, rfl, rfl⟩ ?_
                refine wl_val (r_assign (v := .bool _) rfl) rfl ?_
                refine wl_nil ?_
                refine c_then ?_
                refine wp_ret ?_
                refine ret1 Try.results9 ?_
                exact ⟨rfl, hS68.fin⟩
              · have hS62 := hS59.ext hx61
                refine wl_val (r_move (v := .tuple _) rfl) rfl ?_
                refine wl_val (r_extract (v := .agg _) rfl rfl) rfl ?_
                refine wl_val (r_extract (v := .int .i64 _) rfl rfl) rfl ?_
                refine wl_exs (x_storeW [] hS62 tih rfl rfl (by first | (simp [*]; done) | (simp [*] <;> omega) | omega) (by first | (simp [*]; done) | (simp [*] <;> omega) | omega) (by repeat' first | exact one_nil | exact one_b8 _ | exact one_v32 _ | exact one_all rfl | refine one_cons rfl ?_ | refine one_app ?_ ?_)) rfl ?_
                intro w69 hS70
                simp only [List.cons_append, List.nil_append] at hS70
                refine wl_val (r_assign (v := .int .i64 _) rfl) rfl ?_
                refine wl_nil ?_
                refine c_then ?_
                refine c_seq ?_
                refine c_block ?_
                refine c_seq ?_
                refine c_region ?_
                refine wl_val (r_move (v := .slice _ _ _) rfl) rfl ?_
                refine wl_val (r_len (T := 22) rfl ti22.und rfl _ rfl) rfl ?_
                refine wl_dec_f (r_lss rfl rfl) rfl (by omega) ?_
                refine wl_val (r_assign (v := .bool _) rfl) rfl ?_
                refine wl_nil ?_
                refine c_then ?_
                refine c_false rfl ?_
                refine c_seq ?_
                refine c_region ?_
                refine wl_val (r_move (v := .int .i64 _) rfl) rfl ?_
                refine wl_dec_t (r_eql rfl rfl) rfl (by decide) ?_
                refine wl_val (r_assign (v := .bool _) rfl) rfl ?_
                refine wl_nil ?_
                refine c_then ?_
                refine c_true rfl ?_
                refine c_seq ?_
                refine c_region ?_
                refine wl_val (r_loadB tih ag83 rfl (hS70.heap (.head _)) (by first | (simp [*]; done) | (simp [*] <;> omega) | omega)) rfl ?_
                refine wl_call (r_call fn55 rfl rfl) rfl (rprintHead_ok _ _ _ _ _ (by rw [List.length_take, List.length_drop]; omega) (by rw [List.length_take, List.length_drop]; omega)) ?_
                rintro _ w71 (⟨hg7, rfl, hx72⟩ | ⟨hg7, ahg7, chg7, rfl, hchg7, hx72⟩)
                · exfalso; omega
                · have hS73 := hS70.call hx72
                  simp only [List.cons_append, List.nil_append] at hS73
                  refine wl_val (r_move (v := .tuple _) rfl) rfl ?_
                  refine wl_val (r_extract (v := .slice _ _ _) rfl rfl) rfl ?_
                  refine wl_val (r_extract (v := .int .i64 _) rfl rfl) rfl ?_
                  refine wl_val (r_assign (v := .slice _ _ _) rfl) rfl ?_
                  refine wl_val (r_assign (v := .int .i64 _) rfl) rfl ?_
                  refine wl_nil ?_
                  refine c_then ?_
                  refine c_seq ?_
                  refine c_region ?_
                  refine wl_val (r_move (v := .slice _ _ _) rfl) rfl ?_
                  refine wl_val (r_move (v := .slice _ _ _) rfl) rfl ?_
                  refine wl_call (r_call fn26 rfl rfl) rfl (bytesEq_t _ _ _ _ _ _ _ _ _ (St.rowAt hS73 (.head _)) (hb.st hS73) (headL_len (by rw [List.length_take, List.length_drop]; omega) (by rw [List.length_take, List.length_drop]; omega)) rfl (headL_parse hp hp2)) ?_
                  rintro _ w74 ⟨rfl, hx75⟩
                  have hS76 := hS73.ext hx75
                  refine wl_val (r_assign (v := .bool _) rfl) rfl ?_
                  refine wl_nil ?_
                  refine c_then ?_
                  refine wp_ret ?_
                  refine c_inR ?_
                  refine c_thenR ?_
                  refine ret1 Try.results9 ?_
                  exact ⟨rfl, hS76.fin⟩
          · refine g_take 16 rfl (by decide +kernel) rfl (fun _ _ _ h => h) hS49 (fun wF hF => r_move (v := .bool _) rfl) ?_
            refine g_takeN 17 rfl (by decide +kernel) rfl (fun _ _ _ h => h) hS49 ?_
            refine g_takeN 18 rfl (by decide +kernel) rfl (fun _ _ _ h => h) hS49 ?_
            refine g_takeN 19 rfl (by decide +kernel) rfl (fun _ _ _ h => h) hS49 ?_
            refine g_tail (by decide +kernel) rfl (by decide +kernel) ?_
            refine wl_not rfl ?_
            refine wl_not rfl ?_
            refine wl_val (r_pick_f rfl (v := .bool false) rfl) rfl ?_
            refine wl_val (r_pick_f rfl (v := .bool _) rfl) rfl ?_
            refine wl_nil ?_
            refine c_then ?_
            refine c_false rfl ?_
            refine wp_skip ?_
            refine c_then ?_
            refine c_seq ?_
            refine c_region ?_
            refine wl_val (r_move (v := .slice _ _ _) rfl) rfl ?_
            refine wl_call (r_call fn59 rfl rfl) rfl (parseHead_print ct tm la ro _ _ _ (St.rowAt hS49 (.tail _ (.tail _ (.head _)))) hchg hla hro hg) ?_
            rintro _ w77 ⟨rfl, hx78⟩
            have hS79 := hS49.ext hx78
            refine wl_val (r_move (v := .tuple _) rfl) rfl ?_
            refine wl_val (r_extract (v := .agg _) rfl rfl) rfl ?_
            refine wl_val (r_extract (v := .int .i64 _) rfl rfl) rfl ?_
            refine wl_exv (x_alloc (C := (headV 0 0 (List.replicate 32 0) (List.replicate 32 0))) hS79 tih rfl) rfl ?_
            rintro _ w80 ⟨b15, rfl, hS81⟩
            refine wl_exs (x_storeW [] hS81 tih rfl rfl (by first | (simp [*]; done) | (simp [*] <;> omega) | omega) (by first | (simp [*]; done) | (simp [*] <;> omega) | omega) (by repeat' first | exact one_nil | exact one_b8 _ | exact one_v32 _ | exact one_all rfl | refine one_cons rfl ?_ | refine one_app ?_ ?_)) rfl ?_
            intro w82 hS83
            simp only [List.cons_append, List.nil_append] at hS83
            refine wl_val (r_assign (v := .int .i64 _) rfl) rfl ?_
            refine wl_nil ?_
            refine c_then ?_
            refine c_seq ?_
            refine c_seq ?_
            refine c_region ?_
            refine wl_val (r_move (v := .int .i64 _) rfl) rfl ?_
            refine wl_dec_f (r_neq rfl rfl) rfl (by decide) ?_
            refine wl_val (r_move (v := .bool _) rfl) rfl ?_
            refine wl_val (r_loadB tih ag83 rfl (hS83.heap (.head _)) (by first | (simp [*]; done) | (simp [*] <;> omega) | omega)) rfl ?_
            refine wl_val (r_loadB tih ag83 rfl (hS83.heap (.tail _ (.tail _ (.tail _ (.tail _ (.tail _ (.tail _ (.head _)))))))) (by first | (simp [*]; done) | (simp [*] <;> omega) | omega)) rfl ?_
            refine wl_dec_f (r_neqA (u := undef) eg83 rfl rfl (eqHead (by simp [*]) (by simp [*]) (by simp [*]) (by simp [*]))) rfl (fun h => h ⟨rfl, rfl, rfl, rfl⟩) ?_
            refine wl_val (r_pick_f rfl (v := .bool _) rfl) rfl ?_
            refine wl_nil ?_
            refine c_then ?_
            refine c_false rfl ?_
            refine wp_skip ?_
            refine c_then ?_
            refine c_seq ?_
            refine c_region ?_
            refine wl_val (r_move (v := .slice _ _ _) rfl) rfl ?_
            refine wl_call (r_call fn59 rfl rfl) rfl (parseHead_ok l a l.length c _ _ _ (hb.st hS83) rfl hc hn rfl rfl) ?_
            rintro _ w84 (⟨hp, rfl, hx85⟩ | ⟨hp, hp2, rfl, hx85⟩ | ⟨hp, hp2, hp3, rfl, hx85⟩ | ⟨hp, hp2, hp3, rfl, hx85⟩)
            · have hS86 := hS83.ext hx85
              refine wl_val (r_move (v := .tuple _) rfl) rfl ?_
              refine wl_val (r_extract (v := .agg _) rfl rfl) rfl ?_
              refine wl_val (r_extract (v := .int .i64 _) rfl rfl) rfl ?_
              refine wl_exs (x_storeW [] hS86 tih rfl rfl (by first | (simp [*]; done) | (simp [*] <;> omega) | omega) (by first | (simp [*]; done) | (simp [*] <;> omega) | omega) (by repeat' first | exact one_nil | exact one_b8 _ | exact one_v32 _ | exact one_all rfl | refine one_cons rfl ?_ | refine one_app ?_ ?_)) rfl ?_
              intro w87 hS88
              simp only [List.cons_append, List.nil_append] at hS88
              refine wl_val (r_assign (v := .int .i64 _) rfl) rfl ?_
              refine wl_nil ?_
              refine c_then ?_
              refine c_seq ?_
              refine c_block ?_
              refine c_seq ?_
              refine c_region ?_
              refine wl_val (r_move (v := .slice _ _ _) rfl) rfl ?_
              refine wl_val (r_len (T := 22) rfl ti22.und rfl _ rfl) rfl ?_
              refine wl_dec_t (r_lss rfl rfl) rfl (by omega) ?_
              refine wl_val (r_assign (v := .bool _) rfl) rfl ?_
              refine wl_nil ?_
              refine c_then ?_
              refine c_true rfl ?_
              refine c_seq ?_
              refine c_region ?_
              refine wl_val (r_move (v := .int .i64 _) rfl) rfl ?_
              refine wl_dec_t (r_eql rfl rfl) rfl (by decide) ?_
              refine wl_val (r_move (v := .bool _) rfl) rfl ?_
              refine wl_val (r_loadB tih ag83 rfl (hS88.heap (.head _)) (by first | (simp [*]; done) | (simp [*] <;> omega) | omega)) rfl ?_
              refine wl_val (r_buildZ pl83 tih) rfl ?_
              refine wl_dec_t (r_eqlA (u := undef) eg83 rfl rfl (eqHead (by simp [*]) (by simp [*]) (by simp [*]) (by simp [*]))) rfl ⟨rfl, rfl, rfl, rfl⟩ ?_
              refine wl_val (r_pick_t rfl (v := .bool _) rfl) rfl ?_
              refine wl_val (r_assign (v := .bool _) rfl) rfl ?_
              refine wl_nil ?_
              refine c_then ?_
              refine wp_ret ?_
              refine c_inR ?_
              refine c_thenR ?_
              refine ret1 Try.results9 ?_
              exact ⟨rfl, hS88.fin⟩
            · have hS86 := hS83.ext hx85
              refine wl_val (r_move (v := .tuple _) rfl) rfl ?_
              refine wl_val (r_extract (v := .agg _) rfl rfl) rfl ?_
              refine wl_val (r_extract (v := .int .i64 _) rfl rfl) rfl ?_
              refine wl_exs (x_storeW [] hS86 tih rfl rfl (by first | (simp [*]; done) | (simp [*] <;> omega) | omega) (by first | (simp [*]; done) | (simp [*] <;> omega) | omega) (by repeat' first | exact one_nil | exact one_b8 _ | exact one_v32 _ | exact one_all rfl | refine one_cons rfl ?_ | refine one_app ?_ ?_)) rfl ?_
              intro w89 hS90
              simp only [List.cons_append, List.nil_append] at hS90
              refine wl_val (r_assign (v := .int .i64 _) rfl) rfl ?_
              refine wl_nil ?_
              refine c_then ?_
              refine c_seq ?_
              refine c_block ?_
              refine c_seq ?_
              refine c_region ?_
              refine wl_val (r_move (v := .slice _ _ _) rfl) rfl ?_
              refine wl_val (r_len (T := 22) rfl ti22.und rfl _ rfl) rfl ?_
              refine wl_dec_f (r_lss rfl rfl) rfl (by omega) ?_
              refine wl_val (r_assign (v := .bool _) rfl) rfl ?_
              refine wl_nil ?_
              refine c_then ?_
              refine c_false rfl ?_
              refine c_seq ?_
              refine c_region ?_
              refine wl_val (r_move (v := .int .i64 _) rfl) rfl ?_
              refine wl_dec_f (r_eql rfl rfl) rfl (by decide) ?_
              refine wl_val (r_assign (v := .bool _) rfl) rfl ?_
              refine wl_nil ?_
              refine c_then ?_
              refine c_false rfl ?_
              refine wp_skip ?_
              refine c_inN ?_
              refine c_then ?_
              refine c_seq ?_
              refine c_region ?_
              refine wl_val (r_loadB tih ag83 rfl (hS90.heap (.head _)) (by first | (simp [*]; done) | (simp [*] <;> omega) | omega)) rfl ?_
              refine wl_val (r_buildZ pl83 tih) rfl ?_
              refine wl_dec_t (r_eqlA (u := undef) eg83 rfl rfl (eqHead (by simp [*]) (by simp [*]) (by simp [*]) (by simp [*]))) rfl ⟨rfl, rfl, rfl, rfl⟩ ?_
              refine wl_val (r_assign (v := .bool _) rfl) rfl ?_
              refine wl_nil ?_
              refine c_then ?_
              refine wp_ret ?_
              refine ret1 Try.results9 ?_
              exact ⟨rfl, hS90.fin⟩
            · have hS86 := hS83.ext hx85
              refine wl_val (r_move (v := .tuple _) rfl) rfl ?_
              refine wl_val (r_extract (v := .agg _) rfl rfl) rfl ?_
              refine wl_val (r_extract (v := .int .i64 _) rfl rfl) rfl ?_
              refine wl_exs (x_storeW [] hS86 tih rfl rfl (by first | (simp [*]; done) | (simp [*] <;> omega) | omega) (by first | (simp [*]; done) | (simp [*] <;> omega) | omega) (by repeat' first | exact one_nil | exact one_b8 _ | exact one_v32 _ | exact one_all rfl | refine one_cons rfl ?_ | refine one_app ?_ ?_)) rfl ?_
              intro w91 hS92
              simp only [List.cons_append, List.nil_append] at hS92
              refine wl_val (r_assign (v := .int .i64 _) rfl) rfl ?_
              refine wl_nil ?_
              refine c_then ?_
              refine c_seq ?_
              refine c_block ?_
              refine c_seq ?_
              refine c_region ?_
              refine wl_val (r_move (v := .slice _ _ _) rfl) rfl ?_
              refine wl_val (r_len (T := 22) rfl ti22.und rfl _ rfl) rfl ?_
              refine wl_dec_f (r_lss rfl rfl) rfl (by omega) ?_
              refine wl_val (r_assign (v := .bool _) rfl) rfl ?_
              refine wl_nil ?_
              refine c_then ?_
              refine c_false rfl ?_
              refine c_seq ?_
              refine c_region ?_
              refine wl_val (r_move (v := .int .i64 _) rfl) rfl ?_
              refine wl_dec_f (r_eql rfl rfl) rfl (by decide) ?_
              refine wl_val (r_assign (v := .bool _) rfl) rfl ?_
              refine wl_nil ?_
              refine c_then ?_
              refine c_false rfl ?_
              refine wp_skip ?_
              refine c_inN ?_
              refine c_then ?_
              refine c_seq ?_
              refine c_region ?_
              refine wl_val (r_loadB tih ag83 rfl (hS92.heap (.head _)) (by first | (simp [*]; done) | (simp [*] <;> omega) | omega)) rfl ?_
              refine wl_val (r_buildZ pl83 tih) rfl ?_
              refine wl_dec_t (r_eqlA (u := undef) eg83 rfl rfl (eqHead (by simp [*]) (by simp [*]) (by simp [*]) (by simp [*]))) rfl ⟨rfl, rfl, rfl, rfl⟩ ?_
              refine wl_val (r_assign (v := .bool _) rfl) rfl ?_
              refine wl_nil ?_
              refine c_then ?_
              refine wp_ret ?_
              refine ret1 Try.results9 ?_
              exact ⟨rfl, hS92.fin⟩
            · have hS86 := hS83.ext hx85
              refine wl_val (r_move (v := .tuple _) rfl) rfl ?_
              refine wl_val (r_extract (v := .agg _) rfl rfl) rfl ?_
              refine wl_val (r_extract (v := .int .i64 _) rfl rfl) rfl ?_
              refine wl_exs (x_storeW [] hS86 tih rfl rfl (by first | (simp [*]; done) | (simp [*] <;> omega) | omega) (by first | (simp [*]; done) | (simp [*] <;> omega) | omega) (by repeat' first | exact one_nil | exact one_b8 _ | exact one_v32 _ | exact one_all rfl | refine one_cons rfl ?_ | refine one_app ?_ ?_)) rfl ?_
              intro w93 hS94
              simp only [List.cons_append, List.nil_append] at hS94
              refine wl_val (r_assign (v := .int .i64 _) rfl) rfl ?_
              refine wl_nil ?_
              refine c_then ?_
              refine c_seq ?_
              refine c_block ?_
              refine c_seq ?_
              refine c_region ?_
              refine wl_val (r_move (v := .slice _ _ _) rfl) rfl ?_
              refine wl_val (r_len (T := 22) rfl ti22.und rfl _ rfl) rfl ?_
              refine wl_dec_f (r_lss rfl rfl) rfl (by omega) ?_
              refine wl_val (r_assign (v := .bool _) rfl) rfl ?_
              refine wl_nil ?_
              refine c_then ?_
              refine c_false rfl ?_
              refine c_seq ?_
              refine c_region ?_
              refine wl_val (r_move (v := .int .i64 _) rfl) rfl ?_
              refine wl_dec_t (r_eql rfl rfl) rfl (by decide) ?_
              refine wl_val (r_assign (v := .bool _) rfl) rfl ?_
              refine wl_nil ?_
              refine c_then ?_
              refine c_true rfl ?_
              refine c_seq ?_
              refine c_region ?_
              refine wl_val (r_loadB tih ag83 rfl (hS94.heap (.head _)) (by first | (simp [*]; done) | (simp [*] <;> omega) | omega)) rfl ?_
              refine wl_call (r_call fn55 rfl rfl) rfl (rprintHead_ok _ _ _ _ _ (by rw [List.length_take, List.length_drop]; omega) (by rw [List.length_take, List.length_drop]; omega)) ?_
              rintro _ w95 (⟨hg7, rfl, hx96⟩ | ⟨hg7, ahg7, chg7, rfl, hchg7, hx96⟩)
              · exfalso; omega
              · have hS97 := hS94.call hx96
                simp only [List.cons_append, List.nil_append] at hS97
                refine wl_val (r_move (v := .tuple _) rfl) rfl ?_
                refine wl_val (r_extract (v := .slice _ _ _) rfl rfl) rfl ?_
                refine wl_val (r_extract (v := .int .i64 _) rfl rfl) rfl ?_
                refine wl_val (r_assign (v := .slice _ _ _) rfl) rfl ?_
                refine wl_val (r_assign (v := .int .i64 _) rfl) rfl ?_
                refine wl_nil ?_
                refine c_then ?_
                refine c_seq ?_
                refine c_region ?_
                refine wl_val (r_move (v := .slice _ _ _) rfl) rfl ?_
                refine wl_val (r_move (v := .slice _ _ _) rfl) rfl ?_
                refine wl_call (r_call fn26 rfl rfl) rfl (bytesEq_t _ _ _ _ _ _ _ _ _ (St.rowAt hS97 (.head _)) (hb.st hS97) (headL_len (by rw [List.length_take, List.length_drop]; omega) (by rw [List.length_take, List.length_drop]; omega)) rfl (headL_parse hp hp2)) ?_
                rintro _ w98 ⟨rfl, hx99⟩
                have hS100 := hS97.ext hx99
                refine wl_val (r_assign (v := .bool _) rfl) rfl ?_
                refine wl_nil ?_
                refine c_then ?_
                refine wp_ret ?_
                refine c_inR ?_
                refine c_thenR ?_
                refine ret1 Try.results9 ?_
                exact ⟨rfl, hS100.fin⟩
        · exact absurd rfl hg5e


theorem own : ownKnob Try.prog.godebug = none := by kernel_rfl
theorem laidOut : laidOutB Try.prog = true := by kernel_rfl
theorem readable22 : Try.prog.readableRec 22 = true := by kernel_rfl
theorem inside22 : decide (22 < Try.prog.types.size) = true := by kernel_rfl
theorem readable61 : Try.prog.readableRec 61 = true := by kernel_rfl
theorem inside61 : decide (61 < Try.prog.types.size) = true := by kernel_rfl
theorem readable65 : Try.prog.readableRec 65 = true := by kernel_rfl
theorem inside65 : decide (65 < Try.prog.types.size) = true := by kernel_rfl
theorem readable83 : Try.prog.readableRec 83 = true := by kernel_rfl
theorem inside83 : decide (83 < Try.prog.types.size) = true := by kernel_rfl
theorem lifted (os : Os) (started : os.Started) (H : Type) (enc : TypeId × Value → H) :
    ReturnsInHanded {} Try.checked os 9 .any (Rows.headsMatchSpec.pre6 enc Try.prog Try.f9 Rows.headsMatchRow.domain false) (Rows.headsMatchSpec.post enc Try.prog Try.f9 false true false false) := by
  refine returnsInHanded_of_change_sized (C := Try.checked) own started (by kernel_rfl) Try.func9
    (ChangeSpec.witness6 (enc := enc) (C := Try.checked) false ⟨#[], #[.agg #[.int .i64 0, .int .i64 0, .int .u8 0, .int .u8 0, .int .u8 0, .int .u8 0, .int .u8 0, .int .u8 0, .int .u8 0, .int .u8 0, .int .u8 0, .int .u8 0, .int .u8 0, .int .u8 0, .int .u8 0, .int .u8 0, .int .u8 0, .int .u8 0, .int .u8 0, .int .u8 0, .int .u8 0, .int .u8 0, .int .u8 0, .int .u8 0, .int .u8 0, .int .u8 0, .int .u8 0, .int .u8 0, .int .u8 0, .int .u8 0, .int .u8 0, .int .u8 0, .int .u8 0, .int .u8 0, .int .u8 0, .int .u8 0, .int .u8 0, .int .u8 0, .int .u8 0, .int .u8 0, .int .u8 0, .int .u8 0, .int .u8 0, .int .u8 0, .int .u8 0, .int .u8 0, .int .u8 0, .int .u8 0, .int .u8 0, .int .u8 0, .int .u8 0, .int .u8 0, .int .u8 0, .int .u8 0, .int .u8 0, .int .u8 0, .int .u8 0, .int .u8 0, .int .u8 0, .int .u8 0, .int .u8 0, .int .u8 0, .int .u8 0, .int .u8 0, .int .u8 0, .int .u8 0], .agg ((List.replicate 32 (0 : UInt8)).map b8).toArray, .agg ((List.replicate 64 (0 : UInt8)).map b8).toArray, .slice none 0 0], []⟩ 8 (by kernel_rfl) (by kernel_rfl) (by kernel_rfl) (by kernel_rfl)) ?_
  intro W base args ds gs before hval0 hW hcnd hsz0 _
  have hval : ∀ (j : Nat) t v, Try.f9.params[j]? = some t → args[j]? = some v → Value.okWide Try.prog W .any base t v := hval0
  have hW' := hW
  obtain ⟨p, q, hA0, hV, rfl, hfz, hnd⟩ := hW
  have hA : DataW.TrodAll enc Try.prog W 0 (fun _ => true) true Try.f9.params.toList args.toList ds p := hA0
  have hsz : (DataW.weightsEach Try.prog (Try.f9.params.toList ++ Rows.headsMatchSpec.plain.varTypes Try.prog) (ds ++ gs)).all (· ≤ reachBytes) = true := hsz0
  rw [Try.params9] at hA hval hsz
  obtain ⟨v0, vs0, d0, ds0, p0, q0, hargs, rfl, rfl, h0, r0⟩ := trodAll_cons hA
  obtain ⟨v1, vs1, d1, ds1, p1, q1, rfl, rfl, rfl, h1, r1⟩ := trodAll_cons r0
  obtain ⟨v2, vs2, d2, ds2, p2, q2, rfl, rfl, rfl, h2, r2⟩ := trodAll_cons r1
  obtain ⟨v3, vs3, d3, ds3, p3, q3, rfl, rfl, rfl, h3, r3⟩ := trodAll_cons r2
  obtain ⟨rfl, rfl, rfl⟩ := trodAll_nil r3
  obtain rfl : args = #[v0, v1, v2, v3] := by cases args; simp_all
  obtain ⟨rfl, rfl⟩ := trodVars_none hV
  have lt0 : ∀ x ∈ p0, x.block < W.heap.size := by obtain ⟨m, hm⟩ := h0; exact DataW.trod_lt m _ _ _ hm
  have lt1 : ∀ x ∈ p1, x.block < W.heap.size := by obtain ⟨m, hm⟩ := h1; exact DataW.trod_lt m _ _ _ hm
  have lt2 : ∀ x ∈ p2, x.block < W.heap.size := by obtain ⟨m, hm⟩ := h2; exact DataW.trod_lt m _ _ _ hm
  have lt3 : ∀ x ∈ p3, x.block < W.heap.size := by obtain ⟨m, hm⟩ := h3; exact DataW.trod_lt m _ _ _ hm
  have ok0 := hval 0 83 v0 rfl rfl
  obtain ⟨⟨ct, tm, la, ro⟩, rfl, ⟨hc1, hc2⟩, ⟨ht1, ht2⟩, hla, hro, _⟩ := open_struct (j := 0) Try.underlying83 (opens_head (opens_struct Try.underlying83 (by kernel_rfl) (opensFs_cons (sz := 1) (opens_i64 Try.underlying3) rfl (by kernel_rfl) (opensFs_cons (sz := 1) (opens_i64 Try.underlying3) rfl (by kernel_rfl) (opensFs_cons (sz := 32) (opens_bytesA Try.underlying49 Try.underlying5 (by kernel_rfl) (by kernel_rfl)) rfl (by kernel_rfl) (opensFs_cons (sz := 32) (opens_bytesA Try.underlying49 Try.underlying5 (by kernel_rfl) (by kernel_rfl)) rfl (by kernel_rfl) opensFs_nil (by simp)) (by simp)) (by simp)) (by simp)))) ok0 h0 hsz rfl rfl
  simp only [] at hc1 hc2 ht1 ht2 hla hro
  have ok1 := hval 1 61 v1 rfl rfl
  obtain ⟨k, lk, rfl⟩ := open_bytesA Try.underlying61 Try.underlying5 (by kernel_rfl) (by kernel_rfl) ok1 h1
  have ok2 := hval 2 65 v2 rfl rfl
  obtain ⟨sg, lsg, rfl⟩ := open_bytesA Try.underlying65 Try.underlying5 (by kernel_rfl) (by kernel_rfl) ok2 h2
  have ok3 := hval 3 22 v3 rfl rfl
  obtain ⟨ab, b, cb, rfl, rb, lcb, hcb⟩ := open_bytesS (j := 3) Try.underlying22 Try.underlying5 (by kernel_rfl) (by kernel_rfl) ok3 h3 hsz rfl rfl
  refine Calls.mono (walk ct tm la ro k sg b ab cb W hla hro lk lsg rb lcb (Nat.le_trans lcb hcb)) fun e W' ⟨v, he, hv, hs⟩ => ?_
  subst hv; subst he
  have bel := hs.below
  exact ⟨_, rfl, _, _, _, [], _, [], hW', trodAll_mk1 (shut_bool Try.underlying4 _), (trodAll_cons_mk (Below.trod laidOut readable83 (of_decide_eq_true inside83) h0 bel lt0) (trodAll_cons_mk (Below.trod laidOut readable61 (of_decide_eq_true inside61) h1 bel lt1) (trodAll_cons_mk (Below.trod laidOut readable65 (of_decide_eq_true inside65) h2 bel lt2) (trodAll_cons_mk (Below.trod laidOut readable22 (of_decide_eq_true inside22) h3 bel lt3) trodAll_mk0)))), rfl, bel.frame _, fun h => by cases h⟩
theorem over : Rows.headsMatchRow.holds Try.pinned (OpenSpec.ofChange Rows.headsMatchSpec) :=
  OpenClaim.holds_of_wide 9 Try.f9 rfl rfl rfl rfl rfl rfl rfl ⟨rfl, rfl, rfl, rfl, rfl⟩ rfl rfl rfl rfl rfl (by kernel_rfl) Try.func9 (by kernel_rfl)
    (of_decide_eq_true (by kernel_rfl)) (by unfold Func.isWrapper; rw [if_neg (of_decide_eq_false (by kernel_rfl))]; exact ⟨rfl, rfl⟩)
    (fun os started H enc _ => lifted os started H enc)
theorem proved : Rows.HeadsMatchSaid := over
#print axioms proved
end Go.Proofs.Ytfohfnpehfcaaaa.lawHeadsMatch
