/- For every ask and rule: CheckAsk, AskSum and Meets of the program are the reference's; the law's function returns true and turns nothing. No condition. -/
import Derived.Test.YtafdmlpfgpaicaaRows
import Derived.Test.YtafdmlpfgpaicaaOpen
import Derived.Test.YtafdmlpfgpaicaaAskD
namespace Go.Proofs.Ytafdmlpfgpaicaa.lawAsksCheck
open Go.Kw Go.Proofs.Ytafdmlpfgpaicaa
open Go.ChangeShapes Go.WideShapes Go.ChangeAt Go.RowKit
set_option linter.unusedVariables false
set_option linter.unusedSimpArgs false
set_option maxRecDepth 100000
set_option maxHeartbeats 20000000

theorem walk (q : AskD) (r : RuleD) (w : World) (hk : RuleOk r) (h1 : Row w r.ra (r.ro.map sv)) (h2 : Row w r.aa (r.acs.map iv)) (h3 : Row w r.la (r.las.map sv)) (hq : AskOk q) (hr : Row w q.ra (q.ro.map sv)) :
    Ret Try.prog 4 [.agg q.v.toArray, .agg r.v.toArray] w (fun v w' => v = .bool true ∧ St w [] w' []) := by
  have hac := hq.ac
  have hkey := hq.key
  have hdet := hq.det
  refine enter Try.func4 rfl Try.ntmps4 rfl ?_
  have hS := St.refl w []
  refine c_seq ?_
  refine c_region ?_
  refine wl_exv (x_box hS (v := .agg _) rfl rfl) rfl ?_
  rintro _ w1 ⟨b2, rfl, hS2⟩
  refine wl_exv (x_box hS2 (v := .agg _) rfl rfl) rfl ?_
  rintro _ w3 ⟨b3, rfl, hS4⟩
  refine wl_val (r_assign (v := .bool false) rfl) rfl ?_
  refine wl_nil ?_
  refine c_then ?_
  refine c_seq ?_
  refine c_seq ?_
  refine c_region ?_
  refine wl_call (r_call fn7 rfl rfl) rfl (landed_ok _) ?_
  rintro _ w5 ⟨rfl, hx6⟩
  have hS7 := hS4.ext hx6
  refine wl_val (r_not rfl) rfl ?_
  refine wl_nil ?_
  refine c_then ?_
  refine c_false rfl ?_
  refine wp_skip ?_
  refine c_then ?_
  refine c_seq ?_
  refine c_region ?_
  refine wl_val (r_loadB ti34 ag34 rfl (hS7.heap (.tail _ (.head _))) (by first | (simp [*]; done) | (simp [*] <;> omega) | omega)) rfl ?_
  refine wl_call (r_call fn12 rfl rfl) rfl (rcheckAsk_ok q _ hq (hr.st hS7)) ?_
  rintro _ w8 ⟨rfl, hx9⟩
  have hS10 := hS7.ext hx9
  refine wl_val (r_assign (v := .int .i64 _) rfl) rfl ?_
  refine wl_nil ?_
  refine c_then ?_
  refine c_seq ?_
  refine c_region ?_
  refine wl_val (r_loadB ti34 ag34 rfl (hS10.heap (.tail _ (.head _))) (by first | (simp [*]; done) | (simp [*] <;> omega) | omega)) rfl ?_
  refine wl_call (r_call fn13 rfl rfl) rfl (askSum_ok q _ hq (hr.st hS10)) ?_
  rintro _ w11 (⟨hs, rfl, hx12⟩ | ⟨hs, rfl, hx12⟩)
  · have hS13 := hS10.ext hx12
    refine wl_val (r_move (v := .tuple _) rfl) rfl ?_
    refine wl_val (r_extract (v := .agg _) rfl rfl) rfl ?_
    refine wl_val (r_extract (v := .int .i64 _) rfl rfl) rfl ?_
    refine wl_exv (x_alloc (C := ((List.replicate 32 (0 : UInt8)).map b8)) hS13 ti32 rfl) rfl ?_
    rintro _ w14 ⟨b6, rfl, hS15⟩
    refine wl_exs (x_storeW [] hS15 ti32 rfl rfl (by first | (simp [*]; done) | (simp [*] <;> omega) | omega) (by first | (simp [*]; done) | (simp [*] <;> omega) | omega) (by repeat' first | exact one_nil | exact one_b8 _ | exact one_v32 _ | exact one_all rfl | refine one_cons rfl ?_ | refine one_app ?_ ?_)) rfl ?_
    intro w16 hS17
    simp only [List.cons_append, List.nil_append] at hS17
    refine wl_val (r_assign (v := .int .i64 _) rfl) rfl ?_
    refine wl_nil ?_
    refine c_then ?_
    refine c_seq ?_
    refine c_seq ?_
    refine c_drawS 25 hMixed hS17 ?_
    intro w18 hS19
    refine g_take 0 rfl (by decide +kernel) rfl (fun _ _ _ h => h) hS19 (fun wF hF => r_loadB ti34 ag34 rfl (hF.heap (.tail _ (.tail _ (.head _)))) (by first | (simp [*]; done) | (simp [*] <;> omega) | omega)) ?_
    refine g_take 2 rfl (by decide +kernel) rfl (fun _ _ _ h => h) hS19 (fun wF hF => r_move (v := .int .i64 _) rfl) ?_
    refine g_one 1 (by decide +kernel) (by decide +kernel) ?_
    refine o_call rfl (r_call fn14 rfl rfl) rfl (checkAsk_ok q _ hq (hr.st hS19)) ?_
    rintro _ w20 ⟨rfl, hx21⟩
    have hS22 := hS19.ext hx21
    refine ⟨hS22, ?_⟩
    refine g_dec_f 3 rfl (by decide +kernel) rfl (fun _ _ _ _ h => h) hS22 (fun wF hF => r_neq rfl rfl) (fun h => h rfl) ?_
    refine g_take 4 rfl (by decide +kernel) rfl (fun _ _ _ h => h) hS22 (fun wF hF => r_move (v := .bool _) rfl) ?_
    refine g_take 5 rfl (by decide +kernel) rfl (fun _ _ _ h => h) hS22 (fun wF hF => r_move (v := .int .i64 _) rfl) ?_
    refine g_take 6 rfl (by decide +kernel) rfl (fun _ _ _ h => h) hS22 (fun wF hF => r_move (v := .int .i64 _) rfl) ?_
    refine g_dec_f 7 rfl (by decide +kernel) rfl (fun _ _ _ _ h => h) hS22 (fun wF hF => r_neq rfl rfl) (fun h => h (by first | rfl | exact hs.symm)) ?_
    refine g_take 8 rfl (by decide +kernel) rfl (fun _ _ _ h => h) hS22 (fun wF hF => r_pick_f rfl (v := .bool _) rfl) ?_
    refine g_take 9 rfl (by decide +kernel) rfl (fun _ _ _ h => h) hS22 (fun wF hF => r_move (v := .bool _) rfl) ?_
    refine g_take 10 rfl (by decide +kernel) rfl (fun _ _ _ h => h) hS22 (fun wF hF => r_move (v := .int .i64 _) rfl) ?_
    refine g_dec_f 11 rfl (by decide +kernel) rfl (fun _ _ _ _ h => h) hS22 (fun wF hF => r_eql rfl rfl) hs ?_
    refine g_take 12 rfl (by decide +kernel) rfl (fun _ _ _ h => h) hS22 (fun wF hF => r_move (v := .bool _) rfl) ?_
    refine g_takeN 13 rfl (by decide +kernel) rfl (fun _ _ _ h => h) hS22 ?_
    refine g_takeN 14 rfl (by decide +kernel) rfl (fun _ _ _ h => h) hS22 ?_
    refine g_takeN 15 rfl (by decide +kernel) rfl (fun _ _ _ h => h) hS22 ?_
    refine g_takeN 16 rfl (by decide +kernel) rfl (fun _ _ _ h => h) hS22 ?_
    refine g_take 17 rfl (by decide +kernel) rfl (fun _ _ _ h => h) hS22 (fun wF hF => r_pick_f rfl (v := .bool false) rfl) ?_
    refine g_take 18 rfl (by decide +kernel) rfl (fun _ _ _ h => h) hS22 (fun wF hF => r_pick_f rfl (v := .bool _) rfl) ?_
    refine g_take 19 rfl (by decide +kernel) rfl (fun _ _ _ h => h) hS22 (fun wF hF => r_move (v := .bool _) rfl) ?_
    refine g_take 20 rfl (by decide +kernel) rfl (fun _ _ _ h => h) hS22 (fun wF hF => r_move (v := .int .i64 _) rfl) ?_
    refine g_dec_t 21 rfl (by decide +kernel) rfl (fun _ _ _ _ h => h) hS22 (fun wF hF => r_neq rfl rfl) hs ?_
    refine g_take 22 rfl (by decide +kernel) rfl (fun _ _ _ h => h) hS22 (fun wF hF => r_move (v := .bool _) rfl) ?_
    refine g_take 23 rfl (by decide +kernel) rfl (fun _ _ _ h => h) hS22 (fun wF hF => r_loadB ti32 rfl rfl (hF.heap (.head _)) (by first | (simp [*]; done) | (simp [*] <;> omega) | omega)) ?_
    refine g_take 24 rfl (by decide +kernel) rfl (fun _ _ _ h => h) hS22 (fun wF hF => r_build0 (cs := ((List.replicate 32 (0 : UInt8)).map b8)) ti32.und ti32 ti5) ?_
    refine g_tail (by decide +kernel) rfl (by decide +kernel) ?_
    refine wl_dec_f (r_neqA (u := undef) eg32 rfl rfl (eqIs_b8 ti32.und ti5 _ _ (by first | (simp [*]; done) | (simp [*] <;> omega) | omega) (by first | (simp [*]; done) | (simp [*] <;> omega) | omega))) rfl (fun h => h rfl) ?_
    refine wl_val (r_pick_t rfl (v := .bool _) rfl) rfl ?_
    refine wl_val (r_pick_f rfl (v := .bool _) rfl) rfl ?_
    refine wl_nil ?_
    refine c_then ?_
    refine c_false rfl ?_
    refine wp_skip ?_
    refine c_then ?_
    refine c_seq ?_
    refine c_region ?_
    refine wl_val (r_loadB ti37 ag37 rfl (hS22.heap (.tail _ (.head _))) (by first | (simp [*]; done) | (simp [*] <;> omega) | omega)) rfl ?_
    refine wl_val (r_loadB ti34 ag34 rfl (hS22.heap (.tail _ (.tail _ (.head _)))) (by first | (simp [*]; done) | (simp [*] <;> omega) | omega)) rfl ?_
    refine wl_call (r_call fn16 rfl rfl) rfl (pmeets_ok r q _ hk (h1.st hS22) (h2.st hS22) (h3.st hS22) hq (hr.st hS22)) ?_
    rintro _ w23 (⟨hm, rfl, hx24⟩ | ⟨hm, rfl, hx24⟩ | ⟨hm, rfl, hx24⟩)
    · have hS25 := hS22.ext hx24
      refine wl_val (r_move (v := .tuple _) rfl) rfl ?_
      refine wl_val (r_extract (v := .bool _) rfl rfl) rfl ?_
      refine wl_val (r_extract (v := .int .i64 _) rfl rfl) rfl ?_
      refine wl_val (r_assign (v := .bool _) rfl) rfl ?_
      refine wl_val (r_assign (v := .int .i64 _) rfl) rfl ?_
      refine wl_nil ?_
      refine c_then ?_
      refine c_seq ?_
      refine c_seq ?_
      refine c_region ?_
      refine wl_val (r_loadB ti37 ag37 rfl (hS25.heap (.tail _ (.head _))) (by first | (simp [*]; done) | (simp [*] <;> omega) | omega)) rfl ?_
      refine wl_call (r_call fn17 rfl rfl) rfl (ruleError_ok r _ hk (h1.st hS25) (h2.st hS25) (h3.st hS25)) ?_
      rintro _ w26 ⟨rfl, hx27⟩
      have hS28 := hS25.ext hx27
      refine wl_val (r_assign (v := .int .i64 _) rfl) rfl ?_
      refine wl_nil ?_
      refine c_then ?_
      refine c_seq ?_
      refine c_region ?_
      refine wl_val (r_move (v := .int .i64 _) rfl) rfl ?_
      refine wl_dec_t (r_neq rfl rfl) rfl hm ?_
      refine wl_nil ?_
      refine c_then ?_
      refine c_true rfl ?_
      refine c_seq ?_
      refine c_region ?_
      refine wl_val (r_move (v := .bool _) rfl) rfl ?_
      refine wl_val (r_not rfl) rfl ?_
      refine wl_val (r_move (v := .bool _) rfl) rfl ?_
      refine wl_val (r_move (v := .int .i64 _) rfl) rfl ?_
      refine wl_val (r_move (v := .int .i64 _) rfl) rfl ?_
      refine wl_dec_t (r_eql rfl rfl) rfl rfl ?_
      refine wl_val (r_pick_t rfl (v := .bool _) rfl) rfl ?_
      refine wl_val (r_assign (v := .bool _) rfl) rfl ?_
      refine wl_nil ?_
      refine c_then ?_
      refine wp_ret ?_
      refine c_thenR ?_
      refine ret1 Try.results4 ?_
      exact ⟨rfl, hS28.fin⟩
    · have hS25 := hS22.ext hx24
      refine wl_val (r_move (v := .tuple _) rfl) rfl ?_
      refine wl_val (r_extract (v := .bool _) rfl rfl) rfl ?_
      refine wl_val (r_extract (v := .int .i64 _) rfl rfl) rfl ?_
      refine wl_val (r_assign (v := .bool _) rfl) rfl ?_
      refine wl_val (r_assign (v := .int .i64 _) rfl) rfl ?_
      refine wl_nil ?_
      refine c_then ?_
      refine c_seq ?_
      refine c_seq ?_
      refine c_region ?_
      refine wl_val (r_loadB ti37 ag37 rfl (hS25.heap (.tail _ (.head _))) (by first | (simp [*]; done) | (simp [*] <;> omega) | omega)) rfl ?_
      refine wl_call (r_call fn17 rfl rfl) rfl (ruleError_ok r _ hk (h1.st hS25) (h2.st hS25) (h3.st hS25)) ?_
      rintro _ w29 ⟨rfl, hx30⟩
      have hS31 := hS25.ext hx30
      refine wl_val (r_assign (v := .int .i64 _) rfl) rfl ?_
      refine wl_nil ?_
      refine c_then ?_
      refine c_seq ?_
      refine c_region ?_
      refine wl_val (r_move (v := .int .i64 _) rfl) rfl ?_
      refine wl_dec_f (r_neq rfl rfl) rfl (fun h => h hm.1) ?_
      refine wl_nil ?_
      refine c_then ?_
      refine c_false rfl ?_
      refine wp_skip ?_
      refine c_then ?_
      refine c_seq ?_
      refine c_seq ?_
      refine c_region ?_
      refine wl_val (r_move (v := .int .i64 _) rfl) rfl ?_
      refine wl_dec_t (r_neq rfl rfl) rfl hm.2 ?_
      refine wl_nil ?_
      refine c_then ?_
      refine c_true rfl ?_
      refine c_seq ?_
      refine c_region ?_
      refine wl_val (r_move (v := .bool _) rfl) rfl ?_
      refine wl_val (r_not rfl) rfl ?_
      refine wl_val (r_move (v := .bool _) rfl) rfl ?_
      refine wl_val (r_move (v := .int .i64 _) rfl) rfl ?_
      refine wl_val (r_move (v := .int .i64 _) rfl) rfl ?_
      refine wl_dec_t (r_eql rfl rfl) rfl rfl ?_
      refine wl_val (r_pick_t rfl (v := .bool _) rfl) rfl ?_
      refine wl_val (r_assign (v := .bool _) rfl) rfl ?_
      refine wl_nil ?_
      refine c_then ?_
      refine wp_ret ?_
      refine c_thenR ?_
      refine ret1 Try.results4 ?_
      exact ⟨rfl, hS31.fin⟩
    · exact absurd hm.2 hs
  · have hS13 := hS10.ext hx12
    refine wl_val (r_move (v := .tuple _) rfl) rfl ?_
    refine wl_val (r_extract (v := .agg _) rfl rfl) rfl ?_
    refine wl_val (r_extract (v := .int .i64 _) rfl rfl) rfl ?_
    refine wl_exv (x_alloc (C := ((List.replicate 32 (0 : UInt8)).map b8)) hS13 ti32 rfl) rfl ?_
    rintro _ w32 ⟨b6, rfl, hS33⟩
    refine wl_exs (x_storeW [] hS33 ti32 rfl rfl (by first | (simp [*]; done) | (simp [*] <;> omega) | omega) (by first | (simp [*]; done) | (simp [*] <;> omega) | omega) (by repeat' first | exact one_nil | exact one_b8 _ | exact one_v32 _ | exact one_all rfl | refine one_cons rfl ?_ | refine one_app ?_ ?_)) rfl ?_
    intro w34 hS35
    simp only [List.cons_append, List.nil_append] at hS35
    refine wl_val (r_assign (v := .int .i64 _) rfl) rfl ?_
    refine wl_nil ?_
    refine c_then ?_
    refine c_seq ?_
    refine c_seq ?_
    refine c_drawS 25 hMixed hS35 ?_
    intro w36 hS37
    refine g_take 0 rfl (by decide +kernel) rfl (fun _ _ _ h => h) hS37 (fun wF hF => r_loadB ti34 ag34 rfl (hF.heap (.tail _ (.tail _ (.head _)))) (by first | (simp [*]; done) | (simp [*] <;> omega) | omega)) ?_
    refine g_take 2 rfl (by decide +kernel) rfl (fun _ _ _ h => h) hS37 (fun wF hF => r_move (v := .int .i64 _) rfl) ?_
    refine g_one 1 (by decide +kernel) (by decide +kernel) ?_
    refine o_call rfl (r_call fn14 rfl rfl) rfl (checkAsk_ok q _ hq (hr.st hS37)) ?_
    rintro _ w38 ⟨rfl, hx39⟩
    have hS40 := hS37.ext hx39
    refine ⟨hS40, ?_⟩
    refine g_dec_f 3 rfl (by decide +kernel) rfl (fun _ _ _ _ h => h) hS40 (fun wF hF => r_neq rfl rfl) (fun h => h rfl) ?_
    refine g_take 4 rfl (by decide +kernel) rfl (fun _ _ _ h => h) hS40 (fun wF hF => r_move (v := .bool _) rfl) ?_
    refine g_take 5 rfl (by decide +kernel) rfl (fun _ _ _ h => h) hS40 (fun wF hF => r_move (v := .int .i64 _) rfl) ?_
    refine g_take 6 rfl (by decide +kernel) rfl (fun _ _ _ h => h) hS40 (fun wF hF => r_move (v := .int .i64 _) rfl) ?_
    refine g_dec_f 7 rfl (by decide +kernel) rfl (fun _ _ _ _ h => h) hS40 (fun wF hF => r_neq rfl rfl) (fun h => h (by first | rfl | exact hs.symm)) ?_
    refine g_take 8 rfl (by decide +kernel) rfl (fun _ _ _ h => h) hS40 (fun wF hF => r_pick_f rfl (v := .bool _) rfl) ?_
    refine g_take 9 rfl (by decide +kernel) rfl (fun _ _ _ h => h) hS40 (fun wF hF => r_move (v := .bool _) rfl) ?_
    refine g_take 10 rfl (by decide +kernel) rfl (fun _ _ _ h => h) hS40 (fun wF hF => r_move (v := .int .i64 _) rfl) ?_
    refine g_dec_t 11 rfl (by decide +kernel) rfl (fun _ _ _ _ h => h) hS40 (fun wF hF => r_eql rfl rfl) hs ?_
    refine g_take 12 rfl (by decide +kernel) rfl (fun _ _ _ h => h) hS40 (fun wF hF => r_move (v := .bool _) rfl) ?_
    refine g_take 13 rfl (by decide +kernel) rfl (fun _ _ _ h => h) hS40 (fun wF hF => r_loadB ti32 rfl rfl (hF.heap (.head _)) (by first | (simp [*]; done) | (simp [*] <;> omega) | omega)) ?_
    refine g_take 14 rfl (by decide +kernel) rfl (fun _ _ _ h => h) hS40 (fun wF hF => r_loadB ti34 ag34 rfl (hF.heap (.tail _ (.tail _ (.head _)))) (by first | (simp [*]; done) | (simp [*] <;> omega) | omega)) ?_
    refine g_one 15 (by decide +kernel) (by decide +kernel) ?_
    refine o_call rfl (r_call fn15 rfl rfl) rfl (raskSum_ok q _ hq (hr.st hS40) hs) ?_
    rintro _ w41 ⟨rfl, hx42⟩
    have hS43 := hS40.ext hx42
    refine ⟨hS43, ?_⟩
    refine g_dec_f 16 rfl (by decide +kernel) rfl (fun _ _ _ _ h => h) hS43 (fun wF hF => r_neqA (u := undef) eg32 rfl rfl (eqIs_b8 ti32.und ti5 _ _ (by first | (simp [*]; done) | (simp [*] <;> omega) | omega) (by first | (simp [*]; done) | (simp [*] <;> omega) | omega))) (fun h => h rfl) ?_
    refine g_take 17 rfl (by decide +kernel) rfl (fun _ _ _ h => h) hS43 (fun wF hF => r_pick_t rfl (v := .bool _) rfl) ?_
    refine g_take 18 rfl (by decide +kernel) rfl (fun _ _ _ h => h) hS43 (fun wF hF => r_pick_f rfl (v := .bool _) rfl) ?_
    refine g_take 19 rfl (by decide +kernel) rfl (fun _ _ _ h => h) hS43 (fun wF hF => r_move (v := .bool _) rfl) ?_
    refine g_take 20 rfl (by decide +kernel) rfl (fun _ _ _ h => h) hS43 (fun wF hF => r_move (v := .int .i64 _) rfl) ?_
    refine g_dec_f 21 rfl (by decide +kernel) rfl (fun _ _ _ _ h => h) hS43 (fun wF hF => r_neq rfl rfl) (fun h => h hs) ?_
    refine g_take 22 rfl (by decide +kernel) rfl (fun _ _ _ h => h) hS43 (fun wF hF => r_move (v := .bool _) rfl) ?_
    refine g_takeN 23 rfl (by decide +kernel) rfl (fun _ _ _ h => h) hS43 ?_
    refine g_takeN 24 rfl (by decide +kernel) rfl (fun _ _ _ h => h) hS43 ?_
    refine g_tail (by decide +kernel) rfl (by decide +kernel) ?_
    refine wl_not rfl ?_
    refine wl_val (r_pick_f rfl (v := .bool false) rfl) rfl ?_
    refine wl_val (r_pick_f rfl (v := .bool _) rfl) rfl ?_
    refine wl_nil ?_
    refine c_then ?_
    refine c_false rfl ?_
    refine wp_skip ?_
    refine c_then ?_
    refine c_seq ?_
    refine c_region ?_
    refine wl_val (r_loadB ti37 ag37 rfl (hS43.heap (.tail _ (.head _))) (by first | (simp [*]; done) | (simp [*] <;> omega) | omega)) rfl ?_
    refine wl_val (r_loadB ti34 ag34 rfl (hS43.heap (.tail _ (.tail _ (.head _)))) (by first | (simp [*]; done) | (simp [*] <;> omega) | omega)) rfl ?_
    refine wl_call (r_call fn16 rfl rfl) rfl (pmeets_ok r q _ hk (h1.st hS43) (h2.st hS43) (h3.st hS43) hq (hr.st hS43)) ?_
    rintro _ w44 (⟨hm, rfl, hx45⟩ | ⟨hm, rfl, hx45⟩ | ⟨hm, rfl, hx45⟩)
    · have hS46 := hS43.ext hx45
      refine wl_val (r_move (v := .tuple _) rfl) rfl ?_
      refine wl_val (r_extract (v := .bool _) rfl rfl) rfl ?_
      refine wl_val (r_extract (v := .int .i64 _) rfl rfl) rfl ?_
      refine wl_val (r_assign (v := .bool _) rfl) rfl ?_
      refine wl_val (r_assign (v := .int .i64 _) rfl) rfl ?_
      refine wl_nil ?_
      refine c_then ?_
      refine c_seq ?_
      refine c_seq ?_
      refine c_region ?_
      refine wl_val (r_loadB ti37 ag37 rfl (hS46.heap (.tail _ (.head _))) (by first | (simp [*]; done) | (simp [*] <;> omega) | omega)) rfl ?_
      refine wl_call (r_call fn17 rfl rfl) rfl (ruleError_ok r _ hk (h1.st hS46) (h2.st hS46) (h3.st hS46)) ?_
      rintro _ w47 ⟨rfl, hx48⟩
      have hS49 := hS46.ext hx48
      refine wl_val (r_assign (v := .int .i64 _) rfl) rfl ?_
      refine wl_nil ?_
      refine c_then ?_
      refine c_seq ?_
      refine c_region ?_
      refine wl_val (r_move (v := .int .i64 _) rfl) rfl ?_
      refine wl_dec_t (r_neq rfl rfl) rfl hm ?_
      refine wl_nil ?_
      refine c_then ?_
      refine c_true rfl ?_
      refine c_seq ?_
      refine c_region ?_
      refine wl_val (r_move (v := .bool _) rfl) rfl ?_
      refine wl_val (r_not rfl) rfl ?_
      refine wl_val (r_move (v := .bool _) rfl) rfl ?_
      refine wl_val (r_move (v := .int .i64 _) rfl) rfl ?_
      refine wl_val (r_move (v := .int .i64 _) rfl) rfl ?_
      refine wl_dec_t (r_eql rfl rfl) rfl rfl ?_
      refine wl_val (r_pick_t rfl (v := .bool _) rfl) rfl ?_
      refine wl_val (r_assign (v := .bool _) rfl) rfl ?_
      refine wl_nil ?_
      refine c_then ?_
      refine wp_ret ?_
      refine c_thenR ?_
      refine ret1 Try.results4 ?_
      exact ⟨rfl, hS49.fin⟩
    · exact absurd hs hm.2
    · have hS46 := hS43.ext hx45
      refine wl_val (r_move (v := .tuple _) rfl) rfl ?_
      refine wl_val (r_extract (v := .bool _) rfl rfl) rfl ?_
      refine wl_val (r_extract (v := .int .i64 _) rfl rfl) rfl ?_
      refine wl_val (r_assign (v := .bool _) rfl) rfl ?_
      refine wl_val (r_assign (v := .int .i64 _) rfl) rfl ?_
      refine wl_nil ?_
      refine c_then ?_
      refine c_seq ?_
      refine c_seq ?_
      refine c_region ?_
      refine wl_val (r_loadB ti37 ag37 rfl (hS46.heap (.tail _ (.head _))) (by first | (simp [*]; done) | (simp [*] <;> omega) | omega)) rfl ?_
      refine wl_call (r_call fn17 rfl rfl) rfl (ruleError_ok r _ hk (h1.st hS46) (h2.st hS46) (h3.st hS46)) ?_
      rintro _ w50 ⟨rfl, hx51⟩
      have hS52 := hS46.ext hx51
      refine wl_val (r_assign (v := .int .i64 _) rfl) rfl ?_
      refine wl_nil ?_
      refine c_then ?_
      refine c_seq ?_
      refine c_region ?_
      refine wl_val (r_move (v := .int .i64 _) rfl) rfl ?_
      refine wl_dec_f (r_neq rfl rfl) rfl (fun h => h hm.1) ?_
      refine wl_nil ?_
      refine c_then ?_
      refine c_false rfl ?_
      refine wp_skip ?_
      refine c_then ?_
      refine c_seq ?_
      refine c_seq ?_
      refine c_region ?_
      refine wl_val (r_move (v := .int .i64 _) rfl) rfl ?_
      refine wl_dec_f (r_neq rfl rfl) rfl (fun h => h hm.2) ?_
      refine wl_nil ?_
      refine c_then ?_
      refine c_false rfl ?_
      refine wp_skip ?_
      refine c_then ?_
      refine c_seq ?_
      refine c_region ?_
      refine wl_val (r_move (v := .int .i64 _) rfl) rfl ?_
      refine wl_dec_t (r_eql rfl rfl) rfl (by decide) ?_
      refine wl_val (r_move (v := .bool _) rfl) rfl ?_
      refine wl_val (r_move (v := .bool _) rfl) rfl ?_
      refine wl_val (r_loadB ti37 ag37 rfl (hS52.heap (.tail _ (.head _))) (by first | (simp [*]; done) | (simp [*] <;> omega) | omega)) rfl ?_
      refine wl_val (r_loadB ti34 ag34 rfl (hS52.heap (.tail _ (.tail _ (.head _)))) (by first | (simp [*]; done) | (simp [*] <;> omega) | omega)) rfl ?_
      refine wl_call (r_call fn18 rfl rfl) rfl (rmeets_ok r q _ hk (h1.st hS52) (h2.st hS52) (h3.st hS52) hq (hr.st hS52) (askE_ok hs).2.2.1 (askE_ok hs).2.2.2 hm.1) ?_
      rintro _ w53 ⟨rfl, hx54⟩
      have hS55 := hS52.ext hx54
      refine wl_dec_t (r_eqlBool ti4.und rfl rfl) rfl rfl ?_
      refine wl_val (r_pick_t rfl (v := .bool _) rfl) rfl ?_
      refine wl_val (r_assign (v := .bool _) rfl) rfl ?_
      refine wl_nil ?_
      refine c_then ?_
      refine wp_ret ?_
      refine ret1 Try.results4 ?_
      exact ⟨rfl, hS55.fin⟩


theorem own : ownKnob Try.prog.godebug = none := by kernel_rfl
theorem laidOut : laidOutB Try.prog = true := by kernel_rfl
theorem readable34 : Try.prog.readableRec 34 = true := by kernel_rfl
theorem inside34 : decide (34 < Try.prog.types.size) = true := by kernel_rfl
theorem readable37 : Try.prog.readableRec 37 = true := by kernel_rfl
theorem inside37 : decide (37 < Try.prog.types.size) = true := by kernel_rfl
theorem lifted (os : Os) (started : os.Started) (H : Type) (enc : TypeId × Value → H) :
    ReturnsInHanded {} Try.checked os 4 .any (Rows.asksCheckSpec.pre6 enc Try.prog Try.f4 Rows.asksCheckRow.domain false) (Rows.asksCheckSpec.post enc Try.prog Try.f4 false true false false) := by
  refine returnsInHanded_of_change_sized (C := Try.checked) own started (by kernel_rfl) Try.func4
    (ChangeSpec.witness6 (enc := enc) (C := Try.checked) false ⟨#[], #[.agg #[.int .u8 0, .int .u8 0, .int .u8 0, .int .u8 0, .int .u8 0, .int .u8 0, .int .u8 0, .int .u8 0, .int .u8 0, .int .u8 0, .int .u8 0, .int .u8 0, .int .u8 0, .int .u8 0, .int .u8 0, .int .u8 0, .slice none 0 0, .int .i64 0, .string ⟨#[]⟩, .int .u8 0, .int .u8 0, .int .u8 0, .int .u8 0, .int .u8 0, .int .u8 0, .int .u8 0, .int .u8 0, .int .u8 0, .int .u8 0, .int .u8 0, .int .u8 0, .int .u8 0, .int .u8 0, .int .u8 0, .int .u8 0, .int .i64 0, .int .u8 0, .int .u8 0, .int .u8 0, .int .u8 0, .int .u8 0, .int .u8 0, .int .u8 0, .int .u8 0, .int .u8 0, .int .u8 0, .int .u8 0, .int .u8 0, .int .u8 0, .int .u8 0, .int .u8 0, .int .u8 0, .int .u8 0, .int .u8 0, .int .u8 0, .int .u8 0, .int .u8 0, .int .u8 0, .int .u8 0, .int .u8 0, .int .u8 0, .int .u8 0, .int .u8 0, .int .u8 0, .int .u8 0, .int .u8 0, .int .u8 0, .int .u8 0], .agg #[.bool false, .slice none 0 0, .slice none 0 0, .slice none 0 0, .int .i64 0, .int .i64 0, .int .i64 0, .string ⟨#[]⟩]], []⟩ 8 (by kernel_rfl) (by kernel_rfl) (by kernel_rfl) (by kernel_rfl)) ?_
  intro W base args ds gs before hval0 hW hcnd hsz0 _
  have hval : ∀ (j : Nat) t v, Try.f4.params[j]? = some t → args[j]? = some v → Value.okWide Try.prog W .any base t v := hval0
  have hW' := hW
  obtain ⟨p, q, hA0, hV, rfl, hfz, hnd⟩ := hW
  have hA : DataW.TrodAll enc Try.prog W 0 (fun _ => true) true Try.f4.params.toList args.toList ds p := hA0
  have hsz : (DataW.weightsEach Try.prog (Try.f4.params.toList ++ Rows.asksCheckSpec.plain.varTypes Try.prog) (ds ++ gs)).all (· ≤ reachBytes) = true := hsz0
  rw [Try.params4] at hA hval hsz
  obtain ⟨v0, vs0, d0, ds0, p0, q0, hargs, rfl, rfl, h0, r0⟩ := trodAll_cons hA
  obtain ⟨v1, vs1, d1, ds1, p1, q1, rfl, rfl, rfl, h1, r1⟩ := trodAll_cons r0
  obtain ⟨rfl, rfl, rfl⟩ := trodAll_nil r1
  obtain rfl : args = #[v0, v1] := by cases args; simp_all
  obtain ⟨rfl, rfl⟩ := trodVars_none hV
  have lt0 : ∀ x ∈ p0, x.block < W.heap.size := by obtain ⟨m, hm⟩ := h0; exact DataW.trod_lt m _ _ _ hm
  have lt1 : ∀ x ∈ p1, x.block < W.heap.size := by obtain ⟨m, hm⟩ := h1; exact DataW.trod_lt m _ _ _ hm
  have ok0 := hval 0 34 v0 rfl rfl
  obtain ⟨q, rfl, hqR⟩ := open_struct (j := 0) Try.underlying34 (opens_ask (opens_struct Try.underlying34 (by kernel_rfl) (opensFs_cons (sz := 16) (opens_bytesA Try.underlying29 Try.underlying5 (by kernel_rfl) (by kernel_rfl)) rfl (by kernel_rfl) (opensFs_cons (sz := 1) (opens_slice1 (bts := 16) Try.underlying30 (by kernel_rfl) (by kernel_rfl) (opens_str Try.underlying9)) rfl (by kernel_rfl) (opensFs_cons (sz := 1) (opens_i64 Try.underlying3) rfl (by kernel_rfl) (opensFs_cons (sz := 1) (opens_str Try.underlying9) rfl (by kernel_rfl) (opensFs_cons (sz := 16) (opens_bytesA Try.underlying29 Try.underlying5 (by kernel_rfl) (by kernel_rfl)) rfl (by kernel_rfl) (opensFs_cons (sz := 1) (opens_i64 Try.underlying3) rfl (by kernel_rfl) (opensFs_cons (sz := 32) (opens_bytesA Try.underlying32 Try.underlying5 (by kernel_rfl) (by kernel_rfl)) rfl (by kernel_rfl) opensFs_nil (by simp)) (by simp)) (by simp)) (by simp)) (by simp)) (by simp)) (by simp)))) ok0 h0 hsz rfl rfl
  have ok1 := hval 1 37 v1 rfl rfl
  obtain ⟨r, rfl, hrR⟩ := open_struct (j := 1) Try.underlying37 (opens_rule (opens_struct Try.underlying37 (by kernel_rfl) (opensFs_cons (sz := 1) (opens_bool Try.underlying4) rfl (by kernel_rfl) (opensFs_cons (sz := 1) (opens_slice1 (bts := 16) Try.underlying30 (by kernel_rfl) (by kernel_rfl) (opens_str Try.underlying9)) rfl (by kernel_rfl) (opensFs_cons (sz := 1) (opens_slice1 (bts := 8) Try.underlying35 (by kernel_rfl) (by kernel_rfl) (opens_i64 Try.underlying3)) rfl (by kernel_rfl) (opensFs_cons (sz := 1) (opens_slice1 (bts := 16) Try.underlying30 (by kernel_rfl) (by kernel_rfl) (opens_str Try.underlying9)) rfl (by kernel_rfl) (opensFs_cons (sz := 1) (opens_i64 Try.underlying3) rfl (by kernel_rfl) (opensFs_cons (sz := 1) (opens_i64 Try.underlying3) rfl (by kernel_rfl) (opensFs_cons (sz := 1) (opens_i64 Try.underlying3) rfl (by kernel_rfl) (opensFs_cons (sz := 1) (opens_str Try.underlying9) rfl (by kernel_rfl) opensFs_nil (by simp)) (by simp)) (by simp)) (by simp)) (by simp)) (by simp)) (by simp)) (by simp)))) ok1 h1 hsz rfl rfl
  refine Calls.mono (walk q r W hrR.1 hrR.2.1 hrR.2.2.1 hrR.2.2.2 hqR.1 hqR.2) fun e W' ⟨v, he, hv, hs⟩ => ?_
  subst hv; subst he
  have bel := hs.below
  exact ⟨_, rfl, _, _, _, [], _, [], hW', trodAll_mk1 (shut_bool Try.underlying4 _), (trodAll_cons_mk (Below.trod laidOut readable34 (of_decide_eq_true inside34) h0 bel lt0) (trodAll_cons_mk (Below.trod laidOut readable37 (of_decide_eq_true inside37) h1 bel lt1) trodAll_mk0)), rfl, bel.frame _, fun h => by cases h⟩
theorem over : Rows.asksCheckRow.holds Try.pinned (OpenSpec.ofChange Rows.asksCheckSpec) :=
  OpenClaim.holds_of_wide 4 Try.f4 rfl rfl rfl rfl rfl rfl rfl ⟨rfl, rfl, rfl, rfl, rfl⟩ rfl rfl rfl rfl rfl (by kernel_rfl) Try.func4 (by kernel_rfl)
    (of_decide_eq_true (by kernel_rfl)) (by unfold Func.isWrapper; rw [if_neg (of_decide_eq_false (by kernel_rfl))]; exact ⟨rfl, rfl⟩)
    (fun os started H enc _ => lifted os started H enc)
theorem proved : Rows.AsksCheckSaid := over
#print axioms proved
end Go.Proofs.Ytafdmlpfgpaicaa.lawAsksCheck
