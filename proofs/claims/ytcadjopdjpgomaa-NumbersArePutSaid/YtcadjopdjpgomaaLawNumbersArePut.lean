/- For every text, place and numbers: Number and Long read what the reference cuts, PutNumber and PutLong put what is read back; the law's function returns true and turns nothing. No condition. -/
import Derived.Test.YtcadjopdjpgomaaRows
import Derived.Test.YtcadjopdjpgomaaOpen
import Derived.Test.YtcadjopdjpgomaaMixC
namespace Go.Proofs.Ytcadjopdjpgomaa.lawNumbersArePut
open Go.Kw Go.Proofs.Ytcadjopdjpgomaa
open Go.ChangeShapes Go.WideShapes Go.ChangeAt Go.RowKit
set_option linter.unusedVariables false
set_option linter.unusedSimpArgs false
set_option maxRecDepth 100000
set_option maxHeartbeats 20000000

theorem walk (l : List UInt8) (a : Option Addr) (c : Nat) (p : Int) (x : UInt32) (q : Int) (w : World) (hb : Row w a (l.map b8)) (hc : l.length ≤ c) (hn : l.length ≤ 140737488351232) (hp1 : -9223372036854775808 ≤ p) (hp2 : p ≤ 9223372036854775807) (hq1 : -9223372036854775808 ≤ q) (hq2 : q ≤ 9223372036854775807) :
    Ret Try.prog 5 [.slice a l.length c, .int .i64 p, v32 x, .int .i64 q] w (fun v w' => v = .bool true ∧ St w [] w' []) := by
  refine enter Try.func5 rfl Try.ntmps5 rfl ?_
  have hS := St.refl w []
  refine c_seq ?_
  refine c_region ?_
  refine wl_val (r_assign (v := .bool false) rfl) rfl ?_
  refine wl_nil ?_
  refine c_then ?_
  refine c_seq ?_
  refine c_seq ?_
  refine c_region ?_
  refine wl_call (r_call fn15 rfl rfl) rfl (landed_ok _) ?_
  rintro _ w1 ⟨rfl, hx2⟩
  have hS3 := hS.ext hx2
  refine wl_val (r_not rfl) rfl ?_
  refine wl_nil ?_
  refine c_then ?_
  refine c_false rfl ?_
  refine wp_skip ?_
  refine c_then ?_
  refine c_cut3 [0, 1, 2, 3] (fun e w' => St w [] w' []) ?_ ?_
  · refine c_region ?_
    refine wl_val (r_move (v := .slice _ _ _) rfl) rfl ?_
    refine wl_val (r_move (v := .int .i64 _) rfl) rfl ?_
    refine wl_call (r_call fn21 rfl rfl) rfl (rCut_ok _ _ _ _ 4 _ (hb.st hS3) (by first | (simp [*]; done) | (simp [*] <;> omega) | omega) (by first | (simp [*]; done) | (simp [*] <;> omega) | omega) (by first | omega | (simp [*]; done) | (simp [*] <;> omega)) (by first | omega | (simp [*]; done) | (simp [*] <;> omega)) (by first | omega | (simp [*]; done) | (simp [*] <;> omega))) ?_
    rintro _ w8 (⟨hm0, hm1, rfl, hx9⟩ | ⟨hro, rfl, hx9⟩)
    · have hS10 := hS3.ext hx9
      have hr4 : Row w (sub a c p.toNat 1) ((l.drop p.toNat).map b8) := hb.from' hc p.toNat
      refine wl_val (r_move (v := .tuple _) rfl) rfl ?_
      refine wl_val (r_extract (v := .slice _ _ _) rfl rfl) rfl ?_
      refine wl_val (r_extract (v := .int .i64 _) rfl rfl) rfl ?_
      refine wl_val (r_assign (v := .slice _ _ _) rfl) rfl ?_
      refine wl_val (r_assign (v := .int .i64 _) rfl) rfl ?_
      refine wl_nil ?_
      refine c_then ?_
      refine c_region ?_
      refine wl_val (r_move (v := .slice _ _ _) rfl) rfl ?_
      refine wl_val (r_move (v := .int .i64 _) rfl) rfl ?_
      refine wl_call (r_call fn28 rfl rfl) rfl (number_ok _ _ _ _ _ (hb.st hS10) (by first | (simp [*]; done) | (simp [*] <;> omega) | omega) (by first | (simp [*]; done) | (simp [*] <;> omega) | omega) (by first | omega | (simp [*]; done) | (simp [*] <;> omega)) (by first | omega | (simp [*]; done) | (simp [*] <;> omega))) ?_
      rintro _ w11 ⟨rfl, hx12⟩
      have hS13 := hS10.ext hx12
      refine wl_val (r_move (v := .tuple _) rfl) rfl ?_
      refine wl_val (r_extract (v := .int .u32 _) rfl rfl) rfl ?_
      refine wl_val (r_extract (v := .int .i64 _) rfl rfl) rfl ?_
      refine wl_val (r_assign (v := .int .u32 _) rfl) rfl ?_
      refine wl_val (r_assign (v := .int .i64 _) rfl) rfl ?_
      refine wl_nil ?_
      refine c_then ?_
      refine c_seq ?_
      refine c_drawS 30 hMixed hS13 ?_
      intro w14 hS15
      refine g_take 0 rfl (by decide +kernel) rfl (fun _ _ _ h => h) hS15 (fun wF hF => r_move (v := .int .i64 _) rfl) ?_
      refine g_take 1 rfl (by decide +kernel) rfl (fun _ _ _ h => h) hS15 (fun wF hF => r_move (v := .int .i64 _) rfl) ?_
      refine g_dec_f 2 rfl (by decide +kernel) rfl (fun _ _ _ _ h => h) hS15 (fun wF hF => r_neq rfl rfl) (by simp [room_in hm0 hm1]) ?_
      refine g_take 3 rfl (by decide +kernel) rfl (fun _ _ _ h => h) hS15 (fun wF hF => r_move (v := .bool _) rfl) ?_
      refine g_take 4 rfl (by decide +kernel) rfl (fun _ _ _ h => h) hS15 (fun wF hF => r_move (v := .int .i64 _) rfl) ?_
      refine g_dec_t 5 rfl (by decide +kernel) rfl (fun _ _ _ _ h => h) hS15 (fun wF hF => r_eql rfl rfl) (by decide) ?_
      refine g_take 6 rfl (by decide +kernel) rfl (fun _ _ _ h => h) hS15 (fun wF hF => r_move (v := .bool _) rfl) ?_
      refine g_take 7 rfl (by decide +kernel) rfl (fun _ _ _ h => h) hS15 (fun wF hF => r_move (v := .int .u32 _) rfl) ?_
      refine g_take 8 rfl (by decide +kernel) rfl (fun _ _ _ h => h) hS15 (fun wF hF => r_move (v := .slice _ _ _) rfl) ?_
      refine g_take 9 rfl (by decide +kernel) rfl (fun _ _ _ h => h) hS15 (fun wF hF => r_ixS (m := 0) ti26.und ti5 rfl rfl (hr4.st hF) (by first | omega | (simp [*]; done) | (simp [*] <;> omega)) (by first | (simp [*]; done) | (simp [*] <;> omega) | omega)) ?_
      refine g_take 10 rfl (by decide +kernel) rfl (fun _ _ _ h => h) hS15 (fun wF hF => r_loadS1 ti5.und rfl rfl (hr4.st hF) (by rw [Nat.mul_one]; exact map_gt _ _ _ (by first | omega | (simp [*]; done) | (simp [*] <;> omega)))) ?_
      refine g_take 11 rfl (by decide +kernel) rfl (fun _ _ _ h => h) hS15 (fun wF hF => c_u8_u32 ti45.und ⟨_, ti5.und⟩ rfl) ?_
      refine g_take 12 rfl (by decide +kernel) rfl (fun _ _ _ h => h) hS15 (fun wF hF => r_shl32 (s := 24) rfl rfl (by first | omega | (simp [*]; done) | (simp [*] <;> omega))) ?_
      refine g_take 13 rfl (by decide +kernel) rfl (fun _ _ _ h => h) hS15 (fun wF hF => r_move (v := .slice _ _ _) rfl) ?_
      refine g_take 14 rfl (by decide +kernel) rfl (fun _ _ _ h => h) hS15 (fun wF hF => r_ixS (m := 1) ti26.und ti5 rfl rfl (hr4.st hF) (by first | omega | (simp [*]; done) | (simp [*] <;> omega)) (by first | (simp [*]; done) | (simp [*] <;> omega) | omega)) ?_
      refine g_take 15 rfl (by decide +kernel) rfl (fun _ _ _ h => h) hS15 (fun wF hF => r_loadS1 ti5.und rfl rfl (hr4.st hF) (by rw [Nat.mul_one]; exact map_gt _ _ _ (by first | omega | (simp [*]; done) | (simp [*] <;> omega)))) ?_
      refine g_take 16 rfl (by decide +kernel) rfl (fun _ _ _ h => h) hS15 (fun wF hF => c_u8_u32 ti45.und ⟨_, ti5.und⟩ rfl) ?_
      refine g_take 17 rfl (by decide +kernel) rfl (fun _ _ _ h => h) hS15 (fun wF hF => r_shl32 (s := 16) rfl rfl (by first | omega | (simp [*]; done) | (simp [*] <;> omega))) ?_
      refine g_take 18 rfl (by decide +kernel) rfl (fun _ _ _ h => h) hS15 (fun wF hF => r_or32 rfl rfl) ?_
      refine g_take 19 rfl (by decide +kernel) rfl (fun _ _ _ h => h) hS15 (fun wF hF => r_move (v := .slice _ _ _) rfl) ?_
      refine g_take 20 rfl (by decide +kernel) rfl (fun _ _ _ h => h) hS15 (fun wF hF => r_ixS (m := 2) ti26.und ti5 rfl rfl (hr4.st hF) (by first | omega | (simp [*]; done) | (simp [*] <;> omega)) (by first | (simp [*]; done) | (simp [*] <;> omega) | omega)) ?_
      refine g_take 21 rfl (by decide +kernel) rfl (fun _ _ _ h => h) hS15 (fun wF hF => r_loadS1 ti5.und rfl rfl (hr4.st hF) (by rw [Nat.mul_one]; exact map_gt _ _ _ (by first | omega | (simp [*]; done) | (simp [*] <;> omega)))) ?_
      refine g_take 22 rfl (by decide +kernel) rfl (fun _ _ _ h => h) hS15 (fun wF hF => c_u8_u32 ti45.und ⟨_, ti5.und⟩ rfl) ?_
      refine g_take 23 rfl (by decide +kernel) rfl (fun _ _ _ h => h) hS15 (fun wF hF => r_shl32 (s := 8) rfl rfl (by first | omega | (simp [*]; done) | (simp [*] <;> omega))) ?_
      refine g_take 24 rfl (by decide +kernel) rfl (fun _ _ _ h => h) hS15 (fun wF hF => r_or32 rfl rfl) ?_
      refine g_take 25 rfl (by decide +kernel) rfl (fun _ _ _ h => h) hS15 (fun wF hF => r_move (v := .slice _ _ _) rfl) ?_
      refine g_take 26 rfl (by decide +kernel) rfl (fun _ _ _ h => h) hS15 (fun wF hF => r_ixS (m := 3) ti26.und ti5 rfl rfl (hr4.st hF) (by first | omega | (simp [*]; done) | (simp [*] <;> omega)) (by first | (simp [*]; done) | (simp [*] <;> omega) | omega)) ?_
      refine g_take 27 rfl (by decide +kernel) rfl (fun _ _ _ h => h) hS15 (fun wF hF => r_loadS1 ti5.und rfl rfl (hr4.st hF) (by rw [Nat.mul_one]; exact map_gt _ _ _ (by first | omega | (simp [*]; done) | (simp [*] <;> omega)))) ?_
      refine g_take 28 rfl (by decide +kernel) rfl (fun _ _ _ h => h) hS15 (fun wF hF => c_u8_u32 ti45.und ⟨_, ti5.und⟩ rfl) ?_
      refine g_take 29 rfl (by decide +kernel) rfl (fun _ _ _ h => h) hS15 (fun wF hF => r_or32 rfl rfl) ?_
      refine g_tail (by decide +kernel) rfl (by decide +kernel) ?_
      refine wl_dec_f (r_neq rfl rfl) rfl (not_not_intro (congrArg (fun t : UInt32 => ((t.toNat : Nat) : Int)) (word4_row (room_in hm0 hm1)))) ?_
      refine wl_val (r_pick_t rfl (v := .bool _) rfl) rfl ?_
      refine wl_val (r_pick_f rfl (v := .bool _) rfl) rfl ?_
      refine wl_nil ?_
      refine c_then ?_
      refine c_false rfl ?_
      refine wp_skip ?_
      refine c_then ?_
      exact ⟨_, rfl, hS15.sub (by simp), ⟨rfl, rfl, rfl, rfl, trivial⟩⟩
    · have hS10 := hS3.ext hx9
      refine wl_val (r_move (v := .tuple _) rfl) rfl ?_
      refine wl_val (r_extract (v := .slice _ _ _) rfl rfl) rfl ?_
      refine wl_val (r_extract (v := .int .i64 _) rfl rfl) rfl ?_
      refine wl_val (r_assign (v := .slice _ _ _) rfl) rfl ?_
      refine wl_val (r_assign (v := .int .i64 _) rfl) rfl ?_
      refine wl_nil ?_
      refine c_then ?_
      refine c_region ?_
      refine wl_val (r_move (v := .slice _ _ _) rfl) rfl ?_
      refine wl_val (r_move (v := .int .i64 _) rfl) rfl ?_
      refine wl_call (r_call fn28 rfl rfl) rfl (number_ok _ _ _ _ _ (hb.st hS10) (by first | (simp [*]; done) | (simp [*] <;> omega) | omega) (by first | (simp [*]; done) | (simp [*] <;> omega) | omega) (by first | omega | (simp [*]; done) | (simp [*] <;> omega)) (by first | omega | (simp [*]; done) | (simp [*] <;> omega))) ?_
      rintro _ w16 ⟨rfl, hx17⟩
      have hS18 := hS10.ext hx17
      refine wl_val (r_move (v := .tuple _) rfl) rfl ?_
      refine wl_val (r_extract (v := .int .u32 _) rfl rfl) rfl ?_
      refine wl_val (r_extract (v := .int .i64 _) rfl rfl) rfl ?_
      refine wl_val (r_assign (v := .int .u32 _) rfl) rfl ?_
      refine wl_val (r_assign (v := .int .i64 _) rfl) rfl ?_
      refine wl_nil ?_
      refine c_then ?_
      refine c_seq ?_
      refine c_drawS 30 hMixed hS18 ?_
      intro w19 hS20
      refine g_take 0 rfl (by decide +kernel) rfl (fun _ _ _ h => h) hS20 (fun wF hF => r_move (v := .int .i64 _) rfl) ?_
      refine g_take 1 rfl (by decide +kernel) rfl (fun _ _ _ h => h) hS20 (fun wF hF => r_move (v := .int .i64 _) rfl) ?_
      refine g_dec_f 2 rfl (by decide +kernel) rfl (fun _ _ _ _ h => h) hS20 (fun wF hF => r_neq rfl rfl) (by simp) ?_
      refine g_take 3 rfl (by decide +kernel) rfl (fun _ _ _ h => h) hS20 (fun wF hF => r_move (v := .bool _) rfl) ?_
      refine g_take 4 rfl (by decide +kernel) rfl (fun _ _ _ h => h) hS20 (fun wF hF => r_move (v := .int .i64 _) rfl) ?_
      refine g_dec_f 5 rfl (by decide +kernel) rfl (fun _ _ _ _ h => h) hS20 (fun wF hF => r_eql rfl rfl) hro ?_
      refine g_take 6 rfl (by decide +kernel) rfl (fun _ _ _ h => h) hS20 (fun wF hF => r_move (v := .bool _) rfl) ?_
      refine g_takeN 7 rfl (by decide +kernel) rfl (fun _ _ _ h => h) hS20 ?_
      refine g_takeN 8 rfl (by decide +kernel) rfl (fun _ _ _ h => h) hS20 ?_
      refine g_takeN 9 rfl (by decide +kernel) rfl (fun _ _ _ h => h) hS20 ?_
      refine g_takeN 10 rfl (by decide +kernel) rfl (fun _ _ _ h => h) hS20 ?_
      refine g_takeN 11 rfl (by decide +kernel) rfl (fun _ _ _ h => h) hS20 ?_
      refine g_takeN 12 rfl (by decide +kernel) rfl (fun _ _ _ h => h) hS20 ?_
      refine g_takeN 13 rfl (by decide +kernel) rfl (fun _ _ _ h => h) hS20 ?_
      refine g_takeN 14 rfl (by decide +kernel) rfl (fun _ _ _ h => h) hS20 ?_
      refine g_takeN 15 rfl (by decide +kernel) rfl (fun _ _ _ h => h) hS20 ?_
      refine g_takeN 16 rfl (by decide +kernel) rfl (fun _ _ _ h => h) hS20 ?_
      refine g_takeN 17 rfl (by decide +kernel) rfl (fun _ _ _ h => h) hS20 ?_
      refine g_takeN 18 rfl (by decide +kernel) rfl (fun _ _ _ h => h) hS20 ?_
      refine g_takeN 19 rfl (by decide +kernel) rfl (fun _ _ _ h => h) hS20 ?_
      refine g_takeN 20 rfl (by decide +kernel) rfl (fun _ _ _ h => h) hS20 ?_
      refine g_takeN 21 rfl (by decide +kernel) rfl (fun _ _ _ h => h) hS20 ?_
      refine g_takeN 22 rfl (by decide +kernel) rfl (fun _ _ _ h => h) hS20 ?_
      refine g_takeN 23 rfl (by decide +kernel) rfl (fun _ _ _ h => h) hS20 ?_
      refine g_takeN 24 rfl (by decide +kernel) rfl (fun _ _ _ h => h) hS20 ?_
      refine g_takeN 25 rfl (by decide +kernel) rfl (fun _ _ _ h => h) hS20 ?_
      refine g_takeN 26 rfl (by decide +kernel) rfl (fun _ _ _ h => h) hS20 ?_
      refine g_takeN 27 rfl (by decide +kernel) rfl (fun _ _ _ h => h) hS20 ?_
      refine g_takeN 28 rfl (by decide +kernel) rfl (fun _ _ _ h => h) hS20 ?_
      refine g_takeN 29 rfl (by decide +kernel) rfl (fun _ _ _ h => h) hS20 ?_
      refine g_tail (by decide +kernel) rfl (by decide +kernel) ?_
      refine wl_not rfl ?_
      refine wl_val (r_pick_f rfl (v := .bool false) rfl) rfl ?_
      refine wl_val (r_pick_f rfl (v := .bool _) rfl) rfl ?_
      refine wl_nil ?_
      refine c_then ?_
      refine c_false rfl ?_
      refine wp_skip ?_
      refine c_then ?_
      exact ⟨_, rfl, hS20.sub (by simp), ⟨rfl, rfl, rfl, rfl, trivial⟩⟩
  · rintro e4 w5 hS6 -
    refine c_cut3 [0, 2, 3, 8] (fun e w' => ∃ (v9 : Value), Kw.look e 9 = v9 ∧ Kw.look e 10 = .int .i64 (longE l p) ∧ Kw.look e 13 = vi (longV l p) ∧ Kw.look e 14 = .int .i64 (longE l p) ∧ St w [] w' [] ∧ (longE l p = 0 → v9 = .slice (sub a c p.toNat 1) 8 (c - p.toNat))) ?_ ?_
    · refine c_region ?_
      refine wl_val (r_move (v := .slice _ _ _) rfl) rfl ?_
      refine wl_val (r_move (v := .int .i64 _) rfl) rfl ?_
      refine wl_call (r_call fn21 rfl rfl) rfl (rCut_ok _ _ _ _ 8 _ (hb.st hS6) (by first | (simp [*]; done) | (simp [*] <;> omega) | omega) (by first | (simp [*]; done) | (simp [*] <;> omega) | omega) (by first | omega | (simp [*]; done) | (simp [*] <;> omega)) (by first | omega | (simp [*]; done) | (simp [*] <;> omega)) (by first | omega | (simp [*]; done) | (simp [*] <;> omega))) ?_
      rintro _ w25 (⟨hm0, hm1, rfl, hx26⟩ | ⟨hro, rfl, hx26⟩)
      · have hS27 := hS6.ext hx26
        have hr8 : Row w (sub a c p.toNat 1) ((l.drop p.toNat).map b8) := hb.from' hc p.toNat
        refine wl_val (r_move (v := .tuple _) rfl) rfl ?_
        refine wl_val (r_extract (v := .slice _ _ _) rfl rfl) rfl ?_
        refine wl_val (r_extract (v := .int .i64 _) rfl rfl) rfl ?_
        refine wl_val (r_assign (v := .slice _ _ _) rfl) rfl ?_
        refine wl_val (r_assign (v := .int .i64 _) rfl) rfl ?_
        refine wl_nil ?_
        refine c_then ?_
        refine c_region ?_
        refine wl_val (r_move (v := .slice _ _ _) rfl) rfl ?_
        refine wl_val (r_move (v := .int .i64 _) rfl) rfl ?_
        refine wl_call (r_call fn29 rfl rfl) rfl (long_ok _ _ _ _ _ (hb.st hS27) (by first | (simp [*]; done) | (simp [*] <;> omega) | omega) (by first | (simp [*]; done) | (simp [*] <;> omega) | omega) (by first | omega | (simp [*]; done) | (simp [*] <;> omega)) (by first | omega | (simp [*]; done) | (simp [*] <;> omega))) ?_
        rintro _ w28 ⟨rfl, hx29⟩
        have hS30 := hS27.ext hx29
        refine wl_val (r_move (v := .tuple _) rfl) rfl ?_
        refine wl_val (r_extract (v := .int .i64 _) rfl rfl) rfl ?_
        refine wl_val (r_extract (v := .int .i64 _) rfl rfl) rfl ?_
        refine wl_val (r_assign (v := .int .i64 _) rfl) rfl ?_
        refine wl_val (r_assign (v := .int .i64 _) rfl) rfl ?_
        refine wl_nil ?_
        refine c_then ?_
        refine c_seq ?_
        refine c_drawS 16 hMixed hS30 ?_
        intro w31 hS32
        refine g_take 0 rfl (by decide +kernel) rfl (fun _ _ _ h => h) hS32 (fun wF hF => r_move (v := .int .i64 _) rfl) ?_
        refine g_dec_t 1 rfl (by decide +kernel) rfl (fun _ _ _ _ h => h) hS32 (fun wF hF => r_eql rfl rfl) (by decide) ?_
        refine g_take 2 rfl (by decide +kernel) rfl (fun _ _ _ h => h) hS32 (fun wF hF => r_move (v := .bool _) rfl) ?_
        refine g_take 3 rfl (by decide +kernel) rfl (fun _ _ _ h => h) hS32 (fun wF hF => r_move (v := .slice _ _ _) rfl) ?_
        refine g_take 4 rfl (by decide +kernel) rfl (fun _ _ _ h => h) hS32 (fun wF hF => r_ixS (m := 0) ti26.und ti5 rfl rfl (hr8.st hF) (by first | omega | (simp [*]; done) | (simp [*] <;> omega)) (by first | (simp [*]; done) | (simp [*] <;> omega) | omega)) ?_
        refine g_take 5 rfl (by decide +kernel) rfl (fun _ _ _ h => h) hS32 (fun wF hF => r_loadS1 ti5.und rfl rfl (hr8.st hF) (by rw [Nat.mul_one]; exact map_gt _ _ _ (by first | omega | (simp [*]; done) | (simp [*] <;> omega)))) ?_
        refine g_dec 6 rfl (by decide +kernel) rfl (fun _ _ _ _ h => h) hS32 (fun wF hF => r_gtr rfl rfl) (fun h9_6 => ?_) (fun h9_6 => ?_)
        · refine g_take 7 rfl (by decide +kernel) rfl (fun _ _ _ h => h) hS32 (fun wF hF => r_move (v := .bool _) rfl) ?_
          refine g_takeN 8 rfl (by decide +kernel) rfl (fun _ _ _ h => h) hS32 ?_
          refine g_takeN 9 rfl (by decide +kernel) rfl (fun _ _ _ h => h) hS32 ?_
          refine g_takeN 10 rfl (by decide +kernel) rfl (fun _ _ _ h => h) hS32 ?_
          refine g_takeN 11 rfl (by decide +kernel) rfl (fun _ _ _ h => h) hS32 ?_
          refine g_takeN 12 rfl (by decide +kernel) rfl (fun _ _ _ h => h) hS32 ?_
          refine g_takeN 13 rfl (by decide +kernel) rfl (fun _ _ _ h => h) hS32 ?_
          refine g_takeN 14 rfl (by decide +kernel) rfl (fun _ _ _ h => h) hS32 ?_
          refine g_takeN 15 rfl (by decide +kernel) rfl (fun _ _ _ h => h) hS32 ?_
          refine g_tail (by decide +kernel) rfl (by decide +kernel) ?_
          refine wl_not rfl ?_
          refine wl_not rfl ?_
          refine wl_not rfl ?_
          refine wl_val (r_pick_t rfl (v := .bool true) rfl) rfl ?_
          refine wl_val (r_pick_t rfl (v := .bool _) rfl) rfl ?_
          refine wl_nil ?_
          refine c_then ?_
          refine c_true rfl ?_
          refine c_region ?_
          refine wl_val (r_assign (v := .int .i64 4) rfl) rfl ?_
          refine wl_nil ?_
          refine c_then ?_
          have hE : longE l p = 4 := (long_big (room_in hm0 hm1) ((long_test (room_in hm0 hm1)).2 (by first | exact .inl (by assumption) | exact .inr ⟨by assumption, by assumption⟩))).1
          exact ⟨_, rfl, ⟨_, rfl, congrArg (Value.int .i64) hE.symm, rfl, rfl, hS32.sub (by simp), fun h0 => by first | rfl | (rw [hE] at h0; first | exact absurd h0 (by decide) | exact absurd h0 hro)⟩, ⟨rfl, rfl, rfl, rfl, trivial⟩⟩
        · refine g_take 7 rfl (by decide +kernel) rfl (fun _ _ _ h => h) hS32 (fun wF hF => r_move (v := .bool _) rfl) ?_
          refine g_take 8 rfl (by decide +kernel) rfl (fun _ _ _ h => h) hS32 (fun wF hF => r_move (v := .slice _ _ _) rfl) ?_
          refine g_take 9 rfl (by decide +kernel) rfl (fun _ _ _ h => h) hS32 (fun wF hF => r_ixS (m := 0) ti26.und ti5 rfl rfl (hr8.st hF) (by first | omega | (simp [*]; done) | (simp [*] <;> omega)) (by first | (simp [*]; done) | (simp [*] <;> omega) | omega)) ?_
          refine g_take 10 rfl (by decide +kernel) rfl (fun _ _ _ h => h) hS32 (fun wF hF => r_loadS1 ti5.und rfl rfl (hr8.st hF) (by rw [Nat.mul_one]; exact map_gt _ _ _ (by first | omega | (simp [*]; done) | (simp [*] <;> omega)))) ?_
          refine g_dec 11 rfl (by decide +kernel) rfl (fun _ _ _ _ h => h) hS32 (fun wF hF => r_eql rfl rfl) (fun h9_11 => ?_) (fun h9_11 => ?_)
          · refine g_take 12 rfl (by decide +kernel) rfl (fun _ _ _ h => h) hS32 (fun wF hF => r_move (v := .bool _) rfl) ?_
            refine g_take 13 rfl (by decide +kernel) rfl (fun _ _ _ h => h) hS32 (fun wF hF => r_move (v := .slice _ _ _) rfl) ?_
            refine g_take 14 rfl (by decide +kernel) rfl (fun _ _ _ h => h) hS32 (fun wF hF => r_sl_l (l := 1) ti26.und ti5 rfl rfl (by omega)) ?_
            have hr7 : Row w (sub (sub a c p.toNat 1) (c - p.toNat) 1 1) ((((l.drop p.toNat).drop 1).take 7).map b8) := hr8.mid (by simp; omega) 1 7
            refine g_one 15 (by decide +kernel) (by decide +kernel) ?_
            refine o_exv rfl (x_make (l := 7) (c := 7) (zs := ((List.replicate 7 (0 : UInt8)).map b8)) hS32 ti26.und ti5 rfl rfl (by first | omega | (simp [*]; done) | (simp [*] <;> omega)) (by first | omega | (simp [*]; done) | (simp [*] <;> omega)) (by first | omega | (simp [*]; done) | (simp [*] <;> omega)) (by first | exact made_b8 _ | rfl | simp [madeCells])) rfl ?_
            rintro _ w33 ⟨b92, rfl, hS34⟩
            refine ⟨hS34.drop1, ?_⟩
            refine g_tail (by decide +kernel) rfl (by decide +kernel) ?_
            refine wl_call (r_call fn25 rfl rfl) rfl (equal_br _ _ _ _ _ _ _ _ _ (hr7.st hS34) (Row.of_at (at_all (hS34.heap (.head _)))) (by first | (simp [*]; done) | (simp [*] <;> omega) | omega) (by first | (simp [*]; done) | (simp [*] <;> omega) | omega)) ?_
            rintro _ w35 (⟨rfl, heq, hx36⟩ | ⟨rfl, heq, hx36⟩)
            · have hS37 := hS34.ext hx36
              refine wl_val (r_not rfl) rfl ?_
              refine wl_val (r_pick_t rfl (v := .bool _) rfl) rfl ?_
              refine wl_val (r_pick_f rfl (v := .bool _) rfl) rfl ?_
              refine wl_val (r_pick_t rfl (v := .bool _) rfl) rfl ?_
              refine wl_nil ?_
              refine c_then ?_
              refine c_false rfl ?_
              refine wp_skip ?_
              refine c_then ?_
              have hE : longE l p = 0 := (long_in (room_in hm0 hm1) (by rw [long_test (room_in hm0 hm1)]; rintro (h | ⟨h, h'⟩) <;> first | (exact absurd h (by assumption)) | (exact h' (by assumption)))).1
              exact ⟨_, rfl, ⟨_, rfl, congrArg (Value.int .i64) hE.symm, rfl, rfl, hS37.sub (by simp), fun h0 => by first | rfl | (rw [hE] at h0; first | exact absurd h0 (by decide) | exact absurd h0 hro)⟩, ⟨rfl, rfl, rfl, rfl, trivial⟩⟩
            · have hS37 := hS34.ext hx36
              refine wl_val (r_not rfl) rfl ?_
              refine wl_val (r_pick_t rfl (v := .bool _) rfl) rfl ?_
              refine wl_val (r_pick_f rfl (v := .bool _) rfl) rfl ?_
              refine wl_val (r_pick_t rfl (v := .bool _) rfl) rfl ?_
              refine wl_nil ?_
              refine c_then ?_
              refine c_true rfl ?_
              refine c_region ?_
              refine wl_val (r_assign (v := .int .i64 4) rfl) rfl ?_
              refine wl_nil ?_
              refine c_then ?_
              have hE : longE l p = 4 := (long_big (room_in hm0 hm1) ((long_test (room_in hm0 hm1)).2 (by first | exact .inl (by assumption) | exact .inr ⟨by assumption, by assumption⟩))).1
              exact ⟨_, rfl, ⟨_, rfl, congrArg (Value.int .i64) hE.symm, rfl, rfl, hS37.sub (by simp), fun h0 => by first | rfl | (rw [hE] at h0; first | exact absurd h0 (by decide) | exact absurd h0 hro)⟩, ⟨rfl, rfl, rfl, rfl, trivial⟩⟩
          · refine g_take 12 rfl (by decide +kernel) rfl (fun _ _ _ h => h) hS32 (fun wF hF => r_move (v := .bool _) rfl) ?_
            refine g_takeN 13 rfl (by decide +kernel) rfl (fun _ _ _ h => h) hS32 ?_
            refine g_takeN 14 rfl (by decide +kernel) rfl (fun _ _ _ h => h) hS32 ?_
            refine g_takeN 15 rfl (by decide +kernel) rfl (fun _ _ _ h => h) hS32 ?_
            refine g_tail (by decide +kernel) rfl (by decide +kernel) ?_
            refine wl_not rfl ?_
            refine wl_not rfl ?_
            refine wl_val (r_pick_f rfl (v := .bool false) rfl) rfl ?_
            refine wl_val (r_pick_f rfl (v := .bool _) rfl) rfl ?_
            refine wl_val (r_pick_t rfl (v := .bool _) rfl) rfl ?_
            refine wl_nil ?_
            refine c_then ?_
            refine c_false rfl ?_
            refine wp_skip ?_
            refine c_then ?_
            have hE : longE l p = 0 := (long_in (room_in hm0 hm1) (by rw [long_test (room_in hm0 hm1)]; rintro (h | ⟨h, h'⟩) <;> first | (exact absurd h (by assumption)) | (exact h' (by assumption)))).1
            exact ⟨_, rfl, ⟨_, rfl, congrArg (Value.int .i64) hE.symm, rfl, rfl, hS32.sub (by simp), fun h0 => by first | rfl | (rw [hE] at h0; first | exact absurd h0 (by decide) | exact absurd h0 hro)⟩, ⟨rfl, rfl, rfl, rfl, trivial⟩⟩
      · have hS27 := hS6.ext hx26
        refine wl_val (r_move (v := .tuple _) rfl) rfl ?_
        refine wl_val (r_extract (v := .slice _ _ _) rfl rfl) rfl ?_
        refine wl_val (r_extract (v := .int .i64 _) rfl rfl) rfl ?_
        refine wl_val (r_assign (v := .slice _ _ _) rfl) rfl ?_
        refine wl_val (r_assign (v := .int .i64 _) rfl) rfl ?_
        refine wl_nil ?_
        refine c_then ?_
        refine c_region ?_
        refine wl_val (r_move (v := .slice _ _ _) rfl) rfl ?_
        refine wl_val (r_move (v := .int .i64 _) rfl) rfl ?_
        refine wl_call (r_call fn29 rfl rfl) rfl (long_ok _ _ _ _ _ (hb.st hS27) (by first | (simp [*]; done) | (simp [*] <;> omega) | omega) (by first | (simp [*]; done) | (simp [*] <;> omega) | omega) (by first | omega | (simp [*]; done) | (simp [*] <;> omega)) (by first | omega | (simp [*]; done) | (simp [*] <;> omega))) ?_
        rintro _ w38 ⟨rfl, hx39⟩
        have hS40 := hS27.ext hx39
        refine wl_val (r_move (v := .tuple _) rfl) rfl ?_
        refine wl_val (r_extract (v := .int .i64 _) rfl rfl) rfl ?_
        refine wl_val (r_extract (v := .int .i64 _) rfl rfl) rfl ?_
        refine wl_val (r_assign (v := .int .i64 _) rfl) rfl ?_
        refine wl_val (r_assign (v := .int .i64 _) rfl) rfl ?_
        refine wl_nil ?_
        refine c_then ?_
        refine c_seq ?_
        refine c_drawS 16 hMixed hS40 ?_
        intro w41 hS42
        refine g_take 0 rfl (by decide +kernel) rfl (fun _ _ _ h => h) hS42 (fun wF hF => r_move (v := .int .i64 _) rfl) ?_
        refine g_dec_f 1 rfl (by decide +kernel) rfl (fun _ _ _ _ h => h) hS42 (fun wF hF => r_eql rfl rfl) hro ?_
        refine g_take 2 rfl (by decide +kernel) rfl (fun _ _ _ h => h) hS42 (fun wF hF => r_move (v := .bool _) rfl) ?_
        refine g_takeN 3 rfl (by decide +kernel) rfl (fun _ _ _ h => h) hS42 ?_
        refine g_takeN 4 rfl (by decide +kernel) rfl (fun _ _ _ h => h) hS42 ?_
        refine g_takeN 5 rfl (by decide +kernel) rfl (fun _ _ _ h => h) hS42 ?_
        refine g_takeN 6 rfl (by decide +kernel) rfl (fun _ _ _ h => h) hS42 ?_
        refine g_takeN 7 rfl (by decide +kernel) rfl (fun _ _ _ h => h) hS42 ?_
        refine g_takeN 8 rfl (by decide +kernel) rfl (fun _ _ _ h => h) hS42 ?_
        refine g_takeN 9 rfl (by decide +kernel) rfl (fun _ _ _ h => h) hS42 ?_
        refine g_takeN 10 rfl (by decide +kernel) rfl (fun _ _ _ h => h) hS42 ?_
        refine g_takeN 11 rfl (by decide +kernel) rfl (fun _ _ _ h => h) hS42 ?_
        refine g_takeN 12 rfl (by decide +kernel) rfl (fun _ _ _ h => h) hS42 ?_
        refine g_takeN 13 rfl (by decide +kernel) rfl (fun _ _ _ h => h) hS42 ?_
        refine g_takeN 14 rfl (by decide +kernel) rfl (fun _ _ _ h => h) hS42 ?_
        refine g_takeN 15 rfl (by decide +kernel) rfl (fun _ _ _ h => h) hS42 ?_
        refine g_tail (by decide +kernel) rfl (by decide +kernel) ?_
        refine wl_not rfl ?_
        refine wl_not rfl ?_
        refine wl_not rfl ?_
        refine wl_not rfl ?_
        refine wl_val (r_pick_f rfl (v := .bool false) rfl) rfl ?_
        refine wl_nil ?_
        refine c_then ?_
        refine c_false rfl ?_
        refine wp_skip ?_
        refine c_then ?_
        have hE : longE l p = roomI l.length p 8 := (long_out hro).1
        exact ⟨_, rfl, ⟨_, rfl, congrArg (Value.int .i64) hE.symm, rfl, rfl, hS42.sub (by simp), fun h0 => by first | rfl | (rw [hE] at h0; first | exact absurd h0 (by decide) | exact absurd h0 hro)⟩, ⟨rfl, rfl, rfl, rfl, trivial⟩⟩
    · rintro e21 w22 ⟨v9, hc24_9, hc24_10, hc24_13, hc24_14, hS23, hv9⟩ -
      refine c_set (d := 9) hc24_9 ?_
      refine c_set (d := 10) hc24_10 ?_
      refine c_set (d := 13) hc24_13 ?_
      refine c_set (d := 14) hc24_14 ?_
      refine c_seq ?_
      refine c_seq ?_
      refine c_region ?_
      refine wl_val (r_move (v := .int .i64 _) rfl) rfl ?_
      refine wl_val (r_move (v := .int .i64 _) rfl) rfl ?_
      refine wl_dec_f (r_neq rfl rfl) rfl (by simp) ?_
      refine wl_nil ?_
      refine c_then ?_
      refine c_false rfl ?_
      refine wp_skip ?_
      refine c_then ?_
      refine c_seq ?_
      refine c_region ?_
      refine wl_val (r_move (v := .slice _ _ _) rfl) rfl ?_
      refine wl_val (r_move (v := .int .i64 _) rfl) rfl ?_
      refine wl_call (r_call fn30 rfl rfl) rfl (putLong_ok _ _ _ _ _ (hb.st hS23) (by first | (simp [*]; done) | (simp [*] <;> omega) | omega)) ?_
      rintro _ w43 ⟨a103, c103, rfl, hc103, hx44⟩
      have hS45 := hS23.call hx44
      simp only [List.cons_append, List.nil_append] at hS45
      refine wl_val (r_assign (v := .slice _ _ _) rfl) rfl ?_
      refine wl_nil ?_
      refine c_then ?_
      refine c_cutE [0, 2, 3] (fun e w' => St w [] w' []) ?_ ?_
      · refine c_seq ?_
        refine c_region ?_
        refine wl_val (r_move (v := .int .i64 _) rfl) rfl ?_
        refine wl_dec (r_eql rfl rfl) rfl (fun h14_1 => ?_) (fun h14_1 => ?_)
        · refine wl_val (r_move (v := .bool _) rfl) rfl ?_
          obtain rfl := hv9 h14_1
          have hz8 := longE_zero h14_1
          obtain ⟨hm0, hm1⟩ := room_zero hz8
          have hr9b : Row w (sub a c p.toNat 1) (((l.drop p.toNat).take 8).map b8) := hb.mid hc p.toNat 8
          refine wl_val (r_move (v := .slice _ _ _) rfl) rfl ?_
          refine wl_val (r_move (v := .slice _ _ _) rfl) rfl ?_
          refine wl_val (r_len (T := 26) rfl ti26.und rfl _ rfl) rfl ?_
          refine wl_val (r_sl_l ti26.und ti5 rfl rfl (by first | (simp [*]; done) | (simp [*] <;> omega) | omega)) rfl ?_
          refine wl_val (r_move (v := .slice _ _ _) rfl) rfl ?_
          refine wl_call (r_call fn25 rfl rfl) rfl (equal_t _ _ _ _ _ _ _ _ _ (Row.behind (St.rowAt hS45 (.head _)) hc103) (hr9b.st hS45) (by first | (simp [*]; done) | (simp [*] <;> omega) | omega) (by first | (simp [*]; done) | (simp [*] <;> omega) | omega) (octs_longV h14_1)) ?_
          rintro _ w50 ⟨rfl, hx51⟩
          have hS52 := hS45.ext hx51
          refine wl_val (r_not rfl) rfl ?_
          refine wl_val (r_pick_t rfl (v := .bool _) rfl) rfl ?_
          refine wl_nil ?_
          refine c_then ?_
          refine c_false rfl ?_
          refine wp_skip ?_
          refine c_then ?_
          exact ⟨_, rfl, hS52.sub (by simp), ⟨rfl, rfl, rfl, trivial⟩⟩
        · refine wl_val (r_move (v := .bool _) rfl) rfl ?_
          refine wl_not rfl ?_
          refine wl_not rfl ?_
          refine wl_not rfl ?_
          refine wl_not rfl ?_
          refine wl_not rfl ?_
          refine wl_not rfl ?_
          refine wl_not rfl ?_
          refine wl_val (r_pick_f rfl (v := .bool false) rfl) rfl ?_
          refine wl_nil ?_
          refine c_then ?_
          refine c_false rfl ?_
          refine wp_skip ?_
          refine c_then ?_
          exact ⟨_, rfl, hS45.sub (by simp), ⟨rfl, rfl, rfl, trivial⟩⟩
      · rintro e46 w47 hS48 -
        refine c_seq ?_
        refine c_region ?_
        refine wl_val (r_move (v := .slice _ _ _) rfl) rfl ?_
        refine wl_val (r_move (v := .int .u32 _) rfl) rfl ?_
        refine wl_call (r_call fn31 rfl rfl) rfl (putNumber_ok _ _ _ _ _ (hb.st hS48) (by first | (simp [*]; done) | (simp [*] <;> omega) | omega)) ?_
        rintro _ w53 ⟨a117, c117, rfl, hc117, hx54⟩
        have hS55 := hS48.call hx54
        simp only [List.cons_append, List.nil_append] at hS55
        refine wl_val (r_assign (v := .slice _ _ _) rfl) rfl ?_
        refine wl_nil ?_
        refine c_then ?_
        refine c_seq ?_
        refine c_region ?_
        refine wl_val (r_move (v := .slice _ _ _) rfl) rfl ?_
        refine wl_val (r_move (v := .slice _ _ _) rfl) rfl ?_
        refine wl_val (r_len (T := 26) rfl ti26.und rfl _ rfl) rfl ?_
        refine wl_call (r_call fn28 rfl rfl) rfl (number_ok _ _ _ _ _ (St.rowAt hS55 (.head _)) (by first | (simp [*]; done) | (simp [*] <;> omega) | omega) (by first | (simp [*]; done) | (simp [*] <;> omega) | omega) (by first | omega | (simp [*]; done) | (simp [*] <;> omega)) (by first | omega | (simp [*]; done) | (simp [*] <;> omega))) ?_
        rintro _ w56 ⟨rfl, hx57⟩
        have hS58 := hS55.ext hx57
        refine wl_val (r_move (v := .tuple _) rfl) rfl ?_
        refine wl_val (r_extract (v := .int .u32 _) rfl rfl) rfl ?_
        refine wl_val (r_extract (v := .int .i64 _) rfl rfl) rfl ?_
        refine wl_val (r_assign (v := .int .u32 _) rfl) rfl ?_
        refine wl_val (r_assign (v := .int .i64 _) rfl) rfl ?_
        refine wl_nil ?_
        refine c_then ?_
        refine c_seq ?_
        refine c_seq ?_
        refine c_region ?_
        refine wl_val (r_move (v := .int .u32 _) rfl) rfl ?_
        refine wl_val (r_move (v := .int .u32 _) rfl) rfl ?_
        refine wl_dec_f (r_neq rfl rfl) rfl (not_not_intro (congrArg (fun t : UInt32 => ((t.toNat : Nat) : Int)) (number_end l x).2)) ?_
        refine wl_val (r_move (v := .bool _) rfl) rfl ?_
        refine wl_val (r_move (v := .int .i64 _) rfl) rfl ?_
        refine wl_dec_f (r_neq rfl rfl) rfl (not_not_intro (number_end l x).1) ?_
        refine wl_val (r_pick_f rfl (v := .bool _) rfl) rfl ?_
        refine wl_val (r_move (v := .bool _) rfl) rfl ?_
        refine wl_val (r_move (v := .slice _ _ _) rfl) rfl ?_
        refine wl_val (r_move (v := .slice _ _ _) rfl) rfl ?_
        refine wl_val (r_len (T := 26) rfl ti26.und rfl _ rfl) rfl ?_
        refine wl_val (r_sl_h ti26.und ti5 rfl rfl (by have := hc117; simp at this; omega)) rfl ?_
        refine wl_val (r_move (v := .slice _ _ _) rfl) rfl ?_
        refine wl_call (r_call fn25 rfl rfl) rfl (equal_t _ _ _ _ _ _ _ _ _ (Row.front (St.rowAt hS58 (.head _))) (hb.st hS58) (by first | (simp [*]; done) | (simp [*] <;> omega) | omega) (by first | (simp [*]; done) | (simp [*] <;> omega) | omega) rfl) ?_
        rintro _ w59 ⟨rfl, hx60⟩
        have hS61 := hS58.ext hx60
        refine wl_val (r_not rfl) rfl ?_
        refine wl_val (r_pick_f rfl (v := .bool _) rfl) rfl ?_
        refine wl_nil ?_
        refine c_then ?_
        refine c_false rfl ?_
        refine wp_skip ?_
        refine c_then ?_
        refine c_seq ?_
        refine c_region ?_
        refine wl_val (r_move (v := .slice _ _ _) rfl) rfl ?_
        refine wl_val (r_move (v := .int .i64 _) rfl) rfl ?_
        refine wl_call (r_call fn30 rfl rfl) rfl (putLong_ok _ _ _ _ _ (hb.st hS61) (by first | (simp [*]; done) | (simp [*] <;> omega) | omega)) ?_
        rintro _ w62 ⟨a143, c143, rfl, hc143, hx63⟩
        have hS64 := hS61.call hx63
        simp only [List.cons_append, List.nil_append] at hS64
        refine wl_val (r_assign (v := .slice _ _ _) rfl) rfl ?_
        refine wl_nil ?_
        refine c_then ?_
        refine c_cutE [0, 8, 15] (fun e w' => Kw.look e 3 = vi (putN q) ∧ St w [] w' [.row (.slice a143 (l ++ octs8 (UInt64.ofNat (putN q))).length c143) 5 1 (l ++ octs8 (UInt64.ofNat (putN q))).length ((l ++ octs8 (UInt64.ofNat (putN q))).map b8)]) ?_ ?_
        · refine c_seq ?_
          refine c_region ?_
          refine wl_val (r_move (v := .int .i64 _) rfl) rfl ?_
          refine wl_dec (r_lss rfl rfl) rfl (fun h21_1 => ?_) (fun h21_1 => ?_)
          · refine wl_val (r_move (v := .bool _) rfl) rfl ?_
            refine wl_not rfl ?_
            refine wl_not rfl ?_
            refine wl_val (r_pick_t rfl (v := .bool true) rfl) rfl ?_
            refine wl_nil ?_
            refine c_then ?_
            refine c_true rfl ?_
            refine c_region ?_
            refine wl_val (r_assign (v := .int .i64 0) rfl) rfl ?_
            refine wl_nil ?_
            refine c_then ?_
            have hpn : ((putN q : Nat) : Int) = 0 := (by rw [putN_out (by omega)]; rfl)
            exact ⟨_, rfl, ⟨congrArg (Value.int .i64) hpn.symm, (hS64.perm ((List.Perm.cons _ (List.Perm.refl _)).trans (List.perm_middle (l₁ := [_])).symm)).drop1⟩, ⟨rfl, rfl, rfl, trivial⟩⟩
          · refine wl_val (r_move (v := .bool _) rfl) rfl ?_
            refine wl_val (r_move (v := .int .i64 _) rfl) rfl ?_
            refine wl_dec (r_gtr rfl rfl) rfl (fun h21_4 => ?_) (fun h21_4 => ?_)
            · refine wl_val (r_pick_f rfl (v := .bool _) rfl) rfl ?_
              refine wl_nil ?_
              refine c_then ?_
              refine c_true rfl ?_
              refine c_region ?_
              refine wl_val (r_assign (v := .int .i64 0) rfl) rfl ?_
              refine wl_nil ?_
              refine c_then ?_
              have hpn : ((putN q : Nat) : Int) = 0 := (by rw [putN_out (by omega)]; rfl)
              exact ⟨_, rfl, ⟨congrArg (Value.int .i64) hpn.symm, (hS64.perm ((List.Perm.cons _ (List.Perm.refl _)).trans (List.perm_middle (l₁ := [_])).symm)).drop1⟩, ⟨rfl, rfl, rfl, trivial⟩⟩
            · refine wl_val (r_pick_f rfl (v := .bool _) rfl) rfl ?_
              refine wl_nil ?_
              refine c_then ?_
              refine c_false rfl ?_
              refine wp_skip ?_
              refine c_then ?_
              have hpn : ((putN q : Nat) : Int) = q := (putN_in (by omega) (by omega))
              exact ⟨_, rfl, ⟨congrArg (Value.int .i64) hpn.symm, (hS64.perm ((List.Perm.cons _ (List.Perm.refl _)).trans (List.perm_middle (l₁ := [_])).symm)).drop1⟩, ⟨rfl, rfl, rfl, trivial⟩⟩
        · rintro e65 w66 ⟨hc68_3, hS67⟩ -
          refine c_set (d := 3) hc68_3 ?_
          refine c_seq ?_
          refine c_region ?_
          refine wl_val (r_move (v := .slice _ _ _) rfl) rfl ?_
          refine wl_val (r_move (v := .slice _ _ _) rfl) rfl ?_
          refine wl_val (r_len (T := 26) rfl ti26.und rfl _ rfl) rfl ?_
          refine wl_call (r_call fn29 rfl rfl) rfl (long_ok _ _ _ _ _ (St.rowAt hS67 (.head _)) (by first | (simp [*]; done) | (simp [*] <;> omega) | omega) (by first | (simp [*]; done) | (simp [*] <;> omega) | omega) (by first | omega | (simp [*]; done) | (simp [*] <;> omega)) (by first | omega | (simp [*]; done) | (simp [*] <;> omega))) ?_
          rintro _ w69 ⟨rfl, hx70⟩
          have hS71 := hS67.ext hx70
          refine wl_val (r_move (v := .tuple _) rfl) rfl ?_
          refine wl_val (r_extract (v := .int .i64 _) rfl rfl) rfl ?_
          refine wl_val (r_extract (v := .int .i64 _) rfl rfl) rfl ?_
          refine wl_val (r_assign (v := .int .i64 _) rfl) rfl ?_
          refine wl_val (r_assign (v := .int .i64 _) rfl) rfl ?_
          refine wl_nil ?_
          refine c_then ?_
          refine c_seq ?_
          refine c_region ?_
          refine wl_val (r_move (v := .int .i64 _) rfl) rfl ?_
          refine wl_val (r_move (v := .int .i64 _) rfl) rfl ?_
          refine wl_dec_t (r_eql rfl rfl) rfl (congrArg (fun t : Nat => (t : Int)) (long_end l _ (putN_le q)).2) ?_
          refine wl_val (r_move (v := .bool _) rfl) rfl ?_
          refine wl_val (r_move (v := .int .i64 _) rfl) rfl ?_
          refine wl_dec_t (r_eql rfl rfl) rfl (long_end l _ (putN_le q)).1 ?_
          refine wl_val (r_pick_t rfl (v := .bool _) rfl) rfl ?_
          refine wl_val (r_move (v := .bool _) rfl) rfl ?_
          refine wl_val (r_move (v := .slice _ _ _) rfl) rfl ?_
          refine wl_val (r_len (T := 26) rfl ti26.und rfl _ rfl) rfl ?_
          refine wl_val (r_move (v := .slice _ _ _) rfl) rfl ?_
          refine wl_val (r_len (T := 26) rfl ti26.und rfl _ rfl) rfl ?_
          refine wl_val (r_addn (b := 8) rfl rfl (by omega)) rfl ?_
          refine wl_dec_t (r_eql rfl rfl) rfl (by simp) ?_
          refine wl_val (r_pick_t rfl (v := .bool _) rfl) rfl ?_
          refine wl_val (r_move (v := .bool _) rfl) rfl ?_
          refine wl_val (r_move (v := .slice _ _ _) rfl) rfl ?_
          refine wl_val (r_move (v := .slice _ _ _) rfl) rfl ?_
          refine wl_val (r_len (T := 26) rfl ti26.und rfl _ rfl) rfl ?_
          refine wl_val (r_sl_h ti26.und ti5 rfl rfl (by have := hc143; simp at this; omega)) rfl ?_
          refine wl_val (r_move (v := .slice _ _ _) rfl) rfl ?_
          refine wl_call (r_call fn25 rfl rfl) rfl (equal_t _ _ _ _ _ _ _ _ _ (Row.front (St.rowAt hS71 (.head _))) (hb.st hS71) (by first | (simp [*]; done) | (simp [*] <;> omega) | omega) (by first | (simp [*]; done) | (simp [*] <;> omega) | omega) rfl) ?_
          rintro _ w72 ⟨rfl, hx73⟩
          have hS74 := hS71.ext hx73
          refine wl_val (r_pick_t rfl (v := .bool _) rfl) rfl ?_
          refine wl_val (r_assign (v := .bool _) rfl) rfl ?_
          refine wl_nil ?_
          refine c_then ?_
          refine wp_ret ?_
          refine ret1 Try.results5 ?_
          exact ⟨rfl, hS74.fin⟩


theorem own : ownKnob Try.prog.godebug = none := by kernel_rfl
theorem laidOut : laidOutB Try.prog = true := by kernel_rfl
theorem readable3 : Try.prog.readableRec 3 = true := by kernel_rfl
theorem inside3 : decide (3 < Try.prog.types.size) = true := by kernel_rfl
theorem readable26 : Try.prog.readableRec 26 = true := by kernel_rfl
theorem inside26 : decide (26 < Try.prog.types.size) = true := by kernel_rfl
theorem readable45 : Try.prog.readableRec 45 = true := by kernel_rfl
theorem inside45 : decide (45 < Try.prog.types.size) = true := by kernel_rfl
theorem lifted (os : Os) (started : os.Started) (H : Type) (enc : TypeId × Value → H) :
    ReturnsInHanded {} Try.checked os 5 .any (Rows.numbersArePutSpec.pre6 enc Try.prog Try.f5 Rows.numbersArePutRow.domain false) (Rows.numbersArePutSpec.post enc Try.prog Try.f5 false true false false) := by
  refine returnsInHanded_of_change_sized (C := Try.checked) own started (by kernel_rfl) Try.func5
    (ChangeSpec.witness6 (enc := enc) (C := Try.checked) false ⟨#[], #[.slice none 0 0, .int .i64 0, .int .u32 0, .int .i64 0], []⟩ 8 (by kernel_rfl) (by kernel_rfl) (by kernel_rfl) (by kernel_rfl)) ?_
  intro W base args ds gs before hval0 hW hcnd hsz0 _
  have hval : ∀ (j : Nat) t v, Try.f5.params[j]? = some t → args[j]? = some v → Value.okWide Try.prog W .any base t v := hval0
  have hW' := hW
  obtain ⟨p, q, hA0, hV, rfl, hfz, hnd⟩ := hW
  have hA : DataW.TrodAll enc Try.prog W 0 (fun _ => true) true Try.f5.params.toList args.toList ds p := hA0
  have hsz : (DataW.weightsEach Try.prog (Try.f5.params.toList ++ Rows.numbersArePutSpec.plain.varTypes Try.prog) (ds ++ gs)).all (· ≤ reachBytes) = true := hsz0
  rw [Try.params5] at hA hval hsz
  obtain ⟨v0, vs0, d0, ds0, p0, q0, hargs, rfl, rfl, h0, r0⟩ := trodAll_cons hA
  obtain ⟨v1, vs1, d1, ds1, p1, q1, rfl, rfl, rfl, h1, r1⟩ := trodAll_cons r0
  obtain ⟨v2, vs2, d2, ds2, p2, q2, rfl, rfl, rfl, h2, r2⟩ := trodAll_cons r1
  obtain ⟨v3, vs3, d3, ds3, p3, q3, rfl, rfl, rfl, h3, r3⟩ := trodAll_cons r2
  obtain ⟨rfl, rfl, rfl⟩ := trodAll_nil r3
  obtain rfl : args = #[v0, v1, v2, v3] := by cases args; simp_all
  obtain ⟨rfl, rfl⟩ := trodVars_none hV
  have lt0 : ∀ x ∈ p0, x.block < W.heap.size := by obtain ⟨m, hm⟩ := h0; exact DataW.trod_lt m _ _ _ hm
  have lt1 : ∀ x ∈ p1, x.block < W.heap.size := by obtain ⟨m, hm⟩ := h1; exact DataW.trod_lt m _ _ _ hm
  have lt2 : ∀ x ∈ p2, x.block < W.heap.size := by obtain ⟨m, hm⟩ := h2; exact DataW.trod_lt m _ _ _ hm
  have lt3 : ∀ x ∈ p3, x.block < W.heap.size := by obtain ⟨m, hm⟩ := h3; exact DataW.trod_lt m _ _ _ hm
  have ok0 := hval 0 26 v0 rfl rfl
  obtain ⟨al, l, cl, rfl, rl, lcl, hcl⟩ := open_bytesS (j := 0) Try.underlying26 Try.underlying5 (by kernel_rfl) (by kernel_rfl) ok0 h0 hsz rfl rfl
  have ok1 := hval 1 3 v1 rfl rfl
  obtain ⟨p, rfl, lop, hip⟩ := open_i64 Try.underlying3 ok1 h1
  have ok2 := hval 2 45 v2 rfl rfl
  obtain ⟨x, rfl⟩ := open_u32 Try.underlying45 ok2 h2
  have ok3 := hval 3 3 v3 rfl rfl
  obtain ⟨q, rfl, loq, hiq⟩ := open_i64 Try.underlying3 ok3 h3
  refine Calls.mono (walk l al cl p x q W rl lcl (Nat.le_trans lcl hcl) lop hip loq hiq) fun e W' ⟨v, he, hv, hs⟩ => ?_
  subst hv; subst he
  have bel := hs.below
  exact ⟨_, rfl, _, _, _, [], _, [], hW', trodAll_mk1 (shut_bool Try.underlying4 _), (trodAll_cons_mk (Below.trod laidOut readable26 (of_decide_eq_true inside26) h0 bel lt0) (trodAll_cons_mk (Below.trod laidOut readable3 (of_decide_eq_true inside3) h1 bel lt1) (trodAll_cons_mk (Below.trod laidOut readable45 (of_decide_eq_true inside45) h2 bel lt2) (trodAll_cons_mk (Below.trod laidOut readable3 (of_decide_eq_true inside3) h3 bel lt3) trodAll_mk0)))), rfl, bel.frame _, fun h => by cases h⟩
theorem over : Rows.numbersArePutRow.holds Try.pinned (OpenSpec.ofChange Rows.numbersArePutSpec) :=
  OpenClaim.holds_of_wide 5 Try.f5 rfl rfl rfl rfl rfl rfl rfl ⟨rfl, rfl, rfl, rfl, rfl⟩ rfl rfl rfl rfl rfl (by kernel_rfl) Try.func5 (by kernel_rfl)
    (of_decide_eq_true (by kernel_rfl)) (by unfold Func.isWrapper; rw [if_neg (of_decide_eq_false (by kernel_rfl))]; exact ⟨rfl, rfl⟩)
    (fun os started H enc _ => lifted os started H enc)
theorem proved : Rows.NumbersArePutSaid := over
#print axioms proved
end Go.Proofs.Ytcadjopdjpgomaa.lawNumbersArePut
