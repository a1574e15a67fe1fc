/- What the law's proof leans on. No condition. -/
import Derived.Test.YtbanoknkplcedaaPEPAF
import Derived.Test.YtbanoknkplcedaaPEPBT
import Derived.Test.YtbanoknkplcedaaRows
namespace Go.Proofs.Ytbanoknkplcedaa.lawEntriesParse
open Go.Kw Go.Proofs.Ytbanoknkplcedaa
open Go.ChangeShapes Go.WideShapes Go.ChangeAt Go.RowKit
set_option linter.unusedVariables false
set_option linter.unusedSimpArgs false
set_option maxRecDepth 100000
set_option maxHeartbeats 20000000

set_option maxHeartbeats 4000000 in
theorem walk (x : EntD) (at' ct fr : Int) (by' : UInt8) (sl : Bool) (w : World) (hx : EntOk x) (hbo : Row w x.ba (x.e.bo.map b8)) (loat : -9223372036854775808 ≤ at') (hiat : at' ≤ 9223372036854775807) (loct : -9223372036854775808 ≤ ct) (hict : ct ≤ 9223372036854775807) (lofr : -9223372036854775808 ≤ fr) (hifr : fr ≤ 9223372036854775807) :
    Ret Try.prog 4 [.agg x.v.toArray, .int .i64 at', .int .i64 ct, .int .i64 fr, b8 by', .bool sl] w (fun v w' => v = .bool true ∧ St w [] w' []) := by
  have hxl := ent_len hx
  have hzl : (EntD.v ⟨EV.zero, none, 0⟩).length = 68 := ent_len ⟨EVok.zero, Nat.le_refl _⟩
  refine enter Try.func4 rfl Try.ntmps4 rfl ?_
  have hS := St.refl w []
  refine c_seq ?_; refine c_region ?_; refine wl_exv (x_box hS (v := .agg _) rfl rfl) rfl ?_; rintro _ w1 ⟨b6, rfl, hS2⟩; refine wl_val (r_assign (v := .bool false) rfl) rfl ?_; refine wl_nil ?_; refine c_then ?_; refine c_seq ?_; refine c_seq ?_; refine c_region ?_; refine wl_call (r_call fn6 rfl rfl) rfl (landed_ok _) ?_; rintro _ w3 ⟨rfl, hx4⟩
  have hS5 := hS2.ext hx4
  refine wl_val (r_not rfl) rfl ?_; refine wl_nil ?_; refine c_then ?_; refine c_false rfl ?_; refine wp_skip ?_; refine c_then ?_; refine c_seq ?_; refine c_region ?_; refine wl_val (r_loadB tie ag41 rfl (hS5.heap (.head _)) (by first | (simp [*]; done) | (simp [*] <;> omega) | omega)) rfl ?_; refine wl_call (r_call fn13 rfl rfl) rfl (rprintEntry_ok x _ hx (hbo.st hS5)) ?_
  rintro _ w6 (⟨hf4, rfl, hx7⟩ | ⟨hf4, a4, c4, rfl, hc4, hx7⟩)
  · have hS8 := hS5.ext hx7
    refine wl_val (r_move (v := .tuple _) rfl) rfl ?_; refine wl_val (r_extract (v := .slice _ _ _) rfl rfl) rfl ?_; refine wl_val (r_extract (v := .int .i64 _) rfl rfl) rfl ?_; refine wl_val (r_assign (v := .slice _ _ _) rfl) rfl ?_; refine wl_val (r_assign (v := .int .i64 _) rfl) rfl ?_; refine wl_nil ?_; refine c_then ?_; refine c_seq ?_; refine c_seq ?_; refine c_region ?_; refine wl_val (r_move (v := .int .i64 _) rfl) rfl ?_; refine wl_dec_t (r_neq rfl rfl) rfl hf4 ?_; refine wl_val (r_move (v := .bool _) rfl) rfl ?_; refine wl_not rfl ?_; refine wl_not rfl ?_; refine wl_not rfl ?_; refine wl_val (r_pick_t rfl (v := .bool true) rfl) rfl ?_; refine wl_nil ?_; refine c_then ?_; refine c_true rfl ?_; refine c_seq ?_; refine c_region ?_; refine wl_val (r_assign (v := .bool true) rfl) rfl ?_; refine wl_nil ?_; refine c_then ?_; refine wp_ret ?_; refine c_thenR ?_; refine ret1 Try.results4 ?_
    exact ⟨rfl, hS8.fin⟩
  have hS8 := hS5.call hx7
  simp only [List.cons_append, List.nil_append] at hS8; refine wl_val (r_move (v := .tuple _) rfl) rfl ?_; refine wl_val (r_extract (v := .slice _ _ _) rfl rfl) rfl ?_; refine wl_val (r_extract (v := .int .i64 _) rfl rfl) rfl ?_; refine wl_val (r_assign (v := .slice _ _ _) rfl) rfl ?_; refine wl_val (r_assign (v := .int .i64 _) rfl) rfl ?_; refine wl_nil ?_; refine c_then ?_; refine c_seq ?_; refine c_seq ?_
  have hPl := EV.P_len hx.e
  refine c_region ?_; refine wl_val (r_move (v := .int .i64 _) rfl) rfl ?_; refine wl_dec_f (r_neq rfl rfl) rfl (by decide) ?_; refine wl_val (r_move (v := .bool _) rfl) rfl ?_; refine wl_val (r_move (v := .slice _ _ _) rfl) rfl ?_; refine wl_val (r_len (T := 30) rfl ti30.und rfl _ rfl) rfl ?_; refine wl_dec_f (r_eql rfl rfl) rfl (by omega) ?_; refine wl_val (r_pick_f rfl (v := .bool _) rfl) rfl ?_; refine wl_nil ?_; refine c_then ?_; refine c_false rfl ?_; refine wp_skip ?_; refine c_then ?_; refine c_seq ?_
  have hg := EV.good hf4
  have g7 := hg.bl
  obtain ⟨k, hk, hkn⟩ := place_ex at' (n := x.e.P.length) (by omega)
  have htm := tmod_in (a := at') (b := x.e.P.length) (by omega)
  refine c_region ?_; refine wl_val (r_move (v := .slice _ _ _) rfl) rfl ?_; refine wl_val (r_move (v := .int .i64 _) rfl) rfl ?_; refine wl_val (r_move (v := .slice _ _ _) rfl) rfl ?_; refine wl_val (r_len (T := 30) rfl ti30.und rfl _ rfl) rfl ?_; refine wl_val (r_remZ rfl rfl (by omega)) rfl ?_; refine wl_val (r_move (v := .slice _ _ _) rfl) rfl ?_; refine wl_val (r_len (T := 30) rfl ti30.und rfl _ rfl) rfl ?_; refine wl_val (r_addi rfl rfl (by omega) (by omega)) rfl ?_; refine wl_val (r_move (v := .slice _ _ _) rfl) rfl ?_; refine wl_val (r_len (T := 30) rfl ti30.und rfl _ rfl) rfl ?_; refine wl_val (r_remK (k := k) rfl rfl (by omega) hk) rfl ?_; refine wl_val (r_ixS ti30.und ti5 rfl rfl (St.rowAt hS8 (.head _)) (by first | omega | (simp [*]; done) | (simp [*] <;> omega)) (by first | (simp [*]; done) | (simp [*] <;> omega) | omega)) rfl ?_; refine wl_val (r_loadS1 ti5.und rfl rfl (St.rowAt hS8 (.head _)) (by rw [Nat.mul_one]; exact map_gt _ _ _ (by first | omega | (simp [*]; done) | (simp [*] <;> omega)))) rfl ?_; refine wl_val (r_move (v := .int .u8 _) rfl) rfl ?_; refine wl_val (r_xor8 rfl rfl) rfl ?_; refine wl_val (r_ixS ti30.und ti5 rfl rfl (St.rowAt hS8 (.head _)) (by first | omega | (simp [*]; done) | (simp [*] <;> omega)) (by first | (simp [*]; done) | (simp [*] <;> omega) | omega)) rfl ?_; refine wl_exs (x_storeRow1 [] hS8 ti5 rfl rfl rfl (by first | omega | (simp [*]; done) | (simp [*] <;> omega))) rfl ?_; intro w9 hS10; simp only [List.cons_append, List.nil_append] at hS10
  refine wl_nil ?_; refine c_then ?_; refine c_cutE [2, 3, 12, 13] (fun e w' => ∃ (B : List UInt8), St w [] w' [.row (.slice a4 x.e.P.length c4) 5 1 x.e.P.length (B.map b8), .blk b6 (cl x.v 41)] ∧ (B.length = x.e.P.length)) ?_ ?_
  · refine c_seq ?_
    rcases bool_cases sl with rfl | rfl
    · refine c_region ?_
      refine wl_val (r_move (v := .bool _) rfl) rfl ?_; refine wl_nil ?_; refine c_then ?_; refine c_true rfl ?_; refine c_seq ?_; refine c_region ?_; refine wl_val (r_move (v := .slice _ _ _) rfl) rfl ?_; refine wl_val (r_len (T := 30) rfl ti30.und rfl _ rfl) rfl ?_; refine wl_val (r_subn (b := 32) rfl rfl (by omega) (by omega)) rfl ?_; refine wl_val (r_assign (v := .int .i64 _) rfl) rfl ?_; refine wl_nil ?_; refine c_then ?_; refine c_seq ?_; refine c_region ?_; refine wl_val (r_move (v := .slice _ _ _) rfl) rfl ?_; refine wl_val (r_move (v := .int .i64 _) rfl) rfl ?_; refine wl_val (r_sl_h ti30.und ti5 rfl rfl (by omega)) rfl ?_; refine wl_call (r_call fn14 rfl rfl) rfl (rsum_ok 3 ((x.e.P.set k (gt x.e.P k ^^^ by')).take (x.e.P.length - 32)) _ _ _ _ (Row.upto (St.rowAt hS10 (.head _)) (x.e.P.length - 32)) (by rw [List.length_take, List.length_set]; omega) (by omega)) ?_; rintro _ w15 ⟨rfl, hx16⟩
      have hS17 := hS10.ext hx16
      refine wl_exv (x_alloc (C := ((List.replicate 32 (0 : UInt8)).map b8)) hS17 ti26 rfl) rfl ?_; rintro _ w18 ⟨b16, rfl, hS19⟩; refine wl_exs (x_storeW [] hS19 ti26 rfl rfl (by first | (simp [*]; done) | (simp [*] <;> omega) | omega) (by first | (simp [*]; done) | (simp [*] <;> omega) | omega) (by repeat' first | exact one_nil | exact one_b8 _ | exact one_v32 _ | exact one_all rfl | refine one_cons rfl ?_ | refine one_app ?_ ?_)) rfl ?_; intro w20 hS21; simp only [List.cons_append, List.nil_append] at hS21; refine wl_nil ?_; refine c_then ?_; refine c_drawSF 4 hMixed hS21 (hS21.perm ((List.Perm.cons _ (List.Perm.refl _)).trans (List.perm_middle (l₁ := [_])).symm)).drop1 ?_; intro w22 hS23; refine g_take 0 rfl (by decide +kernel) rfl (fun _ _ _ h => h) (hS23.perm ((List.Perm.cons _ (List.Perm.refl _)).trans (List.perm_middle (l₁ := [_])).symm)).drop1 (fun wF hF => r_move (v := .slice _ _ _) rfl) ?_; refine g_take 1 rfl (by decide +kernel) rfl (fun _ _ _ h => h) (hS23.perm ((List.Perm.cons _ (List.Perm.refl _)).trans (List.perm_middle (l₁ := [_])).symm)).drop1 (fun wF hF => r_move (v := .int .i64 _) rfl) ?_; refine g_take 2 rfl (by decide +kernel) rfl (fun _ _ _ h => h) (hS23.perm ((List.Perm.cons _ (List.Perm.refl _)).trans (List.perm_middle (l₁ := [_])).symm)).drop1 (fun wF hF => r_sl_l ti30.und ti5 rfl rfl (by omega)) ?_; refine g_take 3 rfl (by decide +kernel) rfl (fun _ _ _ h => h) (hS23.perm ((List.Perm.cons _ (List.Perm.refl _)).trans (List.perm_middle (l₁ := [_])).symm)).drop1 (fun wF hF => r_sa1_0 ti26.und ti5 rfl ) ?_
      refine g_tail (by decide +kernel) rfl (by decide +kernel) ?_; refine wl_exv (x_copyRow (m := x.e.P.length - 32) [] (hS23.perm ((List.Perm.cons _ (List.Perm.refl _)).trans (List.perm_middle (l₁ := [_])).symm)) ti30.und ti5 rfl rfl (Row.of_at (at_all (hS23.heap (.head _)))) (by rw [List.length_map]; exact sumL_len _ _) (by omega) (by decide) (by omega) (one_b8 _) _ rfl) rfl ?_; rintro _ w24 ⟨rfl, hS25⟩; simp only [List.cons_append, List.nil_append] at hS25
      rw [splice_b8] at hS25
      refine wl_nil ?_; refine c_then ?_
      exact ⟨_, rfl, ⟨(splice (x.e.P.set k (gt x.e.P k ^^^ by')) (x.e.P.length - 32) (sumL (UInt8.ofNat 3) ((x.e.P.set k (gt x.e.P k ^^^ by')).take (x.e.P.length - 32)))), (hS25.perm ((List.Perm.cons _ (List.Perm.refl _)).trans (List.perm_middle (l₁ := [_])).symm)).drop1, by rw [length_splice _ _ _ (by rw [sumL_len, List.length_set]; omega), List.length_set]⟩, ⟨rfl, rfl, rfl, rfl, trivial⟩⟩
    refine c_region ?_; refine wl_val (r_move (v := .bool _) rfl) rfl ?_; refine wl_nil ?_; refine c_then ?_; refine c_false rfl ?_; refine wp_skip ?_; refine c_then ?_
    exact ⟨_, rfl, ⟨(x.e.P.set k (gt x.e.P k ^^^ by')), hS10, by rw [List.length_set]⟩, ⟨rfl, rfl, rfl, rfl, trivial⟩⟩
  · rintro e11 w12 ⟨B, hS13, hBl⟩ -
    refine c_seq ?_
    obtain ⟨m, hm, hmn⟩ : ∃ m : Nat, min (max ct 0) (x.e.P.length : Int) = m ∧ m ≤ x.e.P.length := ⟨(min (max ct 0) (x.e.P.length : Int)).toNat, by omega, by omega⟩
    refine c_region ?_; refine wl_val (r_move (v := .slice _ _ _) rfl) rfl ?_; refine wl_val (r_move (v := .slice _ _ _) rfl) rfl ?_; refine wl_val (r_len (T := 30) rfl ti30.und rfl _ rfl) rfl ?_; refine wl_val (r_move (v := .int .i64 _) rfl) rfl ?_; refine wl_val (r_max2 rfl rfl _ rfl) rfl ?_; refine wl_val (r_move (v := .slice _ _ _) rfl) rfl ?_; refine wl_val (r_len (T := 30) rfl ti30.und rfl _ rfl) rfl ?_; refine wl_val (r_min2m (m := m) rfl rfl _ rfl hm) rfl ?_; refine wl_val (r_subn rfl rfl (by omega) (by omega)) rfl ?_; refine wl_val (r_sl_h ti30.und ti5 rfl rfl (by omega)) rfl ?_; refine wl_val (r_assign (v := .slice _ _ _) rfl) rfl ?_; refine wl_nil ?_; refine c_then ?_; refine c_seq ?_; refine c_region ?_; refine wl_val (r_move (v := .slice _ _ _) rfl) rfl ?_; refine wl_val (r_move (v := .int .i64 _) rfl) rfl ?_; refine wl_call (r_call fn15 rfl rfl) rfl (parseEntry_ok (B.take (x.e.P.length - m)) _ _ _ fr _ (Row.upto (St.rowAt hS13 (.head _)) (x.e.P.length - m)) (by rw [List.length_take, hBl]; omega) (by omega) (by omega) lofr hifr) ?_; rintro _ w27 ⟨y78, rfl, hv78, ho78, hx28⟩
    have hS29 := hS13.call hx28
    simp only [List.cons_append, List.nil_append] at hS29
    have hl78 := ent_len ho78
    refine wl_val (r_move (v := .tuple _) rfl) rfl ?_; refine wl_val (r_extract (v := .agg _) rfl rfl) rfl ?_; refine wl_val (r_extract (v := .int .i64 _) rfl rfl) rfl ?_; refine wl_val (r_extract (v := .int .i64 _) rfl rfl) rfl ?_; refine wl_exv (x_alloc (C := (EntD.v ⟨EV.zero, none, 0⟩)) hS29 tie rfl) rfl ?_; rintro _ w30 ⟨b17, rfl, hS31⟩; refine wl_exs (x_storeW [] hS31 tie rfl rfl (by first | (simp [*]; done) | (simp [*] <;> omega) | omega) (by first | (simp [*]; done) | (simp [*] <;> omega) | omega) (by repeat' first | exact one_nil | exact one_b8 _ | exact one_v32 _ | exact one_all rfl | refine one_cons rfl ?_ | refine one_app ?_ ?_)) rfl ?_; intro w32 hS33; simp only [List.cons_append, List.nil_append] at hS33; refine wl_val (r_assign (v := .int .i64 _) rfl) rfl ?_; refine wl_val (r_assign (v := .int .i64 _) rfl) rfl ?_; refine wl_nil ?_; refine c_then ?_; refine c_seq ?_; refine c_region ?_; refine wl_val (r_move (v := .slice _ _ _) rfl) rfl ?_; refine wl_val (r_move (v := .int .i64 _) rfl) rfl ?_; refine wl_call (r_call fn16 rfl rfl) rfl (rparseEntry_ok (B.take (x.e.P.length - m)) _ _ _ fr _ (Row.upto (St.rowAt hS33 (.tail _ (.tail _ (.head _)))) (x.e.P.length - m)) (by rw [List.length_take, hBl]; omega) (by omega) (by omega) lofr hifr) ?_; rintro _ w34 ⟨y85, rfl, hv85, ho85, hx35⟩
    have hS36 := hS33.call hx35
    simp only [List.cons_append, List.nil_append] at hS36
    have hl85 := ent_len ho85
    refine wl_val (r_move (v := .tuple _) rfl) rfl ?_; refine wl_val (r_extract (v := .agg _) rfl rfl) rfl ?_; refine wl_val (r_extract (v := .int .i64 _) rfl rfl) rfl ?_; refine wl_val (r_extract (v := .int .i64 _) rfl rfl) rfl ?_; refine wl_exv (x_alloc (C := (EntD.v ⟨EV.zero, none, 0⟩)) hS36 tie rfl) rfl ?_; rintro _ w37 ⟨b19, rfl, hS38⟩; refine wl_exs (x_storeW [] hS38 tie rfl rfl (by first | (simp [*]; done) | (simp [*] <;> omega) | omega) (by first | (simp [*]; done) | (simp [*] <;> omega) | omega) (by repeat' first | exact one_nil | exact one_b8 _ | exact one_v32 _ | exact one_all rfl | refine one_cons rfl ?_ | refine one_app ?_ ?_)) rfl ?_; intro w39 hS40; simp only [List.cons_append, List.nil_append] at hS40; refine wl_val (r_assign (v := .int .i64 _) rfl) rfl ?_; refine wl_val (r_assign (v := .int .i64 _) rfl) rfl ?_; refine wl_nil ?_; refine c_then ?_; refine c_seq ?_; refine c_region ?_; refine wl_val (r_move (v := .int .i64 _) rfl) rfl ?_; refine wl_val (r_move (v := .int .i64 _) rfl) rfl ?_; refine wl_dec_t (r_eql rfl rfl) rfl rfl ?_; refine wl_val (r_move (v := .bool _) rfl) rfl ?_; refine wl_val (r_move (v := .int .i64 _) rfl) rfl ?_; refine wl_val (r_move (v := .int .i64 _) rfl) rfl ?_; refine wl_dec_t (r_eql rfl rfl) rfl rfl ?_; refine wl_val (r_pick_t rfl (v := .bool _) rfl) rfl ?_; refine wl_val (r_move (v := .bool _) rfl) rfl ?_; refine wl_val (r_loadB tie ag41 rfl (hS40.heap (.tail _ (.tail _ (.head _)))) (by first | (simp [*]; done) | (simp [*] <;> omega) | omega)) rfl ?_
    refine wl_val (r_loadB tie ag41 rfl (hS40.heap (.head _)) (by first | (simp [*]; done) | (simp [*] <;> omega) | omega)) rfl ?_; refine wl_call (r_call fn17 rfl rfl) rfl (sameEntry_t y78 y85 _ ho78 (St.rowAt hS40 (.tail _ (.tail _ (.tail _ (.head _))))) ho85 (St.rowAt hS40 (.tail _ (.head _))) (hv78.trans hv85.symm)) ?_; rintro _ w41 ⟨rfl, hx42⟩
    have hS43 := hS40.ext hx42
    refine wl_val (r_pick_t rfl (v := .bool _) rfl) rfl ?_; refine wl_val (r_assign (v := .bool _) rfl) rfl ?_; refine wl_nil ?_; refine c_then ?_; refine wp_ret ?_; refine ret1 Try.results4 ?_
    exact ⟨rfl, hS43.fin⟩


theorem own : ownKnob Try.prog.godebug = none := by kernel_rfl
theorem laidOut : laidOutB Try.prog = true := by kernel_rfl
theorem readable3 : Try.prog.readableRec 3 = true := by kernel_rfl
theorem inside3 : decide (3 < Try.prog.types.size) = true := by kernel_rfl
theorem readable4 : Try.prog.readableRec 4 = true := by kernel_rfl
theorem inside4 : decide (4 < Try.prog.types.size) = true := by kernel_rfl
theorem readable5 : Try.prog.readableRec 5 = true := by kernel_rfl
theorem inside5 : decide (5 < Try.prog.types.size) = true := by kernel_rfl
theorem readable41 : Try.prog.readableRec 41 = true := by kernel_rfl
theorem inside41 : decide (41 < Try.prog.types.size) = true := by kernel_rfl
theorem lifted (os : Os) (started : os.Started) (H : Type) (enc : TypeId × Value → H) :
    ReturnsInHanded {} Try.checked os 4 .any (Rows.entriesParseSpec.pre6 enc Try.prog Try.f4 Rows.entriesParseRow.domain false) (Rows.entriesParseSpec.post enc Try.prog Try.f4 false true false false) := by
  refine returnsInHanded_of_change_sized (C := Try.checked) own started (by kernel_rfl) Try.func4
    (ChangeSpec.witness6 (enc := enc) (C := Try.checked) false ⟨#[], #[.agg #[.int .i64 0, .int .i64 0, .int .i64 0, .int .u8 0, .int .u8 0, .int .u8 0, .int .u8 0, .int .u8 0, .int .u8 0, .int .u8 0, .int .u8 0, .int .u8 0, .int .u8 0, .int .u8 0, .int .u8 0, .int .u8 0, .int .u8 0, .int .u8 0, .int .u8 0, .int .u8 0, .int .u8 0, .int .u8 0, .int .u8 0, .int .u8 0, .int .u8 0, .int .u8 0, .int .u8 0, .int .u8 0, .int .u8 0, .int .u8 0, .int .u8 0, .int .u8 0, .int .u8 0, .int .u8 0, .int .u8 0, .int .u8 0, .int .u8 0, .int .u8 0, .int .u8 0, .int .u8 0, .int .u8 0, .int .u8 0, .int .u8 0, .int .u8 0, .int .u8 0, .int .u8 0, .int .u8 0, .int .u8 0, .int .u8 0, .int .u8 0, .int .u8 0, .int .u8 0, .int .u8 0, .int .u8 0, .int .u8 0, .int .u8 0, .int .u8 0, .int .u8 0, .int .u8 0, .int .u8 0, .int .u8 0, .int .u8 0, .int .u8 0, .int .u8 0, .int .u8 0, .int .u8 0, .int .u8 0, .slice none 0 0], .int .i64 0, .int .i64 0, .int .i64 0, .int .u8 0, .bool false], []⟩ 8 (by kernel_rfl) (by kernel_rfl) (by kernel_rfl) (by kernel_rfl)) ?_
  intro W base args ds gs before hval0 hW hcnd hsz0 _
  have hval : ∀ (j : Nat) t v, Try.f4.params[j]? = some t → args[j]? = some v → Value.okWide Try.prog W .any base t v := hval0
  have hW' := hW
  obtain ⟨p, q, hA0, hV, rfl, hfz, hnd⟩ := hW
  have hA : DataW.TrodAll enc Try.prog W 0 (fun _ => true) true Try.f4.params.toList args.toList ds p := hA0
  have hsz : (DataW.weightsEach Try.prog (Try.f4.params.toList ++ Rows.entriesParseSpec.plain.varTypes Try.prog) (ds ++ gs)).all (· ≤ reachBytes) = true := hsz0
  rw [Try.params4] at hA hval hsz
  obtain ⟨v0, vs0, d0, ds0, p0, q0, hargs, rfl, rfl, h0, r0⟩ := trodAll_cons hA
  obtain ⟨v1, vs1, d1, ds1, p1, q1, rfl, rfl, rfl, h1, r1⟩ := trodAll_cons r0
  obtain ⟨v2, vs2, d2, ds2, p2, q2, rfl, rfl, rfl, h2, r2⟩ := trodAll_cons r1
  obtain ⟨v3, vs3, d3, ds3, p3, q3, rfl, rfl, rfl, h3, r3⟩ := trodAll_cons r2
  obtain ⟨v4, vs4, d4, ds4, p4, q4, rfl, rfl, rfl, h4, r4⟩ := trodAll_cons r3
  obtain ⟨v5, vs5, d5, ds5, p5, q5, rfl, rfl, rfl, h5, r5⟩ := trodAll_cons r4
  obtain ⟨rfl, rfl, rfl⟩ := trodAll_nil r5
  obtain rfl : args = #[v0, v1, v2, v3, v4, v5] := by cases args; simp_all
  obtain ⟨rfl, rfl⟩ := trodVars_none hV
  have lt0 : ∀ x ∈ p0, x.block < W.heap.size := by obtain ⟨m, hm⟩ := h0; exact DataW.trod_lt m _ _ _ hm
  have lt1 : ∀ x ∈ p1, x.block < W.heap.size := by obtain ⟨m, hm⟩ := h1; exact DataW.trod_lt m _ _ _ hm
  have lt2 : ∀ x ∈ p2, x.block < W.heap.size := by obtain ⟨m, hm⟩ := h2; exact DataW.trod_lt m _ _ _ hm
  have lt3 : ∀ x ∈ p3, x.block < W.heap.size := by obtain ⟨m, hm⟩ := h3; exact DataW.trod_lt m _ _ _ hm
  have lt4 : ∀ x ∈ p4, x.block < W.heap.size := by obtain ⟨m, hm⟩ := h4; exact DataW.trod_lt m _ _ _ hm
  have lt5 : ∀ x ∈ p5, x.block < W.heap.size := by obtain ⟨m, hm⟩ := h5; exact DataW.trod_lt m _ _ _ hm
  have ok0 := hval 0 41 v0 rfl rfl
  obtain ⟨x, rfl, hxR⟩ := open_struct (j := 0) Try.underlying41 (opens_ent (B := (fun b => -9223372036854775808 ≤ b ∧ b ≤ 9223372036854775807)) (opens_struct Try.underlying41 (by kernel_rfl) (opensFs_cons (sz := 1) (opens_i64 Try.underlying3) rfl (by kernel_rfl) (opensFs_cons (sz := 1) (opens_i64 Try.underlying3) rfl (by kernel_rfl) (opensFs_cons (sz := 1) (opens_i64 Try.underlying3) rfl (by kernel_rfl) (opensFs_cons (sz := 16) (opens_bytesA Try.underlying23 Try.underlying5 (by kernel_rfl) (by kernel_rfl)) rfl (by kernel_rfl) (opensFs_cons (sz := 16) (opens_bytesA Try.underlying23 Try.underlying5 (by kernel_rfl) (by kernel_rfl)) rfl (by kernel_rfl) (opensFs_cons (sz := 32) (opens_bytesA Try.underlying26 Try.underlying5 (by kernel_rfl) (by kernel_rfl)) rfl (by kernel_rfl) (opensFs_cons (sz := 1) (opens_octets Try.underlying30 Try.underlying5 (by kernel_rfl) (by kernel_rfl)) rfl (by kernel_rfl) opensFs_nil (by simp)) (by simp)) (by simp)) (by simp)) (by simp)) (by simp)) (by simp)))) ok0 h0 hsz rfl rfl
  have ok1 := hval 1 3 v1 rfl rfl
  obtain ⟨at', rfl, loat', hiat'⟩ := open_i64 Try.underlying3 ok1 h1
  have ok2 := hval 2 3 v2 rfl rfl
  obtain ⟨ct, rfl, loct, hict⟩ := open_i64 Try.underlying3 ok2 h2
  have ok3 := hval 3 3 v3 rfl rfl
  obtain ⟨fr, rfl, lofr, hifr⟩ := open_i64 Try.underlying3 ok3 h3
  have ok4 := hval 4 5 v4 rfl rfl
  obtain ⟨by', rfl⟩ := open_u8 Try.underlying5 ok4 h4
  have ok5 := hval 5 4 v5 rfl rfl
  obtain ⟨sl, rfl⟩ := open_boolA Try.underlying4 ok5
  refine Calls.mono (walk x at' ct fr by' sl W hxR.1 hxR.2.1 loat' hiat' loct hict lofr hifr) fun e W' ⟨v, he, hv, hs⟩ => ?_
  subst hv; subst he
  have bel := hs.below
  exact ⟨_, rfl, _, _, _, [], _, [], hW', trodAll_mk1 (shut_bool Try.underlying4 _), (trodAll_cons_mk (Below.trod laidOut readable41 (of_decide_eq_true inside41) h0 bel lt0) (trodAll_cons_mk (Below.trod laidOut readable3 (of_decide_eq_true inside3) h1 bel lt1) (trodAll_cons_mk (Below.trod laidOut readable3 (of_decide_eq_true inside3) h2 bel lt2) (trodAll_cons_mk (Below.trod laidOut readable3 (of_decide_eq_true inside3) h3 bel lt3) (trodAll_cons_mk (Below.trod laidOut readable5 (of_decide_eq_true inside5) h4 bel lt4) (trodAll_cons_mk (Below.trod laidOut readable4 (of_decide_eq_true inside4) h5 bel lt5) trodAll_mk0)))))), rfl, bel.frame _, fun h => by cases h⟩
end Go.Proofs.Ytbanoknkplcedaa.lawEntriesParse
