/- For every text, place, end and octet: Take16, Take32, Take64, Ref32 and Part take just what is there, and what they take is a copy but of Ref32 and Part; the law's function returns true and turns nothing. No condition. -/
import Derived.Test.YtfohfnpehfcaaaaRows
import Derived.Test.YtfohfnpehfcaaaaOpen
import Derived.Test.YtfohfnpehfcaaaaOctA
namespace Go.Proofs.Ytfohfnpehfcaaaa.lawOctetsAreTaken
open Go.Kw Go.Proofs.Ytfohfnpehfcaaaa
open Go.ChangeShapes Go.WideShapes Go.ChangeAt Go.RowKit
set_option linter.unusedVariables false
set_option linter.unusedSimpArgs false
set_option maxRecDepth 100000
set_option maxHeartbeats 20000000

theorem walk (l : List UInt8) (a : Option Addr) (c : Nat) (p t : Int) (by' : UInt8) (w : World) (hb : Row w a (l.map b8)) (hc : l.length ≤ c) (hn : l.length ≤ 140737488351232) (hp1 : -9223372036854775808 ≤ p) (hp2 : p ≤ 9223372036854775807) :
    Ret Try.prog 3 [.slice a l.length c, .int .i64 p, .int .i64 t, b8 by'] w (fun v w' => v = .bool true ∧ St w [] w' []) := by
  refine enter Try.func3 rfl Try.ntmps3 rfl ?_
  have hS := St.refl w []
  refine c_seq ?_
  refine c_region ?_
  refine wl_val (r_assign (v := .bool false) rfl) rfl ?_
  refine wl_nil ?_
  refine c_then ?_
  refine c_seq ?_
  refine c_seq ?_
  refine c_region ?_
  refine wl_call (r_call fn20 rfl rfl) rfl (landed_ok _) ?_
  rintro _ w1 ⟨rfl, hx2⟩
  have hS3 := hS.ext hx2
  refine wl_val (r_not rfl) rfl ?_
  refine wl_nil ?_
  refine c_then ?_
  refine c_false rfl ?_
  refine wp_skip ?_
  refine c_then ?_
  refine c_seq ?_
  refine c_region ?_
  refine wl_val (r_move (v := .slice _ _ _) rfl) rfl ?_
  refine wl_call (r_call fn21 rfl rfl) rfl (clone_n l a l.length c _ (hb.st hS3) rfl (by omega)) ?_
  rintro _ w4 ⟨a27, c27, rfl, hc27, hx5⟩
  have hS6 := hS3.call hx5
  simp only [List.cons_append, List.nil_append] at hS6
  refine wl_val (r_assign (v := .slice _ _ _) rfl) rfl ?_
  refine wl_nil ?_
  refine c_then ?_
  refine c_seq ?_
  rcases Nat.eq_zero_or_pos l.length with h0 | h0
  · obtain rfl : l = [] := List.eq_nil_of_length_eq_zero h0
    simp only [List.length_nil] at *
    refine c_region ?_
    refine wl_val (r_move (v := .slice _ _ _) rfl) rfl ?_
    refine wl_val (r_move (v := .int .i64 _) rfl) rfl ?_
    refine wl_call (r_call fn22 rfl rfl) rfl (rCut_ok [] _ _ p 16 _ (St.rowAt hS6 (.head _)) hc27 (by decide) hp1 hp2 (by decide)) ?_
    rintro _ w7 (⟨hm16, hM16, rfl, hx8⟩ | ⟨hro16, rfl, hx8⟩)
    · exfalso; simp only [List.length_nil] at *; omega
    · have hS9 := hS6.ext hx8
      refine wl_val (r_move (v := .tuple _) rfl) rfl ?_
      refine wl_val (r_extract (v := .slice _ _ _) rfl rfl) rfl ?_
      refine wl_val (r_extract (v := .int .i64 _) rfl rfl) rfl ?_
      refine wl_val (r_assign (v := .slice _ _ _) rfl) rfl ?_
      refine wl_val (r_assign (v := .int .i64 _) rfl) rfl ?_
      refine wl_nil ?_
      refine c_then ?_
      refine c_seq ?_
      refine c_region ?_
      refine wl_val (r_move (v := .slice _ _ _) rfl) rfl ?_
      refine wl_val (r_move (v := .int .i64 _) rfl) rfl ?_
      refine wl_call (r_call fn22 rfl rfl) rfl (rCut_ok [] _ _ p 32 _ (St.rowAt hS9 (.head _)) hc27 (by decide) hp1 hp2 (by decide)) ?_
      rintro _ w10 (⟨hm32, hM32, rfl, hx11⟩ | ⟨hro32, rfl, hx11⟩)
      · exfalso; simp only [List.length_nil] at *; omega
      · have hS12 := hS9.ext hx11
        refine wl_val (r_move (v := .tuple _) rfl) rfl ?_
        refine wl_val (r_extract (v := .slice _ _ _) rfl rfl) rfl ?_
        refine wl_val (r_extract (v := .int .i64 _) rfl rfl) rfl ?_
        refine wl_val (r_assign (v := .slice _ _ _) rfl) rfl ?_
        refine wl_val (r_assign (v := .int .i64 _) rfl) rfl ?_
        refine wl_nil ?_
        refine c_then ?_
        refine c_seq ?_
        refine c_region ?_
        refine wl_val (r_move (v := .slice _ _ _) rfl) rfl ?_
        refine wl_val (r_move (v := .int .i64 _) rfl) rfl ?_
        refine wl_call (r_call fn22 rfl rfl) rfl (rCut_ok [] _ _ p 64 _ (St.rowAt hS12 (.head _)) hc27 (by decide) hp1 hp2 (by decide)) ?_
        rintro _ w13 (⟨hm64, hM64, rfl, hx14⟩ | ⟨hro64, rfl, hx14⟩)
        · exfalso; simp only [List.length_nil] at *; omega
        · have hS15 := hS12.ext hx14
          refine wl_val (r_move (v := .tuple _) rfl) rfl ?_
          refine wl_val (r_extract (v := .slice _ _ _) rfl rfl) rfl ?_
          refine wl_val (r_extract (v := .int .i64 _) rfl rfl) rfl ?_
          refine wl_val (r_assign (v := .slice _ _ _) rfl) rfl ?_
          refine wl_val (r_assign (v := .int .i64 _) rfl) rfl ?_
          refine wl_nil ?_
          refine c_then ?_
          refine c_seq ?_
          refine c_region ?_
          refine wl_val (r_move (v := .slice _ _ _) rfl) rfl ?_
          refine wl_val (r_move (v := .int .i64 _) rfl) rfl ?_
          refine wl_call (r_call fn23 rfl rfl) rfl (take16_no [] _ _ _ p _ (St.rowAt hS15 (.head _)) rfl hc27 (by decide) hp1 hp2) ?_
          rintro _ w16 ⟨rfl, hx17⟩
          have hS18 := hS15.ext hx17
          refine wl_val (r_move (v := .tuple _) rfl) rfl ?_
          refine wl_val (r_extract (v := .agg _) rfl rfl) rfl ?_
          refine wl_val (r_extract (v := .int .i64 _) rfl rfl) rfl ?_
          refine wl_exv (x_alloc (C := ((List.replicate 16 (0 : UInt8)).map b8)) hS18 ti28 rfl) rfl ?_
          rintro _ w19 ⟨b15, rfl, hS20⟩
          refine wl_exs (x_storeW [] hS20 ti28 rfl rfl (by first | (rw [List.length_map, takeL_len]; done) | (rw [List.length_map, List.length_take, List.length_drop]; omega)) (by simp) (one_b8 _)) rfl ?_
          intro w21 hS22
          simp only [List.cons_append, List.nil_append] at hS22
          refine wl_val (r_assign (v := .int .i64 _) rfl) rfl ?_
          refine wl_nil ?_
          refine c_then ?_
          refine c_seq ?_
          refine c_region ?_
          refine wl_val (r_move (v := .slice _ _ _) rfl) rfl ?_
          refine wl_val (r_move (v := .int .i64 _) rfl) rfl ?_
          refine wl_call (r_call fn24 rfl rfl) rfl (take32_no [] _ _ _ p _ (St.rowAt hS22 (.tail _ (.head _))) rfl hc27 (by decide) hp1 hp2) ?_
          rintro _ w23 ⟨rfl, hx24⟩
          have hS25 := hS22.ext hx24
          refine wl_val (r_move (v := .tuple _) rfl) rfl ?_
          refine wl_val (r_extract (v := .agg _) rfl rfl) rfl ?_
          refine wl_val (r_extract (v := .int .i64 _) rfl rfl) rfl ?_
          refine wl_exv (x_alloc (C := ((List.replicate 32 (0 : UInt8)).map b8)) hS25 ti31 rfl) rfl ?_
          rintro _ w26 ⟨b17, rfl, hS27⟩
          refine wl_exs (x_storeW [] hS27 ti31 rfl rfl (by first | (rw [List.length_map, takeL_len]; done) | (rw [List.length_map, List.length_take, List.length_drop]; omega)) (by simp) (one_b8 _)) rfl ?_
          intro w28 hS29
          simp only [List.cons_append, List.nil_append] at hS29
          refine wl_val (r_assign (v := .int .i64 _) rfl) rfl ?_
          refine wl_nil ?_
          refine c_then ?_
          refine c_seq ?_
          refine c_region ?_
          refine wl_val (r_move (v := .slice _ _ _) rfl) rfl ?_
          refine wl_val (r_move (v := .int .i64 _) rfl) rfl ?_
          refine wl_call (r_call fn25 rfl rfl) rfl (take64_no [] _ _ _ p _ (St.rowAt hS29 (.tail _ (.tail _ (.head _)))) rfl hc27 (by decide) hp1 hp2) ?_
          rintro _ w30 ⟨rfl, hx31⟩
          have hS32 := hS29.ext hx31
          refine wl_val (r_move (v := .tuple _) rfl) rfl ?_
          refine wl_val (r_extract (v := .agg _) rfl rfl) rfl ?_
          refine wl_val (r_extract (v := .int .i64 _) rfl rfl) rfl ?_
          refine wl_exv (x_alloc (C := ((List.replicate 64 (0 : UInt8)).map b8)) hS32 ti34 rfl) rfl ?_
          rintro _ w33 ⟨b19, rfl, hS34⟩
          refine wl_exs (x_storeW [] hS34 ti34 rfl rfl (by first | (rw [List.length_map, takeL_len]; done) | (rw [List.length_map, List.length_take, List.length_drop]; omega)) (by simp) (one_b8 _)) rfl ?_
          intro w35 hS36
          simp only [List.cons_append, List.nil_append] at hS36
          refine wl_val (r_assign (v := .int .i64 _) rfl) rfl ?_
          refine wl_nil ?_
          refine c_then ?_
          refine c_seq ?_
          refine c_seq ?_
          refine c_region ?_
          refine wl_val (r_move (v := .int .i64 _) rfl) rfl ?_
          refine wl_val (r_move (v := .int .i64 _) rfl) rfl ?_
          refine wl_dec_f (r_neq rfl rfl) rfl (fun h => h rfl) ?_
          refine wl_val (r_move (v := .bool _) rfl) rfl ?_
          refine wl_val (r_move (v := .int .i64 _) rfl) rfl ?_
          refine wl_val (r_move (v := .int .i64 _) rfl) rfl ?_
          refine wl_dec_f (r_neq rfl rfl) rfl (fun h => h rfl) ?_
          refine wl_val (r_pick_f rfl (v := .bool _) rfl) rfl ?_
          refine wl_val (r_move (v := .bool _) rfl) rfl ?_
          refine wl_val (r_move (v := .int .i64 _) rfl) rfl ?_
          refine wl_val (r_move (v := .int .i64 _) rfl) rfl ?_
          refine wl_dec_f (r_neq rfl rfl) rfl (fun h => h rfl) ?_
          refine wl_val (r_pick_f rfl (v := .bool _) rfl) rfl ?_
          refine wl_nil ?_
          refine c_then ?_
          refine c_false rfl ?_
          refine wp_skip ?_
          refine c_then ?_
          refine c_seq ?_
          refine c_seq ?_
          refine c_region ?_
          refine wl_val (r_move (v := .int .i64 _) rfl) rfl ?_
          refine wl_dec_f (r_eql rfl rfl) rfl hro16 ?_
          refine wl_val (r_move (v := .bool _) rfl) rfl ?_
          refine wl_not rfl ?_
          refine wl_not rfl ?_
          refine wl_not rfl ?_
          refine wl_not rfl ?_
          refine wl_val (r_pick_f rfl (v := .bool false) rfl) rfl ?_
          refine wl_val (r_move (v := .bool _) rfl) rfl ?_
          refine wl_val (r_move (v := .int .i64 _) rfl) rfl ?_
          refine wl_dec_f (r_eql rfl rfl) rfl hro32 ?_
          refine wl_val (r_move (v := .bool _) rfl) rfl ?_
          refine wl_not rfl ?_
          refine wl_not rfl ?_
          refine wl_not rfl ?_
          refine wl_not rfl ?_
          refine wl_val (r_pick_f rfl (v := .bool false) rfl) rfl ?_
          refine wl_val (r_pick_f rfl (v := .bool _) rfl) rfl ?_
          refine wl_val (r_move (v := .bool _) rfl) rfl ?_
          refine wl_val (r_move (v := .int .i64 _) rfl) rfl ?_
          refine wl_dec_f (r_eql rfl rfl) rfl hro64 ?_
          refine wl_val (r_move (v := .bool _) rfl) rfl ?_
          refine wl_not rfl ?_
          refine wl_not rfl ?_
          refine wl_not rfl ?_
          refine wl_not rfl ?_
          refine wl_val (r_pick_f rfl (v := .bool false) rfl) rfl ?_
          refine wl_val (r_pick_f rfl (v := .bool _) rfl) rfl ?_
          refine wl_nil ?_
          refine c_then ?_
          refine c_false rfl ?_
          refine wp_skip ?_
          refine c_then ?_
          refine c_seq ?_
          refine c_region ?_
          refine wl_val (r_move (v := .slice _ _ _) rfl) rfl ?_
          refine wl_val (r_move (v := .int .i64 _) rfl) rfl ?_
          refine wl_call (r_call fn27 rfl rfl) rfl (ref32_ok [] _ _ p _ (St.rowAt hS36 (.tail _ (.tail _ (.tail _ (.head _))))) hc27 (by decide) hp1 hp2) ?_
          rintro _ w37 (⟨hr0, hr1, rfl, hx38⟩ | ⟨hrn, rfl, hx38⟩)
          · exact absurd (room_in hr0 hr1) hro32
          · have hS39 := hS36.ext hx38
            refine wl_val (r_move (v := .tuple _) rfl) rfl ?_
            refine wl_val (r_extract (v := .pointer _) rfl rfl) rfl ?_
            refine wl_val (r_extract (v := .int .i64 _) rfl rfl) rfl ?_
            refine wl_val (r_assign (v := .pointer _) rfl) rfl ?_
            refine wl_val (r_assign (v := .int .i64 _) rfl) rfl ?_
            refine wl_nil ?_
            refine c_then ?_
            refine c_seq ?_
            refine c_seq ?_
            refine c_region ?_
            refine wl_val (r_move (v := .int .i64 _) rfl) rfl ?_
            refine wl_val (r_move (v := .int .i64 _) rfl) rfl ?_
            refine wl_dec_f (r_neq rfl rfl) rfl (fun h => h rfl) ?_
            refine wl_val (r_move (v := .bool _) rfl) rfl ?_
            refine wl_val (r_move (v := .pointer _) rfl) rfl ?_
            refine wl_dec_f (r_neqPn ti38.und rfl rfl) rfl (by simp) ?_
            refine wl_val (r_move (v := .int .i64 _) rfl) rfl ?_
            refine wl_dec_f (r_eql rfl rfl) rfl hro32 ?_
            refine wl_dec_f (r_neqBool ti4.und rfl rfl) rfl (fun h => h rfl) ?_
            refine wl_val (r_pick_f rfl (v := .bool _) rfl) rfl ?_
            refine wl_nil ?_
            refine c_then ?_
            refine c_false rfl ?_
            refine wp_skip ?_
            refine c_then ?_
            refine c_seq ?_
            refine c_seq ?_
            refine c_region ?_
            refine wl_val (r_move (v := .pointer _) rfl) rfl ?_
            refine wl_dec_f (r_neqPn ti38.und rfl rfl) rfl (by simp) ?_
            refine wl_nil ?_
            refine c_then ?_
            refine c_false rfl ?_
            refine wp_skip ?_
            refine c_then ?_
            refine c_seq ?_
            refine c_region ?_
            refine wl_val (r_move (v := .slice _ _ _) rfl) rfl ?_
            refine wl_val (r_move (v := .int .i64 _) rfl) rfl ?_
            refine wl_val (r_move (v := .int .i64 _) rfl) rfl ?_
            refine wl_call (r_call fn28 rfl rfl) rfl (part0_ok _ _ p t _) ?_
            rintro _ w40 ⟨rfl, hx41⟩
            have hS42 := hS39.ext hx41
            refine wl_val (r_assign (v := .bool _) rfl) rfl ?_
            refine wl_nil ?_
            refine c_then ?_
            refine wp_ret ?_
            refine ret1 Try.results3 ?_
            exact ⟨rfl, hS42.fin⟩
  · obtain ⟨g, C, rfl, hC, hCn, hcc, hS43⟩ := St.rowBlk (l1 := []) hS6 h0
    obtain ⟨D, rfl⟩ : ∃ D, C = l.map b8 ++ D := ⟨C.drop l.length, by rw [← hC, Nat.mul_one, List.take_append_drop]⟩
    simp only [List.nil_append] at hS43
    refine c_region ?_
    refine wl_val (r_move (v := .slice _ _ _) rfl) rfl ?_
    refine wl_val (r_move (v := .int .i64 _) rfl) rfl ?_
    refine wl_call (r_call fn22 rfl rfl) rfl (rCut_ok l _ _ p 16 _ (Row.of_pre (hS43.heap (.head _))) hc27 (by omega) hp1 hp2 (by decide)) ?_
    rintro _ w44 (⟨hm16, hM16, rfl, hx45⟩ | ⟨hro16, rfl, hx45⟩)
    · have hS46 := hS43.ext hx45
      refine wl_val (r_move (v := .tuple _) rfl) rfl ?_
      refine wl_val (r_extract (v := .slice _ _ _) rfl rfl) rfl ?_
      refine wl_val (r_extract (v := .int .i64 _) rfl rfl) rfl ?_
      refine wl_val (r_assign (v := .slice _ _ _) rfl) rfl ?_
      refine wl_val (r_assign (v := .int .i64 _) rfl) rfl ?_
      refine wl_nil ?_
      refine c_then ?_
      refine c_seq ?_
      refine c_region ?_
      refine wl_val (r_move (v := .slice _ _ _) rfl) rfl ?_
      refine wl_val (r_move (v := .int .i64 _) rfl) rfl ?_
      refine wl_call (r_call fn22 rfl rfl) rfl (rCut_ok l _ _ p 32 _ (Row.of_pre (hS46.heap (.head _))) hc27 (by omega) hp1 hp2 (by decide)) ?_
      rintro _ w47 (⟨hm32, hM32, rfl, hx48⟩ | ⟨hro32, rfl, hx48⟩)
      · have hS49 := hS46.ext hx48
        refine wl_val (r_move (v := .tuple _) rfl) rfl ?_
        refine wl_val (r_extract (v := .slice _ _ _) rfl rfl) rfl ?_
        refine wl_val (r_extract (v := .int .i64 _) rfl rfl) rfl ?_
        refine wl_val (r_assign (v := .slice _ _ _) rfl) rfl ?_
        refine wl_val (r_assign (v := .int .i64 _) rfl) rfl ?_
        refine wl_nil ?_
        refine c_then ?_
        refine c_seq ?_
        refine c_region ?_
        refine wl_val (r_move (v := .slice _ _ _) rfl) rfl ?_
        refine wl_val (r_move (v := .int .i64 _) rfl) rfl ?_
        refine wl_call (r_call fn22 rfl rfl) rfl (rCut_ok l _ _ p 64 _ (Row.of_pre (hS49.heap (.head _))) hc27 (by omega) hp1 hp2 (by decide)) ?_
        rintro _ w50 (⟨hm64, hM64, rfl, hx51⟩ | ⟨hro64, rfl, hx51⟩)
        · have hS52 := hS49.ext hx51
          refine wl_val (r_move (v := .tuple _) rfl) rfl ?_
          refine wl_val (r_extract (v := .slice _ _ _) rfl rfl) rfl ?_
          refine wl_val (r_extract (v := .int .i64 _) rfl rfl) rfl ?_
          refine wl_val (r_assign (v := .slice _ _ _) rfl) rfl ?_
          refine wl_val (r_assign (v := .int .i64 _) rfl) rfl ?_
          refine wl_nil ?_
          refine c_then ?_
          refine c_seq ?_
          refine c_region ?_
          refine wl_val (r_move (v := .slice _ _ _) rfl) rfl ?_
          refine wl_val (r_move (v := .int .i64 _) rfl) rfl ?_
          refine wl_call (r_call fn23 rfl rfl) rfl (take16_in l _ _ _ p _ (Row.of_pre (hS52.heap (.head _))) rfl hc27 (by omega) hm16 hM16) ?_
          rintro _ w53 ⟨rfl, hx54⟩
          have hS55 := hS52.ext hx54
          refine wl_val (r_move (v := .tuple _) rfl) rfl ?_
          refine wl_val (r_extract (v := .agg _) rfl rfl) rfl ?_
          refine wl_val (r_extract (v := .int .i64 _) rfl rfl) rfl ?_
          refine wl_exv (x_alloc (C := ((List.replicate 16 (0 : UInt8)).map b8)) hS55 ti28 rfl) rfl ?_
          rintro _ w56 ⟨b15, rfl, hS57⟩
          refine wl_exs (x_storeW [] hS57 ti28 rfl rfl (by first | (rw [List.length_map, takeL_len]; done) | (rw [List.length_map, List.length_take, List.length_drop]; omega)) (by simp) (one_b8 _)) rfl ?_
          intro w58 hS59
          simp only [List.cons_append, List.nil_append] at hS59
          refine wl_val (r_assign (v := .int .i64 _) rfl) rfl ?_
          refine wl_nil ?_
          refine c_then ?_
          refine c_seq ?_
          refine c_region ?_
          refine wl_val (r_move (v := .slice _ _ _) rfl) rfl ?_
          refine wl_val (r_move (v := .int .i64 _) rfl) rfl ?_
          refine wl_call (r_call fn24 rfl rfl) rfl (take32_in l _ _ _ p _ (Row.of_pre (hS59.heap (.tail _ (.head _)))) rfl hc27 (by omega) hm32 hM32) ?_
          rintro _ w60 ⟨rfl, hx61⟩
          have hS62 := hS59.ext hx61
          refine wl_val (r_move (v := .tuple _) rfl) rfl ?_
          refine wl_val (r_extract (v := .agg _) rfl rfl) rfl ?_
          refine wl_val (r_extract (v := .int .i64 _) rfl rfl) rfl ?_
          refine wl_exv (x_alloc (C := ((List.replicate 32 (0 : UInt8)).map b8)) hS62 ti31 rfl) rfl ?_
          rintro _ w63 ⟨b17, rfl, hS64⟩
          refine wl_exs (x_storeW [] hS64 ti31 rfl rfl (by first | (rw [List.length_map, takeL_len]; done) | (rw [List.length_map, List.length_take, List.length_drop]; omega)) (by simp) (one_b8 _)) rfl ?_
          intro w65 hS66
          simp only [List.cons_append, List.nil_append] at hS66
          refine wl_val (r_assign (v := .int .i64 _) rfl) rfl ?_
          refine wl_nil ?_
          refine c_then ?_
          refine c_seq ?_
          refine c_region ?_
          refine wl_val (r_move (v := .slice _ _ _) rfl) rfl ?_
          refine wl_val (r_move (v := .int .i64 _) rfl) rfl ?_
          refine wl_call (r_call fn25 rfl rfl) rfl (take64_in l _ _ _ p _ (Row.of_pre (hS66.heap (.tail _ (.tail _ (.head _))))) rfl hc27 (by omega) hm64 hM64) ?_
          rintro _ w67 ⟨rfl, hx68⟩
          have hS69 := hS66.ext hx68
          refine wl_val (r_move (v := .tuple _) rfl) rfl ?_
          refine wl_val (r_extract (v := .agg _) rfl rfl) rfl ?_
          refine wl_val (r_extract (v := .int .i64 _) rfl rfl) rfl ?_
          refine wl_exv (x_alloc (C := ((List.replicate 64 (0 : UInt8)).map b8)) hS69 ti34 rfl) rfl ?_
          rintro _ w70 ⟨b19, rfl, hS71⟩
          refine wl_exs (x_storeW [] hS71 ti34 rfl rfl (by first | (rw [List.length_map, takeL_len]; done) | (rw [List.length_map, List.length_take, List.length_drop]; omega)) (by simp) (one_b8 _)) rfl ?_
          intro w72 hS73
          simp only [List.cons_append, List.nil_append] at hS73
          refine wl_val (r_assign (v := .int .i64 _) rfl) rfl ?_
          refine wl_nil ?_
          refine c_then ?_
          refine c_seq ?_
          refine c_seq ?_
          refine c_region ?_
          refine wl_val (r_move (v := .int .i64 _) rfl) rfl ?_
          refine wl_val (r_move (v := .int .i64 _) rfl) rfl ?_
          refine wl_dec_f (r_neq rfl rfl) rfl (by decide) ?_
          refine wl_val (r_move (v := .bool _) rfl) rfl ?_
          refine wl_val (r_move (v := .int .i64 _) rfl) rfl ?_
          refine wl_val (r_move (v := .int .i64 _) rfl) rfl ?_
          refine wl_dec_f (r_neq rfl rfl) rfl (by decide) ?_
          refine wl_val (r_pick_f rfl (v := .bool _) rfl) rfl ?_
          refine wl_val (r_move (v := .bool _) rfl) rfl ?_
          refine wl_val (r_move (v := .int .i64 _) rfl) rfl ?_
          refine wl_val (r_move (v := .int .i64 _) rfl) rfl ?_
          refine wl_dec_f (r_neq rfl rfl) rfl (by decide) ?_
          refine wl_val (r_pick_f rfl (v := .bool _) rfl) rfl ?_
          refine wl_nil ?_
          refine c_then ?_
          refine c_false rfl ?_
          refine wp_skip ?_
          refine c_then ?_
          refine c_seq ?_
          refine c_seq ?_
          refine c_region ?_
          refine wl_val (r_move (v := .int .i64 _) rfl) rfl ?_
          refine wl_dec_t (r_eql rfl rfl) rfl (by decide) ?_
          refine wl_val (r_move (v := .bool _) rfl) rfl ?_
          refine wl_val (r_sa1_0 ti28.und ti5 rfl ) rfl ?_
          refine wl_val (r_move (v := .slice _ _ _) rfl) rfl ?_
          refine wl_call (r_call fn26 rfl rfl) rfl (bytesEq_t ((l.drop p.toNat).take 16) ((l.drop p.toNat).take 16) _ _ _ _ _ _ _ (Row.of_at (at_all (hS73.heap (.tail _ (.tail _ (.head _)))))) (pre_sub (f := p.toNat) (k := 16) hc27 (hS73.heap (.tail _ (.tail _ (.tail _ (.head _)))))) (by rw [List.length_take, List.length_drop]; omega) (by rw [List.length_take, List.length_drop]; omega) rfl) ?_
          rintro _ w74 ⟨rfl, hx75⟩
          have hS76 := hS73.ext hx75
          refine wl_val (r_not rfl) rfl ?_
          refine wl_val (r_pick_t rfl (v := .bool _) rfl) rfl ?_
          refine wl_val (r_move (v := .bool _) rfl) rfl ?_
          refine wl_val (r_move (v := .int .i64 _) rfl) rfl ?_
          refine wl_dec_t (r_eql rfl rfl) rfl (by decide) ?_
          refine wl_val (r_move (v := .bool _) rfl) rfl ?_
          refine wl_val (r_sa1_0 ti31.und ti5 rfl ) rfl ?_
          refine wl_val (r_move (v := .slice _ _ _) rfl) rfl ?_
          refine wl_call (r_call fn26 rfl rfl) rfl (bytesEq_t ((l.drop p.toNat).take 32) ((l.drop p.toNat).take 32) _ _ _ _ _ _ _ (Row.of_at (at_all (hS76.heap (.tail _ (.head _))))) (pre_sub (f := p.toNat) (k := 32) hc27 (hS76.heap (.tail _ (.tail _ (.tail _ (.head _)))))) (by rw [List.length_take, List.length_drop]; omega) (by rw [List.length_take, List.length_drop]; omega) rfl) ?_
          rintro _ w77 ⟨rfl, hx78⟩
          have hS79 := hS76.ext hx78
          refine wl_val (r_not rfl) rfl ?_
          refine wl_val (r_pick_t rfl (v := .bool _) rfl) rfl ?_
          refine wl_val (r_pick_f rfl (v := .bool _) rfl) rfl ?_
          refine wl_val (r_move (v := .bool _) rfl) rfl ?_
          refine wl_val (r_move (v := .int .i64 _) rfl) rfl ?_
          refine wl_dec_t (r_eql rfl rfl) rfl (by decide) ?_
          refine wl_val (r_move (v := .bool _) rfl) rfl ?_
          refine wl_val (r_sa1_0 ti34.und ti5 rfl ) rfl ?_
          refine wl_val (r_move (v := .slice _ _ _) rfl) rfl ?_
          refine wl_call (r_call fn26 rfl rfl) rfl (bytesEq_t ((l.drop p.toNat).take 64) ((l.drop p.toNat).take 64) _ _ _ _ _ _ _ (Row.of_at (at_all (hS79.heap (.head _)))) (pre_sub (f := p.toNat) (k := 64) hc27 (hS79.heap (.tail _ (.tail _ (.tail _ (.head _)))))) (by rw [List.length_take, List.length_drop]; omega) (by rw [List.length_take, List.length_drop]; omega) rfl) ?_
          rintro _ w80 ⟨rfl, hx81⟩
          have hS82 := hS79.ext hx81
          refine wl_val (r_not rfl) rfl ?_
          refine wl_val (r_pick_t rfl (v := .bool _) rfl) rfl ?_
          refine wl_val (r_pick_f rfl (v := .bool _) rfl) rfl ?_
          refine wl_nil ?_
          refine c_then ?_
          refine c_false rfl ?_
          refine wp_skip ?_
          refine c_then ?_
          refine c_seq ?_
          refine c_region ?_
          refine wl_val (r_move (v := .slice _ _ _) rfl) rfl ?_
          refine wl_val (r_move (v := .int .i64 _) rfl) rfl ?_
          refine wl_call (r_call fn27 rfl rfl) rfl (ref32_ok l _ _ p _ (Row.of_pre (hS82.heap (.tail _ (.tail _ (.tail _ (.head _)))))) hc27 (by omega) hp1 hp2) ?_
          rintro _ w83 (⟨hr0, hr1, rfl, hx84⟩ | ⟨hrn, rfl, hx84⟩)
          · have hS85 := hS82.ext hx84
            refine wl_val (r_move (v := .tuple _) rfl) rfl ?_
            refine wl_val (r_extract (v := .pointer _) rfl rfl) rfl ?_
            refine wl_val (r_extract (v := .int .i64 _) rfl rfl) rfl ?_
            refine wl_val (r_assign (v := .pointer _) rfl) rfl ?_
            refine wl_val (r_assign (v := .int .i64 _) rfl) rfl ?_
            refine wl_nil ?_
            refine c_then ?_
            refine c_seq ?_
            refine c_seq ?_
            have hpn : vi p.toNat = .int .i64 p := congrArg (Value.int .i64) (Int.toNat_of_nonneg hm32)
            generalize hpe : p.toNat = p' at *
            have hpb : p' + 32 ≤ l.length := by omega
            refine c_set (d := 1) (v := vi p') hpn.symm ?_
            refine c_set (d := 21) (v := pt g p') (congrArg Value.pointer (sub_lt0 (by omega))) ?_
            refine c_region ?_
            refine wl_val (r_move (v := .int .i64 _) rfl) rfl ?_
            refine wl_val (r_move (v := .int .i64 _) rfl) rfl ?_
            refine wl_dec_f (r_neq rfl rfl) rfl (by decide) ?_
            refine wl_val (r_move (v := .bool _) rfl) rfl ?_
            refine wl_val (r_move (v := .pointer _) rfl) rfl ?_
            refine wl_dec_t (r_neqPn ti38.und rfl rfl) rfl (by simp) ?_
            refine wl_val (r_move (v := .int .i64 _) rfl) rfl ?_
            refine wl_dec_t (r_eql rfl rfl) rfl (by decide) ?_
            refine wl_dec_f (r_neqBool ti4.und rfl rfl) rfl (fun h => h rfl) ?_
            refine wl_val (r_pick_f rfl (v := .bool _) rfl) rfl ?_
            refine wl_nil ?_
            refine c_then ?_
            refine c_false rfl ?_
            refine wp_skip ?_
            refine c_then ?_
            refine c_seq ?_
            refine c_seq ?_
            refine c_region ?_
            refine wl_val (r_move (v := .pointer _) rfl) rfl ?_
            refine wl_dec_t (r_neqPn ti38.und rfl rfl) rfl (by simp) ?_
            refine wl_nil ?_
            refine c_then ?_
            refine c_true rfl ?_
            refine c_seq ?_
            refine c_region ?_
            refine wl_val (r_move (v := .slice _ _ _) rfl) rfl ?_
            refine wl_val (r_move (v := .int .i64 _) rfl) rfl ?_
            refine wl_val (r_ixBO ti22.und ti5 rfl rfl (by first | omega | (simp [*]; done) | (simp [*] <;> omega))) rfl ?_
            refine wl_val (r_loadB1 ti5.und rfl rfl (hS85.heap (.tail _ (.tail _ (.tail _ (.head _))))) (pre_get0 (l := l) (m := p') (by omega))) rfl ?_
            refine wl_val (r_assign (v := .int .u8 _) rfl) rfl ?_
            refine wl_nil ?_
            refine c_then ?_
            refine c_seq ?_
            refine c_drawS 7 hMixed hS85 ?_
            intro w86 hS87
            refine g_take 0 rfl (by decide +kernel) rfl (fun _ _ _ h => h) hS87 (fun wF hF => r_move (v := .pointer _) rfl) ?_
            refine g_take 1 rfl (by decide +kernel) rfl (fun _ _ _ h => h) hS87 (fun wF hF => r_nilCheck rfl) ?_
            refine g_take 2 rfl (by decide +kernel) rfl (fun _ _ _ h => h) hS87 (fun wF hF => r_ixA (m := 0) (sz := 1) ti31.und ti5 rfl rfl (by first | omega | (simp [*]; done) | (simp [*] <;> omega)) rfl) ?_
            refine g_take 3 rfl (by decide +kernel) rfl (fun _ _ _ h => h) hS87 (fun wF hF => r_loadB1 ti5.und rfl rfl (hF.heap (.tail _ (.tail _ (.tail _ (.head _))))) (pre_get (l := l) (m := p') (by omega))) ?_
            refine g_take 4 rfl (by decide +kernel) rfl (fun _ _ _ h => h) hS87 (fun wF hF => r_move (v := .int .u8 _) rfl) ?_
            refine g_take 5 rfl (by decide +kernel) rfl (fun _ _ _ h => h) hS87 (fun wF hF => r_xor8 rfl rfl) ?_
            refine g_take 6 rfl (by decide +kernel) rfl (fun _ _ _ h => h) hS87 (fun wF hF => r_nilCheck rfl) ?_
            refine g_tail (by decide +kernel) rfl (by decide +kernel) ?_
            refine wl_val (r_ixA (m := 0) (sz := 1) ti31.und ti5 rfl rfl (by first | omega | (simp [*]; done) | (simp [*] <;> omega)) rfl) rfl ?_
            refine wl_exs (x_store1 (v := b8 _) [_, _, _] hS87 ti5 rfl rfl rfl (by simp; omega)) rfl ?_
            intro w88 hS89
            simp only [List.cons_append, List.nil_append] at hS89
            simp only [Nat.add_zero, Nat.zero_add, Nat.mul_one, Nat.zero_mul] at hS89
            rw [pre_set (by omega)] at hS89
            refine wl_nil ?_
            refine c_then ?_
            refine c_seq ?_
            refine c_drawS 23 hMixed hS89 ?_
            intro w90 hS91
            refine g_take 0 rfl (by decide +kernel) rfl (fun _ _ _ h => h) hS91 (fun wF hF => r_move (v := .pointer _) rfl) ?_
            refine g_take 1 rfl (by decide +kernel) rfl (fun _ _ _ h => h) hS91 (fun wF hF => r_nilCheck rfl) ?_
            refine g_take 2 rfl (by decide +kernel) rfl (fun _ _ _ h => h) hS91 (fun wF hF => r_loadPX ti31 rfl rfl (Row.of_at (at_pre (f := p') (k := 32) (hF.heap (.tail _ (.tail _ (.tail _ (.head _))))))) (by decide) (by rw [List.length_map, List.length_take, List.length_drop, List.length_set]; omega)) ?_
            refine g_take 3 rfl (by decide +kernel) rfl (fun _ _ _ h => h) hS91 (fun wF hF => r_move (v := .slice _ _ _) rfl) ?_
            refine g_take 4 rfl (by decide +kernel) rfl (fun _ _ _ h => h) hS91 (fun wF hF => r_move (v := .int .i64 _) rfl) ?_
            refine g_take 5 rfl (by decide +kernel) rfl (fun _ _ _ h => h) hS91 (fun wF hF => r_sl_l ti22.und ti5 rfl rfl (by omega)) ?_
            refine g_take 6 rfl (by decide +kernel) rfl (fun _ _ _ h => h) hS91 (fun wF hF => r_s2a ti31.und rfl (by omega)) ?_
            refine g_take 7 rfl (by decide +kernel) rfl (fun _ _ _ h => h) hS91 (fun wF hF => r_loadPX ti31 rfl rfl (pre_sub (f := p') (k := 32) (by simpa using hc27) (hF.heap (.tail _ (.tail _ (.tail _ (.head _)))))) (by decide) (by rw [List.length_map, List.length_take, List.length_drop, List.length_set]; omega)) ?_
            refine g_dec_f 8 rfl (by decide +kernel) rfl (fun _ _ _ _ h => h) hS91 (fun wF hF => r_neqA (u := undef) eg31 rfl rfl (eqIs_b8 ti31.und ti5 _ _ (by first | (simp [*]; done) | (simp [*] <;> omega) | omega) (by first | (simp [*]; done) | (simp [*] <;> omega) | omega))) (fun h => h rfl) ?_
            refine g_take 9 rfl (by decide +kernel) rfl (fun _ _ _ h => h) hS91 (fun wF hF => r_move (v := .bool _) rfl) ?_
            refine g_take 10 rfl (by decide +kernel) rfl (fun _ _ _ h => h) hS91 (fun wF hF => r_move (v := .slice _ _ _) rfl) ?_
            refine g_take 11 rfl (by decide +kernel) rfl (fun _ _ _ h => h) hS91 (fun wF hF => r_move (v := .int .i64 _) rfl) ?_
            refine g_take 12 rfl (by decide +kernel) rfl (fun _ _ _ h => h) hS91 (fun wF hF => r_ixBO ti22.und ti5 rfl rfl (by first | omega | (simp [*]; done) | (simp [*] <;> omega))) ?_
            refine g_take 13 rfl (by decide +kernel) rfl (fun _ _ _ h => h) hS91 (fun wF hF => r_loadB1 ti5.und rfl rfl (hF.heap (.tail _ (.tail _ (.tail _ (.head _))))) (pre_get_set0 (l := l) (m := p') (by omega))) ?_
            refine g_take 14 rfl (by decide +kernel) rfl (fun _ _ _ h => h) hS91 (fun wF hF => r_move (v := .int .u8 _) rfl) ?_
            refine g_take 15 rfl (by decide +kernel) rfl (fun _ _ _ h => h) hS91 (fun wF hF => r_move (v := .int .u8 _) rfl) ?_
            refine g_take 16 rfl (by decide +kernel) rfl (fun _ _ _ h => h) hS91 (fun wF hF => r_xor8 rfl rfl) ?_
            refine g_dec_f 17 rfl (by decide +kernel) rfl (fun _ _ _ _ h => h) hS91 (fun wF hF => r_neq rfl rfl) (fun h => h rfl) ?_
            refine g_take 18 rfl (by decide +kernel) rfl (fun _ _ _ h => h) hS91 (fun wF hF => r_pick_f rfl (v := .bool _) rfl) ?_
            refine g_take 19 rfl (by decide +kernel) rfl (fun _ _ _ h => h) hS91 (fun wF hF => r_move (v := .bool _) rfl) ?_
            refine g_take 20 rfl (by decide +kernel) rfl (fun _ _ _ h => h) hS91 (fun wF hF => r_ixA (m := 0) (sz := 1) ti31.und ti5 rfl rfl (by first | omega | (simp [*]; done) | (simp [*] <;> omega)) (Nat.zero_add _ |>.trans (Nat.mul_one _))) ?_
            refine g_take 21 rfl (by decide +kernel) rfl (fun _ _ _ h => h) hS91 (fun wF hF => r_loadB1 ti5.und rfl rfl (hF.heap (.tail _ (.head _))) (first_take (by omega) (by omega))) ?_
            refine g_take 22 rfl (by decide +kernel) rfl (fun _ _ _ h => h) hS91 (fun wF hF => r_move (v := .int .u8 _) rfl) ?_
            refine g_tail (by decide +kernel) rfl (by decide +kernel) ?_
            refine wl_dec_f (r_neq rfl rfl) rfl (fun h => h rfl) ?_
            refine wl_val (r_pick_f rfl (v := .bool _) rfl) rfl ?_
            refine wl_nil ?_
            refine c_then ?_
            refine c_false rfl ?_
            refine wp_skip ?_
            refine c_then ?_
            refine c_seq ?_
            refine c_region ?_
            refine wl_val (r_move (v := .slice _ _ _) rfl) rfl ?_
            refine wl_val (r_move (v := .int .i64 _) rfl) rfl ?_
            refine wl_val (r_move (v := .int .i64 _) rfl) rfl ?_
            refine wl_call (r_call fn28 rfl rfl) rfl (part1_ok (l.set p' (gt l p' ^^^ by')) D g l.length _ (p' : Int) t _ (hS91.heap (.tail _ (.tail _ (.tail _ (.head _))))) (by simp) hc27 (by omega)) ?_
            rintro _ w92 (⟨rfl, hx93⟩)
            · have hS94 := St.callM (X := [_]) (L := [_, _, _]) (hS91.perm ((List.Perm.cons _ (List.Perm.refl _)).trans (List.perm_middle (l₁ := [_, _, _])).symm)) hx93 (by simp [Item.id])
              simp only [List.cons_append, List.nil_append] at hS94
              refine wl_val (r_assign (v := .bool _) rfl) rfl ?_
              refine wl_nil ?_
              refine c_then ?_
              refine wp_ret ?_
              refine ret1 Try.results3 ?_
              exact ⟨rfl, hS94.fin⟩
          · exact absurd (room_in hm32 hM32) hrn
        · have hS52 := hS49.ext hx51
          refine wl_val (r_move (v := .tuple _) rfl) rfl ?_
          refine wl_val (r_extract (v := .slice _ _ _) rfl rfl) rfl ?_
          refine wl_val (r_extract (v := .int .i64 _) rfl rfl) rfl ?_
          refine wl_val (r_assign (v := .slice _ _ _) rfl) rfl ?_
          refine wl_val (r_assign (v := .int .i64 _) rfl) rfl ?_
          refine wl_nil ?_
          refine c_then ?_
          refine c_seq ?_
          refine c_region ?_
          refine wl_val (r_move (v := .slice _ _ _) rfl) rfl ?_
          refine wl_val (r_move (v := .int .i64 _) rfl) rfl ?_
          refine wl_call (r_call fn23 rfl rfl) rfl (take16_in l _ _ _ p _ (Row.of_pre (hS52.heap (.head _))) rfl hc27 (by omega) hm16 hM16) ?_
          rintro _ w95 ⟨rfl, hx96⟩
          have hS97 := hS52.ext hx96
          refine wl_val (r_move (v := .tuple _) rfl) rfl ?_
          refine wl_val (r_extract (v := .agg _) rfl rfl) rfl ?_
          refine wl_val (r_extract (v := .int .i64 _) rfl rfl) rfl ?_
          refine wl_exv (x_alloc (C := ((List.replicate 16 (0 : UInt8)).map b8)) hS97 ti28 rfl) rfl ?_
          rintro _ w98 ⟨b15, rfl, hS99⟩
          refine wl_exs (x_storeW [] hS99 ti28 rfl rfl (by first | (rw [List.length_map, takeL_len]; done) | (rw [List.length_map, List.length_take, List.length_drop]; omega)) (by simp) (one_b8 _)) rfl ?_
          intro w100 hS101
          simp only [List.cons_append, List.nil_append] at hS101
          refine wl_val (r_assign (v := .int .i64 _) rfl) rfl ?_
          refine wl_nil ?_
          refine c_then ?_
          refine c_seq ?_
          refine c_region ?_
          refine wl_val (r_move (v := .slice _ _ _) rfl) rfl ?_
          refine wl_val (r_move (v := .int .i64 _) rfl) rfl ?_
          refine wl_call (r_call fn24 rfl rfl) rfl (take32_in l _ _ _ p _ (Row.of_pre (hS101.heap (.tail _ (.head _)))) rfl hc27 (by omega) hm32 hM32) ?_
          rintro _ w102 ⟨rfl, hx103⟩
          have hS104 := hS101.ext hx103
          refine wl_val (r_move (v := .tuple _) rfl) rfl ?_
          refine wl_val (r_extract (v := .agg _) rfl rfl) rfl ?_
          refine wl_val (r_extract (v := .int .i64 _) rfl rfl) rfl ?_
          refine wl_exv (x_alloc (C := ((List.replicate 32 (0 : UInt8)).map b8)) hS104 ti31 rfl) rfl ?_
          rintro _ w105 ⟨b17, rfl, hS106⟩
          refine wl_exs (x_storeW [] hS106 ti31 rfl rfl (by first | (rw [List.length_map, takeL_len]; done) | (rw [List.length_map, List.length_take, List.length_drop]; omega)) (by simp) (one_b8 _)) rfl ?_
          intro w107 hS108
          simp only [List.cons_append, List.nil_append] at hS108
          refine wl_val (r_assign (v := .int .i64 _) rfl) rfl ?_
          refine wl_nil ?_
          refine c_then ?_
          refine c_seq ?_
          refine c_region ?_
          refine wl_val (r_move (v := .slice _ _ _) rfl) rfl ?_
          refine wl_val (r_move (v := .int .i64 _) rfl) rfl ?_
          refine wl_call (r_call fn25 rfl rfl) rfl (take64_no l _ _ _ p _ (Row.of_pre (hS108.heap (.tail _ (.tail _ (.head _))))) rfl hc27 (by omega) hp1 hp2) ?_
          rintro _ w109 ⟨rfl, hx110⟩
          have hS111 := hS108.ext hx110
          refine wl_val (r_move (v := .tuple _) rfl) rfl ?_
          refine wl_val (r_extract (v := .agg _) rfl rfl) rfl ?_
          refine wl_val (r_extract (v := .int .i64 _) rfl rfl) rfl ?_
          refine wl_exv (x_alloc (C := ((List.replicate 64 (0 : UInt8)).map b8)) hS111 ti34 rfl) rfl ?_
          rintro _ w112 ⟨b19, rfl, hS113⟩
          refine wl_exs (x_storeW [] hS113 ti34 rfl rfl (by first | (rw [List.length_map, takeL_len]; done) | (rw [List.length_map, List.length_take, List.length_drop]; omega)) (by simp) (one_b8 _)) rfl ?_
          intro w114 hS115
          simp only [List.cons_append, List.nil_append] at hS115
          refine wl_val (r_assign (v := .int .i64 _) rfl) rfl ?_
          refine wl_nil ?_
          refine c_then ?_
          refine c_seq ?_
          refine c_seq ?_
          refine c_region ?_
          refine wl_val (r_move (v := .int .i64 _) rfl) rfl ?_
          refine wl_val (r_move (v := .int .i64 _) rfl) rfl ?_
          refine wl_dec_f (r_neq rfl rfl) rfl (by decide) ?_
          refine wl_val (r_move (v := .bool _) rfl) rfl ?_
          refine wl_val (r_move (v := .int .i64 _) rfl) rfl ?_
          refine wl_val (r_move (v := .int .i64 _) rfl) rfl ?_
          refine wl_dec_f (r_neq rfl rfl) rfl (by decide) ?_
          refine wl_val (r_pick_f rfl (v := .bool _) rfl) rfl ?_
          refine wl_val (r_move (v := .bool _) rfl) rfl ?_
          refine wl_val (r_move (v := .int .i64 _) rfl) rfl ?_
          refine wl_val (r_move (v := .int .i64 _) rfl) rfl ?_
          refine wl_dec_f (r_neq rfl rfl) rfl (fun h => h rfl) ?_
          refine wl_val (r_pick_f rfl (v := .bool _) rfl) rfl ?_
          refine wl_nil ?_
          refine c_then ?_
          refine c_false rfl ?_
          refine wp_skip ?_
          refine c_then ?_
          refine c_seq ?_
          refine c_seq ?_
          refine c_region ?_
          refine wl_val (r_move (v := .int .i64 _) rfl) rfl ?_
          refine wl_dec_t (r_eql rfl rfl) rfl (by decide) ?_
          refine wl_val (r_move (v := .bool _) rfl) rfl ?_
          refine wl_val (r_sa1_0 ti28.und ti5 rfl ) rfl ?_
          refine wl_val (r_move (v := .slice _ _ _) rfl) rfl ?_
          refine wl_call (r_call fn26 rfl rfl) rfl (bytesEq_t ((l.drop p.toNat).take 16) ((l.drop p.toNat).take 16) _ _ _ _ _ _ _ (Row.of_at (at_all (hS115.heap (.tail _ (.tail _ (.head _)))))) (pre_sub (f := p.toNat) (k := 16) hc27 (hS115.heap (.tail _ (.tail _ (.tail _ (.head _)))))) (by rw [List.length_take, List.length_drop]; omega) (by rw [List.length_take, List.length_drop]; omega) rfl) ?_
          rintro _ w116 ⟨rfl, hx117⟩
          have hS118 := hS115.ext hx117
          refine wl_val (r_not rfl) rfl ?_
          refine wl_val (r_pick_t rfl (v := .bool _) rfl) rfl ?_
          refine wl_val (r_move (v := .bool _) rfl) rfl ?_
          refine wl_val (r_move (v := .int .i64 _) rfl) rfl ?_
          refine wl_dec_t (r_eql rfl rfl) rfl (by decide) ?_
          refine wl_val (r_move (v := .bool _) rfl) rfl ?_
          refine wl_val (r_sa1_0 ti31.und ti5 rfl ) rfl ?_
          refine wl_val (r_move (v := .slice _ _ _) rfl) rfl ?_
          refine wl_call (r_call fn26 rfl rfl) rfl (bytesEq_t ((l.drop p.toNat).take 32) ((l.drop p.toNat).take 32) _ _ _ _ _ _ _ (Row.of_at (at_all (hS118.heap (.tail _ (.head _))))) (pre_sub (f := p.toNat) (k := 32) hc27 (hS118.heap (.tail _ (.tail _ (.tail _ (.head _)))))) (by rw [List.length_take, List.length_drop]; omega) (by rw [List.length_take, List.length_drop]; omega) rfl) ?_
          rintro _ w119 ⟨rfl, hx120⟩
          have hS121 := hS118.ext hx120
          refine wl_val (r_not rfl) rfl ?_
          refine wl_val (r_pick_t rfl (v := .bool _) rfl) rfl ?_
          refine wl_val (r_pick_f rfl (v := .bool _) rfl) rfl ?_
          refine wl_val (r_move (v := .bool _) rfl) rfl ?_
          refine wl_val (r_move (v := .int .i64 _) rfl) rfl ?_
          refine wl_dec_f (r_eql rfl rfl) rfl hro64 ?_
          refine wl_val (r_move (v := .bool _) rfl) rfl ?_
          refine wl_not rfl ?_
          refine wl_not rfl ?_
          refine wl_not rfl ?_
          refine wl_not rfl ?_
          refine wl_val (r_pick_f rfl (v := .bool false) rfl) rfl ?_
          refine wl_val (r_pick_f rfl (v := .bool _) rfl) rfl ?_
          refine wl_nil ?_
          refine c_then ?_
          refine c_false rfl ?_
          refine wp_skip ?_
          refine c_then ?_
          refine c_seq ?_
          refine c_region ?_
          refine wl_val (r_move (v := .slice _ _ _) rfl) rfl ?_
          refine wl_val (r_move (v := .int .i64 _) rfl) rfl ?_
          refine wl_call (r_call fn27 rfl rfl) rfl (ref32_ok l _ _ p _ (Row.of_pre (hS121.heap (.tail _ (.tail _ (.tail _ (.head _)))))) hc27 (by omega) hp1 hp2) ?_
          rintro _ w122 (⟨hr0, hr1, rfl, hx123⟩ | ⟨hrn, rfl, hx123⟩)
          · have hS124 := hS121.ext hx123
            refine wl_val (r_move (v := .tuple _) rfl) rfl ?_
            refine wl_val (r_extract (v := .pointer _) rfl rfl) rfl ?_
            refine wl_val (r_extract (v := .int .i64 _) rfl rfl) rfl ?_
            refine wl_val (r_assign (v := .pointer _) rfl) rfl ?_
            refine wl_val (r_assign (v := .int .i64 _) rfl) rfl ?_
            refine wl_nil ?_
            refine c_then ?_
            refine c_seq ?_
            refine c_seq ?_
            have hpn : vi p.toNat = .int .i64 p := congrArg (Value.int .i64) (Int.toNat_of_nonneg hm32)
            generalize hpe : p.toNat = p' at *
            have hpb : p' + 32 ≤ l.length := by omega
            refine c_set (d := 1) (v := vi p') hpn.symm ?_
            refine c_set (d := 21) (v := pt g p') (congrArg Value.pointer (sub_lt0 (by omega))) ?_
            refine c_region ?_
            refine wl_val (r_move (v := .int .i64 _) rfl) rfl ?_
            refine wl_val (r_move (v := .int .i64 _) rfl) rfl ?_
            refine wl_dec_f (r_neq rfl rfl) rfl (by decide) ?_
            refine wl_val (r_move (v := .bool _) rfl) rfl ?_
            refine wl_val (r_move (v := .pointer _) rfl) rfl ?_
            refine wl_dec_t (r_neqPn ti38.und rfl rfl) rfl (by simp) ?_
            refine wl_val (r_move (v := .int .i64 _) rfl) rfl ?_
            refine wl_dec_t (r_eql rfl rfl) rfl (by decide) ?_
            refine wl_dec_f (r_neqBool ti4.und rfl rfl) rfl (fun h => h rfl) ?_
            refine wl_val (r_pick_f rfl (v := .bool _) rfl) rfl ?_
            refine wl_nil ?_
            refine c_then ?_
            refine c_false rfl ?_
            refine wp_skip ?_
            refine c_then ?_
            refine c_seq ?_
            refine c_seq ?_
            refine c_region ?_
            refine wl_val (r_move (v := .pointer _) rfl) rfl ?_
            refine wl_dec_t (r_neqPn ti38.und rfl rfl) rfl (by simp) ?_
            refine wl_nil ?_
            refine c_then ?_
            refine c_true rfl ?_
            refine c_seq ?_
            refine c_region ?_
            refine wl_val (r_move (v := .slice _ _ _) rfl) rfl ?_
            refine wl_val (r_move (v := .int .i64 _) rfl) rfl ?_
            refine wl_val (r_ixBO ti22.und ti5 rfl rfl (by first | omega | (simp [*]; done) | (simp [*] <;> omega))) rfl ?_
            refine wl_val (r_loadB1 ti5.und rfl rfl (hS124.heap (.tail _ (.tail _ (.tail _ (.head _))))) (pre_get0 (l := l) (m := p') (by omega))) rfl ?_
            refine wl_val (r_assign (v := .int .u8 _) rfl) rfl ?_
            refine wl_nil ?_
            refine c_then ?_
            refine c_seq ?_
            refine c_drawS 7 hMixed hS124 ?_
            intro w125 hS126
            refine g_take 0 rfl (by decide +kernel) rfl (fun _ _ _ h => h) hS126 (fun wF hF => r_move (v := .pointer _) rfl) ?_
            refine g_take 1 rfl (by decide +kernel) rfl (fun _ _ _ h => h) hS126 (fun wF hF => r_nilCheck rfl) ?_
            refine g_take 2 rfl (by decide +kernel) rfl (fun _ _ _ h => h) hS126 (fun wF hF => r_ixA (m := 0) (sz := 1) ti31.und ti5 rfl rfl (by first | omega | (simp [*]; done) | (simp [*] <;> omega)) rfl) ?_
            refine g_take 3 rfl (by decide +kernel) rfl (fun _ _ _ h => h) hS126 (fun wF hF => r_loadB1 ti5.und rfl rfl (hF.heap (.tail _ (.tail _ (.tail _ (.head _))))) (pre_get (l := l) (m := p') (by omega))) ?_
            refine g_take 4 rfl (by decide +kernel) rfl (fun _ _ _ h => h) hS126 (fun wF hF => r_move (v := .int .u8 _) rfl) ?_
            refine g_take 5 rfl (by decide +kernel) rfl (fun _ _ _ h => h) hS126 (fun wF hF => r_xor8 rfl rfl) ?_
            refine g_take 6 rfl (by decide +kernel) rfl (fun _ _ _ h => h) hS126 (fun wF hF => r_nilCheck rfl) ?_
            refine g_tail (by decide +kernel) rfl (by decide +kernel) ?_
            refine wl_val (r_ixA (m := 0) (sz := 1) ti31.und ti5 rfl rfl (by first | omega | (simp [*]; done) | (simp [*] <;> omega)) rfl) rfl ?_
            refine wl_exs (x_store1 (v := b8 _) [_, _, _] hS126 ti5 rfl rfl rfl (by simp; omega)) rfl ?_
            intro w127 hS128
            simp only [List.cons_append, List.nil_append] at hS128
            simp only [Nat.add_zero, Nat.zero_add, Nat.mul_one, Nat.zero_mul] at hS128
            rw [pre_set (by omega)] at hS128
            refine wl_nil ?_
            refine c_then ?_
            refine c_seq ?_
            refine c_drawS 23 hMixed hS128 ?_
            intro w129 hS130
            refine g_take 0 rfl (by decide +kernel) rfl (fun _ _ _ h => h) hS130 (fun wF hF => r_move (v := .pointer _) rfl) ?_
            refine g_take 1 rfl (by decide +kernel) rfl (fun _ _ _ h => h) hS130 (fun wF hF => r_nilCheck rfl) ?_
            refine g_take 2 rfl (by decide +kernel) rfl (fun _ _ _ h => h) hS130 (fun wF hF => r_loadPX ti31 rfl rfl (Row.of_at (at_pre (f := p') (k := 32) (hF.heap (.tail _ (.tail _ (.tail _ (.head _))))))) (by decide) (by rw [List.length_map, List.length_take, List.length_drop, List.length_set]; omega)) ?_
            refine g_take 3 rfl (by decide +kernel) rfl (fun _ _ _ h => h) hS130 (fun wF hF => r_move (v := .slice _ _ _) rfl) ?_
            refine g_take 4 rfl (by decide +kernel) rfl (fun _ _ _ h => h) hS130 (fun wF hF => r_move (v := .int .i64 _) rfl) ?_
            refine g_take 5 rfl (by decide +kernel) rfl (fun _ _ _ h => h) hS130 (fun wF hF => r_sl_l ti22.und ti5 rfl rfl (by omega)) ?_
            refine g_take 6 rfl (by decide +kernel) rfl (fun _ _ _ h => h) hS130 (fun wF hF => r_s2a ti31.und rfl (by omega)) ?_
            refine g_take 7 rfl (by decide +kernel) rfl (fun _ _ _ h => h) hS130 (fun wF hF => r_loadPX ti31 rfl rfl (pre_sub (f := p') (k := 32) (by simpa using hc27) (hF.heap (.tail _ (.tail _ (.tail _ (.head _)))))) (by decide) (by rw [List.length_map, List.length_take, List.length_drop, List.length_set]; omega)) ?_
            refine g_dec_f 8 rfl (by decide +kernel) rfl (fun _ _ _ _ h => h) hS130 (fun wF hF => r_neqA (u := undef) eg31 rfl rfl (eqIs_b8 ti31.und ti5 _ _ (by first | (simp [*]; done) | (simp [*] <;> omega) | omega) (by first | (simp [*]; done) | (simp [*] <;> omega) | omega))) (fun h => h rfl) ?_
            refine g_take 9 rfl (by decide +kernel) rfl (fun _ _ _ h => h) hS130 (fun wF hF => r_move (v := .bool _) rfl) ?_
            refine g_take 10 rfl (by decide +kernel) rfl (fun _ _ _ h => h) hS130 (fun wF hF => r_move (v := .slice _ _ _) rfl) ?_
            refine g_take 11 rfl (by decide +kernel) rfl (fun _ _ _ h => h) hS130 (fun wF hF => r_move (v := .int .i64 _) rfl) ?_
            refine g_take 12 rfl (by decide +kernel) rfl (fun _ _ _ h => h) hS130 (fun wF hF => r_ixBO ti22.und ti5 rfl rfl (by first | omega | (simp [*]; done) | (simp [*] <;> omega))) ?_
            refine g_take 13 rfl (by decide +kernel) rfl (fun _ _ _ h => h) hS130 (fun wF hF => r_loadB1 ti5.und rfl rfl (hF.heap (.tail _ (.tail _ (.tail _ (.head _))))) (pre_get_set0 (l := l) (m := p') (by omega))) ?_
            refine g_take 14 rfl (by decide +kernel) rfl (fun _ _ _ h => h) hS130 (fun wF hF => r_move (v := .int .u8 _) rfl) ?_
            refine g_take 15 rfl (by decide +kernel) rfl (fun _ _ _ h => h) hS130 (fun wF hF => r_move (v := .int .u8 _) rfl) ?_
            refine g_take 16 rfl (by decide +kernel) rfl (fun _ _ _ h => h) hS130 (fun wF hF => r_xor8 rfl rfl) ?_
            refine g_dec_f 17 rfl (by decide +kernel) rfl (fun _ _ _ _ h => h) hS130 (fun wF hF => r_neq rfl rfl) (fun h => h rfl) ?_
            refine g_take 18 rfl (by decide +kernel) rfl (fun _ _ _ h => h) hS130 (fun wF hF => r_pick_f rfl (v := .bool _) rfl) ?_
            refine g_take 19 rfl (by decide +kernel) rfl (fun _ _ _ h => h) hS130 (fun wF hF => r_move (v := .bool _) rfl) ?_
            refine g_take 20 rfl (by decide +kernel) rfl (fun _ _ _ h => h) hS130 (fun wF hF => r_ixA (m := 0) (sz := 1) ti31.und ti5 rfl rfl (by first | omega | (simp [*]; done) | (simp [*] <;> omega)) (Nat.zero_add _ |>.trans (Nat.mul_one _))) ?_
            refine g_take 21 rfl (by decide +kernel) rfl (fun _ _ _ h => h) hS130 (fun wF hF => r_loadB1 ti5.und rfl rfl (hF.heap (.tail _ (.head _))) (first_take (by omega) (by omega))) ?_
            refine g_take 22 rfl (by decide +kernel) rfl (fun _ _ _ h => h) hS130 (fun wF hF => r_move (v := .int .u8 _) rfl) ?_
            refine g_tail (by decide +kernel) rfl (by decide +kernel) ?_
            refine wl_dec_f (r_neq rfl rfl) rfl (fun h => h rfl) ?_
            refine wl_val (r_pick_f rfl (v := .bool _) rfl) rfl ?_
            refine wl_nil ?_
            refine c_then ?_
            refine c_false rfl ?_
            refine wp_skip ?_
            refine c_then ?_
            refine c_seq ?_
            refine c_region ?_
            refine wl_val (r_move (v := .slice _ _ _) rfl) rfl ?_
            refine wl_val (r_move (v := .int .i64 _) rfl) rfl ?_
            refine wl_val (r_move (v := .int .i64 _) rfl) rfl ?_
            refine wl_call (r_call fn28 rfl rfl) rfl (part1_ok (l.set p' (gt l p' ^^^ by')) D g l.length _ (p' : Int) t _ (hS130.heap (.tail _ (.tail _ (.tail _ (.head _))))) (by simp) hc27 (by omega)) ?_
            rintro _ w131 (⟨rfl, hx132⟩)
            · have hS133 := St.callM (X := [_]) (L := [_, _, _]) (hS130.perm ((List.Perm.cons _ (List.Perm.refl _)).trans (List.perm_middle (l₁ := [_, _, _])).symm)) hx132 (by simp [Item.id])
              simp only [List.cons_append, List.nil_append] at hS133
              refine wl_val (r_assign (v := .bool _) rfl) rfl ?_
              refine wl_nil ?_
              refine c_then ?_
              refine wp_ret ?_
              refine ret1 Try.results3 ?_
              exact ⟨rfl, hS133.fin⟩
          · exact absurd (room_in hm32 hM32) hrn
      · have hS49 := hS46.ext hx48
        refine wl_val (r_move (v := .tuple _) rfl) rfl ?_
        refine wl_val (r_extract (v := .slice _ _ _) rfl rfl) rfl ?_
        refine wl_val (r_extract (v := .int .i64 _) rfl rfl) rfl ?_
        refine wl_val (r_assign (v := .slice _ _ _) rfl) rfl ?_
        refine wl_val (r_assign (v := .int .i64 _) rfl) rfl ?_
        refine wl_nil ?_
        refine c_then ?_
        refine c_seq ?_
        refine c_region ?_
        refine wl_val (r_move (v := .slice _ _ _) rfl) rfl ?_
        refine wl_val (r_move (v := .int .i64 _) rfl) rfl ?_
        refine wl_call (r_call fn22 rfl rfl) rfl (rCut_ok l _ _ p 64 _ (Row.of_pre (hS49.heap (.head _))) hc27 (by omega) hp1 hp2 (by decide)) ?_
        rintro _ w134 (⟨hm64, hM64, rfl, hx135⟩ | ⟨hro64, rfl, hx135⟩)
        · exact absurd (room_in (by omega) (by omega)) hro32
        · have hS136 := hS49.ext hx135
          refine wl_val (r_move (v := .tuple _) rfl) rfl ?_
          refine wl_val (r_extract (v := .slice _ _ _) rfl rfl) rfl ?_
          refine wl_val (r_extract (v := .int .i64 _) rfl rfl) rfl ?_
          refine wl_val (r_assign (v := .slice _ _ _) rfl) rfl ?_
          refine wl_val (r_assign (v := .int .i64 _) rfl) rfl ?_
          refine wl_nil ?_
          refine c_then ?_
          refine c_seq ?_
          refine c_region ?_
          refine wl_val (r_move (v := .slice _ _ _) rfl) rfl ?_
          refine wl_val (r_move (v := .int .i64 _) rfl) rfl ?_
          refine wl_call (r_call fn23 rfl rfl) rfl (take16_in l _ _ _ p _ (Row.of_pre (hS136.heap (.head _))) rfl hc27 (by omega) hm16 hM16) ?_
          rintro _ w137 ⟨rfl, hx138⟩
          have hS139 := hS136.ext hx138
          refine wl_val (r_move (v := .tuple _) rfl) rfl ?_
          refine wl_val (r_extract (v := .agg _) rfl rfl) rfl ?_
          refine wl_val (r_extract (v := .int .i64 _) rfl rfl) rfl ?_
          refine wl_exv (x_alloc (C := ((List.replicate 16 (0 : UInt8)).map b8)) hS139 ti28 rfl) rfl ?_
          rintro _ w140 ⟨b15, rfl, hS141⟩
          refine wl_exs (x_storeW [] hS141 ti28 rfl rfl (by first | (rw [List.length_map, takeL_len]; done) | (rw [List.length_map, List.length_take, List.length_drop]; omega)) (by simp) (one_b8 _)) rfl ?_
          intro w142 hS143
          simp only [List.cons_append, List.nil_append] at hS143
          refine wl_val (r_assign (v := .int .i64 _) rfl) rfl ?_
          refine wl_nil ?_
          refine c_then ?_
          refine c_seq ?_
          refine c_region ?_
          refine wl_val (r_move (v := .slice _ _ _) rfl) rfl ?_
          refine wl_val (r_move (v := .int .i64 _) rfl) rfl ?_
          refine wl_call (r_call fn24 rfl rfl) rfl (take32_no l _ _ _ p _ (Row.of_pre (hS143.heap (.tail _ (.head _)))) rfl hc27 (by omega) hp1 hp2) ?_
          rintro _ w144 ⟨rfl, hx145⟩
          have hS146 := hS143.ext hx145
          refine wl_val (r_move (v := .tuple _) rfl) rfl ?_
          refine wl_val (r_extract (v := .agg _) rfl rfl) rfl ?_
          refine wl_val (r_extract (v := .int .i64 _) rfl rfl) rfl ?_
          refine wl_exv (x_alloc (C := ((List.replicate 32 (0 : UInt8)).map b8)) hS146 ti31 rfl) rfl ?_
          rintro _ w147 ⟨b17, rfl, hS148⟩
          refine wl_exs (x_storeW [] hS148 ti31 rfl rfl (by first | (rw [List.length_map, takeL_len]; done) | (rw [List.length_map, List.length_take, List.length_drop]; omega)) (by simp) (one_b8 _)) rfl ?_
          intro w149 hS150
          simp only [List.cons_append, List.nil_append] at hS150
          refine wl_val (r_assign (v := .int .i64 _) rfl) rfl ?_
          refine wl_nil ?_
          refine c_then ?_
          refine c_seq ?_
          refine c_region ?_
          refine wl_val (r_move (v := .slice _ _ _) rfl) rfl ?_
          refine wl_val (r_move (v := .int .i64 _) rfl) rfl ?_
          refine wl_call (r_call fn25 rfl rfl) rfl (take64_no l _ _ _ p _ (Row.of_pre (hS150.heap (.tail _ (.tail _ (.head _))))) rfl hc27 (by omega) hp1 hp2) ?_
          rintro _ w151 ⟨rfl, hx152⟩
          have hS153 := hS150.ext hx152
          refine wl_val (r_move (v := .tuple _) rfl) rfl ?_
          refine wl_val (r_extract (v := .agg _) rfl rfl) rfl ?_
          refine wl_val (r_extract (v := .int .i64 _) rfl rfl) rfl ?_
          refine wl_exv (x_alloc (C := ((List.replicate 64 (0 : UInt8)).map b8)) hS153 ti34 rfl) rfl ?_
          rintro _ w154 ⟨b19, rfl, hS155⟩
          refine wl_exs (x_storeW [] hS155 ti34 rfl rfl (by first | (rw [List.length_map, takeL_len]; done) | (rw [List.length_map, List.length_take, List.length_drop]; omega)) (by simp) (one_b8 _)) rfl ?_
          intro w156 hS157
          simp only [List.cons_append, List.nil_append] at hS157
          refine wl_val (r_assign (v := .int .i64 _) rfl) rfl ?_
          refine wl_nil ?_
          refine c_then ?_
          refine c_seq ?_
          refine c_seq ?_
          refine c_region ?_
          refine wl_val (r_move (v := .int .i64 _) rfl) rfl ?_
          refine wl_val (r_move (v := .int .i64 _) rfl) rfl ?_
          refine wl_dec_f (r_neq rfl rfl) rfl (by decide) ?_
          refine wl_val (r_move (v := .bool _) rfl) rfl ?_
          refine wl_val (r_move (v := .int .i64 _) rfl) rfl ?_
          refine wl_val (r_move (v := .int .i64 _) rfl) rfl ?_
          refine wl_dec_f (r_neq rfl rfl) rfl (fun h => h rfl) ?_
          refine wl_val (r_pick_f rfl (v := .bool _) rfl) rfl ?_
          refine wl_val (r_move (v := .bool _) rfl) rfl ?_
          refine wl_val (r_move (v := .int .i64 _) rfl) rfl ?_
          refine wl_val (r_move (v := .int .i64 _) rfl) rfl ?_
          refine wl_dec_f (r_neq rfl rfl) rfl (fun h => h rfl) ?_
          refine wl_val (r_pick_f rfl (v := .bool _) rfl) rfl ?_
          refine wl_nil ?_
          refine c_then ?_
          refine c_false rfl ?_
          refine wp_skip ?_
          refine c_then ?_
          refine c_seq ?_
          refine c_seq ?_
          refine c_region ?_
          refine wl_val (r_move (v := .int .i64 _) rfl) rfl ?_
          refine wl_dec_t (r_eql rfl rfl) rfl (by decide) ?_
          refine wl_val (r_move (v := .bool _) rfl) rfl ?_
          refine wl_val (r_sa1_0 ti28.und ti5 rfl ) rfl ?_
          refine wl_val (r_move (v := .slice _ _ _) rfl) rfl ?_
          refine wl_call (r_call fn26 rfl rfl) rfl (bytesEq_t ((l.drop p.toNat).take 16) ((l.drop p.toNat).take 16) _ _ _ _ _ _ _ (Row.of_at (at_all (hS157.heap (.tail _ (.tail _ (.head _)))))) (pre_sub (f := p.toNat) (k := 16) hc27 (hS157.heap (.tail _ (.tail _ (.tail _ (.head _)))))) (by rw [List.length_take, List.length_drop]; omega) (by rw [List.length_take, List.length_drop]; omega) rfl) ?_
          rintro _ w158 ⟨rfl, hx159⟩
          have hS160 := hS157.ext hx159
          refine wl_val (r_not rfl) rfl ?_
          refine wl_val (r_pick_t rfl (v := .bool _) rfl) rfl ?_
          refine wl_val (r_move (v := .bool _) rfl) rfl ?_
          refine wl_val (r_move (v := .int .i64 _) rfl) rfl ?_
          refine wl_dec_f (r_eql rfl rfl) rfl hro32 ?_
          refine wl_val (r_move (v := .bool _) rfl) rfl ?_
          refine wl_not rfl ?_
          refine wl_not rfl ?_
          refine wl_not rfl ?_
          refine wl_not rfl ?_
          refine wl_val (r_pick_f rfl (v := .bool false) rfl) rfl ?_
          refine wl_val (r_pick_f rfl (v := .bool _) rfl) rfl ?_
          refine wl_val (r_move (v := .bool _) rfl) rfl ?_
          refine wl_val (r_move (v := .int .i64 _) rfl) rfl ?_
          refine wl_dec_f (r_eql rfl rfl) rfl hro64 ?_
          refine wl_val (r_move (v := .bool _) rfl) rfl ?_
          refine wl_not rfl ?_
          refine wl_not rfl ?_
          refine wl_not rfl ?_
          refine wl_not rfl ?_
          refine wl_val (r_pick_f rfl (v := .bool false) rfl) rfl ?_
          refine wl_val (r_pick_f rfl (v := .bool _) rfl) rfl ?_
          refine wl_nil ?_
          refine c_then ?_
          refine c_false rfl ?_
          refine wp_skip ?_
          refine c_then ?_
          refine c_seq ?_
          refine c_region ?_
          refine wl_val (r_move (v := .slice _ _ _) rfl) rfl ?_
          refine wl_val (r_move (v := .int .i64 _) rfl) rfl ?_
          refine wl_call (r_call fn27 rfl rfl) rfl (ref32_ok l _ _ p _ (Row.of_pre (hS160.heap (.tail _ (.tail _ (.tail _ (.head _)))))) hc27 (by omega) hp1 hp2) ?_
          rintro _ w161 (⟨hr0, hr1, rfl, hx162⟩ | ⟨hrn, rfl, hx162⟩)
          · exact absurd (room_in hr0 hr1) hro32
          · have hS163 := hS160.ext hx162
            refine wl_val (r_move (v := .tuple _) rfl) rfl ?_
            refine wl_val (r_extract (v := .pointer _) rfl rfl) rfl ?_
            refine wl_val (r_extract (v := .int .i64 _) rfl rfl) rfl ?_
            refine wl_val (r_assign (v := .pointer _) rfl) rfl ?_
            refine wl_val (r_assign (v := .int .i64 _) rfl) rfl ?_
            refine wl_nil ?_
            refine c_then ?_
            refine c_seq ?_
            refine c_seq ?_
            refine c_region ?_
            refine wl_val (r_move (v := .int .i64 _) rfl) rfl ?_
            refine wl_val (r_move (v := .int .i64 _) rfl) rfl ?_
            refine wl_dec_f (r_neq rfl rfl) rfl (fun h => h rfl) ?_
            refine wl_val (r_move (v := .bool _) rfl) rfl ?_
            refine wl_val (r_move (v := .pointer _) rfl) rfl ?_
            refine wl_dec_f (r_neqPn ti38.und rfl rfl) rfl (by simp) ?_
            refine wl_val (r_move (v := .int .i64 _) rfl) rfl ?_
            refine wl_dec_f (r_eql rfl rfl) rfl hro32 ?_
            refine wl_dec_f (r_neqBool ti4.und rfl rfl) rfl (fun h => h rfl) ?_
            refine wl_val (r_pick_f rfl (v := .bool _) rfl) rfl ?_
            refine wl_nil ?_
            refine c_then ?_
            refine c_false rfl ?_
            refine wp_skip ?_
            refine c_then ?_
            refine c_seq ?_
            refine c_seq ?_
            refine c_region ?_
            refine wl_val (r_move (v := .pointer _) rfl) rfl ?_
            refine wl_dec_f (r_neqPn ti38.und rfl rfl) rfl (by simp) ?_
            refine wl_nil ?_
            refine c_then ?_
            refine c_false rfl ?_
            refine wp_skip ?_
            refine c_then ?_
            refine c_seq ?_
            refine c_region ?_
            refine wl_val (r_move (v := .slice _ _ _) rfl) rfl ?_
            refine wl_val (r_move (v := .int .i64 _) rfl) rfl ?_
            refine wl_val (r_move (v := .int .i64 _) rfl) rfl ?_
            refine wl_call (r_call fn28 rfl rfl) rfl (part1_ok l D g l.length _ p t _ (hS163.heap (.tail _ (.tail _ (.tail _ (.head _))))) rfl hc27 (by omega)) ?_
            rintro _ w164 (⟨rfl, hx165⟩)
            · have hS166 := St.callM (X := [_]) (L := [_, _, _]) (hS163.perm ((List.Perm.cons _ (List.Perm.refl _)).trans (List.perm_middle (l₁ := [_, _, _])).symm)) hx165 (by simp [Item.id])
              simp only [List.cons_append, List.nil_append] at hS166
              refine wl_val (r_assign (v := .bool _) rfl) rfl ?_
              refine wl_nil ?_
              refine c_then ?_
              refine wp_ret ?_
              refine ret1 Try.results3 ?_
              exact ⟨rfl, hS166.fin⟩
    · have hS46 := hS43.ext hx45
      refine wl_val (r_move (v := .tuple _) rfl) rfl ?_
      refine wl_val (r_extract (v := .slice _ _ _) rfl rfl) rfl ?_
      refine wl_val (r_extract (v := .int .i64 _) rfl rfl) rfl ?_
      refine wl_val (r_assign (v := .slice _ _ _) rfl) rfl ?_
      refine wl_val (r_assign (v := .int .i64 _) rfl) rfl ?_
      refine wl_nil ?_
      refine c_then ?_
      refine c_seq ?_
      refine c_region ?_
      refine wl_val (r_move (v := .slice _ _ _) rfl) rfl ?_
      refine wl_val (r_move (v := .int .i64 _) rfl) rfl ?_
      refine wl_call (r_call fn22 rfl rfl) rfl (rCut_ok l _ _ p 32 _ (Row.of_pre (hS46.heap (.head _))) hc27 (by omega) hp1 hp2 (by decide)) ?_
      rintro _ w167 (⟨hm32, hM32, rfl, hx168⟩ | ⟨hro32, rfl, hx168⟩)
      · exact absurd (room_in (by omega) (by omega)) hro16
      · have hS169 := hS46.ext hx168
        refine wl_val (r_move (v := .tuple _) rfl) rfl ?_
        refine wl_val (r_extract (v := .slice _ _ _) rfl rfl) rfl ?_
        refine wl_val (r_extract (v := .int .i64 _) rfl rfl) rfl ?_
        refine wl_val (r_assign (v := .slice _ _ _) rfl) rfl ?_
        refine wl_val (r_assign (v := .int .i64 _) rfl) rfl ?_
        refine wl_nil ?_
        refine c_then ?_
        refine c_seq ?_
        refine c_region ?_
        refine wl_val (r_move (v := .slice _ _ _) rfl) rfl ?_
        refine wl_val (r_move (v := .int .i64 _) rfl) rfl ?_
        refine wl_call (r_call fn22 rfl rfl) rfl (rCut_ok l _ _ p 64 _ (Row.of_pre (hS169.heap (.head _))) hc27 (by omega) hp1 hp2 (by decide)) ?_
        rintro _ w170 (⟨hm64, hM64, rfl, hx171⟩ | ⟨hro64, rfl, hx171⟩)
        · exact absurd (room_in (by omega) (by omega)) hro16
        · have hS172 := hS169.ext hx171
          refine wl_val (r_move (v := .tuple _) rfl) rfl ?_
          refine wl_val (r_extract (v := .slice _ _ _) rfl rfl) rfl ?_
          refine wl_val (r_extract (v := .int .i64 _) rfl rfl) rfl ?_
          refine wl_val (r_assign (v := .slice _ _ _) rfl) rfl ?_
          refine wl_val (r_assign (v := .int .i64 _) rfl) rfl ?_
          refine wl_nil ?_
          refine c_then ?_
          refine c_seq ?_
          refine c_region ?_
          refine wl_val (r_move (v := .slice _ _ _) rfl) rfl ?_
          refine wl_val (r_move (v := .int .i64 _) rfl) rfl ?_
          refine wl_call (r_call fn23 rfl rfl) rfl (take16_no l _ _ _ p _ (Row.of_pre (hS172.heap (.head _))) rfl hc27 (by omega) hp1 hp2) ?_
          rintro _ w173 ⟨rfl, hx174⟩
          have hS175 := hS172.ext hx174
          refine wl_val (r_move (v := .tuple _) rfl) rfl ?_
          refine wl_val (r_extract (v := .agg _) rfl rfl) rfl ?_
          refine wl_val (r_extract (v := .int .i64 _) rfl rfl) rfl ?_
          refine wl_exv (x_alloc (C := ((List.replicate 16 (0 : UInt8)).map b8)) hS175 ti28 rfl) rfl ?_
          rintro _ w176 ⟨b15, rfl, hS177⟩
          refine wl_exs (x_storeW [] hS177 ti28 rfl rfl (by first | (rw [List.length_map, takeL_len]; done) | (rw [List.length_map, List.length_take, List.length_drop]; omega)) (by simp) (one_b8 _)) rfl ?_
          intro w178 hS179
          simp only [List.cons_append, List.nil_append] at hS179
          refine wl_val (r_assign (v := .int .i64 _) rfl) rfl ?_
          refine wl_nil ?_
          refine c_then ?_
          refine c_seq ?_
          refine c_region ?_
          refine wl_val (r_move (v := .slice _ _ _) rfl) rfl ?_
          refine wl_val (r_move (v := .int .i64 _) rfl) rfl ?_
          refine wl_call (r_call fn24 rfl rfl) rfl (take32_no l _ _ _ p _ (Row.of_pre (hS179.heap (.tail _ (.head _)))) rfl hc27 (by omega) hp1 hp2) ?_
          rintro _ w180 ⟨rfl, hx181⟩
          have hS182 := hS179.ext hx181
          refine wl_val (r_move (v := .tuple _) rfl) rfl ?_
          refine wl_val (r_extract (v := .agg _) rfl rfl) rfl ?_
          refine wl_val (r_extract (v := .int .i64 _) rfl rfl) rfl ?_
          refine wl_exv (x_alloc (C := ((List.replicate 32 (0 : UInt8)).map b8)) hS182 ti31 rfl) rfl ?_
          rintro _ w183 ⟨b17, rfl, hS184⟩
          refine wl_exs (x_storeW [] hS184 ti31 rfl rfl (by first | (rw [List.length_map, takeL_len]; done) | (rw [List.length_map, List.length_take, List.length_drop]; omega)) (by simp) (one_b8 _)) rfl ?_
          intro w185 hS186
          simp only [List.cons_append, List.nil_append] at hS186
          refine wl_val (r_assign (v := .int .i64 _) rfl) rfl ?_
          refine wl_nil ?_
          refine c_then ?_
          refine c_seq ?_
          refine c_region ?_
          refine wl_val (r_move (v := .slice _ _ _) rfl) rfl ?_
          refine wl_val (r_move (v := .int .i64 _) rfl) rfl ?_
          refine wl_call (r_call fn25 rfl rfl) rfl (take64_no l _ _ _ p _ (Row.of_pre (hS186.heap (.tail _ (.tail _ (.head _))))) rfl hc27 (by omega) hp1 hp2) ?_
          rintro _ w187 ⟨rfl, hx188⟩
          have hS189 := hS186.ext hx188
          refine wl_val (r_move (v := .tuple _) rfl) rfl ?_
          refine wl_val (r_extract (v := .agg _) rfl rfl) rfl ?_
          refine wl_val (r_extract (v := .int .i64 _) rfl rfl) rfl ?_
          refine wl_exv (x_alloc (C := ((List.replicate 64 (0 : UInt8)).map b8)) hS189 ti34 rfl) rfl ?_
          rintro _ w190 ⟨b19, rfl, hS191⟩
          refine wl_exs (x_storeW [] hS191 ti34 rfl rfl (by first | (rw [List.length_map, takeL_len]; done) | (rw [List.length_map, List.length_take, List.length_drop]; omega)) (by simp) (one_b8 _)) rfl ?_
          intro w192 hS193
          simp only [List.cons_append, List.nil_append] at hS193
          refine wl_val (r_assign (v := .int .i64 _) rfl) rfl ?_
          refine wl_nil ?_
          refine c_then ?_
          refine c_seq ?_
          refine c_seq ?_
          refine c_region ?_
          refine wl_val (r_move (v := .int .i64 _) rfl) rfl ?_
          refine wl_val (r_move (v := .int .i64 _) rfl) rfl ?_
          refine wl_dec_f (r_neq rfl rfl) rfl (fun h => h rfl) ?_
          refine wl_val (r_move (v := .bool _) rfl) rfl ?_
          refine wl_val (r_move (v := .int .i64 _) rfl) rfl ?_
          refine wl_val (r_move (v := .int .i64 _) rfl) rfl ?_
          refine wl_dec_f (r_neq rfl rfl) rfl (fun h => h rfl) ?_
          refine wl_val (r_pick_f rfl (v := .bool _) rfl) rfl ?_
          refine wl_val (r_move (v := .bool _) rfl) rfl ?_
          refine wl_val (r_move (v := .int .i64 _) rfl) rfl ?_
          refine wl_val (r_move (v := .int .i64 _) rfl) rfl ?_
          refine wl_dec_f (r_neq rfl rfl) rfl (fun h => h rfl) ?_
          refine wl_val (r_pick_f rfl (v := .bool _) rfl) rfl ?_
          refine wl_nil ?_
          refine c_then ?_
          refine c_false rfl ?_
          refine wp_skip ?_
          refine c_then ?_
          refine c_seq ?_
          refine c_seq ?_
          refine c_region ?_
          refine wl_val (r_move (v := .int .i64 _) rfl) rfl ?_
          refine wl_dec_f (r_eql rfl rfl) rfl hro16 ?_
          refine wl_val (r_move (v := .bool _) rfl) rfl ?_
          refine wl_not rfl ?_
          refine wl_not rfl ?_
          refine wl_not rfl ?_
          refine wl_not rfl ?_
          refine wl_val (r_pick_f rfl (v := .bool false) rfl) rfl ?_
          refine wl_val (r_move (v := .bool _) rfl) rfl ?_
          refine wl_val (r_move (v := .int .i64 _) rfl) rfl ?_
          refine wl_dec_f (r_eql rfl rfl) rfl hro32 ?_
          refine wl_val (r_move (v := .bool _) rfl) rfl ?_
          refine wl_not rfl ?_
          refine wl_not rfl ?_
          refine wl_not rfl ?_
          refine wl_not rfl ?_
          refine wl_val (r_pick_f rfl (v := .bool false) rfl) rfl ?_
          refine wl_val (r_pick_f rfl (v := .bool _) rfl) rfl ?_
          refine wl_val (r_move (v := .bool _) rfl) rfl ?_
          refine wl_val (r_move (v := .int .i64 _) rfl) rfl ?_
          refine wl_dec_f (r_eql rfl rfl) rfl hro64 ?_
          refine wl_val (r_move (v := .bool _) rfl) rfl ?_
          refine wl_not rfl ?_
          refine wl_not rfl ?_
          refine wl_not rfl ?_
          refine wl_not rfl ?_
          refine wl_val (r_pick_f rfl (v := .bool false) rfl) rfl ?_
          refine wl_val (r_pick_f rfl (v := .bool _) rfl) rfl ?_
          refine wl_nil ?_
          refine c_then ?_
          refine c_false rfl ?_
          refine wp_skip ?_
          refine c_then ?_
          refine c_seq ?_
          refine c_region ?_
          refine wl_val (r_move (v := .slice _ _ _) rfl) rfl ?_
          refine wl_val (r_move (v := .int .i64 _) rfl) rfl ?_
          refine wl_call (r_call fn27 rfl rfl) rfl (ref32_ok l _ _ p _ (Row.of_pre (hS193.heap (.tail _ (.tail _ (.tail _ (.head _)))))) hc27 (by omega) hp1 hp2) ?_
          rintro _ w194 (⟨hr0, hr1, rfl, hx195⟩ | ⟨hrn, rfl, hx195⟩)
          · exact absurd (room_in hr0 hr1) hro32
          · have hS196 := hS193.ext hx195
            refine wl_val (r_move (v := .tuple _) rfl) rfl ?_
            refine wl_val (r_extract (v := .pointer _) rfl rfl) rfl ?_
            refine wl_val (r_extract (v := .int .i64 _) rfl rfl) rfl ?_
            refine wl_val (r_assign (v := .pointer _) rfl) rfl ?_
            refine wl_val (r_assign (v := .int .i64 _) rfl) rfl ?_
            refine wl_nil ?_
            refine c_then ?_
            refine c_seq ?_
            refine c_seq ?_
            refine c_region ?_
            refine wl_val (r_move (v := .int .i64 _) rfl) rfl ?_
            refine wl_val (r_move (v := .int .i64 _) rfl) rfl ?_
            refine wl_dec_f (r_neq rfl rfl) rfl (fun h => h rfl) ?_
            refine wl_val (r_move (v := .bool _) rfl) rfl ?_
            refine wl_val (r_move (v := .pointer _) rfl) rfl ?_
            refine wl_dec_f (r_neqPn ti38.und rfl rfl) rfl (by simp) ?_
            refine wl_val (r_move (v := .int .i64 _) rfl) rfl ?_
            refine wl_dec_f (r_eql rfl rfl) rfl hro32 ?_
            refine wl_dec_f (r_neqBool ti4.und rfl rfl) rfl (fun h => h rfl) ?_
            refine wl_val (r_pick_f rfl (v := .bool _) rfl) rfl ?_
            refine wl_nil ?_
            refine c_then ?_
            refine c_false rfl ?_
            refine wp_skip ?_
            refine c_then ?_
            refine c_seq ?_
            refine c_seq ?_
            refine c_region ?_
            refine wl_val (r_move (v := .pointer _) rfl) rfl ?_
            refine wl_dec_f (r_neqPn ti38.und rfl rfl) rfl (by simp) ?_
            refine wl_nil ?_
            refine c_then ?_
            refine c_false rfl ?_
            refine wp_skip ?_
            refine c_then ?_
            refine c_seq ?_
            refine c_region ?_
            refine wl_val (r_move (v := .slice _ _ _) rfl) rfl ?_
            refine wl_val (r_move (v := .int .i64 _) rfl) rfl ?_
            refine wl_val (r_move (v := .int .i64 _) rfl) rfl ?_
            refine wl_call (r_call fn28 rfl rfl) rfl (part1_ok l D g l.length _ p t _ (hS196.heap (.tail _ (.tail _ (.tail _ (.head _))))) rfl hc27 (by omega)) ?_
            rintro _ w197 (⟨rfl, hx198⟩)
            · have hS199 := St.callM (X := [_]) (L := [_, _, _]) (hS196.perm ((List.Perm.cons _ (List.Perm.refl _)).trans (List.perm_middle (l₁ := [_, _, _])).symm)) hx198 (by simp [Item.id])
              simp only [List.cons_append, List.nil_append] at hS199
              refine wl_val (r_assign (v := .bool _) rfl) rfl ?_
              refine wl_nil ?_
              refine c_then ?_
              refine wp_ret ?_
              refine ret1 Try.results3 ?_
              exact ⟨rfl, hS199.fin⟩


theorem own : ownKnob Try.prog.godebug = none := by kernel_rfl
theorem laidOut : laidOutB Try.prog = true := by kernel_rfl
theorem readable3 : Try.prog.readableRec 3 = true := by kernel_rfl
theorem inside3 : decide (3 < Try.prog.types.size) = true := by kernel_rfl
theorem readable5 : Try.prog.readableRec 5 = true := by kernel_rfl
theorem inside5 : decide (5 < Try.prog.types.size) = true := by kernel_rfl
theorem readable22 : Try.prog.readableRec 22 = true := by kernel_rfl
theorem inside22 : decide (22 < Try.prog.types.size) = true := by kernel_rfl
theorem lifted (os : Os) (started : os.Started) (H : Type) (enc : TypeId × Value → H) :
    ReturnsInHanded {} Try.checked os 3 .any (Rows.octetsAreTakenSpec.pre6 enc Try.prog Try.f3 Rows.octetsAreTakenRow.domain false) (Rows.octetsAreTakenSpec.post enc Try.prog Try.f3 false true false false) := by
  refine returnsInHanded_of_change_sized (C := Try.checked) own started (by kernel_rfl) Try.func3
    (ChangeSpec.witness6 (enc := enc) (C := Try.checked) false ⟨#[], #[.slice none 0 0, .int .i64 0, .int .i64 0, .int .u8 0], []⟩ 8 (by kernel_rfl) (by kernel_rfl) (by kernel_rfl) (by kernel_rfl)) ?_
  intro W base args ds gs before hval0 hW hcnd hsz0 _
  have hval : ∀ (j : Nat) t v, Try.f3.params[j]? = some t → args[j]? = some v → Value.okWide Try.prog W .any base t v := hval0
  have hW' := hW
  obtain ⟨p, q, hA0, hV, rfl, hfz, hnd⟩ := hW
  have hA : DataW.TrodAll enc Try.prog W 0 (fun _ => true) true Try.f3.params.toList args.toList ds p := hA0
  have hsz : (DataW.weightsEach Try.prog (Try.f3.params.toList ++ Rows.octetsAreTakenSpec.plain.varTypes Try.prog) (ds ++ gs)).all (· ≤ reachBytes) = true := hsz0
  rw [Try.params3] at hA hval hsz
  obtain ⟨v0, vs0, d0, ds0, p0, q0, hargs, rfl, rfl, h0, r0⟩ := trodAll_cons hA
  obtain ⟨v1, vs1, d1, ds1, p1, q1, rfl, rfl, rfl, h1, r1⟩ := trodAll_cons r0
  obtain ⟨v2, vs2, d2, ds2, p2, q2, rfl, rfl, rfl, h2, r2⟩ := trodAll_cons r1
  obtain ⟨v3, vs3, d3, ds3, p3, q3, rfl, rfl, rfl, h3, r3⟩ := trodAll_cons r2
  obtain ⟨rfl, rfl, rfl⟩ := trodAll_nil r3
  obtain rfl : args = #[v0, v1, v2, v3] := by cases args; simp_all
  obtain ⟨rfl, rfl⟩ := trodVars_none hV
  have lt0 : ∀ x ∈ p0, x.block < W.heap.size := by obtain ⟨m, hm⟩ := h0; exact DataW.trod_lt m _ _ _ hm
  have lt1 : ∀ x ∈ p1, x.block < W.heap.size := by obtain ⟨m, hm⟩ := h1; exact DataW.trod_lt m _ _ _ hm
  have lt2 : ∀ x ∈ p2, x.block < W.heap.size := by obtain ⟨m, hm⟩ := h2; exact DataW.trod_lt m _ _ _ hm
  have lt3 : ∀ x ∈ p3, x.block < W.heap.size := by obtain ⟨m, hm⟩ := h3; exact DataW.trod_lt m _ _ _ hm
  have ok0 := hval 0 22 v0 rfl rfl
  obtain ⟨ab, b, cb, rfl, rb, lcb, hcb⟩ := open_bytesS (j := 0) Try.underlying22 Try.underlying5 (by kernel_rfl) (by kernel_rfl) ok0 h0 hsz rfl rfl
  have ok1 := hval 1 3 v1 rfl rfl
  obtain ⟨p, rfl, lop, hip⟩ := open_i64 Try.underlying3 ok1 h1
  have ok2 := hval 2 3 v2 rfl rfl
  obtain ⟨t, rfl, lot, hit⟩ := open_i64 Try.underlying3 ok2 h2
  have ok3 := hval 3 5 v3 rfl rfl
  obtain ⟨y, rfl⟩ := open_u8 Try.underlying5 ok3 h3
  refine Calls.mono (walk b ab cb p t y W rb lcb (Nat.le_trans lcb hcb) lop hip) fun e W' ⟨v, he, hv, hs⟩ => ?_
  subst hv; subst he
  have bel := hs.below
  exact ⟨_, rfl, _, _, _, [], _, [], hW', trodAll_mk1 (shut_bool Try.underlying4 _), (trodAll_cons_mk (Below.trod laidOut readable22 (of_decide_eq_true inside22) h0 bel lt0) (trodAll_cons_mk (Below.trod laidOut readable3 (of_decide_eq_true inside3) h1 bel lt1) (trodAll_cons_mk (Below.trod laidOut readable3 (of_decide_eq_true inside3) h2 bel lt2) (trodAll_cons_mk (Below.trod laidOut readable5 (of_decide_eq_true inside5) h3 bel lt3) trodAll_mk0)))), rfl, bel.frame _, fun h => by cases h⟩
theorem over : Rows.octetsAreTakenRow.holds Try.pinned (OpenSpec.ofChange Rows.octetsAreTakenSpec) :=
  OpenClaim.holds_of_wide 3 Try.f3 rfl rfl rfl rfl rfl rfl rfl ⟨rfl, rfl, rfl, rfl, rfl⟩ rfl rfl rfl rfl rfl (by kernel_rfl) Try.func3 (by kernel_rfl)
    (of_decide_eq_true (by kernel_rfl)) (by unfold Func.isWrapper; rw [if_neg (of_decide_eq_false (by kernel_rfl))]; exact ⟨rfl, rfl⟩)
    (fun os started H enc _ => lifted os started H enc)
theorem proved : Rows.OctetsAreTakenSaid := over
#print axioms proved
end Go.Proofs.Ytfohfnpehfcaaaa.lawOctetsAreTaken
