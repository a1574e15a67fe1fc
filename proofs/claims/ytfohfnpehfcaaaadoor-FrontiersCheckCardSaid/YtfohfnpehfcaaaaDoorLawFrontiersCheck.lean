/- For every size and list of peaks: FrontierOf makes a frontier just of a size in range and as many peaks as bits are set; the law's function returns true and turns nothing. No condition. -/
import Derived.Test.YtfohfnpehfcaaaaDoorRows
import Derived.Test.YtfohfnpehfcaaaaDoorOpen
import Derived.Test.YtfohfnpehfcaaaaDoorFrontB
import Derived.Test.YtfohfnpehfcaaaaDoorCards
import Derived.Test.YtfohfnpehfcaaaaDoorTie
import Derived.Deep.DeepHandedRow
import Derived.Lib.LaidTab
namespace Go.Proofs.YtfohfnpehfcaaaaDoor.lawFrontiersCheck
open Go.Kw Go.Proofs.YtfohfnpehfcaaaaDoor
open Go.ChangeShapes Go.WideShapes Go.ChangeAt Go.RowKit
set_option linter.unusedVariables false
set_option linter.unusedSimpArgs false
set_option maxRecDepth 100000
set_option maxHeartbeats 20000000

theorem walk (size : Int) (l : List (List UInt8)) (a : Option Addr) (n c : Nat) (w : World) (hb : Row w a (l.flatten.map b8)) (h32 : S32 l) (hl : l.length = n) (hc : n ≤ c) (hn : n ≤ 4398046511104) (hs1 : -9223372036854775808 ≤ size) (hs2 : size ≤ 9223372036854775807) :
    Ret Tryd.prog 3 [.int .i64 size, .slice a n c] w (fun v w' => v = .bool true ∧ St w [] w' []) := by
  refine enter Tryd.func3 rfl Tryd.ntmps3 rfl ?_
  have hS := St.refl w []
  refine c_seq ?_
  refine c_region ?_
  refine wl_val (r_assign (v := .bool false) rfl) rfl ?_
  refine wl_nil ?_
  refine c_then ?_
  refine c_seq ?_
  refine c_seq ?_
  refine c_region ?_
  refine wl_call (r_call fn5 rfl rfl) rfl (landed_ok _) ?_
  rintro _ w1 ⟨rfl, hx2⟩
  have hS3 := hS.ext hx2
  refine wl_val (r_not rfl) rfl ?_
  refine wl_nil ?_
  refine c_then ?_
  refine c_false rfl ?_
  refine wp_skip ?_
  refine c_then ?_
  refine c_seq ?_
  refine c_region ?_
  refine wl_val (r_move (v := .int .i64 _) rfl) rfl ?_
  refine wl_val (r_move (v := .slice _ _ _) rfl) rfl ?_
  refine wl_call (r_call fn6 rfl rfl) rfl (frontierOf_ok size l a n c _ (hb.st hS3) h32 hl hn) ?_
  rintro _ w4 (⟨hq, rfl, hx5⟩ | ⟨hq, rfl, hx5⟩ | ⟨hq, bf, af, cf, rfl, hcf, hx5⟩)
  · have hS6 := hS3.ext hx5
    refine wl_val (r_move (v := .tuple _) rfl) rfl ?_
    refine wl_val (r_extract (v := .pointer _) rfl rfl) rfl ?_
    refine wl_val (r_extract (v := .int .i64 _) rfl rfl) rfl ?_
    refine wl_val (r_assign (v := .pointer _) rfl) rfl ?_
    refine wl_val (r_assign (v := .int .i64 _) rfl) rfl ?_
    refine wl_nil ?_
    refine c_then ?_
    refine c_seq ?_
    rcases (Int.lt_or_le size 0) with hs | hs
    · refine c_region ?_
      refine wl_val (r_assign (v := .int .i64 0) rfl) rfl ?_
      refine wl_nil ?_
      refine c_then ?_
      refine c_seq ?_
      refine c_seq ?_
      refine c_region ?_
      refine wl_val (r_move (v := .int .i64 _) rfl) rfl ?_
      refine wl_val (r_assign (v := .int .i64 _) rfl) rfl ?_
      refine wl_nil ?_
      refine c_then ?_
      refine c_block ?_
      refine c_loopE [0, 1, 4, 5, 6] (fun d e w' => Kw.look e 8 = .int .i64 size ∧ Kw.look e 7 = vi 0 ∧ d = 0 + (0 : Nat) ∧ St w [] w' []) (0 + (0 : Nat)) ?_ ?_
      · exact ⟨rfl, rfl, rfl, hS6⟩
      · rintro d10 e7 w8 ⟨hc0_8, hc0_7, rfl, hS9⟩ -
        refine c_set (d := 8) hc0_8 ?_
        refine c_set (d := 7) hc0_7 ?_
        refine c_seq ?_
        refine c_seq ?_
        refine c_region ?_
        refine wl_val (r_move (v := .int .i64 _) rfl) rfl ?_
        refine wl_dec_f (r_gtr rfl rfl) rfl (by omega) ?_
        refine wl_nil ?_
        refine c_then ?_
        refine c_false rfl ?_
        refine wp_exit ?_
        refine c_thenE ?_
        refine c_thenE ?_
        refine c_inE ?_
        refine c_then ?_
        refine c_seq ?_
        refine c_block ?_
        refine c_seq ?_
        refine c_region ?_
        refine wl_val (r_move (v := .int .i64 _) rfl) rfl ?_
        refine wl_dec_t (r_lss rfl rfl) rfl (by omega) ?_
        refine wl_val (r_move (v := .bool _) rfl) rfl ?_
        refine wl_not rfl ?_
        refine wl_not rfl ?_
        refine wl_val (r_pick_t rfl (v := .bool true) rfl) rfl ?_
        refine wl_val (r_assign (v := .bool _) rfl) rfl ?_
        refine wl_nil ?_
        refine c_then ?_
        refine c_true rfl ?_
        refine c_seq ?_
        refine c_region ?_
        refine wl_val (r_move (v := .int .i64 _) rfl) rfl ?_
        refine wl_dec_t (r_eql rfl rfl) rfl (by decide) ?_
        refine wl_val (r_move (v := .bool _) rfl) rfl ?_
        refine wl_val (r_move (v := .pointer _) rfl) rfl ?_
        refine wl_dec_t (r_eqlPn ti24.und rfl rfl) rfl rfl ?_
        refine wl_val (r_pick_t rfl (v := .bool _) rfl) rfl ?_
        refine wl_val (r_assign (v := .bool _) rfl) rfl ?_
        refine wl_nil ?_
        refine c_then ?_
        refine wp_ret ?_
        refine c_inR ?_
        refine c_thenR ?_
        refine ret1 Tryd.results3 ?_
        exact ⟨rfl, hS9.fin⟩
    · obtain ⟨size', rfl⟩ : ∃ i : Nat, size = (i : Int) := ⟨size.toNat, (by omega)⟩
      refine c_region ?_
      refine wl_val (r_assign (v := .int .i64 0) rfl) rfl ?_
      refine wl_nil ?_
      refine c_then ?_
      refine c_seq ?_
      refine c_seq ?_
      have hpl := popN_le 63 size' (Nat.lt_of_le_of_lt (by omega : size' ≤ 9223372036854775807) (by decide))
      refine c_region ?_
      refine wl_val (r_move (v := .int .i64 _) rfl) rfl ?_
      refine wl_val (r_assign (v := .int .i64 _) rfl) rfl ?_
      refine wl_nil ?_
      refine c_then ?_
      refine c_block ?_
      refine c_loopE [0, 1, 4, 5, 6] (fun d e w' => ∃ (k : Nat) (m : Nat), Kw.look e 8 = vi k ∧ Kw.look e 7 = vi m ∧ d = 0 + k ∧ St w [] w' [] ∧ (m + popN k = popN size') ∧ (k ≤ size')) (0 + size') ?_ ?_
      · exact ⟨size', 0, rfl, rfl, rfl, hS6, Nat.zero_add _, Nat.le_refl _⟩
      · rintro d14 e11 w12 ⟨k, m, hc1_8, hc1_7, rfl, hS13, hpk, hks⟩ -
        refine c_set (d := 8) hc1_8 ?_
        refine c_set (d := 7) hc1_7 ?_
        refine c_seq ?_
        refine c_seq ?_
        refine c_region ?_
        refine wl_val (r_move (v := .int .i64 _) rfl) rfl ?_
        refine wl_dec (r_gtr rfl rfl) rfl (fun h6_1 => ?_) (fun h6_1 => ?_)
        · refine wl_nil ?_
          refine c_then ?_
          refine c_true rfl ?_
          refine wp_skip ?_
          refine c_then ?_
          refine c_seq ?_
          refine c_block ?_
          refine c_region ?_
          refine wl_val (r_move (v := .int .i64 _) rfl) rfl ?_
          refine wl_val (r_move (v := .int .i64 _) rfl) rfl ?_
          refine wl_val (r_andm (s := 1) (by decide) rfl rfl) rfl ?_
          refine wl_val (r_addn rfl rfl (by omega)) rfl ?_
          refine wl_val (r_assign (v := .int .i64 _) rfl) rfl ?_
          refine wl_nil ?_
          refine c_inN ?_
          refine c_then ?_
          refine c_region ?_
          refine wl_val (r_move (v := .int .i64 _) rfl) rfl ?_
          refine wl_val (r_quon (b := 2) rfl rfl (by omega) (by omega)) rfl ?_
          refine wl_val (r_assign (v := .int .i64 _) rfl) rfl ?_
          refine wl_nil ?_
          refine c_then ?_
          have hps := popN_step (n := k) (by omega)
          have hbit : ((k : Int) % ((2 ^ 1 : Nat) : Int)).toNat = k % 2 := by omega
          exact ⟨0 + k / 2, _, by omega, rfl, ⟨k / 2, m + k % 2, rfl, congrArg (fun t : Nat => vi (m + t)) hbit, rfl, hS13, by omega, by omega⟩, ⟨rfl, rfl, rfl, rfl, rfl, trivial⟩⟩
        · refine wl_nil ?_
          refine c_then ?_
          refine c_false rfl ?_
          refine wp_exit ?_
          refine c_thenE ?_
          refine c_thenE ?_
          refine c_inE ?_
          refine c_then ?_
          refine c_seq ?_
          refine c_block ?_
          refine c_seq ?_
          obtain rfl : k = 0 := by omega
          rw [popN_zero] at hpk
          refine c_region ?_
          refine wl_val (r_move (v := .int .i64 _) rfl) rfl ?_
          refine wl_dec_f (r_lss rfl rfl) rfl (by omega) ?_
          refine wl_val (r_move (v := .bool _) rfl) rfl ?_
          refine wl_val (r_move (v := .int .i64 _) rfl) rfl ?_
          refine wl_dec_t (r_gtr rfl rfl) rfl (by omega) ?_
          refine wl_val (r_pick_f rfl (v := .bool _) rfl) rfl ?_
          refine wl_val (r_assign (v := .bool _) rfl) rfl ?_
          refine wl_nil ?_
          refine c_then ?_
          refine c_true rfl ?_
          refine c_seq ?_
          refine c_region ?_
          refine wl_val (r_move (v := .int .i64 _) rfl) rfl ?_
          refine wl_dec_t (r_eql rfl rfl) rfl (by decide) ?_
          refine wl_val (r_move (v := .bool _) rfl) rfl ?_
          refine wl_val (r_move (v := .pointer _) rfl) rfl ?_
          refine wl_dec_t (r_eqlPn ti24.und rfl rfl) rfl rfl ?_
          refine wl_val (r_pick_t rfl (v := .bool _) rfl) rfl ?_
          refine wl_val (r_assign (v := .bool _) rfl) rfl ?_
          refine wl_nil ?_
          refine c_then ?_
          refine wp_ret ?_
          refine c_inR ?_
          refine c_thenR ?_
          refine ret1 Tryd.results3 ?_
          exact ⟨rfl, hS13.fin⟩
  · have hS6 := hS3.ext hx5
    refine wl_val (r_move (v := .tuple _) rfl) rfl ?_
    refine wl_val (r_extract (v := .pointer _) rfl rfl) rfl ?_
    refine wl_val (r_extract (v := .int .i64 _) rfl rfl) rfl ?_
    refine wl_val (r_assign (v := .pointer _) rfl) rfl ?_
    refine wl_val (r_assign (v := .int .i64 _) rfl) rfl ?_
    refine wl_nil ?_
    refine c_then ?_
    refine c_seq ?_
    refine c_region ?_
    refine wl_val (r_assign (v := .int .i64 0) rfl) rfl ?_
    refine wl_nil ?_
    refine c_then ?_
    refine c_seq ?_
    refine c_seq ?_
    obtain ⟨size', rfl⟩ : ∃ i : Nat, size = (i : Int) := ⟨size.toNat, (by omega)⟩
    simp only [Int.toNat_natCast] at *
    have hpl := popN_le 63 size' (Nat.lt_of_le_of_lt (by omega : size' ≤ 9223372036854775807) (by decide))
    refine c_region ?_
    refine wl_val (r_move (v := .int .i64 _) rfl) rfl ?_
    refine wl_val (r_assign (v := .int .i64 _) rfl) rfl ?_
    refine wl_nil ?_
    refine c_then ?_
    refine c_block ?_
    refine c_loopE [0, 1, 4, 5, 6] (fun d e w' => ∃ (k : Nat) (m : Nat), Kw.look e 8 = vi k ∧ Kw.look e 7 = vi m ∧ d = 0 + k ∧ St w [] w' [] ∧ (m + popN k = popN size') ∧ (k ≤ size')) (0 + size') ?_ ?_
    · exact ⟨size', 0, rfl, rfl, rfl, hS6, Nat.zero_add _, Nat.le_refl _⟩
    · rintro d18 e15 w16 ⟨k, m, hc2_8, hc2_7, rfl, hS17, hpk, hks⟩ -
      refine c_set (d := 8) hc2_8 ?_
      refine c_set (d := 7) hc2_7 ?_
      refine c_seq ?_
      refine c_seq ?_
      refine c_region ?_
      refine wl_val (r_move (v := .int .i64 _) rfl) rfl ?_
      refine wl_dec (r_gtr rfl rfl) rfl (fun h6_1 => ?_) (fun h6_1 => ?_)
      · refine wl_nil ?_
        refine c_then ?_
        refine c_true rfl ?_
        refine wp_skip ?_
        refine c_then ?_
        refine c_seq ?_
        refine c_block ?_
        refine c_region ?_
        refine wl_val (r_move (v := .int .i64 _) rfl) rfl ?_
        refine wl_val (r_move (v := .int .i64 _) rfl) rfl ?_
        refine wl_val (r_andm (s := 1) (by decide) rfl rfl) rfl ?_
        refine wl_val (r_addn rfl rfl (by omega)) rfl ?_
        refine wl_val (r_assign (v := .int .i64 _) rfl) rfl ?_
        refine wl_nil ?_
        refine c_inN ?_
        refine c_then ?_
        refine c_region ?_
        refine wl_val (r_move (v := .int .i64 _) rfl) rfl ?_
        refine wl_val (r_quon (b := 2) rfl rfl (by omega) (by omega)) rfl ?_
        refine wl_val (r_assign (v := .int .i64 _) rfl) rfl ?_
        refine wl_nil ?_
        refine c_then ?_
        have hps := popN_step (n := k) (by omega)
        have hbit : ((k : Int) % ((2 ^ 1 : Nat) : Int)).toNat = k % 2 := by omega
        exact ⟨0 + k / 2, _, by omega, rfl, ⟨k / 2, m + k % 2, rfl, congrArg (fun t : Nat => vi (m + t)) hbit, rfl, hS17, by omega, by omega⟩, ⟨rfl, rfl, rfl, rfl, rfl, trivial⟩⟩
      · refine wl_nil ?_
        refine c_then ?_
        refine c_false rfl ?_
        refine wp_exit ?_
        refine c_thenE ?_
        refine c_thenE ?_
        refine c_inE ?_
        refine c_then ?_
        refine c_seq ?_
        refine c_block ?_
        refine c_seq ?_
        obtain rfl : k = 0 := by omega
        rw [popN_zero] at hpk
        refine c_region ?_
        refine wl_val (r_move (v := .int .i64 _) rfl) rfl ?_
        refine wl_dec_f (r_lss rfl rfl) rfl (by omega) ?_
        refine wl_val (r_move (v := .bool _) rfl) rfl ?_
        refine wl_val (r_move (v := .int .i64 _) rfl) rfl ?_
        refine wl_dec_f (r_gtr rfl rfl) rfl (by omega) ?_
        refine wl_val (r_pick_f rfl (v := .bool _) rfl) rfl ?_
        refine wl_val (r_assign (v := .bool _) rfl) rfl ?_
        refine wl_nil ?_
        refine c_then ?_
        refine c_false rfl ?_
        refine c_seq ?_
        refine c_region ?_
        refine wl_val (r_move (v := .int .i64 _) rfl) rfl ?_
        refine wl_val (r_move (v := .slice _ _ _) rfl) rfl ?_
        refine wl_val (r_len (T := 22) rfl ti22.und rfl _ rfl) rfl ?_
        refine wl_dec_t (r_neq rfl rfl) rfl (by omega) ?_
        refine wl_val (r_assign (v := .bool _) rfl) rfl ?_
        refine wl_nil ?_
        refine c_then ?_
        refine c_true rfl ?_
        refine c_seq ?_
        refine c_region ?_
        refine wl_val (r_move (v := .int .i64 _) rfl) rfl ?_
        refine wl_dec_t (r_eql rfl rfl) rfl (by decide) ?_
        refine wl_val (r_move (v := .bool _) rfl) rfl ?_
        refine wl_val (r_move (v := .pointer _) rfl) rfl ?_
        refine wl_dec_t (r_eqlPn ti24.und rfl rfl) rfl rfl ?_
        refine wl_val (r_pick_t rfl (v := .bool _) rfl) rfl ?_
        refine wl_val (r_assign (v := .bool _) rfl) rfl ?_
        refine wl_nil ?_
        refine c_then ?_
        refine wp_ret ?_
        refine c_inR ?_
        refine c_thenR ?_
        refine ret1 Tryd.results3 ?_
        exact ⟨rfl, hS17.fin⟩
  · have hS6 := hS3.call hx5
    simp only [List.cons_append, List.nil_append] at hS6
    refine wl_val (r_move (v := .tuple _) rfl) rfl ?_
    refine wl_val (r_extract (v := .pointer _) rfl rfl) rfl ?_
    refine wl_val (r_extract (v := .int .i64 _) rfl rfl) rfl ?_
    refine wl_val (r_assign (v := .pointer _) rfl) rfl ?_
    refine wl_val (r_assign (v := .int .i64 _) rfl) rfl ?_
    refine wl_nil ?_
    refine c_then ?_
    refine c_seq ?_
    refine c_region ?_
    refine wl_val (r_assign (v := .int .i64 0) rfl) rfl ?_
    refine wl_nil ?_
    refine c_then ?_
    refine c_seq ?_
    refine c_seq ?_
    obtain ⟨size', rfl⟩ : ∃ i : Nat, size = (i : Int) := ⟨size.toNat, (by omega)⟩
    simp only [Int.toNat_natCast] at *
    have hpl := popN_le 63 size' (Nat.lt_of_le_of_lt (by omega : size' ≤ 9223372036854775807) (by decide))
    refine c_region ?_
    refine wl_val (r_move (v := .int .i64 _) rfl) rfl ?_
    refine wl_val (r_assign (v := .int .i64 _) rfl) rfl ?_
    refine wl_nil ?_
    refine c_then ?_
    refine c_block ?_
    obtain ⟨LT19, hLT19, hS20⟩ := St.frame [] [_, _] hS6
    simp only [List.cons_append, List.nil_append] at hS20
    have hm19_bf := inL hLT19 (.head _)
    have hm19_rf := inL hLT19 (.tail _ (.head _))
    refine c_loopE [0, 1, 4, 5, 6] (fun d e w' => ∃ (k : Nat) (m : Nat), Kw.look e 8 = vi k ∧ Kw.look e 7 = vi m ∧ d = 0 + k ∧ St w [] w' (LT19) ∧ (m + popN k = popN size') ∧ (k ≤ size')) (0 + size') ?_ ?_
    · exact ⟨size', 0, rfl, rfl, rfl, hS20, Nat.zero_add _, Nat.le_refl _⟩
    · rintro d24 e21 w22 ⟨k, m, hc3_8, hc3_7, rfl, hS23, hpk, hks⟩ -
      refine c_set (d := 8) hc3_8 ?_
      refine c_set (d := 7) hc3_7 ?_
      refine c_seq ?_
      refine c_seq ?_
      refine c_region ?_
      refine wl_val (r_move (v := .int .i64 _) rfl) rfl ?_
      refine wl_dec (r_gtr rfl rfl) rfl (fun h6_1 => ?_) (fun h6_1 => ?_)
      · refine wl_nil ?_
        refine c_then ?_
        refine c_true rfl ?_
        refine wp_skip ?_
        refine c_then ?_
        refine c_seq ?_
        refine c_block ?_
        refine c_region ?_
        refine wl_val (r_move (v := .int .i64 _) rfl) rfl ?_
        refine wl_val (r_move (v := .int .i64 _) rfl) rfl ?_
        refine wl_val (r_andm (s := 1) (by decide) rfl rfl) rfl ?_
        refine wl_val (r_addn rfl rfl (by omega)) rfl ?_
        refine wl_val (r_assign (v := .int .i64 _) rfl) rfl ?_
        refine wl_nil ?_
        refine c_inN ?_
        refine c_then ?_
        refine c_region ?_
        refine wl_val (r_move (v := .int .i64 _) rfl) rfl ?_
        refine wl_val (r_quon (b := 2) rfl rfl (by omega) (by omega)) rfl ?_
        refine wl_val (r_assign (v := .int .i64 _) rfl) rfl ?_
        refine wl_nil ?_
        refine c_then ?_
        have hps := popN_step (n := k) (by omega)
        have hbit : ((k : Int) % ((2 ^ 1 : Nat) : Int)).toNat = k % 2 := by omega
        exact ⟨0 + k / 2, _, by omega, rfl, ⟨k / 2, m + k % 2, rfl, congrArg (fun t : Nat => vi (m + t)) hbit, rfl, hS23, by omega, by omega⟩, ⟨rfl, rfl, rfl, rfl, rfl, trivial⟩⟩
      · refine wl_nil ?_
        refine c_then ?_
        refine c_false rfl ?_
        refine wp_exit ?_
        refine c_thenE ?_
        refine c_thenE ?_
        refine c_inE ?_
        refine c_then ?_
        refine c_seq ?_
        refine c_block ?_
        refine c_seq ?_
        obtain rfl : k = 0 := by omega
        rw [popN_zero] at hpk
        refine c_region ?_
        refine wl_val (r_move (v := .int .i64 _) rfl) rfl ?_
        refine wl_dec_f (r_lss rfl rfl) rfl (by omega) ?_
        refine wl_val (r_move (v := .bool _) rfl) rfl ?_
        refine wl_val (r_move (v := .int .i64 _) rfl) rfl ?_
        refine wl_dec_f (r_gtr rfl rfl) rfl (by omega) ?_
        refine wl_val (r_pick_f rfl (v := .bool _) rfl) rfl ?_
        refine wl_val (r_assign (v := .bool _) rfl) rfl ?_
        refine wl_nil ?_
        refine c_then ?_
        refine c_false rfl ?_
        refine c_seq ?_
        refine c_region ?_
        refine wl_val (r_move (v := .int .i64 _) rfl) rfl ?_
        refine wl_val (r_move (v := .slice _ _ _) rfl) rfl ?_
        refine wl_val (r_len (T := 22) rfl ti22.und rfl _ rfl) rfl ?_
        refine wl_dec_f (r_neq rfl rfl) rfl (by omega) ?_
        refine wl_val (r_assign (v := .bool _) rfl) rfl ?_
        refine wl_nil ?_
        refine c_then ?_
        refine c_false rfl ?_
        refine wp_skip ?_
        refine c_inN ?_
        refine c_then ?_
        refine c_seq ?_
        refine c_region ?_
        refine wl_val (r_move (v := .int .i64 _) rfl) rfl ?_
        refine wl_dec_t (r_eql rfl rfl) rfl (by decide) ?_
        refine wl_val (r_move (v := .bool _) rfl) rfl ?_
        refine wl_val (r_move (v := .pointer _) rfl) rfl ?_
        refine wl_call (r_call fn7 rfl rfl) rfl (fsize_ok bf size' _ _ (at_all (hS23.heap hm19_bf))) ?_
        rintro _ w25 ⟨rfl, hx26⟩
        have hS27 := hS23.ext hx26
        refine wl_val (r_move (v := .int .i64 _) rfl) rfl ?_
        refine wl_dec_t (r_eql rfl rfl) rfl rfl ?_
        refine wl_val (r_pick_t rfl (v := .bool _) rfl) rfl ?_
        refine wl_val (r_move (v := .bool _) rfl) rfl ?_
        refine wl_val (r_move (v := .pointer _) rfl) rfl ?_
        refine wl_call (r_call fn9 rfl rfl) rfl (fpeaks_ok bf _ l af n cf _ (at_all (hS27.heap hm19_bf)) (St.rowAt hS27 hm19_rf) h32 hl hn) ?_
        rintro _ w28 ⟨a60, c60, rfl, hc60, hx29⟩
        have hS30 := hS27.call hx29
        simp only [List.cons_append, List.nil_append] at hS30
        refine wl_val (r_move (v := .slice _ _ _) rfl) rfl ?_
        refine wl_call (r_call fn8 rfl rfl) rfl (equals_t l l _ _ _ _ _ _ _ (St.rowAt hS30 (.head _)) (hb.st hS30) h32 h32 hl hl (by omega) rfl) ?_
        rintro _ w31 ⟨rfl, hx32⟩
        have hS33 := hS30.ext hx32
        refine wl_val (r_pick_t rfl (v := .bool _) rfl) rfl ?_
        refine wl_val (r_move (v := .bool _) rfl) rfl ?_
        refine wl_val (r_move (v := .int .i64 _) rfl) rfl ?_
        refine wl_dec (r_lss rfl rfl) rfl (fun h13_16 => ?_) (fun h13_16 => ?_)
        · refine wl_val (r_move (v := .bool _) rfl) rfl ?_
          refine wl_not rfl ?_
          refine wl_not rfl ?_
          refine wl_not rfl ?_
          refine wl_not rfl ?_
          refine wl_val (r_pick_t rfl (v := .bool true) rfl) rfl ?_
          refine wl_val (r_pick_t rfl (v := .bool _) rfl) rfl ?_
          refine wl_val (r_assign (v := .bool _) rfl) rfl ?_
          refine wl_nil ?_
          refine c_then ?_
          refine wp_ret ?_
          refine ret1 Tryd.results3 ?_
          exact ⟨rfl, hS33.fin⟩
        · refine wl_val (r_move (v := .bool _) rfl) rfl ?_
          refine wl_val (r_move (v := .pointer _) rfl) rfl ?_
          refine wl_val (r_build0 (cs := ((List.replicate 32 (0 : UInt8)).map b8)) ti31.und ti31 ti5) rfl ?_
          refine wl_call (r_call fn10 rfl rfl) rfl (addLarge_ok bf size' _ (List.replicate 32 0) _ (at_all (hS33.heap (.tail _ hm19_bf))) (by omega)) ?_
          rintro _ w34 ⟨rfl, hx35⟩
          have hS36 := hS33.ext hx35
          refine wl_dec_t (r_eql rfl rfl) rfl (by decide) ?_
          refine wl_val (r_pick_f rfl (v := .bool _) rfl) rfl ?_
          refine wl_val (r_pick_t rfl (v := .bool _) rfl) rfl ?_
          refine wl_val (r_assign (v := .bool _) rfl) rfl ?_
          refine wl_nil ?_
          refine c_then ?_
          refine wp_ret ?_
          refine ret1 Tryd.results3 ?_
          exact ⟨rfl, hS36.fin⟩


theorem own : ownKnob Tryd.prog.godebug = none := by kernel_rfl
theorem laidOut : laidOutB Tryd.prog = true := by kernel_rfl
theorem readable3 : Tryd.prog.readableRec 3 = true := by kernel_rfl
theorem inside3 : decide (3 < Tryd.prog.types.size) = true := by kernel_rfl
theorem readable22 : Tryd.prog.readableRec 22 = true := by kernel_rfl
theorem inside22 : decide (22 < Tryd.prog.types.size) = true := by kernel_rfl
/-- A world for the witness: the settled one, the tables holding what their initialisers lay. -/
noncomputable def laidWorld (os : Os) : World :=
  { World.holding Tryd.prog os ⟨#[], #[], []⟩ with heap := (((World.holding Tryd.prog os ⟨#[], #[], []⟩).heap.modify 0 fun
      | .cells _ t frozen => .cells #[.int .u8 0, .int .u8 1, .int .u8 28, .int .u8 2, .int .u8 29, .int .u8 14, .int .u8 24, .int .u8 3, .int .u8 30, .int .u8 22, .int .u8 20, .int .u8 15, .int .u8 25, .int .u8 17, .int .u8 4, .int .u8 8, .int .u8 31, .int .u8 27, .int .u8 13, .int .u8 23, .int .u8 21, .int .u8 19, .int .u8 16, .int .u8 7, .int .u8 26, .int .u8 12, .int .u8 18, .int .u8 6, .int .u8 11, .int .u8 5, .int .u8 10, .int .u8 9] t frozen
      | o => o).modify 1 fun
      | .cells _ t frozen => .cells #[.int .u8 0, .int .u8 1, .int .u8 56, .int .u8 2, .int .u8 57, .int .u8 49, .int .u8 28, .int .u8 3, .int .u8 61, .int .u8 58, .int .u8 42, .int .u8 50, .int .u8 38, .int .u8 29, .int .u8 17, .int .u8 4, .int .u8 62, .int .u8 47, .int .u8 59, .int .u8 36, .int .u8 45, .int .u8 43, .int .u8 51, .int .u8 22, .int .u8 53, .int .u8 39, .int .u8 33, .int .u8 30, .int .u8 24, .int .u8 18, .int .u8 12, .int .u8 5, .int .u8 63, .int .u8 55, .int .u8 48, .int .u8 27, .int .u8 60, .int .u8 41, .int .u8 37, .int .u8 16, .int .u8 46, .int .u8 35, .int .u8 44, .int .u8 21, .int .u8 52, .int .u8 32, .int .u8 23, .int .u8 11, .int .u8 54, .int .u8 26, .int .u8 40, .int .u8 15, .int .u8 34, .int .u8 20, .int .u8 31, .int .u8 10, .int .u8 25, .int .u8 14, .int .u8 19, .int .u8 9, .int .u8 13, .int .u8 8, .int .u8 7, .int .u8 6] t frozen
      | o => o) }
theorem laid_met (os : Os) : laidMet Tryd.prog Rows.frontiersCheckRow.laid ((laidWorld os).forCall (fun _ _ => 0) ⟨#[], #[.int .i64 0, .slice none 0 0], []⟩).memory := laidMet_of_run' 8 (by kernel_rfl) (by kernel_rfl)
theorem reads (os : Os) {H : Type} (enc : TypeId × Value → H) : ∃ places, DataW.whole enc Tryd.prog ((laidWorld os).forCall (fun _ _ => 0) ⟨#[], #[.int .i64 0, .slice none 0 0], []⟩).memory Tryd.f3.params.toList Rows.frontiersCheckSpec.vars false (#[.int .i64 0, .slice none 0 0] : Array Value).toList 8 = some ([.lit (.int .i64 0), .nil], [], places) := ⟨[], by kernel_rfl⟩
theorem lifted (os : Os) (started : os.Started) (H : Type) (enc : TypeId × Value → H) (F : Stop.Interp) :
    ReturnsInHanded {} Tryd.checked os 3 .any ((OpenSpec.ofChange Rows.frontiersCheckSpec).preRow enc Tryd.prog Tryd.f3 Rows.frontiersCheckRow.domain false Rows.frontiersCheckRow.laid) (((OpenSpec.ofChange Rows.frontiersCheckSpec).at F).post enc Tryd.prog Tryd.f3 false true false false) := by
  obtain ⟨places, hx⟩ := reads os enc
  refine returnsInHanded_of_row (C := Tryd.checked) (s := OpenSpec.ofChange Rows.frontiersCheckSpec) own started (by kernel_rfl) Tryd.func3
    (witness_row_at (enc := enc) (C := Tryd.checked) false (laidWorld os) #[.int .i64 0, .slice none 0 0] rfl (by kernel_rfl) (by kernel_rfl) (by kernel_rfl)
      (OpenSpec.preRow_of_cond 8 hx (by kernel_rfl) (fun k hk => by cases hk) (by kernel_rfl) (laid_met os))) ?_
  intro W base args ds gs before hval0 hW hcnd _ hsz0 hL _ _
  have hval : ∀ (j : Nat) t v, Tryd.f3.params[j]? = some t → args[j]? = some v → Value.okWide Tryd.prog W .any base t v := hval0
  have hW' := hW
  obtain ⟨p, q, hA0, hV, rfl, hfz, hnd⟩ := hW
  have hA : DataW.TrodAll enc Tryd.prog W 0 (fun _ => true) true Tryd.f3.params.toList args.toList ds p := hA0
  have hsz : (DataW.weightsEach Tryd.prog (Tryd.f3.params.toList ++ Rows.frontiersCheckSpec.plain.varTypes Tryd.prog) (ds ++ gs)).all (· ≤ reachBytes) = true := hsz0
  rw [Tryd.params3] at hA hval hsz
  obtain ⟨v0, vs0, d0, ds0, p0, q0, hargs, rfl, rfl, h0, r0⟩ := trodAll_cons hA
  obtain ⟨v1, vs1, d1, ds1, p1, q1, rfl, rfl, rfl, h1, r1⟩ := trodAll_cons r0
  obtain ⟨rfl, rfl, rfl⟩ := trodAll_nil r1
  obtain rfl : args = #[v0, v1] := by cases args; simp_all
  obtain ⟨rfl, rfl⟩ := trodVars_none hV
  have lt0 : ∀ x ∈ p0, x.block < W.heap.size := by obtain ⟨m, hm⟩ := h0; exact DataW.trod_lt m _ _ _ hm
  have lt1 : ∀ x ∈ p1, x.block < W.heap.size := by obtain ⟨m, hm⟩ := h1; exact DataW.trod_lt m _ _ _ hm
  have ok0 := hval 0 3 v0 rfl rfl
  obtain ⟨s, rfl, los, his⟩ := open_i64 Tryd.underlying3 ok0 h0
  have ok1 := hval 1 22 v1 rfl rfl
  obtain ⟨⟨al, cl, l⟩, rfl, rl, lcl, ccl, h32l⟩ := open_slice (j := 1) Tryd.underlying22 (opens_sums Tryd.underlying22 Tryd.underlying31 Tryd.underlying5 (by kernel_rfl) (by kernel_rfl) (by kernel_rfl)) ok1 h1 hsz rfl rfl
  simp only [Sl.v] at *
  refine Calls.mono (walk s l al l.length cl W rl h32l rfl lcl (by omega) los his) fun e W' ⟨v, he, hv, hs⟩ => ?_
  subst hv; subst he
  have bel := hs.below
  exact ⟨_, rfl, _, _, _, [], _, [], hW', trodAll_mk1 (shut_bool Tryd.underlying4 _), (trodAll_cons_mk (Below.trod laidOut readable3 (of_decide_eq_true inside3) h0 bel lt0) (trodAll_cons_mk (Below.trod laidOut readable22 (of_decide_eq_true inside22) h1 bel lt1) trodAll_mk0)), rfl, bel.frame _, fun h => by cases h⟩
theorem over : Rows.frontiersCheckRow.holds Tryd.pinned (OpenSpec.ofChange Rows.frontiersCheckSpec) :=
  OpenClaim.holds_of_cond 3 Tryd.f3 rfl rfl rfl rfl rfl rfl rfl ⟨rfl, rfl, rfl, rfl, rfl⟩ rfl rfl rfl rfl rfl (by kernel_rfl) Tryd.func3 (by kernel_rfl)
    (of_decide_eq_true (by kernel_rfl)) (by unfold Func.isWrapper; first | (rw [if_pos (by decide +kernel)]; kernel_rfl) | (rw [if_neg (by decide +kernel)]; exact ⟨rfl, rfl⟩))
    (fun os started H enc _ F => by rw [OpenClaim.pre_eq_preRow]; exact lifted os started H enc F)
theorem plain (f : FuncId) (fn : Func) (hf : Tryd.pinned.checked.prog.funcNamed "keywarden/keylaw1.FrontiersCheck" = some f) (hfn : Tryd.pinned.checked.prog.funcs[f]? = some fn) :
    false = Tryd.pinned.checked.prog.looks [] ∧ ∀ (j : Nat) t, fn.params[j]? = some t → Tryd.pinned.checked.prog.wantsStandIn t = false := by
  obtain rfl : f = 3 := Option.some.inj ((show Tryd.prog.funcNamed "keywarden/keylaw1.FrontiersCheck" = some 3 by kernel_rfl).symm.trans hf) |>.symm
  obtain rfl : fn = Tryd.f3 := (Option.some.inj (Tryd.func3.symm.trans hfn)).symm
  refine ⟨by kernel_rfl, fun j t ht => ?_⟩
  rw [Tryd.params3] at ht
  have w3 : Tryd.prog.wantsStandIn 3 = false := by kernel_rfl
  have w22 : Tryd.prog.wantsStandIn 22 = false := by kernel_rfl
  have hm : t ∈ [3, 22] := by have := Array.mem_of_getElem? ht; simpa using this
  simp only [List.mem_cons, List.not_mem_nil, or_false] at hm
  rcases hm with rfl | rfl
  · exact w3
  · exact w22
theorem proved : Rows.FrontiersCheckCardSaid :=
  Claim7.holds_tied_plain_at .later [] _ _ _ _ over (fun _ h => by cases h) (by kernel_rfl) (fun _ h => by cases h) frontiersCheck_row_tie rfl ⟨rfl, rfl⟩ (by kernel_rfl) rfl plain (by kernel_rfl)
#print axioms proved
end Go.Proofs.YtfohfnpehfcaaaaDoor.lawFrontiersCheck
