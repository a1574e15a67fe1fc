/- Asks checked. No condition. -/
import Derived.Test.YtafdmlpfgpaicaaFacts
import Derived.Test.YtafdmlpfgpaicaaListA
import Derived.Test.YtafdmlpfgpaicaaAsk
namespace Go.Proofs.Ytafdmlpfgpaicaa
open Go.Kw
set_option linter.unusedVariables false
set_option linter.unusedSimpArgs false
set_option maxRecDepth 100000
theorem notNameB_ok (l : List UInt8) (w : World) (hl : l.length ≤ 9223372036854775807) :
    Ret Try.prog 28 [.string ⟨(l).toArray⟩] w (fun v w' => v = .bool (!nameE l) ∧ St w [] w' []) := by
  refine enter Try.func28 rfl Try.ntmps28 rfl ?_
  have hS := St.refl w []
  refine c_seq ?_; refine c_region ?_; refine wl_val (r_assign (v := .bool false) rfl) rfl ?_; refine wl_nil ?_; refine c_then ?_; refine c_seq ?_; refine c_region ?_; refine wl_val (r_move (v := .string _) rfl) rfl ?_; refine wl_call (r_call fn63 rfl rfl) rfl (isName_ok l _ hl) ?_; rintro _ w1 ⟨rfl, hx2⟩
  have hS3 := hS.ext hx2
  refine wl_val (r_not rfl) rfl ?_; refine wl_val (r_assign (v := .bool _) rfl) rfl ?_; refine wl_nil ?_; refine c_then ?_; refine wp_ret ?_; refine ret1 Try.results28 ?_
  exact ⟨rfl, hS3.fin⟩

theorem rnot1_ok (l : List UInt8) (w : World) (hl : l.length ≤ 9223372036854775807) :
    Ret Try.prog 38 [.string ⟨(l).toArray⟩] w (fun v w' => v = .bool (!nameE l) ∧ St w [] w' []) := by
  refine enter Try.func38 rfl Try.ntmps38 rfl ?_
  have hS := St.refl w []
  refine c_seq ?_; refine c_region ?_; refine wl_val (r_assign (v := .bool false) rfl) rfl ?_; refine wl_nil ?_; refine c_then ?_; refine c_seq ?_; refine c_region ?_; refine wl_val (r_move (v := .string _) rfl) rfl ?_; refine wl_call (r_call fn10 rfl rfl) rfl (risName_ok l _ hl) ?_; rintro _ w1 ⟨rfl, hx2⟩
  have hS3 := hS.ext hx2
  refine wl_val (r_not rfl) rfl ?_; refine wl_val (r_assign (v := .bool _) rfl) rfl ?_; refine wl_nil ?_; refine c_then ?_; refine wp_ret ?_; refine ret1 Try.results38 ?_
  exact ⟨rfl, hS3.fin⟩

theorem rnot2_ok (l : List UInt8) (w : World) (hl : l.length ≤ 9223372036854775807) :
    Ret Try.prog 48 [.string ⟨(l).toArray⟩] w (fun v w' => v = .bool (!nameE l) ∧ St w [] w' []) := by
  refine enter Try.func48 rfl Try.ntmps48 rfl ?_
  have hS := St.refl w []
  refine c_seq ?_; refine c_region ?_; refine wl_val (r_assign (v := .bool false) rfl) rfl ?_; refine wl_nil ?_; refine c_then ?_; refine c_seq ?_; refine c_region ?_; refine wl_val (r_move (v := .string _) rfl) rfl ?_; refine wl_call (r_call fn10 rfl rfl) rfl (risName_ok l _ hl) ?_; rintro _ w1 ⟨rfl, hx2⟩
  have hS3 := hS.ext hx2
  refine wl_val (r_not rfl) rfl ?_; refine wl_val (r_assign (v := .bool _) rfl) rfl ?_; refine wl_nil ?_; refine c_then ?_; refine wp_ret ?_; refine ret1 Try.results48 ?_
  exact ⟨rfl, hS3.fin⟩

theorem patB {f : FuncId} {args : List Value} {w : World} {b : Bool} (h : Ret Try.prog f args w (fun v w' => (b = true ∧ v = .bool true ∧ St w [] w' []) ∨ (b = false ∧ v = .bool false ∧ St w [] w' []))) : Ret Try.prog f args w (fun v w' => v = .bool b ∧ St w [] w' []) :=
  h.mono fun v w' h => by
    rcases h with ⟨hb, h⟩ | ⟨hb, h⟩ <;> rw [hb] <;> exact h

theorem rpattern_ok (l : List UInt8) (w : World) (hl : l.length ≤ 9223372036854775807) :
    Ret Try.prog 52 [.string ⟨(l).toArray⟩] w (fun v w' => (patE l = true ∧ v = .bool true ∧ St w [] w' []) ∨ (patE l = false ∧ v = .bool false ∧ St w [] w' [])) := by
  refine enter Try.func52 rfl Try.ntmps52 rfl ?_
  have hS := St.refl w []
  refine c_seq ?_; refine c_region ?_; refine wl_val (r_assign (v := .bool false) rfl) rfl ?_; refine wl_nil ?_; refine c_then ?_; refine c_seq ?_; refine c_region ?_; refine wl_val (r_move (v := .string _) rfl) rfl ?_; refine wl_call (r_call fn35 rfl rfl) rfl (cutSuffix_ok l _ hl) ?_
  rintro _ w1 (⟨hs, rfl, hx2⟩ | ⟨hs, rfl, hx2⟩)
  · have hS3 := hS.ext hx2
    refine wl_val (r_move (v := .tuple _) rfl) rfl ?_; refine wl_val (r_extract (v := .string _) rfl rfl) rfl ?_; refine wl_val (r_extract (v := .bool _) rfl rfl) rfl ?_; refine wl_val (r_assign (v := .string _) rfl) rfl ?_; refine wl_val (r_assign (v := .bool _) rfl) rfl ?_; refine wl_nil ?_; refine c_then ?_; refine c_seq ?_; refine c_region ?_; refine wl_val (r_move (v := .string _) rfl) rfl ?_; refine wl_call (r_call fn10 rfl rfl) rfl (risName_br _ _ (Nat.le_trans (headS_le l) hl)) ?_
    rintro _ w4 (⟨hnm, rfl, hx5⟩ | ⟨hnm, rfl, hx5⟩)
    · have hS6 := hS3.ext hx5
      refine wl_val (r_move (v := .bool _) rfl) rfl ?_; refine wl_not rfl ?_; refine wl_not rfl ?_; refine wl_not rfl ?_; refine wl_not rfl ?_; refine wl_not rfl ?_; refine wl_val (r_pick_t rfl (v := .bool true) rfl) rfl ?_; refine wl_val (r_assign (v := .bool _) rfl) rfl ?_; refine wl_nil ?_; refine c_then ?_; refine wp_ret ?_; refine ret1 Try.results52 ?_
      first | exact .inl ⟨patE_name hnm, rfl, hS6.fin⟩ | exact .inl ⟨by rw [patE, hs, decide_eq_true h2_6, Bool.and_true, Bool.or_true], rfl, hS6.fin⟩ | exact .inr ⟨by rw [patE, hnm, hs, decide_eq_false h2_6]; rfl, rfl, hS6.fin⟩ | exact .inr ⟨by rw [patE, hnm, hs]; rfl, rfl, hS6.fin⟩
    have hS6 := hS3.ext hx5
    refine wl_val (r_move (v := .bool _) rfl) rfl ?_; refine wl_val (r_move (v := .bool _) rfl) rfl ?_; refine wl_val (r_move (v := .bool _) rfl) rfl ?_; refine wl_val (r_move (v := .string _) rfl) rfl ?_
    refine wl_dec (r_eqlStrL rfl rfl) rfl (fun h2_6 => ?_) (fun h2_6 => ?_)
    · refine wl_val (r_pick_t rfl (v := .bool _) rfl) rfl ?_
      refine wl_val (r_pick_f rfl (v := .bool _) rfl) rfl ?_; refine wl_val (r_assign (v := .bool _) rfl) rfl ?_; refine wl_nil ?_; refine c_then ?_; refine wp_ret ?_; refine ret1 Try.results52 ?_
      first | exact .inl ⟨patE_name hnm, rfl, hS6.fin⟩ | exact .inl ⟨by rw [patE, hs, decide_eq_true h2_6, Bool.and_true, Bool.or_true], rfl, hS6.fin⟩ | exact .inr ⟨by rw [patE, hnm, hs, decide_eq_false h2_6]; rfl, rfl, hS6.fin⟩ | exact .inr ⟨by rw [patE, hnm, hs]; rfl, rfl, hS6.fin⟩
    refine wl_val (r_pick_t rfl (v := .bool _) rfl) rfl ?_; refine wl_val (r_pick_f rfl (v := .bool _) rfl) rfl ?_; refine wl_val (r_assign (v := .bool _) rfl) rfl ?_; refine wl_nil ?_; refine c_then ?_; refine wp_ret ?_; refine ret1 Try.results52 ?_
    first | exact .inl ⟨patE_name hnm, rfl, hS6.fin⟩ | exact .inl ⟨by rw [patE, hs, decide_eq_true h2_6, Bool.and_true, Bool.or_true], rfl, hS6.fin⟩ | exact .inr ⟨by rw [patE, hnm, hs, decide_eq_false h2_6]; rfl, rfl, hS6.fin⟩ | exact .inr ⟨by rw [patE, hnm, hs]; rfl, rfl, hS6.fin⟩
  have hS3 := hS.ext hx2
  refine wl_val (r_move (v := .tuple _) rfl) rfl ?_; refine wl_val (r_extract (v := .string _) rfl rfl) rfl ?_; refine wl_val (r_extract (v := .bool _) rfl rfl) rfl ?_; refine wl_val (r_assign (v := .string _) rfl) rfl ?_; refine wl_val (r_assign (v := .bool _) rfl) rfl ?_; refine wl_nil ?_; refine c_then ?_; refine c_seq ?_; refine c_region ?_; refine wl_val (r_move (v := .string _) rfl) rfl ?_; refine wl_call (r_call fn10 rfl rfl) rfl (risName_br _ _ (Nat.le_trans (headS_le l) hl)) ?_
  rintro _ w7 (⟨hnm, rfl, hx8⟩ | ⟨hnm, rfl, hx8⟩)
  · have hS9 := hS3.ext hx8
    refine wl_val (r_move (v := .bool _) rfl) rfl ?_; refine wl_not rfl ?_; refine wl_not rfl ?_; refine wl_not rfl ?_; refine wl_not rfl ?_; refine wl_not rfl ?_; refine wl_val (r_pick_t rfl (v := .bool true) rfl) rfl ?_; refine wl_val (r_assign (v := .bool _) rfl) rfl ?_; refine wl_nil ?_; refine c_then ?_; refine wp_ret ?_; refine ret1 Try.results52 ?_
    first | exact .inl ⟨patE_name hnm, rfl, hS9.fin⟩ | exact .inl ⟨by rw [patE, hs, decide_eq_true h2_6, Bool.and_true, Bool.or_true], rfl, hS9.fin⟩ | exact .inr ⟨by rw [patE, hnm, hs, decide_eq_false h2_6]; rfl, rfl, hS9.fin⟩ | exact .inr ⟨by rw [patE, hnm, hs]; rfl, rfl, hS9.fin⟩
  have hS9 := hS3.ext hx8
  refine wl_val (r_move (v := .bool _) rfl) rfl ?_; refine wl_val (r_move (v := .bool _) rfl) rfl ?_; refine wl_val (r_move (v := .bool _) rfl) rfl ?_; refine wl_not rfl ?_; refine wl_not rfl ?_; refine wl_val (r_pick_f rfl (v := .bool false) rfl) rfl ?_; refine wl_val (r_pick_f rfl (v := .bool _) rfl) rfl ?_; refine wl_val (r_assign (v := .bool _) rfl) rfl ?_; refine wl_nil ?_; refine c_then ?_; refine wp_ret ?_; refine ret1 Try.results52 ?_
  first | exact .inl ⟨patE_name hnm, rfl, hS9.fin⟩ | exact .inl ⟨by rw [patE, hs, decide_eq_true h2_6, Bool.and_true, Bool.or_true], rfl, hS9.fin⟩ | exact .inr ⟨by rw [patE, hnm, hs, decide_eq_false h2_6]; rfl, rfl, hS9.fin⟩ | exact .inr ⟨by rw [patE, hnm, hs]; rfl, rfl, hS9.fin⟩

theorem pnot_ok (l : List UInt8) (w : World) (hl : l.length ≤ 9223372036854775807) :
    Ret Try.prog 78 [.string ⟨(l).toArray⟩] w (fun v w' => v = .bool (!patE l) ∧ St w [] w' []) := by
  refine enter Try.func78 rfl Try.ntmps78 rfl ?_
  have hS := St.refl w []
  refine c_seq ?_; refine c_region ?_; refine wl_val (r_assign (v := .bool false) rfl) rfl ?_; refine wl_nil ?_; refine c_then ?_; refine c_seq ?_; refine c_region ?_; refine wl_val (r_move (v := .string _) rfl) rfl ?_; refine wl_call (r_call fn27 rfl rfl) rfl (patB (isPattern_ok l _ hl)) ?_; rintro _ w1 ⟨rfl, hx2⟩
  have hS3 := hS.ext hx2
  refine wl_val (r_not rfl) rfl ?_; refine wl_val (r_assign (v := .bool _) rfl) rfl ?_; refine wl_nil ?_; refine c_then ?_; refine wp_ret ?_; refine ret1 Try.results78 ?_
  exact ⟨rfl, hS3.fin⟩

theorem rpnot_ok (l : List UInt8) (w : World) (hl : l.length ≤ 9223372036854775807) :
    Ret Try.prog 51 [.string ⟨(l).toArray⟩] w (fun v w' => v = .bool (!patE l) ∧ St w [] w' []) := by
  refine enter Try.func51 rfl Try.ntmps51 rfl ?_
  have hS := St.refl w []
  refine c_seq ?_; refine c_region ?_; refine wl_val (r_assign (v := .bool false) rfl) rfl ?_; refine wl_nil ?_; refine c_then ?_; refine c_seq ?_; refine c_region ?_; refine wl_val (r_move (v := .string _) rfl) rfl ?_; refine wl_call (r_call fn52 rfl rfl) rfl (patB (rpattern_ok l _ hl)) ?_; rintro _ w1 ⟨rfl, hx2⟩
  have hS3 := hS.ext hx2
  refine wl_val (r_not rfl) rfl ?_; refine wl_val (r_assign (v := .bool _) rfl) rfl ?_; refine wl_nil ?_; refine c_then ?_; refine wp_ret ?_; refine ret1 Try.results51 ?_
  exact ⟨rfl, hS3.fin⟩

theorem isAct_ok (n : Int) (w : World) :
    Ret Try.prog 41 [.int .i64 n] w (fun v w' => ((1 ≤ n ∧ n ≤ 12) ∧ v = .bool true ∧ St w [] w' []) ∨ ((n < 1 ∨ 12 < n) ∧ v = .bool false ∧ St w [] w' [])) := by
  refine enter Try.func41 rfl Try.ntmps41 rfl ?_
  have hS := St.refl w []
  refine c_seq ?_; refine c_region ?_; refine wl_val (r_assign (v := .bool false) rfl) rfl ?_; refine wl_nil ?_; refine c_then ?_; refine c_seq ?_; refine c_region ?_; refine wl_val (r_move (v := .int .i64 _) rfl) rfl ?_
  refine wl_dec (r_geq rfl rfl) rfl (fun h1_1 => ?_) (fun h1_1 => ?_)
  · refine wl_val (r_move (v := .bool _) rfl) rfl ?_
    refine wl_val (r_move (v := .int .i64 _) rfl) rfl ?_
    refine wl_dec (r_leq rfl rfl) rfl (fun h1_4 => ?_) (fun h1_4 => ?_)
    · refine wl_val (r_pick_t rfl (v := .bool _) rfl) rfl ?_
      refine wl_val (r_assign (v := .bool _) rfl) rfl ?_; refine wl_nil ?_; refine c_then ?_; refine wp_ret ?_; refine ret1 Try.results41 ?_
      first | exact .inl ⟨by omega, rfl, hS.fin⟩ | exact .inr ⟨by omega, rfl, hS.fin⟩
    refine wl_val (r_pick_t rfl (v := .bool _) rfl) rfl ?_; refine wl_val (r_assign (v := .bool _) rfl) rfl ?_; refine wl_nil ?_; refine c_then ?_; refine wp_ret ?_; refine ret1 Try.results41 ?_
    first | exact .inl ⟨by omega, rfl, hS.fin⟩ | exact .inr ⟨by omega, rfl, hS.fin⟩
  refine wl_val (r_move (v := .bool _) rfl) rfl ?_; refine wl_not rfl ?_; refine wl_not rfl ?_; refine wl_val (r_pick_f rfl (v := .bool false) rfl) rfl ?_; refine wl_val (r_assign (v := .bool _) rfl) rfl ?_; refine wl_nil ?_; refine c_then ?_; refine wp_ret ?_; refine ret1 Try.results41 ?_
  first | exact .inl ⟨by omega, rfl, hS.fin⟩ | exact .inr ⟨by omega, rfl, hS.fin⟩

theorem anot_ok (n : Int) (w : World) :
    Ret Try.prog 77 [.int .i64 n] w (fun v w' => v = .bool (actOut n) ∧ St w [] w' []) := by
  refine enter Try.func77 rfl Try.ntmps77 rfl ?_
  have hS := St.refl w []
  refine c_seq ?_; refine c_region ?_; refine wl_val (r_assign (v := .bool false) rfl) rfl ?_; refine wl_nil ?_; refine c_then ?_; refine c_seq ?_; refine c_region ?_; refine wl_val (r_move (v := .int .i64 _) rfl) rfl ?_; refine wl_call (r_call fn41 rfl rfl) rfl (isAct_ok n _) ?_
  rintro _ w1 (⟨hb, rfl, hx2⟩ | ⟨hb, rfl, hx2⟩)
  · have hS3 := hS.ext hx2
    refine wl_val (r_not rfl) rfl ?_; refine wl_val (r_assign (v := .bool _) rfl) rfl ?_; refine wl_nil ?_; refine c_then ?_; refine wp_ret ?_; refine ret1 Try.results77 ?_
    first | exact ⟨congrArg Value.bool (decide_eq_true (show n < 1 ∨ 12 < n by omega)).symm, hS3.fin⟩ | exact ⟨congrArg Value.bool (decide_eq_false (show ¬ (n < 1 ∨ 12 < n) by omega)).symm, hS3.fin⟩
  have hS3 := hS.ext hx2
  refine wl_val (r_not rfl) rfl ?_; refine wl_val (r_assign (v := .bool _) rfl) rfl ?_; refine wl_nil ?_; refine c_then ?_; refine wp_ret ?_; refine ret1 Try.results77 ?_
  first | exact ⟨congrArg Value.bool (decide_eq_true (show n < 1 ∨ 12 < n by omega)).symm, hS3.fin⟩ | exact ⟨congrArg Value.bool (decide_eq_false (show ¬ (n < 1 ∨ 12 < n) by omega)).symm, hS3.fin⟩

theorem ranot_ok (n : Int) (w : World) :
    Ret Try.prog 50 [.int .i64 n] w (fun v w' => v = .bool (actOut n) ∧ St w [] w' []) := by
  refine enter Try.func50 rfl Try.ntmps50 rfl ?_
  have hS := St.refl w []
  refine c_seq ?_; refine c_region ?_; refine wl_val (r_assign (v := .bool false) rfl) rfl ?_; refine wl_nil ?_; refine c_then ?_; refine c_seq ?_; refine c_region ?_; refine wl_val (r_move (v := .int .i64 _) rfl) rfl ?_
  refine wl_dec (r_lss rfl rfl) rfl (fun h1_1 => ?_) (fun h1_1 => ?_)
  · refine wl_val (r_move (v := .bool _) rfl) rfl ?_
    refine wl_not rfl ?_; refine wl_not rfl ?_; refine wl_val (r_pick_t rfl (v := .bool true) rfl) rfl ?_; refine wl_val (r_assign (v := .bool _) rfl) rfl ?_; refine wl_nil ?_; refine c_then ?_; refine wp_ret ?_; refine ret1 Try.results50 ?_
    first | exact ⟨congrArg Value.bool (decide_eq_true (show n < 1 ∨ 12 < n by omega)).symm, hS.fin⟩ | exact ⟨congrArg Value.bool (decide_eq_false (show ¬ (n < 1 ∨ 12 < n) by omega)).symm, hS.fin⟩
  refine wl_val (r_move (v := .bool _) rfl) rfl ?_; refine wl_val (r_move (v := .int .i64 _) rfl) rfl ?_
  refine wl_dec (r_gtr rfl rfl) rfl (fun h1_4 => ?_) (fun h1_4 => ?_)
  · refine wl_val (r_pick_f rfl (v := .bool _) rfl) rfl ?_
    refine wl_val (r_assign (v := .bool _) rfl) rfl ?_; refine wl_nil ?_; refine c_then ?_; refine wp_ret ?_; refine ret1 Try.results50 ?_
    first | exact ⟨congrArg Value.bool (decide_eq_true (show n < 1 ∨ 12 < n by omega)).symm, hS.fin⟩ | exact ⟨congrArg Value.bool (decide_eq_false (show ¬ (n < 1 ∨ 12 < n) by omega)).symm, hS.fin⟩
  refine wl_val (r_pick_f rfl (v := .bool _) rfl) rfl ?_; refine wl_val (r_assign (v := .bool _) rfl) rfl ?_; refine wl_nil ?_; refine c_then ?_; refine wp_ret ?_; refine ret1 Try.results50 ?_
  first | exact ⟨congrArg Value.bool (decide_eq_true (show n < 1 ∨ 12 < n by omega)).symm, hS.fin⟩ | exact ⟨congrArg Value.bool (decide_eq_false (show ¬ (n < 1 ∨ 12 < n) by omega)).symm, hS.fin⟩

theorem poutside_ok (n lo hi : Int) (w : World) :
    Ret Try.prog 43 [.int .i64 n, .int .i64 lo, .int .i64 hi] w (fun v w' => ((n < lo ∨ hi < n) ∧ v = .bool true ∧ St w [] w' []) ∨ ((lo ≤ n ∧ n ≤ hi) ∧ v = .bool false ∧ St w [] w' [])) := by
  refine enter Try.func43 rfl Try.ntmps43 rfl ?_
  have hS := St.refl w []
  refine c_seq ?_; refine c_region ?_; refine wl_val (r_assign (v := .bool false) rfl) rfl ?_; refine wl_nil ?_; refine c_then ?_; refine c_seq ?_; refine c_region ?_; refine wl_val (r_move (v := .int .i64 _) rfl) rfl ?_; refine wl_val (r_move (v := .int .i64 _) rfl) rfl ?_
  refine wl_dec (r_lss rfl rfl) rfl (fun h1_2 => ?_) (fun h1_2 => ?_)
  · refine wl_val (r_move (v := .bool _) rfl) rfl ?_
    refine wl_not rfl ?_; refine wl_not rfl ?_; refine wl_not rfl ?_; refine wl_val (r_pick_t rfl (v := .bool true) rfl) rfl ?_; refine wl_val (r_assign (v := .bool _) rfl) rfl ?_; refine wl_nil ?_; refine c_then ?_; refine wp_ret ?_; refine ret1 Try.results43 ?_
    first | exact .inl ⟨by omega, rfl, hS.fin⟩ | exact .inr ⟨by omega, rfl, hS.fin⟩
  refine wl_val (r_move (v := .bool _) rfl) rfl ?_; refine wl_val (r_move (v := .int .i64 _) rfl) rfl ?_; refine wl_val (r_move (v := .int .i64 _) rfl) rfl ?_
  refine wl_dec (r_gtr rfl rfl) rfl (fun h1_6 => ?_) (fun h1_6 => ?_)
  · refine wl_val (r_pick_f rfl (v := .bool _) rfl) rfl ?_
    refine wl_val (r_assign (v := .bool _) rfl) rfl ?_; refine wl_nil ?_; refine c_then ?_; refine wp_ret ?_; refine ret1 Try.results43 ?_
    first | exact .inl ⟨by omega, rfl, hS.fin⟩ | exact .inr ⟨by omega, rfl, hS.fin⟩
  refine wl_val (r_pick_f rfl (v := .bool _) rfl) rfl ?_; refine wl_val (r_assign (v := .bool _) rfl) rfl ?_; refine wl_nil ?_; refine c_then ?_; refine wp_ret ?_; refine ret1 Try.results43 ?_
  first | exact .inl ⟨by omega, rfl, hS.fin⟩ | exact .inr ⟨by omega, rfl, hS.fin⟩

set_option maxHeartbeats 4000000 in
theorem checkAsk_ok (q : AskD) (w : World) (hq : AskOk q) (hr : Row w q.ra (q.ro.map sv)) :
    Ret Try.prog 14 [.agg q.v.toArray] w (fun v w' => v = .int .i64 (askE q) ∧ St w [] w' []) := by
  have hac := hq.ac
  have hkey := hq.key
  have hdet := hq.det
  refine enter Try.func14 rfl Try.ntmps14 rfl ?_
  have hS := St.refl w []
  refine c_seq ?_; refine c_region ?_; refine wl_exv (x_box hS (v := .agg _) rfl rfl) rfl ?_; rintro _ w1 ⟨b1, rfl, hS2⟩; refine wl_val (r_assign (v := .int .i64 0) rfl) rfl ?_; refine wl_nil ?_; refine c_then ?_; refine c_seq ?_; refine c_block ?_; refine c_seq ?_; refine c_region ?_; refine wl_val (r_field fa34_2 rfl) rfl ?_; refine wl_val (r_loadB1 ti3.und rfl rfl (hS2.heap (.head _)) (ask_act hac)) rfl ?_; refine wl_call (r_call fn41 rfl rfl) rfl (isAct_ok q.act _) ?_
  rintro _ w3 (⟨hact, rfl, hx4⟩ | ⟨hact, rfl, hx4⟩)
  · have hS5 := hS2.ext hx4
    refine wl_val (r_not rfl) rfl ?_; refine wl_val (r_assign (v := .bool _) rfl) rfl ?_; refine wl_nil ?_; refine c_then ?_; refine c_false rfl ?_; refine c_seq ?_; refine c_region ?_; refine wl_val (r_field fa34_1 rfl) rfl ?_; refine wl_val (r_loadB1 ti30.und rfl rfl (hS5.heap (.head _)) (ask_ro hac)) rfl ?_; refine wl_val (r_len (T := 30) rfl ti30.und rfl _ rfl) rfl ?_
    refine wl_dec (r_gtr rfl rfl) rfl (fun h3_3 => ?_) (fun h3_3 => ?_)
    · refine wl_val (r_assign (v := .bool _) rfl) rfl ?_
      refine wl_nil ?_; refine c_then ?_; refine c_true rfl ?_; refine c_seq ?_; refine c_region ?_; refine wl_val (r_assign (v := .int .i64 5) rfl) rfl ?_; refine wl_nil ?_; refine c_then ?_; refine wp_ret ?_; refine c_inR ?_; refine c_thenR ?_; refine ret1 Try.results14 ?_
      refine ⟨congrArg (Value.int .i64) ?_, hS5.fin⟩
      unfold askE
      repeat' split
      all_goals first | rfl | (exfalso; omega) | (exfalso; simp_all; done) | (exfalso; simp_all; omega)
    refine wl_val (r_assign (v := .bool _) rfl) rfl ?_; refine wl_nil ?_; refine c_then ?_; refine c_false rfl ?_; refine c_seq ?_; refine c_region ?_; refine wl_val (r_field fa34_1 rfl) rfl ?_; refine wl_val (r_loadB1 ti30.und rfl rfl (hS5.heap (.head _)) (ask_ro hac)) rfl ?_; refine wl_call (r_call fn37 rfl rfl) rfl (containsFuncS_ok q.ro q.ra q.ro.length q.rc 28 [] (fun s => !nameE s) _ (hr.st hS5) rfl hq.rn fn28 (fun x w' hx h => notNameB_ok x w' (hq.rl x hx))) ?_
    rintro _ w6 (⟨hcf, rfl, hx7⟩ | ⟨hcf, rfl, hx7⟩)
    · have hS8 := hS5.ext hx7
      refine wl_val (r_assign (v := .bool _) rfl) rfl ?_; refine wl_nil ?_; refine c_then ?_; refine c_true rfl ?_; refine c_seq ?_; refine c_region ?_; refine wl_val (r_assign (v := .int .i64 6) rfl) rfl ?_; refine wl_nil ?_; refine c_then ?_; refine wp_ret ?_; refine c_inR ?_; refine c_thenR ?_; refine ret1 Try.results14 ?_
      refine ⟨congrArg (Value.int .i64) ?_, hS8.fin⟩
      unfold askE
      repeat' split
      all_goals first | rfl | (exfalso; omega) | (exfalso; simp_all; done) | (exfalso; simp_all; omega)
    have hS8 := hS5.ext hx7
    refine wl_val (r_assign (v := .bool _) rfl) rfl ?_; refine wl_nil ?_; refine c_then ?_; refine c_false rfl ?_; refine c_seq ?_; refine c_region ?_; refine wl_val (r_field fa34_1 rfl) rfl ?_; refine wl_val (r_loadB1 ti30.und rfl rfl (hS8.heap (.head _)) (ask_ro hac)) rfl ?_; refine wl_call (r_call fn42 rfl rfl) rfl (rising_ok q.ro q.ra q.ro.length q.rc _ (hr.st hS8) rfl hq.rn) ?_
    rintro _ w9 (⟨hri, rfl, hx10⟩ | ⟨hri, rfl, hx10⟩)
    · have hS11 := hS8.ext hx10
      refine wl_val (r_not rfl) rfl ?_; refine wl_val (r_assign (v := .bool _) rfl) rfl ?_; refine wl_nil ?_; refine c_then ?_; refine c_false rfl ?_; refine c_seq ?_; refine c_region ?_; refine wl_val (r_field fa34_3 rfl) rfl ?_; refine wl_val (r_loadB1 ti9.und rfl rfl (hS11.heap (.head _)) (ask_lab hac)) rfl ?_
      refine wl_dec (r_neqStrL rfl rfl) rfl (fun h9_2 => ?_) (fun h9_2 => ?_)
      · refine wl_val (r_move (v := .bool _) rfl) rfl ?_
        refine wl_val (r_field fa34_3 rfl) rfl ?_; refine wl_val (r_loadB1 ti9.und rfl rfl (hS11.heap (.head _)) (ask_lab hac)) rfl ?_; refine wl_call (r_call fn28 rfl rfl) rfl (notName_ok q.lab _ hq.ll) ?_
        rintro _ w12 (⟨hnn, rfl, hx13⟩ | ⟨hnn, rfl, hx13⟩)
        · have hS14 := hS11.ext hx13
          refine wl_val (r_pick_t rfl (v := .bool _) rfl) rfl ?_; refine wl_val (r_assign (v := .bool _) rfl) rfl ?_; refine wl_nil ?_; refine c_then ?_; refine c_true rfl ?_; refine c_seq ?_; refine c_region ?_; refine wl_val (r_assign (v := .int .i64 6) rfl) rfl ?_; refine wl_nil ?_; refine c_then ?_; refine wp_ret ?_; refine c_inR ?_; refine c_thenR ?_; refine ret1 Try.results14 ?_
          refine ⟨congrArg (Value.int .i64) ?_, hS14.fin⟩
          unfold askE
          repeat' split
          all_goals first | rfl | (exfalso; omega) | (exfalso; simp_all; done) | (exfalso; simp_all; omega)
        have hS14 := hS11.ext hx13
        refine wl_val (r_pick_t rfl (v := .bool _) rfl) rfl ?_; refine wl_val (r_assign (v := .bool _) rfl) rfl ?_; refine wl_nil ?_; refine c_then ?_; refine c_false rfl ?_; refine c_seq ?_; refine c_region ?_; refine wl_val (r_field fa34_5 rfl) rfl ?_; refine wl_val (r_loadB1 ti3.und rfl rfl (hS14.heap (.head _)) (ask_tm hac hkey)) rfl ?_; refine wl_call (r_call fn43 rfl rfl) rfl (poutside_ok q.tm 0 1099511627776 _) ?_
        rintro _ w15 (⟨hto, rfl, hx16⟩ | ⟨hto, rfl, hx16⟩)
        · have hS17 := hS14.ext hx16
          refine wl_val (r_assign (v := .bool _) rfl) rfl ?_; refine wl_nil ?_; refine c_then ?_; refine c_true rfl ?_; refine c_seq ?_; refine c_region ?_; refine wl_val (r_assign (v := .int .i64 4) rfl) rfl ?_; refine wl_nil ?_; refine c_then ?_; refine wp_ret ?_; refine c_inR ?_; refine c_thenR ?_; refine ret1 Try.results14 ?_
          refine ⟨congrArg (Value.int .i64) ?_, hS17.fin⟩
          unfold askE
          repeat' split
          all_goals first | rfl | (exfalso; omega) | (exfalso; simp_all; done) | (exfalso; simp_all; omega)
        have hS17 := hS14.ext hx16
        refine wl_val (r_assign (v := .bool _) rfl) rfl ?_; refine wl_nil ?_; refine c_then ?_; refine c_false rfl ?_; refine wp_skip ?_; refine c_inN ?_; refine c_then ?_; refine c_seq ?_; refine c_region ?_; refine wl_val (r_assign (v := .int .i64 0) rfl) rfl ?_; refine wl_nil ?_; refine c_then ?_; refine wp_ret ?_; refine ret1 Try.results14 ?_
        refine ⟨congrArg (Value.int .i64) ?_, hS17.fin⟩
        unfold askE
        repeat' split
        all_goals first | rfl | (exfalso; omega) | (exfalso; simp_all; done) | (exfalso; simp_all; omega)
      refine wl_val (r_move (v := .bool _) rfl) rfl ?_; refine wl_not rfl ?_; refine wl_not rfl ?_; refine wl_not rfl ?_; refine wl_val (r_pick_f rfl (v := .bool false) rfl) rfl ?_; refine wl_val (r_assign (v := .bool _) rfl) rfl ?_; refine wl_nil ?_; refine c_then ?_; refine c_false rfl ?_; refine c_seq ?_; refine c_region ?_; refine wl_val (r_field fa34_5 rfl) rfl ?_; refine wl_val (r_loadB1 ti3.und rfl rfl (hS11.heap (.head _)) (ask_tm hac hkey)) rfl ?_; refine wl_call (r_call fn43 rfl rfl) rfl (poutside_ok q.tm 0 1099511627776 _) ?_
      rintro _ w18 (⟨hto, rfl, hx19⟩ | ⟨hto, rfl, hx19⟩)
      · have hS20 := hS11.ext hx19
        refine wl_val (r_assign (v := .bool _) rfl) rfl ?_; refine wl_nil ?_; refine c_then ?_; refine c_true rfl ?_; refine c_seq ?_; refine c_region ?_; refine wl_val (r_assign (v := .int .i64 4) rfl) rfl ?_; refine wl_nil ?_; refine c_then ?_; refine wp_ret ?_; refine c_inR ?_; refine c_thenR ?_; refine ret1 Try.results14 ?_
        refine ⟨congrArg (Value.int .i64) ?_, hS20.fin⟩
        unfold askE
        repeat' split
        all_goals first | rfl | (exfalso; omega) | (exfalso; simp_all; done) | (exfalso; simp_all; omega)
      have hS20 := hS11.ext hx19
      refine wl_val (r_assign (v := .bool _) rfl) rfl ?_; refine wl_nil ?_; refine c_then ?_; refine c_false rfl ?_; refine wp_skip ?_; refine c_inN ?_; refine c_then ?_; refine c_seq ?_; refine c_region ?_; refine wl_val (r_assign (v := .int .i64 0) rfl) rfl ?_; refine wl_nil ?_; refine c_then ?_; refine wp_ret ?_; refine ret1 Try.results14 ?_
      refine ⟨congrArg (Value.int .i64) ?_, hS20.fin⟩
      unfold askE
      repeat' split
      all_goals first | rfl | (exfalso; omega) | (exfalso; simp_all; done) | (exfalso; simp_all; omega)
    have hS11 := hS8.ext hx10
    refine wl_val (r_not rfl) rfl ?_; refine wl_val (r_assign (v := .bool _) rfl) rfl ?_; refine wl_nil ?_; refine c_then ?_; refine c_true rfl ?_; refine c_seq ?_; refine c_region ?_; refine wl_val (r_assign (v := .int .i64 9) rfl) rfl ?_; refine wl_nil ?_; refine c_then ?_; refine wp_ret ?_; refine c_inR ?_; refine c_thenR ?_; refine ret1 Try.results14 ?_
    refine ⟨congrArg (Value.int .i64) ?_, hS11.fin⟩
    unfold askE
    repeat' split
    all_goals first | rfl | (exfalso; omega) | (exfalso; simp_all; done) | (exfalso; simp_all; omega)
  have hS5 := hS2.ext hx4
  refine wl_val (r_not rfl) rfl ?_; refine wl_val (r_assign (v := .bool _) rfl) rfl ?_; refine wl_nil ?_; refine c_then ?_; refine c_true rfl ?_; refine c_seq ?_; refine c_region ?_; refine wl_val (r_assign (v := .int .i64 3) rfl) rfl ?_; refine wl_nil ?_; refine c_then ?_; refine wp_ret ?_; refine c_inR ?_; refine c_thenR ?_; refine ret1 Try.results14 ?_
  refine ⟨congrArg (Value.int .i64) ?_, hS5.fin⟩
  unfold askE
  repeat' split
  all_goals first | rfl | (exfalso; omega) | (exfalso; simp_all; done) | (exfalso; simp_all; omega)

set_option maxHeartbeats 4000000 in
theorem rcheckAsk_ok (q : AskD) (w : World) (hq : AskOk q) (hr : Row w q.ra (q.ro.map sv)) :
    Ret Try.prog 12 [.agg q.v.toArray] w (fun v w' => v = .int .i64 (askE q) ∧ St w [] w' []) := by
  have hac := hq.ac
  have hkey := hq.key
  have hdet := hq.det
  refine enter Try.func12 rfl Try.ntmps12 rfl ?_
  have hS := St.refl w []
  refine c_seq ?_; refine c_region ?_; refine wl_exv (x_box hS (v := .agg _) rfl rfl) rfl ?_; rintro _ w1 ⟨b1, rfl, hS2⟩; refine wl_val (r_assign (v := .int .i64 0) rfl) rfl ?_; refine wl_nil ?_; refine c_then ?_; refine c_seq ?_; refine c_block ?_; refine c_seq ?_; refine c_region ?_; refine wl_val (r_field fa34_2 rfl) rfl ?_; refine wl_val (r_loadB1 ti3.und rfl rfl (hS2.heap (.head _)) (ask_act hac)) rfl ?_
  refine wl_dec (r_lss rfl rfl) rfl (fun h1_2 => ?_) (fun h1_2 => ?_)
  · refine wl_val (r_move (v := .bool _) rfl) rfl ?_
    refine wl_not rfl ?_; refine wl_not rfl ?_; refine wl_not rfl ?_; refine wl_val (r_pick_t rfl (v := .bool true) rfl) rfl ?_; refine wl_val (r_assign (v := .bool _) rfl) rfl ?_; refine wl_nil ?_; refine c_then ?_; refine c_true rfl ?_; refine c_seq ?_; refine c_region ?_; refine wl_val (r_assign (v := .int .i64 3) rfl) rfl ?_; refine wl_nil ?_; refine c_then ?_; refine wp_ret ?_; refine c_inR ?_; refine c_thenR ?_; refine ret1 Try.results12 ?_
    refine ⟨congrArg (Value.int .i64) ?_, hS2.fin⟩
    unfold askE
    repeat' split
    all_goals first | rfl | (exfalso; omega) | (exfalso; simp_all; done) | (exfalso; simp_all; omega)
  refine wl_val (r_move (v := .bool _) rfl) rfl ?_; refine wl_val (r_field fa34_2 rfl) rfl ?_; refine wl_val (r_loadB1 ti3.und rfl rfl (hS2.heap (.head _)) (ask_act hac)) rfl ?_
  refine wl_dec (r_gtr rfl rfl) rfl (fun h1_6 => ?_) (fun h1_6 => ?_)
  · refine wl_val (r_pick_f rfl (v := .bool _) rfl) rfl ?_
    refine wl_val (r_assign (v := .bool _) rfl) rfl ?_; refine wl_nil ?_; refine c_then ?_; refine c_true rfl ?_; refine c_seq ?_; refine c_region ?_; refine wl_val (r_assign (v := .int .i64 3) rfl) rfl ?_; refine wl_nil ?_; refine c_then ?_; refine wp_ret ?_; refine c_inR ?_; refine c_thenR ?_; refine ret1 Try.results12 ?_
    refine ⟨congrArg (Value.int .i64) ?_, hS2.fin⟩
    unfold askE
    repeat' split
    all_goals first | rfl | (exfalso; omega) | (exfalso; simp_all; done) | (exfalso; simp_all; omega)
  refine wl_val (r_pick_f rfl (v := .bool _) rfl) rfl ?_; refine wl_val (r_assign (v := .bool _) rfl) rfl ?_; refine wl_nil ?_; refine c_then ?_; refine c_false rfl ?_; refine c_seq ?_; refine c_region ?_; refine wl_val (r_field fa34_1 rfl) rfl ?_; refine wl_val (r_loadB1 ti30.und rfl rfl (hS2.heap (.head _)) (ask_ro hac)) rfl ?_; refine wl_val (r_len (T := 30) rfl ti30.und rfl _ rfl) rfl ?_
  refine wl_dec (r_gtr rfl rfl) rfl (fun h3_3 => ?_) (fun h3_3 => ?_)
  · refine wl_val (r_assign (v := .bool _) rfl) rfl ?_
    refine wl_nil ?_; refine c_then ?_; refine c_true rfl ?_; refine c_seq ?_; refine c_region ?_; refine wl_val (r_assign (v := .int .i64 5) rfl) rfl ?_; refine wl_nil ?_; refine c_then ?_; refine wp_ret ?_; refine c_inR ?_; refine c_thenR ?_; refine ret1 Try.results12 ?_
    refine ⟨congrArg (Value.int .i64) ?_, hS2.fin⟩
    unfold askE
    repeat' split
    all_goals first | rfl | (exfalso; omega) | (exfalso; simp_all; done) | (exfalso; simp_all; omega)
  refine wl_val (r_assign (v := .bool _) rfl) rfl ?_; refine wl_nil ?_; refine c_then ?_; refine c_false rfl ?_; refine c_seq ?_; refine c_region ?_; refine wl_val (r_field fa34_1 rfl) rfl ?_; refine wl_val (r_loadB1 ti30.und rfl rfl (hS2.heap (.head _)) (ask_ro hac)) rfl ?_; refine wl_call (r_call fn37 rfl rfl) rfl (containsFuncS_ok q.ro q.ra q.ro.length q.rc 38 [] (fun s => !nameE s) _ (hr.st hS2) rfl hq.rn fn38 (fun x w' hx h => rnot1_ok x w' (hq.rl x hx))) ?_
  rintro _ w3 (⟨hcf, rfl, hx4⟩ | ⟨hcf, rfl, hx4⟩)
  · have hS5 := hS2.ext hx4
    refine wl_val (r_assign (v := .bool _) rfl) rfl ?_; refine wl_nil ?_; refine c_then ?_; refine c_true rfl ?_; refine c_seq ?_; refine c_region ?_; refine wl_val (r_assign (v := .int .i64 6) rfl) rfl ?_; refine wl_nil ?_; refine c_then ?_; refine wp_ret ?_; refine c_inR ?_; refine c_thenR ?_; refine ret1 Try.results12 ?_
    refine ⟨congrArg (Value.int .i64) ?_, hS5.fin⟩
    unfold askE
    repeat' split
    all_goals first | rfl | (exfalso; omega) | (exfalso; simp_all; done) | (exfalso; simp_all; omega)
  have hS5 := hS2.ext hx4
  refine wl_val (r_assign (v := .bool _) rfl) rfl ?_; refine wl_nil ?_; refine c_then ?_; refine c_false rfl ?_; refine c_seq ?_; refine c_region ?_; refine wl_val (r_field fa34_1 rfl) rfl ?_; refine wl_val (r_loadB1 ti30.und rfl rfl (hS5.heap (.head _)) (ask_ro hac)) rfl ?_; refine wl_call (r_call fn39 rfl rfl) rfl (rrising_ok q.ro q.ra q.ro.length q.rc _ (hr.st hS5) rfl hq.rn) ?_
  rintro _ w6 (⟨hri, rfl, hx7⟩ | ⟨hri, rfl, hx7⟩)
  · have hS8 := hS5.ext hx7
    refine wl_val (r_not rfl) rfl ?_; refine wl_val (r_assign (v := .bool _) rfl) rfl ?_; refine wl_nil ?_; refine c_then ?_; refine c_false rfl ?_; refine c_seq ?_; refine c_region ?_; refine wl_val (r_field fa34_3 rfl) rfl ?_; refine wl_val (r_loadB1 ti9.und rfl rfl (hS8.heap (.head _)) (ask_lab hac)) rfl ?_
    refine wl_dec (r_neqStrL rfl rfl) rfl (fun h9_2 => ?_) (fun h9_2 => ?_)
    · refine wl_val (r_move (v := .bool _) rfl) rfl ?_
      refine wl_val (r_field fa34_3 rfl) rfl ?_; refine wl_val (r_loadB1 ti9.und rfl rfl (hS8.heap (.head _)) (ask_lab hac)) rfl ?_; refine wl_call (r_call fn10 rfl rfl) rfl (risName_br q.lab _ hq.ll) ?_
      rintro _ w9 (⟨hnn, rfl, hx10⟩ | ⟨hnn, rfl, hx10⟩)
      · have hS11 := hS8.ext hx10
        refine wl_val (r_not rfl) rfl ?_; refine wl_val (r_pick_t rfl (v := .bool _) rfl) rfl ?_; refine wl_val (r_assign (v := .bool _) rfl) rfl ?_; refine wl_nil ?_; refine c_then ?_; refine c_false rfl ?_; refine c_seq ?_; refine c_region ?_; refine wl_val (r_field fa34_5 rfl) rfl ?_; refine wl_val (r_loadB1 ti3.und rfl rfl (hS11.heap (.head _)) (ask_tm hac hkey)) rfl ?_
        refine wl_dec (r_lss rfl rfl) rfl (fun h11_2 => ?_) (fun h11_2 => ?_)
        · refine wl_val (r_move (v := .bool _) rfl) rfl ?_
          refine wl_not rfl ?_; refine wl_not rfl ?_; refine wl_not rfl ?_; refine wl_val (r_pick_t rfl (v := .bool true) rfl) rfl ?_; refine wl_val (r_assign (v := .bool _) rfl) rfl ?_; refine wl_nil ?_; refine c_then ?_; refine c_true rfl ?_; refine c_seq ?_; refine c_region ?_; refine wl_val (r_assign (v := .int .i64 4) rfl) rfl ?_; refine wl_nil ?_; refine c_then ?_; refine wp_ret ?_; refine c_inR ?_; refine c_thenR ?_; refine ret1 Try.results12 ?_
          refine ⟨congrArg (Value.int .i64) ?_, hS11.fin⟩
          unfold askE
          repeat' split
          all_goals first | rfl | (exfalso; omega) | (exfalso; simp_all; done) | (exfalso; simp_all; omega)
        refine wl_val (r_move (v := .bool _) rfl) rfl ?_; refine wl_val (r_field fa34_5 rfl) rfl ?_; refine wl_val (r_loadB1 ti3.und rfl rfl (hS11.heap (.head _)) (ask_tm hac hkey)) rfl ?_
        refine wl_dec (r_gtr rfl rfl) rfl (fun h11_6 => ?_) (fun h11_6 => ?_)
        · refine wl_val (r_pick_f rfl (v := .bool _) rfl) rfl ?_
          refine wl_val (r_assign (v := .bool _) rfl) rfl ?_; refine wl_nil ?_; refine c_then ?_; refine c_true rfl ?_; refine c_seq ?_; refine c_region ?_; refine wl_val (r_assign (v := .int .i64 4) rfl) rfl ?_; refine wl_nil ?_; refine c_then ?_; refine wp_ret ?_; refine c_inR ?_; refine c_thenR ?_; refine ret1 Try.results12 ?_
          refine ⟨congrArg (Value.int .i64) ?_, hS11.fin⟩
          unfold askE
          repeat' split
          all_goals first | rfl | (exfalso; omega) | (exfalso; simp_all; done) | (exfalso; simp_all; omega)
        refine wl_val (r_pick_f rfl (v := .bool _) rfl) rfl ?_; refine wl_val (r_assign (v := .bool _) rfl) rfl ?_; refine wl_nil ?_; refine c_then ?_; refine c_false rfl ?_; refine wp_skip ?_; refine c_inN ?_; refine c_then ?_; refine c_seq ?_; refine c_region ?_; refine wl_val (r_assign (v := .int .i64 0) rfl) rfl ?_; refine wl_nil ?_; refine c_then ?_; refine wp_ret ?_; refine ret1 Try.results12 ?_
        refine ⟨congrArg (Value.int .i64) ?_, hS11.fin⟩
        unfold askE
        repeat' split
        all_goals first | rfl | (exfalso; omega) | (exfalso; simp_all; done) | (exfalso; simp_all; omega)
      have hS11 := hS8.ext hx10
      refine wl_val (r_not rfl) rfl ?_; refine wl_val (r_pick_t rfl (v := .bool _) rfl) rfl ?_; refine wl_val (r_assign (v := .bool _) rfl) rfl ?_; refine wl_nil ?_; refine c_then ?_; refine c_true rfl ?_; refine c_seq ?_; refine c_region ?_; refine wl_val (r_assign (v := .int .i64 6) rfl) rfl ?_; refine wl_nil ?_; refine c_then ?_; refine wp_ret ?_; refine c_inR ?_; refine c_thenR ?_; refine ret1 Try.results12 ?_
      refine ⟨congrArg (Value.int .i64) ?_, hS11.fin⟩
      unfold askE
      repeat' split
      all_goals first | rfl | (exfalso; omega) | (exfalso; simp_all; done) | (exfalso; simp_all; omega)
    refine wl_val (r_move (v := .bool _) rfl) rfl ?_; refine wl_not rfl ?_; refine wl_not rfl ?_; refine wl_not rfl ?_; refine wl_not rfl ?_; refine wl_val (r_pick_f rfl (v := .bool false) rfl) rfl ?_; refine wl_val (r_assign (v := .bool _) rfl) rfl ?_; refine wl_nil ?_; refine c_then ?_; refine c_false rfl ?_; refine c_seq ?_; refine c_region ?_; refine wl_val (r_field fa34_5 rfl) rfl ?_; refine wl_val (r_loadB1 ti3.und rfl rfl (hS8.heap (.head _)) (ask_tm hac hkey)) rfl ?_
    refine wl_dec (r_lss rfl rfl) rfl (fun h11_2 => ?_) (fun h11_2 => ?_)
    · refine wl_val (r_move (v := .bool _) rfl) rfl ?_
      refine wl_not rfl ?_; refine wl_not rfl ?_; refine wl_not rfl ?_; refine wl_val (r_pick_t rfl (v := .bool true) rfl) rfl ?_; refine wl_val (r_assign (v := .bool _) rfl) rfl ?_; refine wl_nil ?_; refine c_then ?_; refine c_true rfl ?_; refine c_seq ?_; refine c_region ?_; refine wl_val (r_assign (v := .int .i64 4) rfl) rfl ?_; refine wl_nil ?_; refine c_then ?_; refine wp_ret ?_; refine c_inR ?_; refine c_thenR ?_; refine ret1 Try.results12 ?_
      refine ⟨congrArg (Value.int .i64) ?_, hS8.fin⟩
      unfold askE
      repeat' split
      all_goals first | rfl | (exfalso; omega) | (exfalso; simp_all; done) | (exfalso; simp_all; omega)
    refine wl_val (r_move (v := .bool _) rfl) rfl ?_; refine wl_val (r_field fa34_5 rfl) rfl ?_; refine wl_val (r_loadB1 ti3.und rfl rfl (hS8.heap (.head _)) (ask_tm hac hkey)) rfl ?_
    refine wl_dec (r_gtr rfl rfl) rfl (fun h11_6 => ?_) (fun h11_6 => ?_)
    · refine wl_val (r_pick_f rfl (v := .bool _) rfl) rfl ?_
      refine wl_val (r_assign (v := .bool _) rfl) rfl ?_; refine wl_nil ?_; refine c_then ?_; refine c_true rfl ?_; refine c_seq ?_; refine c_region ?_; refine wl_val (r_assign (v := .int .i64 4) rfl) rfl ?_; refine wl_nil ?_; refine c_then ?_; refine wp_ret ?_; refine c_inR ?_; refine c_thenR ?_; refine ret1 Try.results12 ?_
      refine ⟨congrArg (Value.int .i64) ?_, hS8.fin⟩
      unfold askE
      repeat' split
      all_goals first | rfl | (exfalso; omega) | (exfalso; simp_all; done) | (exfalso; simp_all; omega)
    refine wl_val (r_pick_f rfl (v := .bool _) rfl) rfl ?_; refine wl_val (r_assign (v := .bool _) rfl) rfl ?_; refine wl_nil ?_; refine c_then ?_; refine c_false rfl ?_; refine wp_skip ?_; refine c_inN ?_; refine c_then ?_; refine c_seq ?_; refine c_region ?_; refine wl_val (r_assign (v := .int .i64 0) rfl) rfl ?_; refine wl_nil ?_; refine c_then ?_; refine wp_ret ?_; refine ret1 Try.results12 ?_
    refine ⟨congrArg (Value.int .i64) ?_, hS8.fin⟩
    unfold askE
    repeat' split
    all_goals first | rfl | (exfalso; omega) | (exfalso; simp_all; done) | (exfalso; simp_all; omega)
  have hS8 := hS5.ext hx7
  refine wl_val (r_not rfl) rfl ?_; refine wl_val (r_assign (v := .bool _) rfl) rfl ?_; refine wl_nil ?_; refine c_then ?_; refine c_true rfl ?_; refine c_seq ?_; refine c_region ?_; refine wl_val (r_assign (v := .int .i64 9) rfl) rfl ?_; refine wl_nil ?_; refine c_then ?_; refine wp_ret ?_; refine c_inR ?_; refine c_thenR ?_; refine ret1 Try.results12 ?_
  refine ⟨congrArg (Value.int .i64) ?_, hS8.fin⟩
  unfold askE
  repeat' split
  all_goals first | rfl | (exfalso; omega) | (exfalso; simp_all; done) | (exfalso; simp_all; omega)

end Go.Proofs.Ytafdmlpfgpaicaa
