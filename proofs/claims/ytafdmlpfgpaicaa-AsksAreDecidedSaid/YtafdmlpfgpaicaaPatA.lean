/- Strings that are cut; patterns. No condition. -/
import Derived.Test.YtafdmlpfgpaicaaFacts
import Derived.Test.YtafdmlpfgpaicaaNameB
import Derived.Test.YtafdmlpfgpaicaaCut
namespace Go.Proofs.Ytafdmlpfgpaicaa
open Go.Kw
set_option linter.unusedVariables false
set_option linter.unusedSimpArgs false
set_option maxRecDepth 100000
theorem hasSuffix_ok (l t : List UInt8) (w : World) (hl : l.length ≤ 9223372036854775807) :
    Ret Try.prog 87 [.string ⟨(l).toArray⟩, .string ⟨(t).toArray⟩] w (fun v w' => v = .bool (sfx l t) ∧ St w [] w' []) := by
  refine enter Try.func87 rfl Try.ntmps87 rfl ?_
  have hS := St.refl w []
  refine c_seq ?_; refine c_region ?_; refine wl_val (r_assign (v := .bool false) rfl) rfl ?_; refine wl_nil ?_; refine c_then ?_; refine c_seq ?_; refine c_region ?_; refine wl_val (r_move (v := .string _) rfl) rfl ?_; refine wl_val (r_lenStrL (T := 9) rfl ti9.und rfl _ rfl) rfl ?_; refine wl_val (r_move (v := .string _) rfl) rfl ?_; refine wl_val (r_lenStrL (T := 9) rfl ti9.und rfl _ rfl) rfl ?_
  refine wl_dec (r_geq rfl rfl) rfl (fun h1_4 => ?_) (fun h1_4 => ?_)
  · refine wl_val (r_move (v := .bool _) rfl) rfl ?_
    refine wl_val (r_move (v := .string _) rfl) rfl ?_; refine wl_val (r_move (v := .string _) rfl) rfl ?_; refine wl_val (r_lenStrL (T := 9) rfl ti9.und rfl _ rfl) rfl ?_; refine wl_val (r_move (v := .string _) rfl) rfl ?_; refine wl_val (r_lenStrL (T := 9) rfl ti9.und rfl _ rfl) rfl ?_; refine wl_val (r_subn rfl rfl (by omega) (by omega)) rfl ?_; refine wl_val (r_slStr_l ti9.und rfl rfl (by omega)) rfl ?_; refine wl_val (r_move (v := .string _) rfl) rfl ?_
    refine wl_dec (r_eqlStrL rfl rfl) rfl (fun h1_14 => ?_) (fun h1_14 => ?_)
    · refine wl_val (r_pick_t rfl (v := .bool _) rfl) rfl ?_
      refine wl_val (r_assign (v := .bool _) rfl) rfl ?_; refine wl_nil ?_; refine c_then ?_; refine wp_ret ?_; refine ret1 Try.results87 ?_
      exact ⟨congrArg Value.bool (sfx_t (by omega) (by assumption)).symm, hS.fin⟩
    refine wl_val (r_pick_t rfl (v := .bool _) rfl) rfl ?_; refine wl_val (r_assign (v := .bool _) rfl) rfl ?_; refine wl_nil ?_; refine c_then ?_; refine wp_ret ?_; refine ret1 Try.results87 ?_
    exact ⟨congrArg Value.bool (sfx_f (fun h => by first | exact absurd h.1 (by omega) | exact absurd h.2 (by assumption))).symm, hS.fin⟩
  refine wl_val (r_move (v := .bool _) rfl) rfl ?_; refine wl_not rfl ?_; refine wl_not rfl ?_; refine wl_not rfl ?_; refine wl_not rfl ?_; refine wl_not rfl ?_; refine wl_not rfl ?_; refine wl_not rfl ?_; refine wl_not rfl ?_; refine wl_not rfl ?_; refine wl_val (r_pick_f rfl (v := .bool false) rfl) rfl ?_; refine wl_val (r_assign (v := .bool _) rfl) rfl ?_; refine wl_nil ?_; refine c_then ?_; refine wp_ret ?_; refine ret1 Try.results87 ?_
  exact ⟨congrArg Value.bool (sfx_f (fun h => by first | exact absurd h.1 (by omega) | exact absurd h.2 (by assumption))).symm, hS.fin⟩

theorem hasPrefix0_ok (l t : List UInt8) (w : World) (hl : l.length ≤ 9223372036854775807) :
    Ret Try.prog 71 [.string ⟨(l).toArray⟩, .string ⟨(t).toArray⟩] w (fun v w' => v = .bool (pfx l t) ∧ St w [] w' []) := by
  refine enter Try.func71 rfl Try.ntmps71 rfl ?_
  have hS := St.refl w []
  refine c_seq ?_; refine c_region ?_; refine wl_val (r_assign (v := .bool false) rfl) rfl ?_; refine wl_nil ?_; refine c_then ?_; refine c_seq ?_; refine c_region ?_; refine wl_val (r_move (v := .string _) rfl) rfl ?_; refine wl_val (r_lenStrL (T := 9) rfl ti9.und rfl _ rfl) rfl ?_; refine wl_val (r_move (v := .string _) rfl) rfl ?_; refine wl_val (r_lenStrL (T := 9) rfl ti9.und rfl _ rfl) rfl ?_
  refine wl_dec (r_geq rfl rfl) rfl (fun h1_4 => ?_) (fun h1_4 => ?_)
  · refine wl_val (r_move (v := .bool _) rfl) rfl ?_
    refine wl_val (r_move (v := .string _) rfl) rfl ?_; refine wl_val (r_move (v := .string _) rfl) rfl ?_; refine wl_val (r_lenStrL (T := 9) rfl ti9.und rfl _ rfl) rfl ?_; refine wl_val (r_slStr_h ti9.und rfl rfl (by omega)) rfl ?_; refine wl_val (r_move (v := .string _) rfl) rfl ?_
    refine wl_dec (r_eqlStrL rfl rfl) rfl (fun h1_11 => ?_) (fun h1_11 => ?_)
    · refine wl_val (r_pick_t rfl (v := .bool _) rfl) rfl ?_
      refine wl_val (r_assign (v := .bool _) rfl) rfl ?_; refine wl_nil ?_; refine c_then ?_; refine wp_ret ?_; refine ret1 Try.results71 ?_
      exact ⟨congrArg Value.bool (decide_eq_true (show t.length ≤ l.length ∧ l.take t.length = t from ⟨by omega, by assumption⟩)).symm, hS.fin⟩
    refine wl_val (r_pick_t rfl (v := .bool _) rfl) rfl ?_; refine wl_val (r_assign (v := .bool _) rfl) rfl ?_; refine wl_nil ?_; refine c_then ?_; refine wp_ret ?_; refine ret1 Try.results71 ?_
    exact ⟨congrArg Value.bool (decide_eq_false (show ¬ (t.length ≤ l.length ∧ l.take t.length = t) from fun h => by first | exact absurd h.1 (by omega) | exact absurd h.2 (by assumption))).symm, hS.fin⟩
  refine wl_val (r_move (v := .bool _) rfl) rfl ?_; refine wl_not rfl ?_; refine wl_not rfl ?_; refine wl_not rfl ?_; refine wl_not rfl ?_; refine wl_not rfl ?_; refine wl_not rfl ?_; refine wl_val (r_pick_f rfl (v := .bool false) rfl) rfl ?_; refine wl_val (r_assign (v := .bool _) rfl) rfl ?_; refine wl_nil ?_; refine c_then ?_; refine wp_ret ?_; refine ret1 Try.results71 ?_
  exact ⟨congrArg Value.bool (decide_eq_false (show ¬ (t.length ≤ l.length ∧ l.take t.length = t) from fun h => by first | exact absurd h.1 (by omega) | exact absurd h.2 (by assumption))).symm, hS.fin⟩

theorem hasPrefix_ok (l t : List UInt8) (w : World) (hl : l.length ≤ 9223372036854775807) :
    Ret Try.prog 36 [.string ⟨(l).toArray⟩, .string ⟨(t).toArray⟩] w (fun v w' => v = .bool (pfx l t) ∧ St w [] w' []) := by
  refine enter Try.func36 rfl Try.ntmps36 rfl ?_
  have hS := St.refl w []
  refine c_seq ?_; refine c_region ?_; refine wl_val (r_assign (v := .bool false) rfl) rfl ?_; refine wl_nil ?_; refine c_then ?_; refine c_seq ?_; refine c_region ?_; refine wl_val (r_move (v := .string _) rfl) rfl ?_; refine wl_val (r_move (v := .string _) rfl) rfl ?_; refine wl_call (r_call fn71 rfl rfl) rfl (hasPrefix0_ok l t _ hl) ?_; rintro _ w1 ⟨rfl, hx2⟩
  have hS3 := hS.ext hx2
  refine wl_val (r_assign (v := .bool _) rfl) rfl ?_; refine wl_nil ?_; refine c_then ?_; refine wp_ret ?_; refine ret1 Try.results36 ?_
  exact ⟨rfl, hS3.fin⟩

theorem hasSuffix_br (l t : List UInt8) (w : World) (hl : l.length ≤ 9223372036854775807) : Ret Try.prog 87 [.string ⟨l.toArray⟩, .string ⟨t.toArray⟩] w (fun v w' => (sfx l t = true ∧ v = .bool true ∧ St w [] w' []) ∨ (sfx l t = false ∧ v = .bool false ∧ St w [] w' [])) :=
  (hasSuffix_ok l t w hl).mono fun v w' h => by
    cases hs : sfx l t with
    | true => rw [hs] at h; exact .inl ⟨rfl, h⟩
    | false => rw [hs] at h; exact .inr ⟨rfl, h⟩

theorem cutSuffix0_ok (l : List UInt8) (w : World) (hl : l.length ≤ 9223372036854775807) :
    Ret Try.prog 70 [.string ⟨(l).toArray⟩, .string ⟨[42].toArray⟩] w (fun v w' => (sfx l [42] = true ∧ v = .tuple #[.string ⟨(headS l).toArray⟩, .bool true] ∧ St w [] w' []) ∨ (sfx l [42] = false ∧ v = .tuple #[.string ⟨(headS l).toArray⟩, .bool false] ∧ St w [] w' [])) := by
  refine enter Try.func70 rfl Try.ntmps70 rfl ?_
  have hS := St.refl w []
  refine c_seq ?_; refine c_region ?_; refine wl_val (r_assign (v := .string ⟨#[]⟩) rfl) rfl ?_; refine wl_val (r_assign (v := .bool false) rfl) rfl ?_; refine wl_nil ?_; refine c_then ?_; refine c_seq ?_; refine c_seq ?_; refine c_region ?_; refine wl_val (r_move (v := .string _) rfl) rfl ?_; refine wl_val (r_move (v := .string _) rfl) rfl ?_; refine wl_call (r_call fn87 rfl rfl) rfl (hasSuffix_br l [42] _ hl) ?_
  rintro _ w1 (⟨hs, rfl, hx2⟩ | ⟨hs, rfl, hx2⟩)
  · have hS3 := hS.ext hx2
    refine wl_val (r_not rfl) rfl ?_; refine wl_nil ?_; refine c_then ?_; refine c_false rfl ?_; refine wp_skip ?_; refine c_then ?_; refine c_seq ?_; refine c_region ?_; refine wl_val (r_move (v := .string _) rfl) rfl ?_; refine wl_val (r_move (v := .string _) rfl) rfl ?_; refine wl_val (r_lenStrL (T := 9) rfl ti9.und rfl _ rfl) rfl ?_; refine wl_val (r_move (v := .string _) rfl) rfl ?_; refine wl_val (r_lenStrL (T := 9) rfl ti9.und rfl _ rfl) rfl ?_; refine wl_val (r_subn rfl rfl (by have := sfx_len hs; simp only [List.length_cons, List.length_nil] at this; omega) hl) rfl ?_; refine wl_val (r_slStr_h ti9.und rfl rfl (Nat.sub_le _ _)) rfl ?_; refine wl_val (r_assign (v := .string _) rfl) rfl ?_; refine wl_val (r_assign (v := .bool true) rfl) rfl ?_; refine wl_nil ?_; refine c_then ?_; refine wp_ret ?_; refine ret2 Try.results70 rfl rfl ?_
    first | (rw [headS_t hs]; exact .inl ⟨hs, rfl, hS3.fin⟩) | (rw [headS_f hs]; exact .inr ⟨hs, rfl, hS3.fin⟩)
  have hS3 := hS.ext hx2
  refine wl_val (r_not rfl) rfl ?_; refine wl_nil ?_; refine c_then ?_; refine c_true rfl ?_; refine c_seq ?_; refine c_region ?_; refine wl_val (r_move (v := .string _) rfl) rfl ?_; refine wl_val (r_assign (v := .string _) rfl) rfl ?_; refine wl_val (r_assign (v := .bool false) rfl) rfl ?_; refine wl_nil ?_; refine c_then ?_; refine wp_ret ?_; refine c_thenR ?_; refine ret2 Try.results70 rfl rfl ?_
  first | (rw [headS_t hs]; exact .inl ⟨hs, rfl, hS3.fin⟩) | (rw [headS_f hs]; exact .inr ⟨hs, rfl, hS3.fin⟩)

theorem cutSuffix_ok (l : List UInt8) (w : World) (hl : l.length ≤ 9223372036854775807) :
    Ret Try.prog 35 [.string ⟨(l).toArray⟩, .string ⟨[42].toArray⟩] w (fun v w' => (sfx l [42] = true ∧ v = .tuple #[.string ⟨(headS l).toArray⟩, .bool true] ∧ St w [] w' []) ∨ (sfx l [42] = false ∧ v = .tuple #[.string ⟨(headS l).toArray⟩, .bool false] ∧ St w [] w' [])) := by
  refine enter Try.func35 rfl Try.ntmps35 rfl ?_
  have hS := St.refl w []
  refine c_seq ?_; refine c_region ?_; refine wl_val (r_assign (v := .string ⟨#[]⟩) rfl) rfl ?_; refine wl_val (r_assign (v := .bool false) rfl) rfl ?_; refine wl_nil ?_; refine c_then ?_; refine c_seq ?_; refine c_region ?_; refine wl_val (r_move (v := .string _) rfl) rfl ?_; refine wl_val (r_move (v := .string _) rfl) rfl ?_; refine wl_call (r_call fn70 rfl rfl) rfl (cutSuffix0_ok l _ hl) ?_
  rintro _ w1 (⟨hs, rfl, hx2⟩ | ⟨hs, rfl, hx2⟩)
  · have hS3 := hS.ext hx2
    refine wl_val (r_extract (v := .string _) rfl rfl) rfl ?_; refine wl_val (r_extract (v := .bool _) rfl rfl) rfl ?_; refine wl_val (r_assign (v := .string _) rfl) rfl ?_; refine wl_val (r_assign (v := .bool _) rfl) rfl ?_; refine wl_nil ?_; refine c_then ?_; refine wp_ret ?_; refine ret2 Try.results35 rfl rfl ?_
    first | exact .inl ⟨hs, rfl, hS3.fin⟩ | exact .inr ⟨hs, rfl, hS3.fin⟩
  have hS3 := hS.ext hx2
  refine wl_val (r_extract (v := .string _) rfl rfl) rfl ?_; refine wl_val (r_extract (v := .bool _) rfl rfl) rfl ?_; refine wl_val (r_assign (v := .string _) rfl) rfl ?_; refine wl_val (r_assign (v := .bool _) rfl) rfl ?_; refine wl_nil ?_; refine c_then ?_; refine wp_ret ?_; refine ret2 Try.results35 rfl rfl ?_
  first | exact .inl ⟨hs, rfl, hS3.fin⟩ | exact .inr ⟨hs, rfl, hS3.fin⟩

theorem trimSuffix0_ok (l : List UInt8) (w : World) (hl : l.length ≤ 9223372036854775807) :
    Ret Try.prog 64 [.string ⟨(l).toArray⟩, .string ⟨[42].toArray⟩] w (fun v w' => v = .string ⟨(headS l).toArray⟩ ∧ St w [] w' []) := by
  refine enter Try.func64 rfl Try.ntmps64 rfl ?_
  have hS := St.refl w []
  refine c_seq ?_; refine c_region ?_; refine wl_val (r_assign (v := .string ⟨#[]⟩) rfl) rfl ?_; refine wl_nil ?_; refine c_then ?_; refine c_seq ?_; refine c_seq ?_; refine c_region ?_; refine wl_val (r_move (v := .string _) rfl) rfl ?_; refine wl_val (r_move (v := .string _) rfl) rfl ?_; refine wl_call (r_call fn87 rfl rfl) rfl (hasSuffix_br l [42] _ hl) ?_
  rintro _ w1 (⟨hs, rfl, hx2⟩ | ⟨hs, rfl, hx2⟩)
  · have hS3 := hS.ext hx2
    refine wl_nil ?_; refine c_then ?_; refine c_true rfl ?_; refine c_seq ?_; refine c_region ?_; refine wl_val (r_move (v := .string _) rfl) rfl ?_; refine wl_val (r_move (v := .string _) rfl) rfl ?_; refine wl_val (r_lenStrL (T := 9) rfl ti9.und rfl _ rfl) rfl ?_; refine wl_val (r_move (v := .string _) rfl) rfl ?_; refine wl_val (r_lenStrL (T := 9) rfl ti9.und rfl _ rfl) rfl ?_; refine wl_val (r_subn rfl rfl (by have := sfx_len hs; simp only [List.length_cons, List.length_nil] at this; omega) hl) rfl ?_; refine wl_val (r_slStr_h ti9.und rfl rfl (Nat.sub_le _ _)) rfl ?_; refine wl_val (r_assign (v := .string _) rfl) rfl ?_; refine wl_nil ?_; refine c_then ?_; refine wp_ret ?_; refine c_thenR ?_; refine ret1 Try.results64 ?_
    first | (rw [headS_t hs]; exact ⟨rfl, hS3.fin⟩) | (rw [headS_f hs]; exact ⟨rfl, hS3.fin⟩)
  have hS3 := hS.ext hx2
  refine wl_nil ?_; refine c_then ?_; refine c_false rfl ?_; refine wp_skip ?_; refine c_then ?_; refine c_seq ?_; refine c_region ?_; refine wl_val (r_move (v := .string _) rfl) rfl ?_; refine wl_val (r_assign (v := .string _) rfl) rfl ?_; refine wl_nil ?_; refine c_then ?_; refine wp_ret ?_; refine ret1 Try.results64 ?_
  first | (rw [headS_t hs]; exact ⟨rfl, hS3.fin⟩) | (rw [headS_f hs]; exact ⟨rfl, hS3.fin⟩)

theorem trimSuffix_ok (l : List UInt8) (w : World) (hl : l.length ≤ 9223372036854775807) :
    Ret Try.prog 30 [.string ⟨(l).toArray⟩, .string ⟨[42].toArray⟩] w (fun v w' => v = .string ⟨(headS l).toArray⟩ ∧ St w [] w' []) := by
  refine enter Try.func30 rfl Try.ntmps30 rfl ?_
  have hS := St.refl w []
  refine c_seq ?_; refine c_region ?_; refine wl_val (r_assign (v := .string ⟨#[]⟩) rfl) rfl ?_; refine wl_nil ?_; refine c_then ?_; refine c_seq ?_; refine c_region ?_; refine wl_val (r_move (v := .string _) rfl) rfl ?_; refine wl_val (r_move (v := .string _) rfl) rfl ?_; refine wl_call (r_call fn64 rfl rfl) rfl (trimSuffix0_ok l _ hl) ?_; rintro _ w1 ⟨rfl, hx2⟩
  have hS3 := hS.ext hx2
  refine wl_val (r_assign (v := .string _) rfl) rfl ?_; refine wl_nil ?_; refine c_then ?_; refine wp_ret ?_; refine ret1 Try.results30 ?_
  exact ⟨rfl, hS3.fin⟩

theorem count_ok (l : List UInt8) (w : World) (hl : l.length ≤ 9223372036854775807) :
    Ret Try.prog 31 [.string ⟨(l).toArray⟩, .string ⟨[42].toArray⟩] w (fun v w' => v = vi (l.count 42) ∧ St w [] w' []) := by
  refine enter Try.func31 rfl Try.ntmps31 rfl ?_
  have hS := St.refl w []
  refine c_seq ?_; refine c_region ?_; refine wl_val (r_assign (v := .int .i64 0) rfl) rfl ?_; refine wl_nil ?_; refine c_then ?_; refine c_seq ?_; refine c_seq ?_; refine c_region ?_; refine wl_val (r_move (v := .string _) rfl) rfl ?_; refine wl_val (r_lenStrL (T := 9) rfl ti9.und rfl _ rfl) rfl ?_; refine wl_dec_f (r_eql rfl rfl) rfl (by decide) ?_; refine wl_nil ?_; refine c_then ?_; refine c_false rfl ?_; refine wp_skip ?_; refine c_then ?_; refine c_seq ?_; refine c_seq ?_; refine c_region ?_; refine wl_val (r_move (v := .string _) rfl) rfl ?_; refine wl_val (r_lenStrL (T := 9) rfl ti9.und rfl _ rfl) rfl ?_; refine wl_dec_t (r_eql rfl rfl) rfl (by decide) ?_; refine wl_nil ?_; refine c_then ?_; refine c_true rfl ?_; refine c_seq ?_; refine c_region ?_; refine wl_val (r_move (v := .string _) rfl) rfl ?_; refine wl_val (r_move (v := .string _) rfl) rfl ?_; refine wl_val (r_indexStr (s := ⟨[42].toArray⟩) (m := 0) ti9.und rfl rfl (get_gt [42] _ (by decide))) rfl ?_; refine wl_val (r_countStr (l := l) (c := 42) Try.func66 (by kernel_rfl) (by kernel_rfl) (by kernel_rfl) (by kernel_rfl) rfl rfl) rfl ?_; refine wl_val (r_assign (v := .int .i64 _) rfl) rfl ?_; refine wl_nil ?_; refine c_then ?_; refine wp_ret ?_; refine c_thenR ?_; refine ret1 Try.results31 ?_
  exact ⟨rfl, hS.fin⟩

theorem fits_ok (p l : List UInt8) (w : World) (hp : p.length ≤ 9223372036854775807) (hl : l.length ≤ 9223372036854775807) :
    Ret Try.prog 29 [.string ⟨(p).toArray⟩, .string ⟨(l).toArray⟩] w (fun v w' => v = .bool (fitsE p l) ∧ St w [] w' []) := by
  refine enter Try.func29 rfl Try.ntmps29 rfl ?_
  have hS := St.refl w []
  refine c_seq ?_; refine c_region ?_; refine wl_val (r_assign (v := .bool false) rfl) rfl ?_; refine wl_nil ?_; refine c_then ?_; refine c_seq ?_; refine c_seq ?_; refine c_region ?_; refine wl_val (r_move (v := .string _) rfl) rfl ?_; refine wl_call (r_call fn35 rfl rfl) rfl (cutSuffix_ok p _ hp) ?_
  rintro _ w1 (⟨hs, rfl, hx2⟩ | ⟨hs, rfl, hx2⟩)
  · have hS3 := hS.ext hx2
    refine wl_val (r_move (v := .tuple _) rfl) rfl ?_; refine wl_val (r_extract (v := .string _) rfl rfl) rfl ?_; refine wl_val (r_extract (v := .bool _) rfl rfl) rfl ?_; refine wl_val (r_assign (v := .string _) rfl) rfl ?_; refine wl_val (r_assign (v := .bool _) rfl) rfl ?_; refine wl_nil ?_; refine c_then ?_; refine c_seq ?_; refine c_region ?_; refine wl_val (r_move (v := .bool _) rfl) rfl ?_; refine wl_nil ?_; refine c_then ?_; refine c_true rfl ?_; refine c_seq ?_; refine c_region ?_; refine wl_val (r_move (v := .string _) rfl) rfl ?_; refine wl_val (r_move (v := .string _) rfl) rfl ?_; refine wl_call (r_call fn36 rfl rfl) rfl (hasPrefix_ok l (headS p) _ hl) ?_; rintro _ w4 ⟨rfl, hx5⟩
    have hS6 := hS3.ext hx5
    refine wl_val (r_assign (v := .bool _) rfl) rfl ?_; refine wl_nil ?_; refine c_then ?_; refine wp_ret ?_; refine c_thenR ?_; refine ret1 Try.results29 ?_
    first | (rw [fitsE_t hs]; exact ⟨rfl, hS6.fin⟩) | (rw [fitsE_f hs]; exact ⟨rfl, hS6.fin⟩)
  have hS3 := hS.ext hx2
  refine wl_val (r_move (v := .tuple _) rfl) rfl ?_; refine wl_val (r_extract (v := .string _) rfl rfl) rfl ?_; refine wl_val (r_extract (v := .bool _) rfl rfl) rfl ?_; refine wl_val (r_assign (v := .string _) rfl) rfl ?_; refine wl_val (r_assign (v := .bool _) rfl) rfl ?_; refine wl_nil ?_; refine c_then ?_; refine c_seq ?_; refine c_region ?_; refine wl_val (r_move (v := .bool _) rfl) rfl ?_; refine wl_nil ?_; refine c_then ?_; refine c_false rfl ?_; refine wp_skip ?_; refine c_then ?_; refine c_seq ?_; refine c_region ?_; refine wl_val (r_move (v := .string _) rfl) rfl ?_; refine wl_val (r_move (v := .string _) rfl) rfl ?_; refine wl_val (r_eqlStrL rfl rfl) rfl ?_; refine wl_val (r_assign (v := .bool _) rfl) rfl ?_; refine wl_nil ?_; refine c_then ?_; refine wp_ret ?_; refine ret1 Try.results29 ?_
  first | (rw [fitsE_t hs]; exact ⟨rfl, hS3.fin⟩) | (rw [fitsE_f hs]; exact ⟨rfl, hS3.fin⟩)

theorem rfits_ok (p l : List UInt8) (w : World) (hp : p.length ≤ 9223372036854775807) (hl : l.length ≤ 9223372036854775807) :
    Ret Try.prog 11 [.string ⟨(p).toArray⟩, .string ⟨(l).toArray⟩] w (fun v w' => v = .bool (fitsE p l) ∧ St w [] w' []) := by
  refine enter Try.func11 rfl Try.ntmps11 rfl ?_
  have hS := St.refl w []
  refine c_seq ?_; refine c_region ?_; refine wl_val (r_assign (v := .bool false) rfl) rfl ?_; refine wl_nil ?_; refine c_then ?_; refine c_seq ?_; refine c_seq ?_; refine c_region ?_; refine wl_val (r_move (v := .string _) rfl) rfl ?_; refine wl_call (r_call fn35 rfl rfl) rfl (cutSuffix_ok p _ hp) ?_
  rintro _ w1 (⟨hs, rfl, hx2⟩ | ⟨hs, rfl, hx2⟩)
  · have hS3 := hS.ext hx2
    refine wl_val (r_move (v := .tuple _) rfl) rfl ?_; refine wl_val (r_extract (v := .string _) rfl rfl) rfl ?_; refine wl_val (r_extract (v := .bool _) rfl rfl) rfl ?_; refine wl_val (r_assign (v := .string _) rfl) rfl ?_; refine wl_val (r_assign (v := .bool _) rfl) rfl ?_; refine wl_nil ?_; refine c_then ?_; refine c_seq ?_; refine c_region ?_; refine wl_val (r_move (v := .bool _) rfl) rfl ?_; refine wl_nil ?_; refine c_then ?_; refine c_true rfl ?_; refine c_seq ?_; refine c_region ?_; refine wl_val (r_move (v := .string _) rfl) rfl ?_; refine wl_val (r_move (v := .string _) rfl) rfl ?_; refine wl_call (r_call fn36 rfl rfl) rfl (hasPrefix_ok l (headS p) _ hl) ?_; rintro _ w4 ⟨rfl, hx5⟩
    have hS6 := hS3.ext hx5
    refine wl_val (r_assign (v := .bool _) rfl) rfl ?_; refine wl_nil ?_; refine c_then ?_; refine wp_ret ?_; refine c_thenR ?_; refine ret1 Try.results11 ?_
    first | (rw [fitsE_t hs]; exact ⟨rfl, hS6.fin⟩) | (rw [fitsE_f hs]; exact ⟨rfl, hS6.fin⟩)
  have hS3 := hS.ext hx2
  refine wl_val (r_move (v := .tuple _) rfl) rfl ?_; refine wl_val (r_extract (v := .string _) rfl rfl) rfl ?_; refine wl_val (r_extract (v := .bool _) rfl rfl) rfl ?_; refine wl_val (r_assign (v := .string _) rfl) rfl ?_; refine wl_val (r_assign (v := .bool _) rfl) rfl ?_; refine wl_nil ?_; refine c_then ?_; refine c_seq ?_; refine c_region ?_; refine wl_val (r_move (v := .bool _) rfl) rfl ?_; refine wl_nil ?_; refine c_then ?_; refine c_false rfl ?_; refine wp_skip ?_; refine c_then ?_; refine c_seq ?_; refine c_region ?_; refine wl_val (r_move (v := .string _) rfl) rfl ?_; refine wl_val (r_move (v := .string _) rfl) rfl ?_; refine wl_val (r_eqlStrL rfl rfl) rfl ?_; refine wl_val (r_assign (v := .bool _) rfl) rfl ?_; refine wl_nil ?_; refine c_then ?_; refine wp_ret ?_; refine ret1 Try.results11 ?_
  first | (rw [fitsE_t hs]; exact ⟨rfl, hS3.fin⟩) | (rw [fitsE_f hs]; exact ⟨rfl, hS3.fin⟩)

theorem isPattern_ok (l : List UInt8) (w : World) (hl : l.length ≤ 9223372036854775807) :
    Ret Try.prog 27 [.string ⟨(l).toArray⟩] w (fun v w' => (patE l = true ∧ v = .bool true ∧ St w [] w' []) ∨ (patE l = false ∧ v = .bool false ∧ St w [] w' [])) := by
  refine enter Try.func27 rfl Try.ntmps27 rfl ?_
  have hS := St.refl w []
  refine c_seq ?_; refine c_region ?_; refine wl_val (r_assign (v := .bool false) rfl) rfl ?_; refine wl_nil ?_; refine c_then ?_; refine c_seq ?_; refine c_region ?_; refine wl_val (r_move (v := .string _) rfl) rfl ?_; refine wl_call (r_call fn35 rfl rfl) rfl (cutSuffix_ok l _ hl) ?_
  rintro _ w1 (⟨hs, rfl, hx2⟩ | ⟨hs, rfl, hx2⟩)
  · have hS3 := hS.ext hx2
    refine wl_val (r_move (v := .tuple _) rfl) rfl ?_; refine wl_val (r_extract (v := .string _) rfl rfl) rfl ?_; refine wl_val (r_extract (v := .bool _) rfl rfl) rfl ?_; refine wl_val (r_assign (v := .string _) rfl) rfl ?_; refine wl_val (r_assign (v := .bool _) rfl) rfl ?_; refine wl_nil ?_; refine c_then ?_; refine c_seq ?_; refine c_region ?_; refine wl_val (r_move (v := .string _) rfl) rfl ?_; refine wl_call (r_call fn63 rfl rfl) rfl (isName_br _ _ (Nat.le_trans (headS_le l) hl)) ?_
    rintro _ w4 (⟨hnm, rfl, hx5⟩ | ⟨hnm, rfl, hx5⟩)
    · have hS6 := hS3.ext hx5
      refine wl_val (r_move (v := .bool _) rfl) rfl ?_; refine wl_not rfl ?_; refine wl_not rfl ?_; refine wl_not rfl ?_; refine wl_not rfl ?_; refine wl_not rfl ?_; refine wl_val (r_pick_t rfl (v := .bool true) rfl) rfl ?_; refine wl_val (r_assign (v := .bool _) rfl) rfl ?_; refine wl_nil ?_; refine c_then ?_; refine wp_ret ?_; refine ret1 Try.results27 ?_
      first | exact .inl ⟨patE_name hnm, rfl, hS6.fin⟩ | exact .inl ⟨by rw [patE, hs, decide_eq_true h2_6, Bool.and_true, Bool.or_true], rfl, hS6.fin⟩ | exact .inr ⟨by rw [patE, hnm, hs, decide_eq_false h2_6]; rfl, rfl, hS6.fin⟩ | exact .inr ⟨by rw [patE, hnm, hs]; rfl, rfl, hS6.fin⟩
    have hS6 := hS3.ext hx5
    refine wl_val (r_move (v := .bool _) rfl) rfl ?_; refine wl_val (r_move (v := .bool _) rfl) rfl ?_; refine wl_val (r_move (v := .bool _) rfl) rfl ?_; refine wl_val (r_move (v := .string _) rfl) rfl ?_
    refine wl_dec (r_eqlStrL rfl rfl) rfl (fun h2_6 => ?_) (fun h2_6 => ?_)
    · refine wl_val (r_pick_t rfl (v := .bool _) rfl) rfl ?_
      refine wl_val (r_pick_f rfl (v := .bool _) rfl) rfl ?_; refine wl_val (r_assign (v := .bool _) rfl) rfl ?_; refine wl_nil ?_; refine c_then ?_; refine wp_ret ?_; refine ret1 Try.results27 ?_
      first | exact .inl ⟨patE_name hnm, rfl, hS6.fin⟩ | exact .inl ⟨by rw [patE, hs, decide_eq_true h2_6, Bool.and_true, Bool.or_true], rfl, hS6.fin⟩ | exact .inr ⟨by rw [patE, hnm, hs, decide_eq_false h2_6]; rfl, rfl, hS6.fin⟩ | exact .inr ⟨by rw [patE, hnm, hs]; rfl, rfl, hS6.fin⟩
    refine wl_val (r_pick_t rfl (v := .bool _) rfl) rfl ?_; refine wl_val (r_pick_f rfl (v := .bool _) rfl) rfl ?_; refine wl_val (r_assign (v := .bool _) rfl) rfl ?_; refine wl_nil ?_; refine c_then ?_; refine wp_ret ?_; refine ret1 Try.results27 ?_
    first | exact .inl ⟨patE_name hnm, rfl, hS6.fin⟩ | exact .inl ⟨by rw [patE, hs, decide_eq_true h2_6, Bool.and_true, Bool.or_true], rfl, hS6.fin⟩ | exact .inr ⟨by rw [patE, hnm, hs, decide_eq_false h2_6]; rfl, rfl, hS6.fin⟩ | exact .inr ⟨by rw [patE, hnm, hs]; rfl, rfl, hS6.fin⟩
  have hS3 := hS.ext hx2
  refine wl_val (r_move (v := .tuple _) rfl) rfl ?_; refine wl_val (r_extract (v := .string _) rfl rfl) rfl ?_; refine wl_val (r_extract (v := .bool _) rfl rfl) rfl ?_; refine wl_val (r_assign (v := .string _) rfl) rfl ?_; refine wl_val (r_assign (v := .bool _) rfl) rfl ?_; refine wl_nil ?_; refine c_then ?_; refine c_seq ?_; refine c_region ?_; refine wl_val (r_move (v := .string _) rfl) rfl ?_; refine wl_call (r_call fn63 rfl rfl) rfl (isName_br _ _ (Nat.le_trans (headS_le l) hl)) ?_
  rintro _ w7 (⟨hnm, rfl, hx8⟩ | ⟨hnm, rfl, hx8⟩)
  · have hS9 := hS3.ext hx8
    refine wl_val (r_move (v := .bool _) rfl) rfl ?_; refine wl_not rfl ?_; refine wl_not rfl ?_; refine wl_not rfl ?_; refine wl_not rfl ?_; refine wl_not rfl ?_; refine wl_val (r_pick_t rfl (v := .bool true) rfl) rfl ?_; refine wl_val (r_assign (v := .bool _) rfl) rfl ?_; refine wl_nil ?_; refine c_then ?_; refine wp_ret ?_; refine ret1 Try.results27 ?_
    first | exact .inl ⟨patE_name hnm, rfl, hS9.fin⟩ | exact .inl ⟨by rw [patE, hs, decide_eq_true h2_6, Bool.and_true, Bool.or_true], rfl, hS9.fin⟩ | exact .inr ⟨by rw [patE, hnm, hs, decide_eq_false h2_6]; rfl, rfl, hS9.fin⟩ | exact .inr ⟨by rw [patE, hnm, hs]; rfl, rfl, hS9.fin⟩
  have hS9 := hS3.ext hx8
  refine wl_val (r_move (v := .bool _) rfl) rfl ?_; refine wl_val (r_move (v := .bool _) rfl) rfl ?_; refine wl_val (r_move (v := .bool _) rfl) rfl ?_; refine wl_not rfl ?_; refine wl_not rfl ?_; refine wl_val (r_pick_f rfl (v := .bool false) rfl) rfl ?_; refine wl_val (r_pick_f rfl (v := .bool _) rfl) rfl ?_; refine wl_val (r_assign (v := .bool _) rfl) rfl ?_; refine wl_nil ?_; refine c_then ?_; refine wp_ret ?_; refine ret1 Try.results27 ?_
  first | exact .inl ⟨patE_name hnm, rfl, hS9.fin⟩ | exact .inl ⟨by rw [patE, hs, decide_eq_true h2_6, Bool.and_true, Bool.or_true], rfl, hS9.fin⟩ | exact .inr ⟨by rw [patE, hnm, hs, decide_eq_false h2_6]; rfl, rfl, hS9.fin⟩ | exact .inr ⟨by rw [patE, hnm, hs]; rfl, rfl, hS9.fin⟩

theorem notName_ok (l : List UInt8) (w : World) (hl : l.length ≤ 9223372036854775807) :
    Ret Try.prog 28 [.string ⟨(l).toArray⟩] w (fun v w' => (nameE l = false ∧ v = .bool true ∧ St w [] w' []) ∨ (nameE l = true ∧ v = .bool false ∧ St w [] w' [])) := by
  refine enter Try.func28 rfl Try.ntmps28 rfl ?_
  have hS := St.refl w []
  refine c_seq ?_; refine c_region ?_; refine wl_val (r_assign (v := .bool false) rfl) rfl ?_; refine wl_nil ?_; refine c_then ?_; refine c_seq ?_; refine c_region ?_; refine wl_val (r_move (v := .string _) rfl) rfl ?_; refine wl_call (r_call fn63 rfl rfl) rfl (isName_br l _ hl) ?_
  rintro _ w1 (⟨hnm, rfl, hx2⟩ | ⟨hnm, rfl, hx2⟩)
  · have hS3 := hS.ext hx2
    refine wl_val (r_not rfl) rfl ?_; refine wl_val (r_assign (v := .bool _) rfl) rfl ?_; refine wl_nil ?_; refine c_then ?_; refine wp_ret ?_; refine ret1 Try.results28 ?_
    first | exact .inl ⟨hnm, rfl, hS3.fin⟩ | exact .inr ⟨hnm, rfl, hS3.fin⟩
  have hS3 := hS.ext hx2
  refine wl_val (r_not rfl) rfl ?_; refine wl_val (r_assign (v := .bool _) rfl) rfl ?_; refine wl_nil ?_; refine c_then ?_; refine wp_ret ?_; refine ret1 Try.results28 ?_
  first | exact .inl ⟨hnm, rfl, hS3.fin⟩ | exact .inr ⟨hnm, rfl, hS3.fin⟩

theorem pfits_ok (p l : List UInt8) (w : World) (hp : p.length ≤ 9223372036854775807) (hl : l.length ≤ 9223372036854775807) :
    Ret Try.prog 8 [.string ⟨(p).toArray⟩, .string ⟨(l).toArray⟩] w (fun v w' => ((patE p = false ∨ nameE l = false) ∧ v = .tuple #[.bool false, vi 6] ∧ St w [] w' []) ∨ ((patE p = true ∧ nameE l = true) ∧ v = .tuple #[.bool (fitsE p l), vi 0] ∧ St w [] w' [])) := by
  refine enter Try.func8 rfl Try.ntmps8 rfl ?_
  have hS := St.refl w []
  refine c_seq ?_; refine c_region ?_; refine wl_val (r_assign (v := .bool false) rfl) rfl ?_; refine wl_val (r_assign (v := .int .i64 0) rfl) rfl ?_; refine wl_nil ?_; refine c_then ?_; refine c_seq ?_; refine c_seq ?_; refine c_region ?_; refine wl_val (r_move (v := .string _) rfl) rfl ?_; refine wl_call (r_call fn27 rfl rfl) rfl (isPattern_ok p _ hp) ?_
  rintro _ w1 (⟨hpt, rfl, hx2⟩ | ⟨hpt, rfl, hx2⟩)
  · have hS3 := hS.ext hx2
    refine wl_val (r_not rfl) rfl ?_; refine wl_val (r_move (v := .bool _) rfl) rfl ?_; refine wl_val (r_move (v := .string _) rfl) rfl ?_; refine wl_call (r_call fn28 rfl rfl) rfl (notName_ok l _ hl) ?_
    rintro _ w4 (⟨hnn, rfl, hx5⟩ | ⟨hnn, rfl, hx5⟩)
    · have hS6 := hS3.ext hx5
      refine wl_val (r_pick_f rfl (v := .bool _) rfl) rfl ?_; refine wl_nil ?_; refine c_then ?_; refine c_true rfl ?_; refine c_seq ?_; refine c_region ?_; refine wl_val (r_assign (v := .bool false) rfl) rfl ?_; refine wl_val (r_assign (v := .int .i64 6) rfl) rfl ?_; refine wl_nil ?_; refine c_then ?_; refine wp_ret ?_; refine c_thenR ?_; refine ret2 Try.results8 rfl rfl ?_
      first | exact .inl ⟨.inl hpt, rfl, hS6.fin⟩ | exact .inl ⟨.inr hnn, rfl, hS6.fin⟩ | exact .inr ⟨⟨hpt, hnn⟩, rfl, hS6.fin⟩
    have hS6 := hS3.ext hx5
    refine wl_val (r_pick_f rfl (v := .bool _) rfl) rfl ?_; refine wl_nil ?_; refine c_then ?_; refine c_false rfl ?_; refine wp_skip ?_; refine c_then ?_; refine c_seq ?_; refine c_region ?_; refine wl_val (r_move (v := .string _) rfl) rfl ?_; refine wl_val (r_move (v := .string _) rfl) rfl ?_; refine wl_call (r_call fn29 rfl rfl) rfl (fits_ok p l _ hp hl) ?_; rintro _ w7 ⟨rfl, hx8⟩
    have hS9 := hS6.ext hx8
    refine wl_val (r_assign (v := .bool _) rfl) rfl ?_; refine wl_val (r_assign (v := .int .i64 0) rfl) rfl ?_; refine wl_nil ?_; refine c_then ?_; refine wp_ret ?_; refine ret2 Try.results8 rfl rfl ?_
    first | exact .inl ⟨.inl hpt, rfl, hS9.fin⟩ | exact .inl ⟨.inr hnn, rfl, hS9.fin⟩ | exact .inr ⟨⟨hpt, hnn⟩, rfl, hS9.fin⟩
  have hS3 := hS.ext hx2
  refine wl_val (r_not rfl) rfl ?_; refine wl_val (r_move (v := .bool _) rfl) rfl ?_; refine wl_not rfl ?_; refine wl_not rfl ?_; refine wl_val (r_pick_t rfl (v := .bool true) rfl) rfl ?_; refine wl_nil ?_; refine c_then ?_; refine c_true rfl ?_; refine c_seq ?_; refine c_region ?_; refine wl_val (r_assign (v := .bool false) rfl) rfl ?_; refine wl_val (r_assign (v := .int .i64 6) rfl) rfl ?_; refine wl_nil ?_; refine c_then ?_; refine wp_ret ?_; refine c_thenR ?_; refine ret2 Try.results8 rfl rfl ?_
  first | exact .inl ⟨.inl hpt, rfl, hS3.fin⟩ | exact .inl ⟨.inr hnn, rfl, hS3.fin⟩ | exact .inr ⟨⟨hpt, hnn⟩, rfl, hS3.fin⟩

end Go.Proofs.Ytafdmlpfgpaicaa
