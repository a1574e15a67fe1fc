/- What the law's proof leans on. No condition. -/
import Derived.Test.YtmonnmndphlkaaaGreatPPdAH
import Derived.Test.YtmonnmndphlkaaaGreatPPdAZ
import Derived.Test.YtmonnmndphlkaaaGreatPPdAP
namespace Go.Proofs.YtmonnmndphlkaaaGreat
open Go.Kw
set_option linter.unusedVariables false
set_option linter.unusedSimpArgs false
set_option maxRecDepth 100000
theorem hasSuffix_ok (l t : List UInt8) (w : World) (hl : l.length ≤ 9223372036854775807) :
    Ret Tryz.prog 84 [.string ⟨(l).toArray⟩, .string ⟨(t).toArray⟩] w (fun v w' => v = .bool (sfx l t) ∧ St w [] w' []) := by
  refine enter Tryz.func84 rfl Tryz.ntmps84 rfl ?_
  have hS := St.refl w []
  refine c_seq ?_; refine c_region ?_; refine wl_val (r_assign (v := .bool false) rfl) rfl ?_; refine wl_nil ?_; refine c_then ?_; refine c_seq ?_; refine c_region ?_; refine wl_val (r_move (v := .string _) rfl) rfl ?_; refine wl_val (r_lenStrL (T := 9) rfl ti9.und rfl _ rfl) rfl ?_; refine wl_val (r_move (v := .string _) rfl) rfl ?_; refine wl_val (r_lenStrL (T := 9) rfl ti9.und rfl _ rfl) rfl ?_
  refine wl_dec (r_geq rfl rfl) rfl (fun h1_4 => ?_) (fun h1_4 => ?_)
  · refine wl_val (r_move (v := .bool _) rfl) rfl ?_
    refine wl_val (r_move (v := .string _) rfl) rfl ?_; refine wl_val (r_move (v := .string _) rfl) rfl ?_; refine wl_val (r_lenStrL (T := 9) rfl ti9.und rfl _ rfl) rfl ?_; refine wl_val (r_move (v := .string _) rfl) rfl ?_; refine wl_val (r_lenStrL (T := 9) rfl ti9.und rfl _ rfl) rfl ?_; refine wl_val (r_subn rfl rfl (by omega) (by omega)) rfl ?_; refine wl_val (r_slStr_l ti9.und rfl rfl (by omega)) rfl ?_; refine wl_val (r_move (v := .string _) rfl) rfl ?_
    refine wl_dec (r_eqlStrL rfl rfl) rfl (fun h1_14 => ?_) (fun h1_14 => ?_)
    · refine wl_val (r_pick_t rfl (v := .bool _) rfl) rfl ?_
      refine wl_val (r_assign (v := .bool _) rfl) rfl ?_; refine wl_nil ?_; refine c_then ?_; refine wp_ret ?_; refine ret1 Tryz.results84 ?_
      exact ⟨congrArg Value.bool (sfx_t (by omega) (by assumption)).symm, hS.fin⟩
    refine wl_val (r_pick_t rfl (v := .bool _) rfl) rfl ?_; refine wl_val (r_assign (v := .bool _) rfl) rfl ?_; refine wl_nil ?_; refine c_then ?_; refine wp_ret ?_; refine ret1 Tryz.results84 ?_
    exact ⟨congrArg Value.bool (sfx_f (fun h => by first | exact absurd h.1 (by omega) | exact absurd h.2 (by assumption))).symm, hS.fin⟩
  refine wl_val (r_move (v := .bool _) rfl) rfl ?_; refine wl_not rfl ?_; refine wl_not rfl ?_; refine wl_not rfl ?_; refine wl_not rfl ?_; refine wl_not rfl ?_; refine wl_not rfl ?_; refine wl_not rfl ?_; refine wl_not rfl ?_; refine wl_not rfl ?_; refine wl_val (r_pick_f rfl (v := .bool false) rfl) rfl ?_; refine wl_val (r_assign (v := .bool _) rfl) rfl ?_; refine wl_nil ?_; refine c_then ?_; refine wp_ret ?_; refine ret1 Tryz.results84 ?_
  exact ⟨congrArg Value.bool (sfx_f (fun h => by first | exact absurd h.1 (by omega) | exact absurd h.2 (by assumption))).symm, hS.fin⟩

theorem hasPrefix0_ok (l t : List UInt8) (w : World) (hl : l.length ≤ 9223372036854775807) :
    Ret Tryz.prog 144 [.string ⟨(l).toArray⟩, .string ⟨(t).toArray⟩] w (fun v w' => v = .bool (pfx l t) ∧ St w [] w' []) := by
  refine enter Tryz.func144 rfl Tryz.ntmps144 rfl ?_
  have hS := St.refl w []
  refine c_seq ?_; refine c_region ?_; refine wl_val (r_assign (v := .bool false) rfl) rfl ?_; refine wl_nil ?_; refine c_then ?_; refine c_seq ?_; refine c_region ?_; refine wl_val (r_move (v := .string _) rfl) rfl ?_; refine wl_val (r_lenStrL (T := 9) rfl ti9.und rfl _ rfl) rfl ?_; refine wl_val (r_move (v := .string _) rfl) rfl ?_; refine wl_val (r_lenStrL (T := 9) rfl ti9.und rfl _ rfl) rfl ?_
  refine wl_dec (r_geq rfl rfl) rfl (fun h1_4 => ?_) (fun h1_4 => ?_)
  · refine wl_val (r_move (v := .bool _) rfl) rfl ?_
    refine wl_val (r_move (v := .string _) rfl) rfl ?_; refine wl_val (r_move (v := .string _) rfl) rfl ?_; refine wl_val (r_lenStrL (T := 9) rfl ti9.und rfl _ rfl) rfl ?_; refine wl_val (r_slStr_h ti9.und rfl rfl (by omega)) rfl ?_; refine wl_val (r_move (v := .string _) rfl) rfl ?_
    refine wl_dec (r_eqlStrL rfl rfl) rfl (fun h1_11 => ?_) (fun h1_11 => ?_)
    · refine wl_val (r_pick_t rfl (v := .bool _) rfl) rfl ?_
      refine wl_val (r_assign (v := .bool _) rfl) rfl ?_; refine wl_nil ?_; refine c_then ?_; refine wp_ret ?_; refine ret1 Tryz.results144 ?_
      exact ⟨congrArg Value.bool (decide_eq_true (show t.length ≤ l.length ∧ l.take t.length = t from ⟨by omega, by assumption⟩)).symm, hS.fin⟩
    refine wl_val (r_pick_t rfl (v := .bool _) rfl) rfl ?_; refine wl_val (r_assign (v := .bool _) rfl) rfl ?_; refine wl_nil ?_; refine c_then ?_; refine wp_ret ?_; refine ret1 Tryz.results144 ?_
    exact ⟨congrArg Value.bool (decide_eq_false (show ¬ (t.length ≤ l.length ∧ l.take t.length = t) from fun h => by first | exact absurd h.1 (by omega) | exact absurd h.2 (by assumption))).symm, hS.fin⟩
  refine wl_val (r_move (v := .bool _) rfl) rfl ?_; refine wl_not rfl ?_; refine wl_not rfl ?_; refine wl_not rfl ?_; refine wl_not rfl ?_; refine wl_not rfl ?_; refine wl_not rfl ?_; refine wl_val (r_pick_f rfl (v := .bool false) rfl) rfl ?_; refine wl_val (r_assign (v := .bool _) rfl) rfl ?_; refine wl_nil ?_; refine c_then ?_; refine wp_ret ?_; refine ret1 Tryz.results144 ?_
  exact ⟨congrArg Value.bool (decide_eq_false (show ¬ (t.length ≤ l.length ∧ l.take t.length = t) from fun h => by first | exact absurd h.1 (by omega) | exact absurd h.2 (by assumption))).symm, hS.fin⟩

theorem hasPrefix_ok (l t : List UInt8) (w : World) (hl : l.length ≤ 9223372036854775807) :
    Ret Tryz.prog 113 [.string ⟨(l).toArray⟩, .string ⟨(t).toArray⟩] w (fun v w' => v = .bool (pfx l t) ∧ St w [] w' []) := by
  refine enter Tryz.func113 rfl Tryz.ntmps113 rfl ?_
  have hS := St.refl w []
  refine c_seq ?_; refine c_region ?_; refine wl_val (r_assign (v := .bool false) rfl) rfl ?_; refine wl_nil ?_; refine c_then ?_; refine c_seq ?_; refine c_region ?_; refine wl_val (r_move (v := .string _) rfl) rfl ?_; refine wl_val (r_move (v := .string _) rfl) rfl ?_; refine wl_call (r_call fn144 rfl rfl) rfl (hasPrefix0_ok l t _ hl) ?_; rintro _ w1 ⟨rfl, hx2⟩
  have hS3 := hS.ext hx2
  refine wl_val (r_assign (v := .bool _) rfl) rfl ?_; refine wl_nil ?_; refine c_then ?_; refine wp_ret ?_; refine ret1 Tryz.results113 ?_
  exact ⟨rfl, hS3.fin⟩

theorem hasSuffix_br (l t : List UInt8) (w : World) (hl : l.length ≤ 9223372036854775807) : Ret Tryz.prog 84 [.string ⟨l.toArray⟩, .string ⟨t.toArray⟩] w (fun v w' => (sfx l t = true ∧ v = .bool true ∧ St w [] w' []) ∨ (sfx l t = false ∧ v = .bool false ∧ St w [] w' [])) :=
  (hasSuffix_ok l t w hl).mono fun v w' h => by
    cases hs : sfx l t with
    | true => rw [hs] at h; exact .inl ⟨rfl, h⟩
    | false => rw [hs] at h; exact .inr ⟨rfl, h⟩

theorem cutSuffix0_ok (l : List UInt8) (w : World) (hl : l.length ≤ 9223372036854775807) :
    Ret Tryz.prog 61 [.string ⟨(l).toArray⟩, .string ⟨[42].toArray⟩] w (fun v w' => (sfx l [42] = true ∧ v = .tuple #[.string ⟨(headS l).toArray⟩, .bool true] ∧ St w [] w' []) ∨ (sfx l [42] = false ∧ v = .tuple #[.string ⟨(headS l).toArray⟩, .bool false] ∧ St w [] w' [])) := by
  refine enter Tryz.func61 rfl Tryz.ntmps61 rfl ?_
  have hS := St.refl w []
  refine c_seq ?_; refine c_region ?_; refine wl_val (r_assign (v := .string ⟨#[]⟩) rfl) rfl ?_; refine wl_val (r_assign (v := .bool false) rfl) rfl ?_; refine wl_nil ?_; refine c_then ?_; refine c_seq ?_; refine c_seq ?_; refine c_region ?_; refine wl_val (r_move (v := .string _) rfl) rfl ?_; refine wl_val (r_move (v := .string _) rfl) rfl ?_; refine wl_call (r_call fn84 rfl rfl) rfl (hasSuffix_br l [42] _ hl) ?_
  rintro _ w1 (⟨hs, rfl, hx2⟩ | ⟨hs, rfl, hx2⟩)
  · have hS3 := hS.ext hx2
    refine wl_val (r_not rfl) rfl ?_; refine wl_nil ?_; refine c_then ?_; refine c_false rfl ?_; refine wp_skip ?_; refine c_then ?_; refine c_seq ?_; refine c_region ?_; refine wl_val (r_move (v := .string _) rfl) rfl ?_; refine wl_val (r_move (v := .string _) rfl) rfl ?_; refine wl_val (r_lenStrL (T := 9) rfl ti9.und rfl _ rfl) rfl ?_; refine wl_val (r_move (v := .string _) rfl) rfl ?_; refine wl_val (r_lenStrL (T := 9) rfl ti9.und rfl _ rfl) rfl ?_; refine wl_val (r_subn rfl rfl (by have := sfx_len hs; simp only [List.length_cons, List.length_nil] at this; omega) hl) rfl ?_; refine wl_val (r_slStr_h ti9.und rfl rfl (Nat.sub_le _ _)) rfl ?_; refine wl_val (r_assign (v := .string _) rfl) rfl ?_; refine wl_val (r_assign (v := .bool true) rfl) rfl ?_; refine wl_nil ?_; refine c_then ?_; refine wp_ret ?_; refine ret2 Tryz.results61 rfl rfl ?_
    first | (rw [headS_t hs]; exact .inl ⟨hs, rfl, hS3.fin⟩) | (rw [headS_f hs]; exact .inr ⟨hs, rfl, hS3.fin⟩)
  have hS3 := hS.ext hx2
  refine wl_val (r_not rfl) rfl ?_; refine wl_nil ?_; refine c_then ?_; refine c_true rfl ?_; refine c_seq ?_; refine c_region ?_; refine wl_val (r_move (v := .string _) rfl) rfl ?_; refine wl_val (r_assign (v := .string _) rfl) rfl ?_; refine wl_val (r_assign (v := .bool false) rfl) rfl ?_; refine wl_nil ?_; refine c_then ?_; refine wp_ret ?_; refine c_thenR ?_; refine ret2 Tryz.results61 rfl rfl ?_
  first | (rw [headS_t hs]; exact .inl ⟨hs, rfl, hS3.fin⟩) | (rw [headS_f hs]; exact .inr ⟨hs, rfl, hS3.fin⟩)

theorem cutSuffix_ok (l : List UInt8) (w : World) (hl : l.length ≤ 9223372036854775807) :
    Ret Tryz.prog 27 [.string ⟨(l).toArray⟩, .string ⟨[42].toArray⟩] w (fun v w' => (sfx l [42] = true ∧ v = .tuple #[.string ⟨(headS l).toArray⟩, .bool true] ∧ St w [] w' []) ∨ (sfx l [42] = false ∧ v = .tuple #[.string ⟨(headS l).toArray⟩, .bool false] ∧ St w [] w' [])) := by
  refine enter Tryz.func27 rfl Tryz.ntmps27 rfl ?_
  have hS := St.refl w []
  refine c_seq ?_; refine c_region ?_; refine wl_val (r_assign (v := .string ⟨#[]⟩) rfl) rfl ?_; refine wl_val (r_assign (v := .bool false) rfl) rfl ?_; refine wl_nil ?_; refine c_then ?_; refine c_seq ?_; refine c_region ?_; refine wl_val (r_move (v := .string _) rfl) rfl ?_; refine wl_val (r_move (v := .string _) rfl) rfl ?_; refine wl_call (r_call fn61 rfl rfl) rfl (cutSuffix0_ok l _ hl) ?_
  rintro _ w1 (⟨hs, rfl, hx2⟩ | ⟨hs, rfl, hx2⟩)
  · have hS3 := hS.ext hx2
    refine wl_val (r_extract (v := .string _) rfl rfl) rfl ?_; refine wl_val (r_extract (v := .bool _) rfl rfl) rfl ?_; refine wl_val (r_assign (v := .string _) rfl) rfl ?_; refine wl_val (r_assign (v := .bool _) rfl) rfl ?_; refine wl_nil ?_; refine c_then ?_; refine wp_ret ?_; refine ret2 Tryz.results27 rfl rfl ?_
    first | exact .inl ⟨hs, rfl, hS3.fin⟩ | exact .inr ⟨hs, rfl, hS3.fin⟩
  have hS3 := hS.ext hx2
  refine wl_val (r_extract (v := .string _) rfl rfl) rfl ?_; refine wl_val (r_extract (v := .bool _) rfl rfl) rfl ?_; refine wl_val (r_assign (v := .string _) rfl) rfl ?_; refine wl_val (r_assign (v := .bool _) rfl) rfl ?_; refine wl_nil ?_; refine c_then ?_; refine wp_ret ?_; refine ret2 Tryz.results27 rfl rfl ?_
  first | exact .inl ⟨hs, rfl, hS3.fin⟩ | exact .inr ⟨hs, rfl, hS3.fin⟩

theorem fits_ok (p l : List UInt8) (w : World) (hp : p.length ≤ 9223372036854775807) (hl : l.length ≤ 9223372036854775807) :
    Ret Tryz.prog 109 [.string ⟨(p).toArray⟩, .string ⟨(l).toArray⟩] w (fun v w' => v = .bool (fitsE p l) ∧ St w [] w' []) := by
  refine enter Tryz.func109 rfl Tryz.ntmps109 rfl ?_
  have hS := St.refl w []
  refine c_seq ?_; refine c_region ?_; refine wl_val (r_assign (v := .bool false) rfl) rfl ?_; refine wl_nil ?_; refine c_then ?_; refine c_seq ?_; refine c_seq ?_; refine c_region ?_; refine wl_val (r_move (v := .string _) rfl) rfl ?_; refine wl_call (r_call fn27 rfl rfl) rfl (cutSuffix_ok p _ hp) ?_
  rintro _ w1 (⟨hs, rfl, hx2⟩ | ⟨hs, rfl, hx2⟩)
  · have hS3 := hS.ext hx2
    refine wl_val (r_move (v := .tuple _) rfl) rfl ?_; refine wl_val (r_extract (v := .string _) rfl rfl) rfl ?_; refine wl_val (r_extract (v := .bool _) rfl rfl) rfl ?_; refine wl_val (r_assign (v := .string _) rfl) rfl ?_; refine wl_val (r_assign (v := .bool _) rfl) rfl ?_; refine wl_nil ?_; refine c_then ?_; refine c_seq ?_; refine c_region ?_; refine wl_val (r_move (v := .bool _) rfl) rfl ?_; refine wl_nil ?_; refine c_then ?_; refine c_true rfl ?_; refine c_seq ?_; refine c_region ?_; refine wl_val (r_move (v := .string _) rfl) rfl ?_; refine wl_val (r_move (v := .string _) rfl) rfl ?_; refine wl_call (r_call fn113 rfl rfl) rfl (hasPrefix_ok l (headS p) _ hl) ?_; rintro _ w4 ⟨rfl, hx5⟩
    have hS6 := hS3.ext hx5
    refine wl_val (r_assign (v := .bool _) rfl) rfl ?_; refine wl_nil ?_; refine c_then ?_; refine wp_ret ?_; refine c_thenR ?_; refine ret1 Tryz.results109 ?_
    first | (rw [fitsE_t hs]; exact ⟨rfl, hS6.fin⟩) | (rw [fitsE_f hs]; exact ⟨rfl, hS6.fin⟩)
  have hS3 := hS.ext hx2
  refine wl_val (r_move (v := .tuple _) rfl) rfl ?_; refine wl_val (r_extract (v := .string _) rfl rfl) rfl ?_; refine wl_val (r_extract (v := .bool _) rfl rfl) rfl ?_; refine wl_val (r_assign (v := .string _) rfl) rfl ?_; refine wl_val (r_assign (v := .bool _) rfl) rfl ?_; refine wl_nil ?_; refine c_then ?_; refine c_seq ?_; refine c_region ?_; refine wl_val (r_move (v := .bool _) rfl) rfl ?_; refine wl_nil ?_; refine c_then ?_; refine c_false rfl ?_; refine wp_skip ?_; refine c_then ?_; refine c_seq ?_; refine c_region ?_; refine wl_val (r_move (v := .string _) rfl) rfl ?_; refine wl_val (r_move (v := .string _) rfl) rfl ?_; refine wl_val (r_eqlStrL rfl rfl) rfl ?_; refine wl_val (r_assign (v := .bool _) rfl) rfl ?_; refine wl_nil ?_; refine c_then ?_; refine wp_ret ?_; refine ret1 Tryz.results109 ?_
  first | (rw [fitsE_t hs]; exact ⟨rfl, hS3.fin⟩) | (rw [fitsE_f hs]; exact ⟨rfl, hS3.fin⟩)

theorem rfits_ok (p l : List UInt8) (w : World) (hp : p.length ≤ 9223372036854775807) (hl : l.length ≤ 9223372036854775807) :
    Ret Tryz.prog 73 [.string ⟨(p).toArray⟩, .string ⟨(l).toArray⟩] w (fun v w' => v = .bool (fitsE p l) ∧ St w [] w' []) := by
  refine enter Tryz.func73 rfl Tryz.ntmps73 rfl ?_
  have hS := St.refl w []
  refine c_seq ?_; refine c_region ?_; refine wl_val (r_assign (v := .bool false) rfl) rfl ?_; refine wl_nil ?_; refine c_then ?_; refine c_seq ?_; refine c_seq ?_; refine c_region ?_; refine wl_val (r_move (v := .string _) rfl) rfl ?_; refine wl_call (r_call fn27 rfl rfl) rfl (cutSuffix_ok p _ hp) ?_
  rintro _ w1 (⟨hs, rfl, hx2⟩ | ⟨hs, rfl, hx2⟩)
  · have hS3 := hS.ext hx2
    refine wl_val (r_move (v := .tuple _) rfl) rfl ?_; refine wl_val (r_extract (v := .string _) rfl rfl) rfl ?_; refine wl_val (r_extract (v := .bool _) rfl rfl) rfl ?_; refine wl_val (r_assign (v := .string _) rfl) rfl ?_; refine wl_val (r_assign (v := .bool _) rfl) rfl ?_; refine wl_nil ?_; refine c_then ?_; refine c_seq ?_; refine c_region ?_; refine wl_val (r_move (v := .bool _) rfl) rfl ?_; refine wl_nil ?_; refine c_then ?_; refine c_true rfl ?_; refine c_seq ?_; refine c_region ?_; refine wl_val (r_move (v := .string _) rfl) rfl ?_; refine wl_val (r_move (v := .string _) rfl) rfl ?_; refine wl_call (r_call fn113 rfl rfl) rfl (hasPrefix_ok l (headS p) _ hl) ?_; rintro _ w4 ⟨rfl, hx5⟩
    have hS6 := hS3.ext hx5
    refine wl_val (r_assign (v := .bool _) rfl) rfl ?_; refine wl_nil ?_; refine c_then ?_; refine wp_ret ?_; refine c_thenR ?_; refine ret1 Tryz.results73 ?_
    first | (rw [fitsE_t hs]; exact ⟨rfl, hS6.fin⟩) | (rw [fitsE_f hs]; exact ⟨rfl, hS6.fin⟩)
  have hS3 := hS.ext hx2
  refine wl_val (r_move (v := .tuple _) rfl) rfl ?_; refine wl_val (r_extract (v := .string _) rfl rfl) rfl ?_; refine wl_val (r_extract (v := .bool _) rfl rfl) rfl ?_; refine wl_val (r_assign (v := .string _) rfl) rfl ?_; refine wl_val (r_assign (v := .bool _) rfl) rfl ?_; refine wl_nil ?_; refine c_then ?_; refine c_seq ?_; refine c_region ?_; refine wl_val (r_move (v := .bool _) rfl) rfl ?_; refine wl_nil ?_; refine c_then ?_; refine c_false rfl ?_; refine wp_skip ?_; refine c_then ?_; refine c_seq ?_; refine c_region ?_; refine wl_val (r_move (v := .string _) rfl) rfl ?_; refine wl_val (r_move (v := .string _) rfl) rfl ?_; refine wl_val (r_eqlStrL rfl rfl) rfl ?_; refine wl_val (r_assign (v := .bool _) rfl) rfl ?_; refine wl_nil ?_; refine c_then ?_; refine wp_ret ?_; refine ret1 Tryz.results73 ?_
  first | (rw [fitsE_t hs]; exact ⟨rfl, hS3.fin⟩) | (rw [fitsE_f hs]; exact ⟨rfl, hS3.fin⟩)

theorem isPattern_ok (l : List UInt8) (w : World) (hl : l.length ≤ 9223372036854775807) :
    Ret Tryz.prog 118 [.string ⟨(l).toArray⟩] w (fun v w' => (patE l = true ∧ v = .bool true ∧ St w [] w' []) ∨ (patE l = false ∧ v = .bool false ∧ St w [] w' [])) := by
  refine enter Tryz.func118 rfl Tryz.ntmps118 rfl ?_
  have hS := St.refl w []
  refine c_seq ?_; refine c_region ?_; refine wl_val (r_assign (v := .bool false) rfl) rfl ?_; refine wl_nil ?_; refine c_then ?_; refine c_seq ?_; refine c_region ?_; refine wl_val (r_move (v := .string _) rfl) rfl ?_; refine wl_call (r_call fn27 rfl rfl) rfl (cutSuffix_ok l _ hl) ?_
  rintro _ w1 (⟨hs, rfl, hx2⟩ | ⟨hs, rfl, hx2⟩)
  · have hS3 := hS.ext hx2
    refine wl_val (r_move (v := .tuple _) rfl) rfl ?_; refine wl_val (r_extract (v := .string _) rfl rfl) rfl ?_; refine wl_val (r_extract (v := .bool _) rfl rfl) rfl ?_; refine wl_val (r_assign (v := .string _) rfl) rfl ?_; refine wl_val (r_assign (v := .bool _) rfl) rfl ?_; refine wl_nil ?_; refine c_then ?_; refine c_seq ?_; refine c_region ?_; refine wl_val (r_move (v := .string _) rfl) rfl ?_; refine wl_call (r_call fn124 rfl rfl) rfl (isName_br _ _ (Nat.le_trans (headS_le l) hl)) ?_
    rintro _ w4 (⟨hnm, rfl, hx5⟩ | ⟨hnm, rfl, hx5⟩)
    · have hS6 := hS3.ext hx5
      refine wl_val (r_move (v := .bool _) rfl) rfl ?_; refine wl_not rfl ?_; refine wl_not rfl ?_; refine wl_not rfl ?_; refine wl_not rfl ?_; refine wl_not rfl ?_; refine wl_val (r_pick_t rfl (v := .bool true) rfl) rfl ?_; refine wl_val (r_assign (v := .bool _) rfl) rfl ?_; refine wl_nil ?_; refine c_then ?_; refine wp_ret ?_; refine ret1 Tryz.results118 ?_
      first | exact .inl ⟨patE_name hnm, rfl, hS6.fin⟩ | exact .inl ⟨by rw [patE, hs, decide_eq_true h2_6, Bool.and_true, Bool.or_true], rfl, hS6.fin⟩ | exact .inr ⟨by rw [patE, hnm, hs, decide_eq_false h2_6]; rfl, rfl, hS6.fin⟩ | exact .inr ⟨by rw [patE, hnm, hs]; rfl, rfl, hS6.fin⟩
    have hS6 := hS3.ext hx5
    refine wl_val (r_move (v := .bool _) rfl) rfl ?_; refine wl_val (r_move (v := .bool _) rfl) rfl ?_; refine wl_val (r_move (v := .bool _) rfl) rfl ?_; refine wl_val (r_move (v := .string _) rfl) rfl ?_
    refine wl_dec (r_eqlStrL rfl rfl) rfl (fun h2_6 => ?_) (fun h2_6 => ?_)
    · refine wl_val (r_pick_t rfl (v := .bool _) rfl) rfl ?_
      refine wl_val (r_pick_f rfl (v := .bool _) rfl) rfl ?_; refine wl_val (r_assign (v := .bool _) rfl) rfl ?_; refine wl_nil ?_; refine c_then ?_; refine wp_ret ?_; refine ret1 Tryz.results118 ?_
      first | exact .inl ⟨patE_name hnm, rfl, hS6.fin⟩ | exact .inl ⟨by rw [patE, hs, decide_eq_true h2_6, Bool.and_true, Bool.or_true], rfl, hS6.fin⟩ | exact .inr ⟨by rw [patE, hnm, hs, decide_eq_false h2_6]; rfl, rfl, hS6.fin⟩ | exact .inr ⟨by rw [patE, hnm, hs]; rfl, rfl, hS6.fin⟩
    refine wl_val (r_pick_t rfl (v := .bool _) rfl) rfl ?_; refine wl_val (r_pick_f rfl (v := .bool _) rfl) rfl ?_; refine wl_val (r_assign (v := .bool _) rfl) rfl ?_; refine wl_nil ?_; refine c_then ?_; refine wp_ret ?_; refine ret1 Tryz.results118 ?_
    first | exact .inl ⟨patE_name hnm, rfl, hS6.fin⟩ | exact .inl ⟨by rw [patE, hs, decide_eq_true h2_6, Bool.and_true, Bool.or_true], rfl, hS6.fin⟩ | exact .inr ⟨by rw [patE, hnm, hs, decide_eq_false h2_6]; rfl, rfl, hS6.fin⟩ | exact .inr ⟨by rw [patE, hnm, hs]; rfl, rfl, hS6.fin⟩
  have hS3 := hS.ext hx2
  refine wl_val (r_move (v := .tuple _) rfl) rfl ?_; refine wl_val (r_extract (v := .string _) rfl rfl) rfl ?_; refine wl_val (r_extract (v := .bool _) rfl rfl) rfl ?_; refine wl_val (r_assign (v := .string _) rfl) rfl ?_; refine wl_val (r_assign (v := .bool _) rfl) rfl ?_; refine wl_nil ?_; refine c_then ?_; refine c_seq ?_; refine c_region ?_; refine wl_val (r_move (v := .string _) rfl) rfl ?_; refine wl_call (r_call fn124 rfl rfl) rfl (isName_br _ _ (Nat.le_trans (headS_le l) hl)) ?_
  rintro _ w7 (⟨hnm, rfl, hx8⟩ | ⟨hnm, rfl, hx8⟩)
  · have hS9 := hS3.ext hx8
    refine wl_val (r_move (v := .bool _) rfl) rfl ?_; refine wl_not rfl ?_; refine wl_not rfl ?_; refine wl_not rfl ?_; refine wl_not rfl ?_; refine wl_not rfl ?_; refine wl_val (r_pick_t rfl (v := .bool true) rfl) rfl ?_; refine wl_val (r_assign (v := .bool _) rfl) rfl ?_; refine wl_nil ?_; refine c_then ?_; refine wp_ret ?_; refine ret1 Tryz.results118 ?_
    first | exact .inl ⟨patE_name hnm, rfl, hS9.fin⟩ | exact .inl ⟨by rw [patE, hs, decide_eq_true h2_6, Bool.and_true, Bool.or_true], rfl, hS9.fin⟩ | exact .inr ⟨by rw [patE, hnm, hs, decide_eq_false h2_6]; rfl, rfl, hS9.fin⟩ | exact .inr ⟨by rw [patE, hnm, hs]; rfl, rfl, hS9.fin⟩
  have hS9 := hS3.ext hx8
  refine wl_val (r_move (v := .bool _) rfl) rfl ?_; refine wl_val (r_move (v := .bool _) rfl) rfl ?_; refine wl_val (r_move (v := .bool _) rfl) rfl ?_; refine wl_not rfl ?_; refine wl_not rfl ?_; refine wl_val (r_pick_f rfl (v := .bool false) rfl) rfl ?_; refine wl_val (r_pick_f rfl (v := .bool _) rfl) rfl ?_; refine wl_val (r_assign (v := .bool _) rfl) rfl ?_; refine wl_nil ?_; refine c_then ?_; refine wp_ret ?_; refine ret1 Tryz.results118 ?_
  first | exact .inl ⟨patE_name hnm, rfl, hS9.fin⟩ | exact .inl ⟨by rw [patE, hs, decide_eq_true h2_6, Bool.and_true, Bool.or_true], rfl, hS9.fin⟩ | exact .inr ⟨by rw [patE, hnm, hs, decide_eq_false h2_6]; rfl, rfl, hS9.fin⟩ | exact .inr ⟨by rw [patE, hnm, hs]; rfl, rfl, hS9.fin⟩

theorem notName_ok (l : List UInt8) (w : World) (hl : l.length ≤ 9223372036854775807) :
    Ret Tryz.prog 114 [.string ⟨(l).toArray⟩] w (fun v w' => (nameE l = false ∧ v = .bool true ∧ St w [] w' []) ∨ (nameE l = true ∧ v = .bool false ∧ St w [] w' [])) := by
  refine enter Tryz.func114 rfl Tryz.ntmps114 rfl ?_
  have hS := St.refl w []
  refine c_seq ?_; refine c_region ?_; refine wl_val (r_assign (v := .bool false) rfl) rfl ?_; refine wl_nil ?_; refine c_then ?_; refine c_seq ?_; refine c_region ?_; refine wl_val (r_move (v := .string _) rfl) rfl ?_; refine wl_call (r_call fn124 rfl rfl) rfl (isName_br l _ hl) ?_
  rintro _ w1 (⟨hnm, rfl, hx2⟩ | ⟨hnm, rfl, hx2⟩)
  · have hS3 := hS.ext hx2
    refine wl_val (r_not rfl) rfl ?_; refine wl_val (r_assign (v := .bool _) rfl) rfl ?_; refine wl_nil ?_; refine c_then ?_; refine wp_ret ?_; refine ret1 Tryz.results114 ?_
    first | exact .inl ⟨hnm, rfl, hS3.fin⟩ | exact .inr ⟨hnm, rfl, hS3.fin⟩
  have hS3 := hS.ext hx2
  refine wl_val (r_not rfl) rfl ?_; refine wl_val (r_assign (v := .bool _) rfl) rfl ?_; refine wl_nil ?_; refine c_then ?_; refine wp_ret ?_; refine ret1 Tryz.results114 ?_
  first | exact .inl ⟨hnm, rfl, hS3.fin⟩ | exact .inr ⟨hnm, rfl, hS3.fin⟩

end Go.Proofs.YtmonnmndphlkaaaGreat
