/- For every pattern and label: Fits answers as the reference does, and refuses just what is no pattern or no name; the law's function returns true and turns nothing. No condition. -/
import Derived.Test.YtafdmlpfgpaicaaRows
import Derived.Test.YtafdmlpfgpaicaaOpen
import Derived.Test.YtafdmlpfgpaicaaPatB
namespace Go.Proofs.Ytafdmlpfgpaicaa.lawPatternsFit
open Go.Kw Go.Proofs.Ytafdmlpfgpaicaa
open Go.ChangeShapes Go.WideShapes Go.ChangeAt Go.RowKit
set_option linter.unusedVariables false
set_option linter.unusedSimpArgs false
set_option maxRecDepth 100000
set_option maxHeartbeats 20000000

theorem walk (p l : List UInt8) (w : World) (hp : p.length ≤ 9223372036854775807) (hl : l.length ≤ 9223372036854775807) :
    Ret Try.prog 3 [.string ⟨(p).toArray⟩, .string ⟨(l).toArray⟩] w (fun v w' => v = .bool true ∧ St w [] w' []) := by
  refine enter Try.func3 rfl Try.ntmps3 rfl ?_
  have hS := St.refl w []
  refine c_seq ?_
  refine c_region ?_
  refine wl_val (r_assign (v := .bool false) rfl) rfl ?_
  refine wl_nil ?_
  refine c_then ?_
  refine c_seq ?_
  refine c_seq ?_
  refine c_region ?_
  refine wl_call (r_call fn7 rfl rfl) rfl (landed_ok _) ?_
  rintro _ w1 ⟨rfl, hx2⟩
  have hS3 := hS.ext hx2
  refine wl_val (r_not rfl) rfl ?_
  refine wl_nil ?_
  refine c_then ?_
  refine c_false rfl ?_
  refine wp_skip ?_
  refine c_then ?_
  refine c_seq ?_
  refine c_region ?_
  refine wl_val (r_move (v := .string _) rfl) rfl ?_
  refine wl_val (r_move (v := .string _) rfl) rfl ?_
  refine wl_call (r_call fn8 rfl rfl) rfl (pfits_ok p l _ hp hl) ?_
  rintro _ w4 (⟨hf, rfl, hx5⟩ | ⟨hf, rfl, hx5⟩)
  · have hS6 := hS3.ext hx5
    refine wl_val (r_move (v := .tuple _) rfl) rfl ?_
    refine wl_val (r_extract (v := .bool _) rfl rfl) rfl ?_
    refine wl_val (r_extract (v := .int .i64 _) rfl rfl) rfl ?_
    refine wl_val (r_assign (v := .bool _) rfl) rfl ?_
    refine wl_val (r_assign (v := .int .i64 _) rfl) rfl ?_
    refine wl_nil ?_
    refine c_then ?_
    refine c_seq ?_
    refine c_seq ?_
    refine c_region ?_
    refine wl_val (r_move (v := .string _) rfl) rfl ?_
    refine wl_call (r_call fn9 rfl rfl) rfl (kisPattern_ok p _ hp) ?_
    rintro _ w7 (⟨hk, rfl, hx8⟩ | ⟨hk, rfl, hx8⟩)
    · have hS9 := hS6.ext hx8
      refine wl_val (r_not rfl) rfl ?_
      refine wl_val (r_move (v := .bool _) rfl) rfl ?_
      refine wl_val (r_move (v := .string _) rfl) rfl ?_
      refine wl_call (r_call fn10 rfl rfl) rfl (risName_br l _ hl) ?_
      rintro _ w10 (⟨hn, rfl, hx11⟩ | ⟨hn, rfl, hx11⟩)
      · exact (hf.elim (fun h => by rw [h] at hk; cases hk) (fun h => by rw [h] at hn; cases hn) : False).elim
      · have hS12 := hS9.ext hx11
        refine wl_val (r_not rfl) rfl ?_
        refine wl_val (r_pick_f rfl (v := .bool _) rfl) rfl ?_
        refine wl_nil ?_
        refine c_then ?_
        refine c_true rfl ?_
        refine c_seq ?_
        refine c_region ?_
        refine wl_val (r_move (v := .bool _) rfl) rfl ?_
        refine wl_val (r_not rfl) rfl ?_
        refine wl_val (r_move (v := .bool _) rfl) rfl ?_
        refine wl_val (r_move (v := .int .i64 _) rfl) rfl ?_
        refine wl_dec_t (r_eql rfl rfl) rfl (by decide) ?_
        refine wl_val (r_pick_t rfl (v := .bool _) rfl) rfl ?_
        refine wl_val (r_assign (v := .bool _) rfl) rfl ?_
        refine wl_nil ?_
        refine c_then ?_
        refine wp_ret ?_
        refine c_thenR ?_
        refine ret1 Try.results3 ?_
        exact ⟨rfl, hS12.fin⟩
    · have hS9 := hS6.ext hx8
      refine wl_val (r_not rfl) rfl ?_
      refine wl_val (r_move (v := .bool _) rfl) rfl ?_
      refine wl_not rfl ?_
      refine wl_not rfl ?_
      refine wl_not rfl ?_
      refine wl_val (r_pick_t rfl (v := .bool true) rfl) rfl ?_
      refine wl_nil ?_
      refine c_then ?_
      refine c_true rfl ?_
      refine c_seq ?_
      refine c_region ?_
      refine wl_val (r_move (v := .bool _) rfl) rfl ?_
      refine wl_val (r_not rfl) rfl ?_
      refine wl_val (r_move (v := .bool _) rfl) rfl ?_
      refine wl_val (r_move (v := .int .i64 _) rfl) rfl ?_
      refine wl_dec_t (r_eql rfl rfl) rfl (by decide) ?_
      refine wl_val (r_pick_t rfl (v := .bool _) rfl) rfl ?_
      refine wl_val (r_assign (v := .bool _) rfl) rfl ?_
      refine wl_nil ?_
      refine c_then ?_
      refine wp_ret ?_
      refine c_thenR ?_
      refine ret1 Try.results3 ?_
      exact ⟨rfl, hS9.fin⟩
  · have hS6 := hS3.ext hx5
    refine wl_val (r_move (v := .tuple _) rfl) rfl ?_
    refine wl_val (r_extract (v := .bool _) rfl rfl) rfl ?_
    refine wl_val (r_extract (v := .int .i64 _) rfl rfl) rfl ?_
    refine wl_val (r_assign (v := .bool _) rfl) rfl ?_
    refine wl_val (r_assign (v := .int .i64 _) rfl) rfl ?_
    refine wl_nil ?_
    refine c_then ?_
    refine c_seq ?_
    refine c_seq ?_
    refine c_region ?_
    refine wl_val (r_move (v := .string _) rfl) rfl ?_
    refine wl_call (r_call fn9 rfl rfl) rfl (kisPattern_ok p _ hp) ?_
    rintro _ w13 (⟨hk, rfl, hx14⟩ | ⟨hk, rfl, hx14⟩)
    · have hS15 := hS6.ext hx14
      refine wl_val (r_not rfl) rfl ?_
      refine wl_val (r_move (v := .bool _) rfl) rfl ?_
      refine wl_val (r_move (v := .string _) rfl) rfl ?_
      refine wl_call (r_call fn10 rfl rfl) rfl (risName_br l _ hl) ?_
      rintro _ w16 (⟨hn, rfl, hx17⟩ | ⟨hn, rfl, hx17⟩)
      · have hS18 := hS15.ext hx17
        refine wl_val (r_not rfl) rfl ?_
        refine wl_val (r_pick_f rfl (v := .bool _) rfl) rfl ?_
        refine wl_nil ?_
        refine c_then ?_
        refine c_false rfl ?_
        refine wp_skip ?_
        refine c_then ?_
        refine c_seq ?_
        refine c_region ?_
        refine wl_val (r_move (v := .int .i64 _) rfl) rfl ?_
        refine wl_dec_t (r_eql rfl rfl) rfl (by decide) ?_
        refine wl_val (r_move (v := .bool _) rfl) rfl ?_
        refine wl_val (r_move (v := .bool _) rfl) rfl ?_
        refine wl_val (r_move (v := .string _) rfl) rfl ?_
        refine wl_val (r_move (v := .string _) rfl) rfl ?_
        refine wl_call (r_call fn11 rfl rfl) rfl (rfits_ok p l _ hp hl) ?_
        rintro _ w19 ⟨rfl, hx20⟩
        have hS21 := hS18.ext hx20
        refine wl_dec_t (r_eqlBool ti4.und rfl rfl) rfl rfl ?_
        refine wl_val (r_pick_t rfl (v := .bool _) rfl) rfl ?_
        refine wl_val (r_assign (v := .bool _) rfl) rfl ?_
        refine wl_nil ?_
        refine c_then ?_
        refine wp_ret ?_
        refine ret1 Try.results3 ?_
        exact ⟨rfl, hS21.fin⟩
      · (rw [hf.2] at hn; cases hn)
    · (rw [hf.1] at hk; cases hk)


theorem own : ownKnob Try.prog.godebug = none := by kernel_rfl
theorem laidOut : laidOutB Try.prog = true := by kernel_rfl
theorem readable9 : Try.prog.readableRec 9 = true := by kernel_rfl
theorem inside9 : decide (9 < Try.prog.types.size) = true := by kernel_rfl
theorem lifted (os : Os) (started : os.Started) (H : Type) (enc : TypeId × Value → H) :
    ReturnsInHanded {} Try.checked os 3 .any (Rows.patternsFitSpec.pre6 enc Try.prog Try.f3 Rows.patternsFitRow.domain false) (Rows.patternsFitSpec.post enc Try.prog Try.f3 false true false false) := by
  refine returnsInHanded_of_change_sized (C := Try.checked) own started (by kernel_rfl) Try.func3
    (ChangeSpec.witness6 (enc := enc) (C := Try.checked) false ⟨#[], #[.string ⟨#[]⟩, .string ⟨#[]⟩], []⟩ 8 (by kernel_rfl) (by kernel_rfl) (by kernel_rfl) (by kernel_rfl)) ?_
  intro W base args ds gs before hval0 hW hcnd hsz0 _
  have hval : ∀ (j : Nat) t v, Try.f3.params[j]? = some t → args[j]? = some v → Value.okWide Try.prog W .any base t v := hval0
  have hW' := hW
  obtain ⟨p, q, hA0, hV, rfl, hfz, hnd⟩ := hW
  have hA : DataW.TrodAll enc Try.prog W 0 (fun _ => true) true Try.f3.params.toList args.toList ds p := hA0
  have hsz : (DataW.weightsEach Try.prog (Try.f3.params.toList ++ Rows.patternsFitSpec.plain.varTypes Try.prog) (ds ++ gs)).all (· ≤ reachBytes) = true := hsz0
  rw [Try.params3] at hA hval hsz
  obtain ⟨v0, vs0, d0, ds0, p0, q0, hargs, rfl, rfl, h0, r0⟩ := trodAll_cons hA
  obtain ⟨v1, vs1, d1, ds1, p1, q1, rfl, rfl, rfl, h1, r1⟩ := trodAll_cons r0
  obtain ⟨rfl, rfl, rfl⟩ := trodAll_nil r1
  obtain rfl : args = #[v0, v1] := by cases args; simp_all
  obtain ⟨rfl, rfl⟩ := trodVars_none hV
  have lt0 : ∀ x ∈ p0, x.block < W.heap.size := by obtain ⟨m, hm⟩ := h0; exact DataW.trod_lt m _ _ _ hm
  have lt1 : ∀ x ∈ p1, x.block < W.heap.size := by obtain ⟨m, hm⟩ := h1; exact DataW.trod_lt m _ _ _ hm
  have ok0 := hval 0 9 v0 rfl rfl
  obtain ⟨p, rfl, lp⟩ := open_str Try.underlying9 ok0 h0
  have ok1 := hval 1 9 v1 rfl rfl
  obtain ⟨l, rfl, ll⟩ := open_str Try.underlying9 ok1 h1
  refine Calls.mono (walk p l W lp ll) fun e W' ⟨v, he, hv, hs⟩ => ?_
  subst hv; subst he
  have bel := hs.below
  exact ⟨_, rfl, _, _, _, [], _, [], hW', trodAll_mk1 (shut_bool Try.underlying4 _), (trodAll_cons_mk (Below.trod laidOut readable9 (of_decide_eq_true inside9) h0 bel lt0) (trodAll_cons_mk (Below.trod laidOut readable9 (of_decide_eq_true inside9) h1 bel lt1) trodAll_mk0)), rfl, bel.frame _, fun h => by cases h⟩
theorem over : Rows.patternsFitRow.holds Try.pinned (OpenSpec.ofChange Rows.patternsFitSpec) :=
  OpenClaim.holds_of_wide 3 Try.f3 rfl rfl rfl rfl rfl rfl rfl ⟨rfl, rfl, rfl, rfl, rfl⟩ rfl rfl rfl rfl rfl (by kernel_rfl) Try.func3 (by kernel_rfl)
    (of_decide_eq_true (by kernel_rfl)) (by unfold Func.isWrapper; rw [if_neg (of_decide_eq_false (by kernel_rfl))]; exact ⟨rfl, rfl⟩)
    (fun os started H enc _ => lifted os started H enc)
theorem proved : Rows.PatternsFitSaid := over
#print axioms proved
end Go.Proofs.Ytafdmlpfgpaicaa.lawPatternsFit
