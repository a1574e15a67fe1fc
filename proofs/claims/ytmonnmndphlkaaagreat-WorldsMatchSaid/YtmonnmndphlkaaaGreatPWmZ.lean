/- For every policy: World of the program is the reference's; the law's function returns true and turns nothing. No condition. -/
import Derived.Test.YtmonnmndphlkaaaGreatPWmAF
import Derived.Test.YtmonnmndphlkaaaGreatPWmBS
import Derived.Test.YtmonnmndphlkaaaGreatRows
namespace Go.Proofs.YtmonnmndphlkaaaGreat.lawWorldsMatch
open Go.Kw Go.Proofs.YtmonnmndphlkaaaGreat
open Go.ChangeShapes Go.WideShapes Go.ChangeAt Go.RowKit
set_option linter.unusedVariables false
set_option linter.unusedSimpArgs false
set_option maxRecDepth 100000
set_option maxHeartbeats 20000000

set_option maxHeartbeats 4000000 in
theorem walk (rs : List RuleD) (pa : Option Addr) (n pc : Nat) (w : World) (hrs : Row w pa (rs.flatMap RuleD.v)) (hl : rs.length = n) (hn : n ≤ 140737488351232) (hall : ∀ r ∈ rs, RuleAt w r) :
    Ret Tryz.prog 3 [.agg #[.slice pa n pc]] w (fun v w' => v = .bool true ∧ St w [] w' []) := by
  subst hl
  refine enter Tryz.func3 rfl Tryz.ntmps3 rfl ?_
  have hS := St.refl w []
  refine c_seq ?_; refine c_region ?_; refine wl_exv (x_box hS (v := .agg _) rfl rfl) rfl ?_; rintro _ w1 ⟨b1, rfl, hS2⟩; refine wl_val (r_assign (v := .bool false) rfl) rfl ?_; refine wl_nil ?_; refine c_then ?_; refine c_seq ?_; refine c_seq ?_; refine c_region ?_; refine wl_call (r_call fn6 rfl rfl) rfl (landed_ok _) ?_; rintro _ w3 ⟨rfl, hx4⟩
  have hS5 := hS2.ext hx4
  refine wl_val (r_not rfl) rfl ?_; refine wl_nil ?_; refine c_then ?_; refine c_false rfl ?_; refine wp_skip ?_; refine c_then ?_; refine c_seq ?_; refine c_region ?_; refine wl_val (r_loadB ti24 ag24 rfl (hS5.heap (.head _)) (by first | (simp [*]; done) | (simp [*] <;> omega) | omega)) rfl ?_; refine wl_call (r_call fn7 rfl rfl) rfl (World_ok rs pa rs.length pc _ (hrs.st hS5) rfl hn (fun r hr' => (hall r hr').st hS5)) ?_
  rintro _ w6 (⟨hp, rfl, hx7⟩ | ⟨hp, rfl, hx7⟩ | ⟨hp, qs, aQ, cQ, LT, hA, hb, rfl, hcQ, hx7⟩)
  · have hS8 := hS5.ext hx7
    refine wl_val (r_move (v := .tuple _) rfl) rfl ?_; refine wl_val (r_extract (v := .slice _ _ _) rfl rfl) rfl ?_; refine wl_val (r_extract (v := .int .i64 _) rfl rfl) rfl ?_; refine wl_val (r_assign (v := .slice _ _ _) rfl) rfl ?_; refine wl_val (r_assign (v := .int .i64 _) rfl) rfl ?_; refine wl_nil ?_; refine c_then ?_; refine c_seq ?_; refine c_seq ?_; refine c_region ?_; refine wl_val (r_loadB ti24 ag24 rfl (hS8.heap (.head _)) (by first | (simp [*]; done) | (simp [*] <;> omega) | omega)) rfl ?_; refine wl_call (r_call fn8 rfl rfl) rfl (rcheck_ok rs pa rs.length pc _ (hrs.st hS8) rfl hn (fun r hr' => (hall r hr').st hS8)) ?_; rintro _ w9 ⟨rfl, hx10⟩
    have hS11 := hS8.ext hx10
    refine wl_val (r_assign (v := .int .i64 _) rfl) rfl ?_; refine wl_nil ?_; refine c_then ?_; refine c_seq ?_; refine c_region ?_; refine wl_val (r_move (v := .int .i64 _) rfl) rfl ?_; refine wl_dec_t (r_neq rfl rfl) rfl hp ?_; refine wl_nil ?_; refine c_then ?_; refine c_true rfl ?_; refine c_seq ?_; refine c_region ?_; refine wl_val (r_move (v := .int .i64 _) rfl) rfl ?_; refine wl_val (r_move (v := .int .i64 _) rfl) rfl ?_; refine wl_dec_t (r_eql rfl rfl) rfl rfl ?_; refine wl_val (r_move (v := .bool _) rfl) rfl ?_; refine wl_val (r_move (v := .slice _ _ _) rfl) rfl ?_; refine wl_val (r_len (T := 26) rfl ti26.und rfl _ rfl) rfl ?_; refine wl_val (r_eql rfl rfl) rfl ?_; refine wl_val (r_pick_t rfl (v := .bool _) rfl) rfl ?_; refine wl_val (r_assign (v := .bool _) rfl) rfl ?_; refine wl_nil ?_; refine c_then ?_; refine wp_ret ?_; refine c_thenR ?_; refine ret1 Tryz.results3 ?_
    exact ⟨rfl, hS11.fin⟩
  · have hS8 := hS5.ext hx7
    refine wl_val (r_move (v := .tuple _) rfl) rfl ?_; refine wl_val (r_extract (v := .slice _ _ _) rfl rfl) rfl ?_; refine wl_val (r_extract (v := .int .i64 _) rfl rfl) rfl ?_; refine wl_val (r_assign (v := .slice _ _ _) rfl) rfl ?_; refine wl_val (r_assign (v := .int .i64 _) rfl) rfl ?_; refine wl_nil ?_; refine c_then ?_; refine c_seq ?_; refine c_seq ?_; refine c_region ?_; refine wl_val (r_loadB ti24 ag24 rfl (hS8.heap (.head _)) (by first | (simp [*]; done) | (simp [*] <;> omega) | omega)) rfl ?_; refine wl_call (r_call fn8 rfl rfl) rfl (rcheck_ok rs pa rs.length pc _ (hrs.st hS8) rfl hn (fun r hr' => (hall r hr').st hS8)) ?_; rintro _ w12 ⟨rfl, hx13⟩
    have hS14 := hS8.ext hx13
    refine wl_val (r_assign (v := .int .i64 _) rfl) rfl ?_; refine wl_nil ?_; refine c_then ?_; refine c_seq ?_; refine c_region ?_; refine wl_val (r_move (v := .int .i64 _) rfl) rfl ?_; refine wl_dec_f (r_neq rfl rfl) rfl (not_not_intro hp.1) ?_; refine wl_nil ?_; refine c_then ?_; refine c_false rfl ?_; refine wp_skip ?_; refine c_then ?_; refine c_seq ?_
    obtain ⟨h100, hok⟩ := polE_zero hp.1
    refine c_region ?_; refine wl_val (r_loadB ti24 ag24 rfl (hS14.heap (.head _)) (by first | (simp [*]; done) | (simp [*] <;> omega) | omega)) rfl ?_; refine wl_call (r_call fn9 rfl rfl) rfl (rWorld_ok rs pa rs.length pc _ (hrs.st hS14) rfl hn (fun r hr' => (hall r hr').st hS14) hok h100) ?_
    rintro _ w15 (⟨hbig, rfl, hx16⟩ | ⟨hle, qs2, aW, cW, LT2, hA2, hb2, rfl, hcW, hx16⟩)
    · have hS17 := hS14.ext hx16
      refine wl_val (r_move (v := .tuple _) rfl) rfl ?_; refine wl_val (r_extract (v := .slice _ _ _) rfl rfl) rfl ?_; refine wl_val (r_extract (v := .bool _) rfl rfl) rfl ?_; refine wl_val (r_assign (v := .slice _ _ _) rfl) rfl ?_; refine wl_val (r_assign (v := .bool _) rfl) rfl ?_; refine wl_nil ?_; refine c_then ?_; refine c_seq ?_; refine c_seq ?_; refine c_region ?_; refine wl_val (r_move (v := .bool _) rfl) rfl ?_; refine wl_val (r_not rfl) rfl ?_; refine wl_nil ?_; refine c_then ?_; refine c_true rfl ?_; refine c_seq ?_; refine c_region ?_; refine wl_val (r_move (v := .int .i64 _) rfl) rfl ?_; refine wl_dec_t (r_eql rfl rfl) rfl (by decide) ?_; refine wl_val (r_move (v := .bool _) rfl) rfl ?_; refine wl_val (r_move (v := .slice _ _ _) rfl) rfl ?_; refine wl_val (r_len (T := 26) rfl ti26.und rfl _ rfl) rfl ?_; refine wl_val (r_eql rfl rfl) rfl ?_; refine wl_val (r_pick_t rfl (v := .bool _) rfl) rfl ?_; refine wl_val (r_assign (v := .bool _) rfl) rfl ?_; refine wl_nil ?_; refine c_then ?_; refine wp_ret ?_; refine c_thenR ?_; refine ret1 Tryz.results3 ?_
      exact ⟨rfl, hS17.fin⟩
    exact absurd hp.2 (by omega)
  have hS8 := St.callT (X := [_]) (LT := LT) hS5 hx7
  simp only [List.cons_append, List.nil_append] at hS8; refine wl_val (r_move (v := .tuple _) rfl) rfl ?_; refine wl_val (r_extract (v := .slice _ _ _) rfl rfl) rfl ?_; refine wl_val (r_extract (v := .int .i64 _) rfl rfl) rfl ?_; refine wl_val (r_assign (v := .slice _ _ _) rfl) rfl ?_; refine wl_val (r_assign (v := .int .i64 _) rfl) rfl ?_; refine wl_nil ?_; refine c_then ?_; refine c_seq ?_; refine c_seq ?_; refine c_region ?_; refine wl_val (r_loadB ti24 ag24 rfl (hS8.heap (.tail _ (.head _))) (by first | (simp [*]; done) | (simp [*] <;> omega) | omega)) rfl ?_; refine wl_call (r_call fn8 rfl rfl) rfl (rcheck_ok rs pa rs.length pc _ (hrs.st hS8) rfl hn (fun r hr' => (hall r hr').st hS8)) ?_; rintro _ w18 ⟨rfl, hx19⟩
  have hS20 := hS8.ext hx19
  refine wl_val (r_assign (v := .int .i64 _) rfl) rfl ?_; refine wl_nil ?_; refine c_then ?_; refine c_seq ?_; refine c_region ?_; refine wl_val (r_move (v := .int .i64 _) rfl) rfl ?_; refine wl_dec_f (r_neq rfl rfl) rfl (not_not_intro hp.1) ?_; refine wl_nil ?_; refine c_then ?_; refine c_false rfl ?_; refine wp_skip ?_; refine c_then ?_; refine c_seq ?_
  obtain ⟨h100, hok⟩ := polE_zero hp.1
  refine c_region ?_; refine wl_val (r_loadB ti24 ag24 rfl (hS20.heap (.tail _ (.head _))) (by first | (simp [*]; done) | (simp [*] <;> omega) | omega)) rfl ?_; refine wl_call (r_call fn9 rfl rfl) rfl (rWorld_ok rs pa rs.length pc _ (hrs.st hS20) rfl hn (fun r hr' => (hall r hr').st hS20) hok h100) ?_
  rintro _ w21 (⟨hbig, rfl, hx22⟩ | ⟨hle, qs2, aW, cW, LT2, hA2, hb2, rfl, hcW, hx22⟩)
  · exact absurd hp.2 (by omega)
  have hS23 := St.callT (X := [_]) (LT := LT2) hS20 hx22
  simp only [List.cons_append, List.nil_append] at hS23; refine wl_val (r_move (v := .tuple _) rfl) rfl ?_; refine wl_val (r_extract (v := .slice _ _ _) rfl rfl) rfl ?_; refine wl_val (r_extract (v := .bool _) rfl rfl) rfl ?_; refine wl_val (r_assign (v := .slice _ _ _) rfl) rfl ?_; refine wl_val (r_assign (v := .bool _) rfl) rfl ?_; refine wl_nil ?_; refine c_then ?_; refine c_seq ?_; refine c_seq ?_; refine c_region ?_; refine wl_val (r_move (v := .bool _) rfl) rfl ?_; refine wl_val (r_not rfl) rfl ?_; refine wl_nil ?_; refine c_then ?_; refine c_false rfl ?_; refine wp_skip ?_; refine c_then ?_; refine c_seq ?_; refine c_region ?_; refine wl_val (r_move (v := .int .i64 _) rfl) rfl ?_; refine wl_dec_t (r_eql rfl rfl) rfl (by decide) ?_; refine wl_val (r_move (v := .bool _) rfl) rfl ?_; refine wl_val (r_move (v := .slice _ _ _) rfl) rfl ?_; refine wl_val (r_move (v := .slice _ _ _) rfl) rfl ?_; refine wl_call (r_call fn10 rfl rfl) rfl (eqAsks_t qs qs2 _ _ _ _ _ (St.rowAt hS23 (.tail _ (.head _))) (St.rowAt hS23 (.head _)) (hA _ (hS23.hold fun x hx => by simp [hx])) (hA2 _ (hS23.hold fun x hx => by simp [hx])) (hb.trans hb2.symm) (by have := asks_len hb; unfold wTot at hle; omega) (fun q hq => by have := asks_ro hb q hq; have := wR_len hok h100; omega)) ?_; rintro _ w24 ⟨rfl, hx25⟩
  have hS26 := hS23.ext hx25
  refine wl_val (r_pick_t rfl (v := .bool _) rfl) rfl ?_; refine wl_val (r_assign (v := .bool _) rfl) rfl ?_; refine wl_nil ?_; refine c_then ?_; refine wp_ret ?_; refine ret1 Tryz.results3 ?_
  exact ⟨rfl, hS26.fin⟩


theorem own : ownKnob Tryz.prog.godebug = none := by kernel_rfl
theorem laidOut : laidOutB Tryz.prog = true := by kernel_rfl
theorem readable24 : Tryz.prog.readableRec 24 = true := by kernel_rfl
theorem inside24 : decide (24 < Tryz.prog.types.size) = true := by kernel_rfl
theorem lifted (os : Os) (started : os.Started) (H : Type) (enc : TypeId × Value → H) :
    ReturnsInHanded {} Tryz.checked os 3 .any (Rows.worldsMatchSpec.pre6 enc Tryz.prog Tryz.f3 Rows.worldsMatchRow.domain false) (Rows.worldsMatchSpec.post enc Tryz.prog Tryz.f3 false true false false) := by
  refine returnsInHanded_of_change_sized (C := Tryz.checked) own started (by kernel_rfl) Tryz.func3
    (ChangeSpec.witness6 (enc := enc) (C := Tryz.checked) false ⟨#[], #[.agg #[.slice none 0 0]], []⟩ 8 (by kernel_rfl) (by kernel_rfl) (by kernel_rfl) (by kernel_rfl)) ?_
  intro W base args ds gs before hval0 hW hcnd hsz0 _
  have hval : ∀ (j : Nat) t v, Tryz.f3.params[j]? = some t → args[j]? = some v → Value.okWide Tryz.prog W .any base t v := hval0
  have hW' := hW
  obtain ⟨p, q, hA0, hV, rfl, hfz, hnd⟩ := hW
  have hA : DataW.TrodAll enc Tryz.prog W 0 (fun _ => true) true Tryz.f3.params.toList args.toList ds p := hA0
  have hsz : (DataW.weightsEach Tryz.prog (Tryz.f3.params.toList ++ Rows.worldsMatchSpec.plain.varTypes Tryz.prog) (ds ++ gs)).all (· ≤ reachBytes) = true := hsz0
  rw [Tryz.params3] at hA hval hsz
  obtain ⟨v0, vs0, d0, ds0, p0, q0, hargs, rfl, rfl, h0, r0⟩ := trodAll_cons hA
  obtain ⟨rfl, rfl, rfl⟩ := trodAll_nil r0
  obtain rfl : args = #[v0] := by cases args; simp_all
  obtain ⟨rfl, rfl⟩ := trodVars_none hV
  have lt0 : ∀ x ∈ p0, x.block < W.heap.size := by obtain ⟨m, hm⟩ := h0; exact DataW.trod_lt m _ _ _ hm
  have ok0 := hval 0 24 v0 rfl rfl
  obtain ⟨⟨pa, pc, rs⟩, rfl, hrs, hpc, hpcc, hall⟩ := open_struct (j := 0) Tryz.underlying24 (opens_policy (opens_struct Tryz.underlying24 (by kernel_rfl) (opensFs_cons (sz := 1) (opens_slice (sz := 8) (bts := 120) Tryz.underlying22 (by kernel_rfl) (by decide) (by kernel_rfl) (fun _ => rfl) (opens_rule (opens_struct Tryz.underlying50 (by kernel_rfl) (opensFs_cons (sz := 1) (opens_bool Tryz.underlying4) rfl (by kernel_rfl) (opensFs_cons (sz := 1) (opens_slice1 (bts := 16) Tryz.underlying36 (by kernel_rfl) (by kernel_rfl) (opens_str Tryz.underlying9)) rfl (by kernel_rfl) (opensFs_cons (sz := 1) (opens_slice1 (bts := 8) Tryz.underlying48 (by kernel_rfl) (by kernel_rfl) (opens_i64 Tryz.underlying3)) rfl (by kernel_rfl) (opensFs_cons (sz := 1) (opens_slice1 (bts := 16) Tryz.underlying36 (by kernel_rfl) (by kernel_rfl) (opens_str Tryz.underlying9)) rfl (by kernel_rfl) (opensFs_cons (sz := 1) (opens_i64 Tryz.underlying3) rfl (by kernel_rfl) (opensFs_cons (sz := 1) (opens_i64 Tryz.underlying3) rfl (by kernel_rfl) (opensFs_cons (sz := 1) (opens_i64 Tryz.underlying3) rfl (by kernel_rfl) (opensFs_cons (sz := 1) (opens_str Tryz.underlying9) rfl (by kernel_rfl) opensFs_nil (by simp)) (by simp)) (by simp)) (by simp)) (by simp)) (by simp)) (by simp)) (by simp))))) rfl (by kernel_rfl) opensFs_nil (by simp)))) ok0 h0 hsz rfl rfl
  simp only [] at hrs hpc hpcc hall
  refine Calls.mono (walk rs pa rs.length pc W hrs rfl (by omega) (fun r hr => ⟨(hall r hr).1, (hall r hr).2.1, (hall r hr).2.2.1, (hall r hr).2.2.2⟩)) fun e W' ⟨v, he, hv, hs⟩ => ?_
  subst hv; subst he
  have bel := hs.below
  exact ⟨_, rfl, _, _, _, [], _, [], hW', trodAll_mk1 (shut_bool Tryz.underlying4 _), (trodAll_cons_mk (Below.trod laidOut readable24 (of_decide_eq_true inside24) h0 bel lt0) trodAll_mk0), rfl, bel.frame _, fun h => by cases h⟩
theorem over : Rows.worldsMatchRow.holds Tryz.pinned (OpenSpec.ofChange Rows.worldsMatchSpec) :=
  OpenClaim.holds_of_wide 3 Tryz.f3 rfl rfl rfl rfl rfl rfl rfl ⟨rfl, rfl, rfl, rfl, rfl⟩ rfl rfl rfl rfl rfl (by kernel_rfl) Tryz.func3 (by kernel_rfl)
    (of_decide_eq_true (by kernel_rfl)) (by unfold Func.isWrapper; rw [if_neg (of_decide_eq_false (by kernel_rfl))]; exact ⟨rfl, rfl⟩)
    (fun os started H enc _ => lifted os started H enc)
theorem proved : Rows.WorldsMatchSaid := over
#print axioms proved
end Go.Proofs.YtmonnmndphlkaaaGreat.lawWorldsMatch
