/- For every two roots and proof: Grown of the program is the reference's; the law's function returns true and turns nothing. No condition. -/
import Derived.Test.YtfohfnpehfcaaaaRows
import Derived.Test.YtfohfnpehfcaaaaOpen
import Derived.Test.YtfohfnpehfcaaaaTreeC
namespace Go.Proofs.Ytfohfnpehfcaaaa.lawRawGrowth
open Go.Kw Go.Proofs.Ytfohfnpehfcaaaa
open Go.ChangeShapes Go.WideShapes Go.ChangeAt Go.RowKit
set_option linter.unusedVariables false
set_option linter.unusedSimpArgs false
set_option maxRecDepth 100000
set_option maxHeartbeats 20000000

theorem walk (older newer : List UInt8) (ix sz : Int) (pa : Option Addr) (pc : Nat) (pl : List (List UInt8)) (w : World) (ho : older.length = 32) (hnw : newer.length = 32) (hp : Row w pa (pl.flatten.map b8)) (h32 : S32 pl) (hpc : pl.length ≤ pc) (hpm : pl.length ≤ 4398046511104) (hi1 : -9223372036854775808 ≤ ix) (hi2 : ix ≤ 9223372036854775807) (hs1 : -9223372036854775808 ≤ sz) (hs2 : sz ≤ 9223372036854775807) :
    Ret Try.prog 11 [.agg (older.map b8).toArray, .agg (newer.map b8).toArray, .agg #[.int .i64 ix, .int .i64 sz, .slice pa pl.length pc]] w (fun v w' => v = .bool true ∧ St w [] w' []) := by
  refine enter Try.func11 rfl Try.ntmps11 rfl ?_
  have hS := St.refl w []
  refine c_seq ?_
  refine c_region ?_
  refine wl_exv (x_box hS (v := .agg _) rfl rfl) rfl ?_
  rintro _ w1 ⟨b3, rfl, hS2⟩
  refine wl_exv (x_box hS2 (v := .agg _) rfl rfl) rfl ?_
  rintro _ w3 ⟨b4, rfl, hS4⟩
  refine wl_exv (x_box hS4 (v := .agg _) rfl rfl) rfl ?_
  rintro _ w5 ⟨b5, rfl, hS6⟩
  refine wl_val (r_assign (v := .bool false) rfl) rfl ?_
  refine wl_nil ?_
  refine c_then ?_
  refine c_seq ?_
  refine c_seq ?_
  refine c_region ?_
  refine wl_call (r_call fn20 rfl rfl) rfl (landed_ok _) ?_
  rintro _ w7 ⟨rfl, hx8⟩
  have hS9 := hS6.ext hx8
  refine wl_val (r_not rfl) rfl ?_
  refine wl_nil ?_
  refine c_then ?_
  refine c_false rfl ?_
  refine wp_skip ?_
  refine c_then ?_
  refine c_seq ?_
  refine c_drawS 7 hMixed hS9 ?_
  intro w10 hS11
  refine g_take 0 rfl (by decide +kernel) rfl (fun _ _ _ h => h) hS11 (fun wF hF => r_loadB ti49 rfl rfl (hF.heap (.tail _ (.tail _ (.head _)))) (by first | (simp [*]; done) | (simp [*] <;> omega) | omega)) ?_
  refine g_take 1 rfl (by decide +kernel) rfl (fun _ _ _ h => h) hS11 (fun wF hF => r_loadB ti49 rfl rfl (hF.heap (.tail _ (.head _))) (by first | (simp [*]; done) | (simp [*] <;> omega) | omega)) ?_
  refine g_take 2 rfl (by decide +kernel) rfl (fun _ _ _ h => h) hS11 (fun wF hF => r_loadB ti55 ag55 rfl (hF.heap (.head _)) (by first | (simp [*]; done) | (simp [*] <;> omega) | omega)) ?_
  refine g_take 4 rfl (by decide +kernel) rfl (fun _ _ _ h => h) hS11 (fun wF hF => r_loadB ti49 rfl rfl (hF.heap (.tail _ (.tail _ (.head _)))) (by first | (simp [*]; done) | (simp [*] <;> omega) | omega)) ?_
  refine g_take 5 rfl (by decide +kernel) rfl (fun _ _ _ h => h) hS11 (fun wF hF => r_loadB ti49 rfl rfl (hF.heap (.tail _ (.head _))) (by first | (simp [*]; done) | (simp [*] <;> omega) | omega)) ?_
  refine g_take 6 rfl (by decide +kernel) rfl (fun _ _ _ h => h) hS11 (fun wF hF => r_loadB ti55 ag55 rfl (hF.heap (.head _)) (by first | (simp [*]; done) | (simp [*] <;> omega) | omega)) ?_
  refine g_one 3 (by decide +kernel) (by decide +kernel) ?_
  refine o_call rfl (r_call fn63 rfl rfl) rfl (grown_ok older newer ix sz pa pc pl _ ho hnw (hp.st hS11) h32 hpc hpm hi1 hi2 hs1 hs2) ?_
  rintro _ w12 ⟨rfl, hx13⟩
  have hS14 := hS11.ext hx13
  refine ⟨hS14, ?_⟩
  refine g_tail (by decide +kernel) rfl (by decide +kernel) ?_
  refine wl_call (r_call fn64 rfl rfl) rfl (rgrown_ok older newer ix sz pa pc pl _ ho hnw (hp.st hS14) h32 hpc hpm hi1 hi2 hs1 hs2) ?_
  rintro _ w15 ⟨rfl, hx16⟩
  have hS17 := hS14.ext hx16
  refine wl_dec_t (r_eql rfl rfl) rfl rfl ?_
  refine wl_val (r_assign (v := .bool _) rfl) rfl ?_
  refine wl_nil ?_
  refine c_then ?_
  refine wp_ret ?_
  refine ret1 Try.results11 ?_
  exact ⟨rfl, hS17.fin⟩


theorem own : ownKnob Try.prog.godebug = none := by kernel_rfl
theorem laidOut : laidOutB Try.prog = true := by kernel_rfl
theorem readable49 : Try.prog.readableRec 49 = true := by kernel_rfl
theorem inside49 : decide (49 < Try.prog.types.size) = true := by kernel_rfl
theorem readable55 : Try.prog.readableRec 55 = true := by kernel_rfl
theorem inside55 : decide (55 < Try.prog.types.size) = true := by kernel_rfl
theorem lifted (os : Os) (started : os.Started) (H : Type) (enc : TypeId × Value → H) :
    ReturnsInHanded {} Try.checked os 11 .any (Rows.rawGrowthSpec.pre6 enc Try.prog Try.f11 Rows.rawGrowthRow.domain false) (Rows.rawGrowthSpec.post enc Try.prog Try.f11 false true false false) := by
  refine returnsInHanded_of_change_sized (C := Try.checked) own started (by kernel_rfl) Try.func11
    (ChangeSpec.witness6 (enc := enc) (C := Try.checked) false ⟨#[], #[.agg ((List.replicate 32 (0 : UInt8)).map b8).toArray, .agg ((List.replicate 32 (0 : UInt8)).map b8).toArray, .agg #[.int .i64 0, .int .i64 0, .slice none 0 0]], []⟩ 8 (by kernel_rfl) (by kernel_rfl) (by kernel_rfl) (by kernel_rfl)) ?_
  intro W base args ds gs before hval0 hW hcnd hsz0 _
  have hval : ∀ (j : Nat) t v, Try.f11.params[j]? = some t → args[j]? = some v → Value.okWide Try.prog W .any base t v := hval0
  have hW' := hW
  obtain ⟨p, q, hA0, hV, rfl, hfz, hnd⟩ := hW
  have hA : DataW.TrodAll enc Try.prog W 0 (fun _ => true) true Try.f11.params.toList args.toList ds p := hA0
  have hsz : (DataW.weightsEach Try.prog (Try.f11.params.toList ++ Rows.rawGrowthSpec.plain.varTypes Try.prog) (ds ++ gs)).all (· ≤ reachBytes) = true := hsz0
  rw [Try.params11] at hA hval hsz
  obtain ⟨v0, vs0, d0, ds0, p0, q0, hargs, rfl, rfl, h0, r0⟩ := trodAll_cons hA
  obtain ⟨v1, vs1, d1, ds1, p1, q1, rfl, rfl, rfl, h1, r1⟩ := trodAll_cons r0
  obtain ⟨v2, vs2, d2, ds2, p2, q2, rfl, rfl, rfl, h2, r2⟩ := trodAll_cons r1
  obtain ⟨rfl, rfl, rfl⟩ := trodAll_nil r2
  obtain rfl : args = #[v0, v1, v2] := by cases args; simp_all
  obtain ⟨rfl, rfl⟩ := trodVars_none hV
  have lt0 : ∀ x ∈ p0, x.block < W.heap.size := by obtain ⟨m, hm⟩ := h0; exact DataW.trod_lt m _ _ _ hm
  have lt1 : ∀ x ∈ p1, x.block < W.heap.size := by obtain ⟨m, hm⟩ := h1; exact DataW.trod_lt m _ _ _ hm
  have lt2 : ∀ x ∈ p2, x.block < W.heap.size := by obtain ⟨m, hm⟩ := h2; exact DataW.trod_lt m _ _ _ hm
  have ok0 := hval 0 49 v0 rfl rfl
  obtain ⟨older, lolder, rfl⟩ := open_bytesA Try.underlying49 Try.underlying5 (by kernel_rfl) (by kernel_rfl) ok0 h0
  have ok1 := hval 1 49 v1 rfl rfl
  obtain ⟨newer, lnewer, rfl⟩ := open_bytesA Try.underlying49 Try.underlying5 (by kernel_rfl) (by kernel_rfl) ok1 h1
  have ok2 := hval 2 55 v2 rfl rfl
  obtain ⟨⟨ix, sz, ⟨pa, pc, pl⟩, _⟩, rfl, ⟨hi1, hi2⟩, ⟨hs1, hs2⟩, ⟨rpl, lpl, cpl, h32⟩, _⟩ := open_struct (j := 2) Try.underlying55 (opens_struct Try.underlying55 (by kernel_rfl) (opensFs_cons (sz := 1) (opens_i64 Try.underlying3) rfl (by kernel_rfl) (opensFs_cons (sz := 1) (opens_i64 Try.underlying3) rfl (by kernel_rfl) (opensFs_cons (sz := 1) (opens_sums Try.underlying53 Try.underlying49 Try.underlying5 (by kernel_rfl) (by kernel_rfl) (by kernel_rfl)) rfl (by kernel_rfl) opensFs_nil (by simp)) (by simp)) (by simp))) ok2 h2 hsz rfl rfl
  simp only [] at hi1 hi2 hs1 hs2 rpl lpl cpl h32
  refine Calls.mono (walk older newer ix sz pa pc pl W lolder lnewer rpl h32 lpl (by omega) hi1 hi2 hs1 hs2) fun e W' ⟨v, he, hv, hs⟩ => ?_
  subst hv; subst he
  have bel := hs.below
  exact ⟨_, rfl, _, _, _, [], _, [], hW', trodAll_mk1 (shut_bool Try.underlying4 _), (trodAll_cons_mk (Below.trod laidOut readable49 (of_decide_eq_true inside49) h0 bel lt0) (trodAll_cons_mk (Below.trod laidOut readable49 (of_decide_eq_true inside49) h1 bel lt1) (trodAll_cons_mk (Below.trod laidOut readable55 (of_decide_eq_true inside55) h2 bel lt2) trodAll_mk0))), rfl, bel.frame _, fun h => by cases h⟩
theorem over : Rows.rawGrowthRow.holds Try.pinned (OpenSpec.ofChange Rows.rawGrowthSpec) :=
  OpenClaim.holds_of_wide 11 Try.f11 rfl rfl rfl rfl rfl rfl rfl ⟨rfl, rfl, rfl, rfl, rfl⟩ rfl rfl rfl rfl rfl (by kernel_rfl) Try.func11 (by kernel_rfl)
    (of_decide_eq_true (by kernel_rfl)) (by unfold Func.isWrapper; rw [if_neg (of_decide_eq_false (by kernel_rfl))]; exact ⟨rfl, rfl⟩)
    (fun os started H enc _ => lifted os started H enc)
theorem proved : Rows.RawGrowthSaid := over
#print axioms proved
end Go.Proofs.Ytfohfnpehfcaaaa.lawRawGrowth
