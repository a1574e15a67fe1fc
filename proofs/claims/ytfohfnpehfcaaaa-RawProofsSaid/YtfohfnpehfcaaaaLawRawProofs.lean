/- For every leaf, root and proof: RootBy and Proved of the program are the reference's; the law's function returns true and turns nothing. No condition. -/
import Derived.Test.YtfohfnpehfcaaaaRows
import Derived.Test.YtfohfnpehfcaaaaOpen
import Derived.Test.YtfohfnpehfcaaaaTreeB
namespace Go.Proofs.Ytfohfnpehfcaaaa.lawRawProofs
open Go.Kw Go.Proofs.Ytfohfnpehfcaaaa
open Go.ChangeShapes Go.WideShapes Go.ChangeAt Go.RowKit
set_option linter.unusedVariables false
set_option linter.unusedSimpArgs false
set_option maxRecDepth 100000
set_option maxHeartbeats 20000000

theorem walk (root : List UInt8) (hroot : root.length = 32) (leaf : List UInt8) (ix sz : Int) (pa : Option Addr) (pc : Nat) (pl : List (List UInt8)) (w : World) (hleaf : leaf.length = 32) (hp : Row w pa (pl.flatten.map b8)) (h32 : S32 pl) (hpc : pl.length ≤ pc) (hpm : pl.length ≤ 4398046511104) (hi1 : -9223372036854775808 ≤ ix) (hi2 : ix ≤ 9223372036854775807) (hs1 : -9223372036854775808 ≤ sz) (hs2 : sz ≤ 9223372036854775807) :
    Ret Try.prog 10 [.agg (leaf.map b8).toArray, .agg (root.map b8).toArray, .agg #[.int .i64 ix, .int .i64 sz, .slice pa pl.length pc]] w (fun v w' => v = .bool true ∧ St w [] w' []) := by
  refine enter Try.func10 rfl Try.ntmps10 rfl ?_
  have hS := St.refl w []
  refine c_seq ?_
  refine c_region ?_
  refine wl_exv (x_box hS (v := .agg _) rfl rfl) rfl ?_
  rintro _ w1 ⟨b3, rfl, hS2⟩
  refine wl_exv (x_box hS2 (v := .agg _) rfl rfl) rfl ?_
  rintro _ w3 ⟨b4, rfl, hS4⟩
  refine wl_exv (x_box hS4 (v := .agg _) rfl rfl) rfl ?_
  rintro _ w5 ⟨b5, rfl, hS6⟩
  refine wl_val (r_assign (v := .bool false) rfl) rfl ?_
  refine wl_nil ?_
  refine c_then ?_
  refine c_seq ?_
  refine c_seq ?_
  refine c_region ?_
  refine wl_call (r_call fn20 rfl rfl) rfl (landed_ok _) ?_
  rintro _ w7 ⟨rfl, hx8⟩
  have hS9 := hS6.ext hx8
  refine wl_val (r_not rfl) rfl ?_
  refine wl_nil ?_
  refine c_then ?_
  refine c_false rfl ?_
  refine wp_skip ?_
  refine c_then ?_
  refine c_seq ?_
  refine c_region ?_
  refine wl_val (r_loadB ti49 rfl rfl (hS9.heap (.tail _ (.tail _ (.head _)))) (by first | (simp [*]; done) | (simp [*] <;> omega) | omega)) rfl ?_
  refine wl_val (r_loadB ti55 ag55 rfl (hS9.heap (.head _)) (by first | (simp [*]; done) | (simp [*] <;> omega) | omega)) rfl ?_
  refine wl_call (r_call fn60 rfl rfl) rfl (rootBy_ok leaf ix sz pa pc pl _ hleaf (hp.st hS9) h32 hpc hpm hi1 hi2 hs1 hs2) ?_
  rintro _ w10 ⟨rfl, hx11⟩
  have hS12 := hS9.ext hx11
  refine wl_val (r_move (v := .tuple _) rfl) rfl ?_
  refine wl_val (r_extract (v := .agg _) rfl rfl) rfl ?_
  refine wl_val (r_extract (v := .int .i64 _) rfl rfl) rfl ?_
  refine wl_exv (x_alloc (C := ((List.replicate 32 (0 : UInt8)).map b8)) hS12 ti49 rfl) rfl ?_
  rintro _ w13 ⟨b7, rfl, hS14⟩
  refine wl_exs (x_storeW [] hS14 ti49 rfl rfl (by rw [List.length_map]; exact rootByL_len _ _ _ _ hleaf) (by simp) (one_b8 _)) rfl ?_
  intro w15 hS16
  simp only [List.cons_append, List.nil_append] at hS16
  refine wl_val (r_assign (v := .int .i64 _) rfl) rfl ?_
  refine wl_nil ?_
  refine c_then ?_
  refine c_seq ?_
  refine c_region ?_
  refine wl_val (r_loadB ti49 rfl rfl (hS16.heap (.tail _ (.tail _ (.tail _ (.head _))))) (by first | (simp [*]; done) | (simp [*] <;> omega) | omega)) rfl ?_
  refine wl_val (r_loadB ti55 ag55 rfl (hS16.heap (.tail _ (.head _))) (by first | (simp [*]; done) | (simp [*] <;> omega) | omega)) rfl ?_
  refine wl_call (r_call fn61 rfl rfl) rfl (rrootBy_ok leaf ix sz pa pc pl _ hleaf (hp.st hS16) h32 hpc hpm hi1 hi2 hs1 hs2) ?_
  rintro _ w17 ⟨rfl, hx18⟩
  have hS19 := hS16.ext hx18
  refine wl_val (r_move (v := .tuple _) rfl) rfl ?_
  refine wl_val (r_extract (v := .agg _) rfl rfl) rfl ?_
  refine wl_val (r_extract (v := .int .i64 _) rfl rfl) rfl ?_
  refine wl_exv (x_alloc (C := ((List.replicate 32 (0 : UInt8)).map b8)) hS19 ti49 rfl) rfl ?_
  rintro _ w20 ⟨b9, rfl, hS21⟩
  refine wl_exs (x_storeW [] hS21 ti49 rfl rfl (by rw [List.length_map]; exact rootByL_len _ _ _ _ hleaf) (by simp) (one_b8 _)) rfl ?_
  intro w22 hS23
  simp only [List.cons_append, List.nil_append] at hS23
  refine wl_val (r_assign (v := .int .i64 _) rfl) rfl ?_
  refine wl_nil ?_
  refine c_then ?_
  refine c_seq ?_
  refine c_seq ?_
  refine c_region ?_
  refine wl_val (r_loadB ti49 rfl rfl (hS23.heap (.tail _ (.head _))) (by rw [List.length_map]; exact rootByL_len _ _ _ _ hleaf)) rfl ?_
  refine wl_val (r_loadB ti49 rfl rfl (hS23.heap (.head _)) (by rw [List.length_map]; exact rootByL_len _ _ _ _ hleaf)) rfl ?_
  refine wl_dec_f (r_neqA (u := undef) eg49 rfl rfl (eqIs_b8 ti49.und ti5 _ _ (rootByL_len _ _ _ _ hleaf) (rootByL_len _ _ _ _ hleaf))) rfl (not_not_intro rfl) ?_
  refine wl_val (r_move (v := .bool _) rfl) rfl ?_
  refine wl_val (r_move (v := .int .i64 _) rfl) rfl ?_
  refine wl_val (r_move (v := .int .i64 _) rfl) rfl ?_
  refine wl_dec_f (r_neq rfl rfl) rfl (not_not_intro rfl) ?_
  refine wl_val (r_pick_f rfl (v := .bool _) rfl) rfl ?_
  refine wl_nil ?_
  refine c_then ?_
  refine c_false rfl ?_
  refine wp_skip ?_
  refine c_then ?_
  refine c_seq ?_
  refine c_seq ?_
  refine c_region ?_
  refine wl_val (r_move (v := .int .i64 _) rfl) rfl ?_
  refine wl_dec (r_eql rfl rfl) rfl (fun h7_1 => ?_) (fun h7_1 => ?_)
  · refine wl_val (r_move (v := .bool _) rfl) rfl ?_
    refine wl_val (r_loadB ti49 rfl rfl (hS23.heap (.head _)) (by rw [List.length_map]; exact rootByL_len _ _ _ _ hleaf)) rfl ?_
    refine wl_val (r_loadB ti49 rfl rfl (hS23.heap (.tail _ (.tail _ (.tail _ (.head _))))) (by first | (simp [*]; done) | (simp [*] <;> omega) | omega)) rfl ?_
    refine wl_dec (r_neqA (u := undef) eg49 rfl rfl (eqIs_b8 ti49.und ti5 _ _ (rootByL_len _ _ _ _ hleaf) hroot)) rfl (fun h7_5 => ?_) (fun h7_5 => ?_)
    · refine wl_val (r_pick_t rfl (v := .bool _) rfl) rfl ?_
      refine wl_nil ?_
      refine c_then ?_
      refine c_true rfl ?_
      refine c_region ?_
      refine wl_val (r_assign (v := .int .i64 12) rfl) rfl ?_
      refine wl_nil ?_
      refine c_then ?_
      refine c_seq ?_
      refine c_region ?_
      refine wl_val (r_loadB ti49 rfl rfl (hS23.heap (.tail _ (.tail _ (.tail _ (.head _))))) (by first | (simp [*]; done) | (simp [*] <;> omega) | omega)) rfl ?_
      refine wl_val (r_loadB ti49 rfl rfl (hS23.heap (.tail _ (.tail _ (.tail _ (.tail _ (.head _)))))) (by first | (simp [*]; done) | (simp [*] <;> omega) | omega)) rfl ?_
      refine wl_val (r_loadB ti55 ag55 rfl (hS23.heap (.tail _ (.tail _ (.head _)))) (by first | (simp [*]; done) | (simp [*] <;> omega) | omega)) rfl ?_
      refine wl_call (r_call fn62 rfl rfl) rfl (proved_ok root hroot leaf ix sz pa pc pl _ hleaf (hp.st hS23) h32 hpc hpm hi1 hi2 hs1 hs2) ?_
      rintro _ w24 ⟨rfl, hx25⟩
      have hS26 := hS23.ext hx25
      refine wl_val (r_move (v := .int .i64 _) rfl) rfl ?_
      refine wl_dec_t (r_eql rfl rfl) rfl (provedE_bad h7_1 h7_5) ?_
      refine wl_val (r_assign (v := .bool _) rfl) rfl ?_
      refine wl_nil ?_
      refine c_then ?_
      refine wp_ret ?_
      refine ret1 Try.results10 ?_
      exact ⟨rfl, hS26.fin⟩
    · refine wl_val (r_pick_t rfl (v := .bool _) rfl) rfl ?_
      refine wl_nil ?_
      refine c_then ?_
      refine c_false rfl ?_
      refine wp_skip ?_
      refine c_then ?_
      refine c_seq ?_
      refine c_region ?_
      refine wl_val (r_loadB ti49 rfl rfl (hS23.heap (.tail _ (.tail _ (.tail _ (.head _))))) (by first | (simp [*]; done) | (simp [*] <;> omega) | omega)) rfl ?_
      refine wl_val (r_loadB ti49 rfl rfl (hS23.heap (.tail _ (.tail _ (.tail _ (.tail _ (.head _)))))) (by first | (simp [*]; done) | (simp [*] <;> omega) | omega)) rfl ?_
      refine wl_val (r_loadB ti55 ag55 rfl (hS23.heap (.tail _ (.tail _ (.head _)))) (by first | (simp [*]; done) | (simp [*] <;> omega) | omega)) rfl ?_
      refine wl_call (r_call fn62 rfl rfl) rfl (proved_ok root hroot leaf ix sz pa pc pl _ hleaf (hp.st hS23) h32 hpc hpm hi1 hi2 hs1 hs2) ?_
      rintro _ w27 ⟨rfl, hx28⟩
      have hS29 := hS23.ext hx28
      refine wl_val (r_move (v := .int .i64 _) rfl) rfl ?_
      refine wl_dec_t (r_eql rfl rfl) rfl (provedE_ok h7_5) ?_
      refine wl_val (r_assign (v := .bool _) rfl) rfl ?_
      refine wl_nil ?_
      refine c_then ?_
      refine wp_ret ?_
      refine ret1 Try.results10 ?_
      exact ⟨rfl, hS29.fin⟩
  · refine wl_val (r_move (v := .bool _) rfl) rfl ?_
    refine wl_not rfl ?_
    refine wl_not rfl ?_
    refine wl_not rfl ?_
    refine wl_val (r_pick_f rfl (v := .bool false) rfl) rfl ?_
    refine wl_nil ?_
    refine c_then ?_
    refine c_false rfl ?_
    refine wp_skip ?_
    refine c_then ?_
    refine c_seq ?_
    refine c_region ?_
    refine wl_val (r_loadB ti49 rfl rfl (hS23.heap (.tail _ (.tail _ (.tail _ (.head _))))) (by first | (simp [*]; done) | (simp [*] <;> omega) | omega)) rfl ?_
    refine wl_val (r_loadB ti49 rfl rfl (hS23.heap (.tail _ (.tail _ (.tail _ (.tail _ (.head _)))))) (by first | (simp [*]; done) | (simp [*] <;> omega) | omega)) rfl ?_
    refine wl_val (r_loadB ti55 ag55 rfl (hS23.heap (.tail _ (.tail _ (.head _)))) (by first | (simp [*]; done) | (simp [*] <;> omega) | omega)) rfl ?_
    refine wl_call (r_call fn62 rfl rfl) rfl (proved_ok root hroot leaf ix sz pa pc pl _ hleaf (hp.st hS23) h32 hpc hpm hi1 hi2 hs1 hs2) ?_
    rintro _ w30 ⟨rfl, hx31⟩
    have hS32 := hS23.ext hx31
    refine wl_val (r_move (v := .int .i64 _) rfl) rfl ?_
    refine wl_dec_t (r_eql rfl rfl) rfl (provedE_no h7_1) ?_
    refine wl_val (r_assign (v := .bool _) rfl) rfl ?_
    refine wl_nil ?_
    refine c_then ?_
    refine wp_ret ?_
    refine ret1 Try.results10 ?_
    exact ⟨rfl, hS32.fin⟩


theorem own : ownKnob Try.prog.godebug = none := by kernel_rfl
theorem laidOut : laidOutB Try.prog = true := by kernel_rfl
theorem readable49 : Try.prog.readableRec 49 = true := by kernel_rfl
theorem inside49 : decide (49 < Try.prog.types.size) = true := by kernel_rfl
theorem readable55 : Try.prog.readableRec 55 = true := by kernel_rfl
theorem inside55 : decide (55 < Try.prog.types.size) = true := by kernel_rfl
theorem lifted (os : Os) (started : os.Started) (H : Type) (enc : TypeId × Value → H) :
    ReturnsInHanded {} Try.checked os 10 .any (Rows.rawProofsSpec.pre6 enc Try.prog Try.f10 Rows.rawProofsRow.domain false) (Rows.rawProofsSpec.post enc Try.prog Try.f10 false true false false) := by
  refine returnsInHanded_of_change_sized (C := Try.checked) own started (by kernel_rfl) Try.func10
    (ChangeSpec.witness6 (enc := enc) (C := Try.checked) false ⟨#[], #[.agg ((List.replicate 32 (0 : UInt8)).map b8).toArray, .agg ((List.replicate 32 (0 : UInt8)).map b8).toArray, .agg #[.int .i64 0, .int .i64 0, .slice none 0 0]], []⟩ 8 (by kernel_rfl) (by kernel_rfl) (by kernel_rfl) (by kernel_rfl)) ?_
  intro W base args ds gs before hval0 hW hcnd hsz0 _
  have hval : ∀ (j : Nat) t v, Try.f10.params[j]? = some t → args[j]? = some v → Value.okWide Try.prog W .any base t v := hval0
  have hW' := hW
  obtain ⟨p, q, hA0, hV, rfl, hfz, hnd⟩ := hW
  have hA : DataW.TrodAll enc Try.prog W 0 (fun _ => true) true Try.f10.params.toList args.toList ds p := hA0
  have hsz : (DataW.weightsEach Try.prog (Try.f10.params.toList ++ Rows.rawProofsSpec.plain.varTypes Try.prog) (ds ++ gs)).all (· ≤ reachBytes) = true := hsz0
  rw [Try.params10] at hA hval hsz
  obtain ⟨v0, vs0, d0, ds0, p0, q0, hargs, rfl, rfl, h0, r0⟩ := trodAll_cons hA
  obtain ⟨v1, vs1, d1, ds1, p1, q1, rfl, rfl, rfl, h1, r1⟩ := trodAll_cons r0
  obtain ⟨v2, vs2, d2, ds2, p2, q2, rfl, rfl, rfl, h2, r2⟩ := trodAll_cons r1
  obtain ⟨rfl, rfl, rfl⟩ := trodAll_nil r2
  obtain rfl : args = #[v0, v1, v2] := by cases args; simp_all
  obtain ⟨rfl, rfl⟩ := trodVars_none hV
  have lt0 : ∀ x ∈ p0, x.block < W.heap.size := by obtain ⟨m, hm⟩ := h0; exact DataW.trod_lt m _ _ _ hm
  have lt1 : ∀ x ∈ p1, x.block < W.heap.size := by obtain ⟨m, hm⟩ := h1; exact DataW.trod_lt m _ _ _ hm
  have lt2 : ∀ x ∈ p2, x.block < W.heap.size := by obtain ⟨m, hm⟩ := h2; exact DataW.trod_lt m _ _ _ hm
  have ok0 := hval 0 49 v0 rfl rfl
  obtain ⟨leaf, lleaf, rfl⟩ := open_bytesA Try.underlying49 Try.underlying5 (by kernel_rfl) (by kernel_rfl) ok0 h0
  have ok1 := hval 1 49 v1 rfl rfl
  obtain ⟨root, lroot, rfl⟩ := open_bytesA Try.underlying49 Try.underlying5 (by kernel_rfl) (by kernel_rfl) ok1 h1
  have ok2 := hval 2 55 v2 rfl rfl
  obtain ⟨⟨ix, sz, ⟨pa, pc, pl⟩, _⟩, rfl, ⟨hi1, hi2⟩, ⟨hs1, hs2⟩, ⟨rpl, lpl, cpl, h32⟩, _⟩ := open_struct (j := 2) Try.underlying55 (opens_struct Try.underlying55 (by kernel_rfl) (opensFs_cons (sz := 1) (opens_i64 Try.underlying3) rfl (by kernel_rfl) (opensFs_cons (sz := 1) (opens_i64 Try.underlying3) rfl (by kernel_rfl) (opensFs_cons (sz := 1) (opens_sums Try.underlying53 Try.underlying49 Try.underlying5 (by kernel_rfl) (by kernel_rfl) (by kernel_rfl)) rfl (by kernel_rfl) opensFs_nil (by simp)) (by simp)) (by simp))) ok2 h2 hsz rfl rfl
  simp only [] at hi1 hi2 hs1 hs2 rpl lpl cpl h32
  refine Calls.mono (walk root lroot leaf ix sz pa pc pl W lleaf rpl h32 lpl (by omega) hi1 hi2 hs1 hs2) fun e W' ⟨v, he, hv, hs⟩ => ?_
  subst hv; subst he
  have bel := hs.below
  exact ⟨_, rfl, _, _, _, [], _, [], hW', trodAll_mk1 (shut_bool Try.underlying4 _), (trodAll_cons_mk (Below.trod laidOut readable49 (of_decide_eq_true inside49) h0 bel lt0) (trodAll_cons_mk (Below.trod laidOut readable49 (of_decide_eq_true inside49) h1 bel lt1) (trodAll_cons_mk (Below.trod laidOut readable55 (of_decide_eq_true inside55) h2 bel lt2) trodAll_mk0))), rfl, bel.frame _, fun h => by cases h⟩
theorem over : Rows.rawProofsRow.holds Try.pinned (OpenSpec.ofChange Rows.rawProofsSpec) :=
  OpenClaim.holds_of_wide 10 Try.f10 rfl rfl rfl rfl rfl rfl rfl ⟨rfl, rfl, rfl, rfl, rfl⟩ rfl rfl rfl rfl rfl (by kernel_rfl) Try.func10 (by kernel_rfl)
    (of_decide_eq_true (by kernel_rfl)) (by unfold Func.isWrapper; rw [if_neg (of_decide_eq_false (by kernel_rfl))]; exact ⟨rfl, rfl⟩)
    (fun os started H enc _ => lifted os started H enc)
theorem proved : Rows.RawProofsSaid := over
#print axioms proved
end Go.Proofs.Ytfohfnpehfcaaaa.lawRawProofs
