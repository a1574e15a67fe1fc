/- For every sums and proof: There, Absent and Changed of the program are the reference's; the law's function returns true and turns nothing. No condition. -/
import Derived.Test.YtfohfnpehfcaaaaRows
import Derived.Test.YtfohfnpehfcaaaaOpen
import Derived.Test.YtfohfnpehfcaaaaMapB
namespace Go.Proofs.Ytfohfnpehfcaaaa.lawRawMapProofs
open Go.Kw Go.Proofs.Ytfohfnpehfcaaaa
open Go.ChangeShapes Go.WideShapes Go.ChangeAt Go.RowKit
set_option linter.unusedVariables false
set_option linter.unusedSimpArgs false
set_option maxRecDepth 100000
set_option maxHeartbeats 20000000

theorem walk (root k old v : List UInt8) (lv : List UInt8) (pa : Option Addr) (pc : Nat) (pl : List (List UInt8)) (w : World) (hr : root.length = 32) (hk : k.length = 32) (ho : old.length = 32) (hv : v.length = 32) (hlv : lv.length = 32) (hp : Row w pa (pl.flatten.map b8)) (h32 : S32 pl) (hpc : pl.length ≤ pc) (hpm : pl.length ≤ 4398046511104) :
    Ret Try.prog 12 [.agg (root.map b8).toArray, .agg (k.map b8).toArray, .agg (old.map b8).toArray, .agg (v.map b8).toArray, .agg (lv.map b8 ++ [Value.slice pa pl.length pc]).toArray] w (fun x w' => x = .bool true ∧ St w [] w' []) := by
  refine enter Try.func12 rfl Try.ntmps12 rfl ?_
  have hS := St.refl w []
  refine c_seq ?_
  refine c_region ?_
  refine wl_exv (x_box hS (v := .agg _) rfl rfl) rfl ?_
  rintro _ w1 ⟨b5, rfl, hS2⟩
  refine wl_exv (x_box hS2 (v := .agg _) rfl rfl) rfl ?_
  rintro _ w3 ⟨b6, rfl, hS4⟩
  refine wl_exv (x_box hS4 (v := .agg _) rfl rfl) rfl ?_
  rintro _ w5 ⟨b7, rfl, hS6⟩
  refine wl_exv (x_box hS6 (v := .agg _) rfl rfl) rfl ?_
  rintro _ w7 ⟨bb8, rfl, hS8⟩
  refine wl_exv (x_box hS8 (v := .agg _) rfl rfl) rfl ?_
  rintro _ w9 ⟨b9, rfl, hS10⟩
  refine wl_val (r_assign (v := .bool false) rfl) rfl ?_
  refine wl_nil ?_
  refine c_then ?_
  refine c_seq ?_
  refine c_seq ?_
  refine c_region ?_
  refine wl_call (r_call fn20 rfl rfl) rfl (landed_ok _) ?_
  rintro _ w11 ⟨rfl, hx12⟩
  have hS13 := hS10.ext hx12
  refine wl_val (r_not rfl) rfl ?_
  refine wl_nil ?_
  refine c_then ?_
  refine c_false rfl ?_
  refine wp_skip ?_
  refine c_then ?_
  refine c_seq ?_
  refine c_seq ?_
  refine c_drawS 19 hMixed hS13 ?_
  intro w14 hS15
  refine g_take 0 rfl (by decide +kernel) rfl (fun _ _ _ h => h) hS15 (fun wF hF => r_loadB ti49 rfl rfl (hF.heap (.tail _ (.tail _ (.tail _ (.tail _ (.head _)))))) (by first | (simp [*]; done) | (simp [*] <;> omega) | omega)) ?_
  refine g_take 1 rfl (by decide +kernel) rfl (fun _ _ _ h => h) hS15 (fun wF hF => r_loadB ti49 rfl rfl (hF.heap (.tail _ (.tail _ (.tail _ (.head _))))) (by first | (simp [*]; done) | (simp [*] <;> omega) | omega)) ?_
  refine g_take 2 rfl (by decide +kernel) rfl (fun _ _ _ h => h) hS15 (fun wF hF => r_loadB ti49 rfl rfl (hF.heap (.tail _ (.head _))) (by first | (simp [*]; done) | (simp [*] <;> omega) | omega)) ?_
  refine g_take 3 rfl (by decide +kernel) rfl (fun _ _ _ h => h) hS15 (fun wF hF => r_loadB ti95 ag95 rfl (hF.heap (.head _)) (by first | (simp [*]; done) | (simp [*] <;> omega) | omega)) ?_
  refine g_take 5 rfl (by decide +kernel) rfl (fun _ _ _ h => h) hS15 (fun wF hF => r_loadB ti49 rfl rfl (hF.heap (.tail _ (.tail _ (.tail _ (.tail _ (.head _)))))) (by first | (simp [*]; done) | (simp [*] <;> omega) | omega)) ?_
  refine g_take 6 rfl (by decide +kernel) rfl (fun _ _ _ h => h) hS15 (fun wF hF => r_loadB ti49 rfl rfl (hF.heap (.tail _ (.tail _ (.tail _ (.head _))))) (by first | (simp [*]; done) | (simp [*] <;> omega) | omega)) ?_
  refine g_take 7 rfl (by decide +kernel) rfl (fun _ _ _ h => h) hS15 (fun wF hF => r_loadB ti49 rfl rfl (hF.heap (.tail _ (.head _))) (by first | (simp [*]; done) | (simp [*] <;> omega) | omega)) ?_
  refine g_take 8 rfl (by decide +kernel) rfl (fun _ _ _ h => h) hS15 (fun wF hF => r_loadB ti95 ag95 rfl (hF.heap (.head _)) (by first | (simp [*]; done) | (simp [*] <;> omega) | omega)) ?_
  refine g_one 4 (by decide +kernel) (by decide +kernel) ?_
  refine o_call rfl (r_call fn65 rfl rfl) rfl (there_ok root k v lv pa pc pl _ hr hk hv hlv (hp.st hS15) h32 hpc hpm) ?_
  rintro _ w16 ⟨rfl, hx17⟩
  have hS18 := hS15.ext hx17
  refine ⟨hS18, ?_⟩
  refine g_one 9 (by decide +kernel) (by decide +kernel) ?_
  refine o_call rfl (r_call fn66 rfl rfl) rfl (rthere_ok root k v lv pa pc pl _ hr hk hv hlv (hp.st hS18) h32 hpc hpm) ?_
  rintro _ w19 ⟨rfl, hx20⟩
  have hS21 := hS18.ext hx20
  refine ⟨hS21, ?_⟩
  refine g_dec_f 10 rfl (by decide +kernel) rfl (fun _ _ _ _ h => h) hS21 (fun wF hF => r_neq rfl rfl) (not_not_intro rfl) ?_
  refine g_take 11 rfl (by decide +kernel) rfl (fun _ _ _ h => h) hS21 (fun wF hF => r_move (v := .bool _) rfl) ?_
  refine g_take 12 rfl (by decide +kernel) rfl (fun _ _ _ h => h) hS21 (fun wF hF => r_loadB ti49 rfl rfl (hF.heap (.tail _ (.tail _ (.tail _ (.tail _ (.head _)))))) (by first | (simp [*]; done) | (simp [*] <;> omega) | omega)) ?_
  refine g_take 13 rfl (by decide +kernel) rfl (fun _ _ _ h => h) hS21 (fun wF hF => r_loadB ti49 rfl rfl (hF.heap (.tail _ (.tail _ (.tail _ (.head _))))) (by first | (simp [*]; done) | (simp [*] <;> omega) | omega)) ?_
  refine g_take 14 rfl (by decide +kernel) rfl (fun _ _ _ h => h) hS21 (fun wF hF => r_loadB ti95 ag95 rfl (hF.heap (.head _)) (by first | (simp [*]; done) | (simp [*] <;> omega) | omega)) ?_
  refine g_take 16 rfl (by decide +kernel) rfl (fun _ _ _ h => h) hS21 (fun wF hF => r_loadB ti49 rfl rfl (hF.heap (.tail _ (.tail _ (.tail _ (.tail _ (.head _)))))) (by first | (simp [*]; done) | (simp [*] <;> omega) | omega)) ?_
  refine g_take 17 rfl (by decide +kernel) rfl (fun _ _ _ h => h) hS21 (fun wF hF => r_loadB ti49 rfl rfl (hF.heap (.tail _ (.tail _ (.tail _ (.head _))))) (by first | (simp [*]; done) | (simp [*] <;> omega) | omega)) ?_
  refine g_take 18 rfl (by decide +kernel) rfl (fun _ _ _ h => h) hS21 (fun wF hF => r_loadB ti95 ag95 rfl (hF.heap (.head _)) (by first | (simp [*]; done) | (simp [*] <;> omega) | omega)) ?_
  refine g_one 15 (by decide +kernel) (by decide +kernel) ?_
  refine o_call rfl (r_call fn67 rfl rfl) rfl (absent_ok root k lv pa pc pl _ hr hk hlv (hp.st hS21) h32 hpc hpm) ?_
  rintro _ w22 ⟨rfl, hx23⟩
  have hS24 := hS21.ext hx23
  refine ⟨hS24, ?_⟩
  refine g_tail (by decide +kernel) rfl (by decide +kernel) ?_
  refine wl_call (r_call fn68 rfl rfl) rfl (rabsent_ok root k lv pa pc pl _ hr hk hlv (hp.st hS24) h32 hpc hpm) ?_
  rintro _ w25 ⟨rfl, hx26⟩
  have hS27 := hS24.ext hx26
  refine wl_dec_f (r_neq rfl rfl) rfl (not_not_intro rfl) ?_
  refine wl_val (r_pick_f rfl (v := .bool _) rfl) rfl ?_
  refine wl_nil ?_
  refine c_then ?_
  refine c_false rfl ?_
  refine wp_skip ?_
  refine c_then ?_
  refine c_seq ?_
  refine c_region ?_
  refine wl_val (r_loadB ti49 rfl rfl (hS27.heap (.tail _ (.tail _ (.tail _ (.tail _ (.head _)))))) (by first | (simp [*]; done) | (simp [*] <;> omega) | omega)) rfl ?_
  refine wl_val (r_loadB ti49 rfl rfl (hS27.heap (.tail _ (.tail _ (.tail _ (.head _))))) (by first | (simp [*]; done) | (simp [*] <;> omega) | omega)) rfl ?_
  refine wl_val (r_loadB ti49 rfl rfl (hS27.heap (.tail _ (.tail _ (.head _)))) (by first | (simp [*]; done) | (simp [*] <;> omega) | omega)) rfl ?_
  refine wl_val (r_loadB ti49 rfl rfl (hS27.heap (.tail _ (.head _))) (by first | (simp [*]; done) | (simp [*] <;> omega) | omega)) rfl ?_
  refine wl_val (r_loadB ti95 ag95 rfl (hS27.heap (.head _)) (by first | (simp [*]; done) | (simp [*] <;> omega) | omega)) rfl ?_
  refine wl_call (r_call fn69 rfl rfl) rfl (changed_ok root k old v lv pa pc pl _ hr hk ho hv hlv (hp.st hS27) h32 hpc hpm) ?_
  rintro _ w28 ⟨rfl, hx29⟩
  have hS30 := hS27.ext hx29
  refine wl_val (r_move (v := .tuple _) rfl) rfl ?_
  refine wl_val (r_extract (v := .agg _) rfl rfl) rfl ?_
  refine wl_val (r_extract (v := .int .i64 _) rfl rfl) rfl ?_
  refine wl_exv (x_alloc (C := ((List.replicate 32 (0 : UInt8)).map b8)) hS30 ti49 rfl) rfl ?_
  rintro _ w31 ⟨b11, rfl, hS32⟩
  refine wl_exs (x_storeW [] hS32 ti49 rfl rfl (by rw [List.length_map]; exact changed_len _ _ _ _ _ _) (by simp) (one_b8 _)) rfl ?_
  intro w33 hS34
  simp only [List.cons_append, List.nil_append] at hS34
  refine wl_val (r_assign (v := .int .i64 _) rfl) rfl ?_
  refine wl_nil ?_
  refine c_then ?_
  refine c_seq ?_
  refine c_region ?_
  refine wl_val (r_loadB ti49 rfl rfl (hS34.heap (.tail _ (.tail _ (.tail _ (.tail _ (.tail _ (.head _))))))) (by first | (simp [*]; done) | (simp [*] <;> omega) | omega)) rfl ?_
  refine wl_val (r_loadB ti49 rfl rfl (hS34.heap (.tail _ (.tail _ (.tail _ (.tail _ (.head _)))))) (by first | (simp [*]; done) | (simp [*] <;> omega) | omega)) rfl ?_
  refine wl_val (r_loadB ti49 rfl rfl (hS34.heap (.tail _ (.tail _ (.tail _ (.head _))))) (by first | (simp [*]; done) | (simp [*] <;> omega) | omega)) rfl ?_
  refine wl_val (r_loadB ti49 rfl rfl (hS34.heap (.tail _ (.tail _ (.head _)))) (by first | (simp [*]; done) | (simp [*] <;> omega) | omega)) rfl ?_
  refine wl_val (r_loadB ti95 ag95 rfl (hS34.heap (.tail _ (.head _))) (by first | (simp [*]; done) | (simp [*] <;> omega) | omega)) rfl ?_
  refine wl_call (r_call fn70 rfl rfl) rfl (rchanged_ok root k old v lv pa pc pl _ hr hk ho hv hlv (hp.st hS34) h32 hpc hpm) ?_
  rintro _ w35 ⟨rfl, hx36⟩
  have hS37 := hS34.ext hx36
  refine wl_val (r_move (v := .tuple _) rfl) rfl ?_
  refine wl_val (r_extract (v := .agg _) rfl rfl) rfl ?_
  refine wl_val (r_extract (v := .int .i64 _) rfl rfl) rfl ?_
  refine wl_exv (x_alloc (C := ((List.replicate 32 (0 : UInt8)).map b8)) hS37 ti49 rfl) rfl ?_
  rintro _ w38 ⟨b13, rfl, hS39⟩
  refine wl_exs (x_storeW [] hS39 ti49 rfl rfl (by rw [List.length_map]; exact changed_len _ _ _ _ _ _) (by simp) (one_b8 _)) rfl ?_
  intro w40 hS41
  simp only [List.cons_append, List.nil_append] at hS41
  refine wl_val (r_assign (v := .int .i64 _) rfl) rfl ?_
  refine wl_nil ?_
  refine c_then ?_
  refine c_seq ?_
  refine c_region ?_
  refine wl_val (r_loadB ti49 rfl rfl (hS41.heap (.tail _ (.head _))) (by rw [List.length_map]; exact changed_len _ _ _ _ _ _)) rfl ?_
  refine wl_val (r_loadB ti49 rfl rfl (hS41.heap (.head _)) (by rw [List.length_map]; exact changed_len _ _ _ _ _ _)) rfl ?_
  refine wl_dec_t (r_eqlA (u := undef) eg49 rfl rfl (eqIs_b8 ti49.und ti5 _ _ (changed_len _ _ _ _ _ _) (changed_len _ _ _ _ _ _))) rfl rfl ?_
  refine wl_val (r_move (v := .bool _) rfl) rfl ?_
  refine wl_val (r_move (v := .int .i64 _) rfl) rfl ?_
  refine wl_val (r_move (v := .int .i64 _) rfl) rfl ?_
  refine wl_dec_t (r_eql rfl rfl) rfl rfl ?_
  refine wl_val (r_pick_t rfl (v := .bool _) rfl) rfl ?_
  refine wl_val (r_assign (v := .bool _) rfl) rfl ?_
  refine wl_nil ?_
  refine c_then ?_
  refine wp_ret ?_
  refine ret1 Try.results12 ?_
  exact ⟨rfl, hS41.fin⟩


theorem own : ownKnob Try.prog.godebug = none := by kernel_rfl
theorem laidOut : laidOutB Try.prog = true := by kernel_rfl
theorem readable49 : Try.prog.readableRec 49 = true := by kernel_rfl
theorem inside49 : decide (49 < Try.prog.types.size) = true := by kernel_rfl
theorem readable95 : Try.prog.readableRec 95 = true := by kernel_rfl
theorem inside95 : decide (95 < Try.prog.types.size) = true := by kernel_rfl
theorem lifted (os : Os) (started : os.Started) (H : Type) (enc : TypeId × Value → H) :
    ReturnsInHanded {} Try.checked os 12 .any (Rows.rawMapProofsSpec.pre6 enc Try.prog Try.f12 Rows.rawMapProofsRow.domain false) (Rows.rawMapProofsSpec.post enc Try.prog Try.f12 false true false false) := by
  refine returnsInHanded_of_change_sized (C := Try.checked) own started (by kernel_rfl) Try.func12
    (ChangeSpec.witness6 (enc := enc) (C := Try.checked) false ⟨#[], #[.agg ((List.replicate 32 (0 : UInt8)).map b8).toArray, .agg ((List.replicate 32 (0 : UInt8)).map b8).toArray, .agg ((List.replicate 32 (0 : UInt8)).map b8).toArray, .agg ((List.replicate 32 (0 : UInt8)).map b8).toArray, .agg #[.int .u8 0, .int .u8 0, .int .u8 0, .int .u8 0, .int .u8 0, .int .u8 0, .int .u8 0, .int .u8 0, .int .u8 0, .int .u8 0, .int .u8 0, .int .u8 0, .int .u8 0, .int .u8 0, .int .u8 0, .int .u8 0, .int .u8 0, .int .u8 0, .int .u8 0, .int .u8 0, .int .u8 0, .int .u8 0, .int .u8 0, .int .u8 0, .int .u8 0, .int .u8 0, .int .u8 0, .int .u8 0, .int .u8 0, .int .u8 0, .int .u8 0, .int .u8 0, .slice none 0 0]], []⟩ 8 (by kernel_rfl) (by kernel_rfl) (by kernel_rfl) (by kernel_rfl)) ?_
  intro W base args ds gs before hval0 hW hcnd hsz0 _
  have hval : ∀ (j : Nat) t v, Try.f12.params[j]? = some t → args[j]? = some v → Value.okWide Try.prog W .any base t v := hval0
  have hW' := hW
  obtain ⟨p, q, hA0, hV, rfl, hfz, hnd⟩ := hW
  have hA : DataW.TrodAll enc Try.prog W 0 (fun _ => true) true Try.f12.params.toList args.toList ds p := hA0
  have hsz : (DataW.weightsEach Try.prog (Try.f12.params.toList ++ Rows.rawMapProofsSpec.plain.varTypes Try.prog) (ds ++ gs)).all (· ≤ reachBytes) = true := hsz0
  rw [Try.params12] at hA hval hsz
  obtain ⟨v0, vs0, d0, ds0, p0, q0, hargs, rfl, rfl, h0, r0⟩ := trodAll_cons hA
  obtain ⟨v1, vs1, d1, ds1, p1, q1, rfl, rfl, rfl, h1, r1⟩ := trodAll_cons r0
  obtain ⟨v2, vs2, d2, ds2, p2, q2, rfl, rfl, rfl, h2, r2⟩ := trodAll_cons r1
  obtain ⟨v3, vs3, d3, ds3, p3, q3, rfl, rfl, rfl, h3, r3⟩ := trodAll_cons r2
  obtain ⟨v4, vs4, d4, ds4, p4, q4, rfl, rfl, rfl, h4, r4⟩ := trodAll_cons r3
  obtain ⟨rfl, rfl, rfl⟩ := trodAll_nil r4
  obtain rfl : args = #[v0, v1, v2, v3, v4] := by cases args; simp_all
  obtain ⟨rfl, rfl⟩ := trodVars_none hV
  have lt0 : ∀ x ∈ p0, x.block < W.heap.size := by obtain ⟨m, hm⟩ := h0; exact DataW.trod_lt m _ _ _ hm
  have lt1 : ∀ x ∈ p1, x.block < W.heap.size := by obtain ⟨m, hm⟩ := h1; exact DataW.trod_lt m _ _ _ hm
  have lt2 : ∀ x ∈ p2, x.block < W.heap.size := by obtain ⟨m, hm⟩ := h2; exact DataW.trod_lt m _ _ _ hm
  have lt3 : ∀ x ∈ p3, x.block < W.heap.size := by obtain ⟨m, hm⟩ := h3; exact DataW.trod_lt m _ _ _ hm
  have lt4 : ∀ x ∈ p4, x.block < W.heap.size := by obtain ⟨m, hm⟩ := h4; exact DataW.trod_lt m _ _ _ hm
  have ok0 := hval 0 49 v0 rfl rfl
  obtain ⟨root, lroot, rfl⟩ := open_bytesA Try.underlying49 Try.underlying5 (by kernel_rfl) (by kernel_rfl) ok0 h0
  have ok1 := hval 1 49 v1 rfl rfl
  obtain ⟨k, lk, rfl⟩ := open_bytesA Try.underlying49 Try.underlying5 (by kernel_rfl) (by kernel_rfl) ok1 h1
  have ok2 := hval 2 49 v2 rfl rfl
  obtain ⟨old, lold, rfl⟩ := open_bytesA Try.underlying49 Try.underlying5 (by kernel_rfl) (by kernel_rfl) ok2 h2
  have ok3 := hval 3 49 v3 rfl rfl
  obtain ⟨vv, lvv, rfl⟩ := open_bytesA Try.underlying49 Try.underlying5 (by kernel_rfl) (by kernel_rfl) ok3 h3
  have ok4 := hval 4 95 v4 rfl rfl
  obtain ⟨⟨lv, ⟨pa, pc, pl⟩, _⟩, rfl, hlv, ⟨rpl, lpl, cpl, h32⟩, _⟩ := open_struct (j := 4) Try.underlying95 (opens_struct Try.underlying95 (by kernel_rfl) (opensFs_cons (sz := 32) (opens_bytesA Try.underlying31 Try.underlying5 (by kernel_rfl) (by kernel_rfl)) rfl (by kernel_rfl) (opensFs_cons (sz := 1) (opens_sums Try.underlying53 Try.underlying49 Try.underlying5 (by kernel_rfl) (by kernel_rfl) (by kernel_rfl)) rfl (by kernel_rfl) opensFs_nil (by simp)) (by simp))) ok4 h4 hsz rfl rfl
  simp only [] at hlv rpl lpl cpl h32
  refine Calls.mono (walk root k old vv lv pa pc pl W lroot lk lold lvv hlv rpl h32 lpl (by omega)) fun e W' ⟨v, he, hv, hs⟩ => ?_
  subst hv; subst he
  have bel := hs.below
  exact ⟨_, rfl, _, _, _, [], _, [], hW', trodAll_mk1 (shut_bool Try.underlying4 _), (trodAll_cons_mk (Below.trod laidOut readable49 (of_decide_eq_true inside49) h0 bel lt0) (trodAll_cons_mk (Below.trod laidOut readable49 (of_decide_eq_true inside49) h1 bel lt1) (trodAll_cons_mk (Below.trod laidOut readable49 (of_decide_eq_true inside49) h2 bel lt2) (trodAll_cons_mk (Below.trod laidOut readable49 (of_decide_eq_true inside49) h3 bel lt3) (trodAll_cons_mk (Below.trod laidOut readable95 (of_decide_eq_true inside95) h4 bel lt4) trodAll_mk0))))), rfl, bel.frame _, fun h => by cases h⟩
theorem over : Rows.rawMapProofsRow.holds Try.pinned (OpenSpec.ofChange Rows.rawMapProofsSpec) :=
  OpenClaim.holds_of_wide 12 Try.f12 rfl rfl rfl rfl rfl rfl rfl ⟨rfl, rfl, rfl, rfl, rfl⟩ rfl rfl rfl rfl rfl (by kernel_rfl) Try.func12 (by kernel_rfl)
    (of_decide_eq_true (by kernel_rfl)) (by unfold Func.isWrapper; rw [if_neg (of_decide_eq_false (by kernel_rfl))]; exact ⟨rfl, rfl⟩)
    (fun os started H enc _ => lifted os started H enc)
theorem proved : Rows.RawMapProofsSaid := over
#print axioms proved
end Go.Proofs.Ytfohfnpehfcaaaa.lawRawMapProofs
