/- For every key, label and number: Derive and NameOf of the program are the reference's; the law's function returns true and turns nothing. No condition. -/
import Derived.Test.YtfohfnpehfcaaaaRows
import Derived.Test.YtfohfnpehfcaaaaOpen
import Derived.Test.YtfohfnpehfcaaaaNameB
namespace Go.Proofs.Ytfohfnpehfcaaaa.lawKeysAreDerived
open Go.Kw Go.Proofs.Ytfohfnpehfcaaaa
open Go.ChangeShapes Go.WideShapes Go.ChangeAt Go.RowKit
set_option linter.unusedVariables false
set_option linter.unusedSimpArgs false
set_option maxRecDepth 100000
set_option maxHeartbeats 20000000

theorem nameOfL_len (k : List UInt8) : (nameOfL k).length = 16 := by simp [nameOfL]
theorem derive_ex (k l : List UInt8) (e : Int) : ∃ (K : List UInt8) (er : Nat), deriveE k l e = .tuple #[.agg (K.map b8).toArray, vi er] ∧ K.length = 32 := by
  unfold deriveE
  split
  · split
    · exact ⟨_, 4, rfl, by simp⟩
    · exact ⟨_, 0, rfl, by simp [deriveL]⟩
  · exact ⟨_, 6, rfl, by simp⟩
theorem derive_at {f : Nat} {args : List Value} {w : World} {x y : Value} (h : Ret Try.prog f args w (fun v w' => v = x ∧ St w [] w' [])) (hx : x = y) : Ret Try.prog f args w (fun v w' => v = y ∧ St w [] w' []) := hx ▸ h
theorem walk (k l : List UInt8) (e : Int) (K : List UInt8) (er : Nat) (w : World) (hk : k.length = 32) (hl : l.length ≤ 9223372036854775807) (he1 : -9223372036854775808 ≤ e) (he2 : e ≤ 9223372036854775807) (hD : deriveE k l e = .tuple #[.agg (K.map b8).toArray, vi er]) (hK : K.length = 32) :
    Ret Try.prog 13 [.agg (k.map b8).toArray, .string ⟨l.toArray⟩, .int .i64 e] w (fun v w' => v = .bool true ∧ St w [] w' []) := by
  refine enter Try.func13 rfl Try.ntmps13 rfl ?_
  have hS := St.refl w []
  refine c_seq ?_
  refine c_region ?_
  refine wl_exv (x_box hS (v := .agg _) rfl rfl) rfl ?_
  rintro _ w1 ⟨b3, rfl, hS2⟩
  refine wl_val (r_assign (v := .bool false) rfl) rfl ?_
  refine wl_nil ?_
  refine c_then ?_
  refine c_seq ?_
  refine c_seq ?_
  refine c_region ?_
  refine wl_call (r_call fn20 rfl rfl) rfl (landed_ok _) ?_
  rintro _ w3 ⟨rfl, hx4⟩
  have hS5 := hS2.ext hx4
  refine wl_val (r_not rfl) rfl ?_
  refine wl_nil ?_
  refine c_then ?_
  refine c_false rfl ?_
  refine wp_skip ?_
  refine c_then ?_
  refine c_seq ?_
  refine c_region ?_
  refine wl_val (r_loadB ti61 rfl rfl (hS5.heap (.head _)) (by first | (simp [*]; done) | (simp [*] <;> omega) | omega)) rfl ?_
  refine wl_val (r_move (v := .string _) rfl) rfl ?_
  refine wl_val (r_move (v := .int .i64 _) rfl) rfl ?_
  refine wl_call (r_call fn71 rfl rfl) rfl (derive_at (derive_ok _ _ _ _ hk hl he1 he2) hD) ?_
  rintro _ w6 ⟨rfl, hx7⟩
  have hS8 := hS5.ext hx7
  refine wl_val (r_move (v := .tuple _) rfl) rfl ?_
  refine wl_val (r_extract (v := .agg _) rfl rfl) rfl ?_
  refine wl_val (r_extract (v := .int .i64 _) rfl rfl) rfl ?_
  refine wl_exv (x_alloc (C := ((List.replicate 32 (0 : UInt8)).map b8)) hS8 ti61 rfl) rfl ?_
  rintro _ w9 ⟨b7, rfl, hS10⟩
  refine wl_exs (x_storeW [] hS10 ti61 rfl rfl (by first | (simp [*]; done) | (simp [*] <;> omega) | omega) (by first | (simp [*]; done) | (simp [*] <;> omega) | omega) (by repeat' first | exact one_nil | exact one_b8 _ | exact one_v32 _ | exact one_all rfl | refine one_cons rfl ?_ | refine one_app ?_ ?_)) rfl ?_
  intro w11 hS12
  simp only [List.cons_append, List.nil_append] at hS12
  refine wl_val (r_assign (v := .int .i64 _) rfl) rfl ?_
  refine wl_nil ?_
  refine c_then ?_
  refine c_seq ?_
  refine c_region ?_
  refine wl_val (r_loadB ti61 rfl rfl (hS12.heap (.tail _ (.head _))) (by first | (simp [*]; done) | (simp [*] <;> omega) | omega)) rfl ?_
  refine wl_val (r_move (v := .string _) rfl) rfl ?_
  refine wl_val (r_move (v := .int .i64 _) rfl) rfl ?_
  refine wl_call (r_call fn72 rfl rfl) rfl (derive_at (rderive_ok _ _ _ _ hk hl he1 he2) hD) ?_
  rintro _ w13 ⟨rfl, hx14⟩
  have hS15 := hS12.ext hx14
  refine wl_val (r_move (v := .tuple _) rfl) rfl ?_
  refine wl_val (r_extract (v := .agg _) rfl rfl) rfl ?_
  refine wl_val (r_extract (v := .int .i64 _) rfl rfl) rfl ?_
  refine wl_exv (x_alloc (C := ((List.replicate 32 (0 : UInt8)).map b8)) hS15 ti61 rfl) rfl ?_
  rintro _ w16 ⟨b9, rfl, hS17⟩
  refine wl_exs (x_storeW [] hS17 ti61 rfl rfl (by first | (simp [*]; done) | (simp [*] <;> omega) | omega) (by first | (simp [*]; done) | (simp [*] <;> omega) | omega) (by repeat' first | exact one_nil | exact one_b8 _ | exact one_v32 _ | exact one_all rfl | refine one_cons rfl ?_ | refine one_app ?_ ?_)) rfl ?_
  intro w18 hS19
  simp only [List.cons_append, List.nil_append] at hS19
  refine wl_val (r_assign (v := .int .i64 _) rfl) rfl ?_
  refine wl_nil ?_
  refine c_then ?_
  refine c_seq ?_
  refine c_drawS 12 hMixed hS19 ?_
  intro w20 hS21
  refine g_take 0 rfl (by decide +kernel) rfl (fun _ _ _ h => h) hS21 (fun wF hF => r_loadB ti61 rfl rfl (hF.heap (.tail _ (.head _))) (by first | (simp [*]; done) | (simp [*] <;> omega) | omega)) ?_
  refine g_take 1 rfl (by decide +kernel) rfl (fun _ _ _ h => h) hS21 (fun wF hF => r_loadB ti61 rfl rfl (hF.heap (.head _)) (by first | (simp [*]; done) | (simp [*] <;> omega) | omega)) ?_
  refine g_dec_t 2 rfl (by decide +kernel) rfl (fun _ _ _ _ h => h) hS21 (fun wF hF => r_eqlA (u := undef) eg61 rfl rfl (eqIs_b8 ti61.und ti5 _ _ hK hK)) rfl ?_
  refine g_take 3 rfl (by decide +kernel) rfl (fun _ _ _ h => h) hS21 (fun wF hF => r_move (v := .bool _) rfl) ?_
  refine g_take 4 rfl (by decide +kernel) rfl (fun _ _ _ h => h) hS21 (fun wF hF => r_move (v := .int .i64 _) rfl) ?_
  refine g_take 5 rfl (by decide +kernel) rfl (fun _ _ _ h => h) hS21 (fun wF hF => r_move (v := .int .i64 _) rfl) ?_
  refine g_dec_t 6 rfl (by decide +kernel) rfl (fun _ _ _ _ h => h) hS21 (fun wF hF => r_eql rfl rfl) rfl ?_
  refine g_take 7 rfl (by decide +kernel) rfl (fun _ _ _ h => h) hS21 (fun wF hF => r_pick_t rfl (v := .bool _) rfl) ?_
  refine g_take 8 rfl (by decide +kernel) rfl (fun _ _ _ h => h) hS21 (fun wF hF => r_move (v := .bool _) rfl) ?_
  refine g_take 9 rfl (by decide +kernel) rfl (fun _ _ _ h => h) hS21 (fun wF hF => r_loadB ti61 rfl rfl (hF.heap (.tail _ (.tail _ (.head _)))) (by first | (simp [*]; done) | (simp [*] <;> omega) | omega)) ?_
  refine g_take 11 rfl (by decide +kernel) rfl (fun _ _ _ h => h) hS21 (fun wF hF => r_loadB ti61 rfl rfl (hF.heap (.tail _ (.tail _ (.head _)))) (by first | (simp [*]; done) | (simp [*] <;> omega) | omega)) ?_
  refine g_one 10 (by decide +kernel) (by decide +kernel) ?_
  refine o_call rfl (r_call fn73 rfl rfl) rfl (nameOf_ok _ _ hk) ?_
  rintro _ w22 ⟨rfl, hx23⟩
  have hS24 := hS21.ext hx23
  refine ⟨hS24, ?_⟩
  refine g_tail (by decide +kernel) rfl (by decide +kernel) ?_
  refine wl_call (r_call fn74 rfl rfl) rfl (rnameOf_ok _ _ hk) ?_
  rintro _ w25 ⟨rfl, hx26⟩
  have hS27 := hS24.ext hx26
  refine wl_dec_t (r_eqlA (u := undef) eg102 rfl rfl (eqIs_b8 ti102.und ti5 _ _ (nameOfL_len _) (nameOfL_len _))) rfl rfl ?_
  refine wl_val (r_pick_t rfl (v := .bool _) rfl) rfl ?_
  refine wl_val (r_assign (v := .bool _) rfl) rfl ?_
  refine wl_nil ?_
  refine c_then ?_
  refine wp_ret ?_
  refine ret1 Try.results13 ?_
  exact ⟨rfl, hS27.fin⟩


theorem own : ownKnob Try.prog.godebug = none := by kernel_rfl
theorem laidOut : laidOutB Try.prog = true := by kernel_rfl
theorem readable3 : Try.prog.readableRec 3 = true := by kernel_rfl
theorem inside3 : decide (3 < Try.prog.types.size) = true := by kernel_rfl
theorem readable9 : Try.prog.readableRec 9 = true := by kernel_rfl
theorem inside9 : decide (9 < Try.prog.types.size) = true := by kernel_rfl
theorem readable61 : Try.prog.readableRec 61 = true := by kernel_rfl
theorem inside61 : decide (61 < Try.prog.types.size) = true := by kernel_rfl
theorem lifted (os : Os) (started : os.Started) (H : Type) (enc : TypeId × Value → H) :
    ReturnsInHanded {} Try.checked os 13 .any (Rows.keysAreDerivedSpec.pre6 enc Try.prog Try.f13 Rows.keysAreDerivedRow.domain false) (Rows.keysAreDerivedSpec.post enc Try.prog Try.f13 false true false false) := by
  refine returnsInHanded_of_change_sized (C := Try.checked) own started (by kernel_rfl) Try.func13
    (ChangeSpec.witness6 (enc := enc) (C := Try.checked) false ⟨#[], #[.agg ((List.replicate 32 (0 : UInt8)).map b8).toArray, .string ⟨#[]⟩, .int .i64 0], []⟩ 8 (by kernel_rfl) (by kernel_rfl) (by kernel_rfl) (by kernel_rfl)) ?_
  intro W base args ds gs before hval0 hW hcnd hsz0 _
  have hval : ∀ (j : Nat) t v, Try.f13.params[j]? = some t → args[j]? = some v → Value.okWide Try.prog W .any base t v := hval0
  have hW' := hW
  obtain ⟨p, q, hA0, hV, rfl, hfz, hnd⟩ := hW
  have hA : DataW.TrodAll enc Try.prog W 0 (fun _ => true) true Try.f13.params.toList args.toList ds p := hA0
  have hsz : (DataW.weightsEach Try.prog (Try.f13.params.toList ++ Rows.keysAreDerivedSpec.plain.varTypes Try.prog) (ds ++ gs)).all (· ≤ reachBytes) = true := hsz0
  rw [Try.params13] at hA hval hsz
  obtain ⟨v0, vs0, d0, ds0, p0, q0, hargs, rfl, rfl, h0, r0⟩ := trodAll_cons hA
  obtain ⟨v1, vs1, d1, ds1, p1, q1, rfl, rfl, rfl, h1, r1⟩ := trodAll_cons r0
  obtain ⟨v2, vs2, d2, ds2, p2, q2, rfl, rfl, rfl, h2, r2⟩ := trodAll_cons r1
  obtain ⟨rfl, rfl, rfl⟩ := trodAll_nil r2
  obtain rfl : args = #[v0, v1, v2] := by cases args; simp_all
  obtain ⟨rfl, rfl⟩ := trodVars_none hV
  have lt0 : ∀ x ∈ p0, x.block < W.heap.size := by obtain ⟨m, hm⟩ := h0; exact DataW.trod_lt m _ _ _ hm
  have lt1 : ∀ x ∈ p1, x.block < W.heap.size := by obtain ⟨m, hm⟩ := h1; exact DataW.trod_lt m _ _ _ hm
  have lt2 : ∀ x ∈ p2, x.block < W.heap.size := by obtain ⟨m, hm⟩ := h2; exact DataW.trod_lt m _ _ _ hm
  have ok0 := hval 0 61 v0 rfl rfl
  obtain ⟨k, lk, rfl⟩ := open_bytesA Try.underlying61 Try.underlying5 (by kernel_rfl) (by kernel_rfl) ok0 h0
  have ok1 := hval 1 9 v1 rfl rfl
  obtain ⟨l, rfl, ll⟩ := open_str Try.underlying9 ok1 h1
  have ok2 := hval 2 3 v2 rfl rfl
  obtain ⟨e, rfl, loe, hie⟩ := open_i64 Try.underlying3 ok2 h2
  obtain ⟨K, er, hD, hK⟩ := derive_ex k l e
  refine Calls.mono (walk k l e K er W lk ll loe hie hD hK) fun e W' ⟨v, he, hv, hs⟩ => ?_
  subst hv; subst he
  have bel := hs.below
  exact ⟨_, rfl, _, _, _, [], _, [], hW', trodAll_mk1 (shut_bool Try.underlying4 _), (trodAll_cons_mk (Below.trod laidOut readable61 (of_decide_eq_true inside61) h0 bel lt0) (trodAll_cons_mk (Below.trod laidOut readable9 (of_decide_eq_true inside9) h1 bel lt1) (trodAll_cons_mk (Below.trod laidOut readable3 (of_decide_eq_true inside3) h2 bel lt2) trodAll_mk0))), rfl, bel.frame _, fun h => by cases h⟩
theorem over : Rows.keysAreDerivedRow.holds Try.pinned (OpenSpec.ofChange Rows.keysAreDerivedSpec) :=
  OpenClaim.holds_of_wide 13 Try.f13 rfl rfl rfl rfl rfl rfl rfl ⟨rfl, rfl, rfl, rfl, rfl⟩ rfl rfl rfl rfl rfl (by kernel_rfl) Try.func13 (by kernel_rfl)
    (of_decide_eq_true (by kernel_rfl)) (by unfold Func.isWrapper; rw [if_neg (of_decide_eq_false (by kernel_rfl))]; exact ⟨rfl, rfl⟩)
    (fun os started H enc _ => lifted os started H enc)
theorem proved : Rows.KeysAreDerivedSaid := over
#print axioms proved
end Go.Proofs.Ytfohfnpehfcaaaa.lawKeysAreDerived
