/- For every key and text: TagOf and SealOf are the reference's, and are refused where the text is too large; the law's function returns true and turns nothing. No condition. -/
import Derived.Test.YtfohfnpehfcaaaaRows
import Derived.Test.YtfohfnpehfcaaaaOpen
import Derived.Test.YtfohfnpehfcaaaaMixF
namespace Go.Proofs.Ytfohfnpehfcaaaa.lawTagsMatch
open Go.Kw Go.Proofs.Ytfohfnpehfcaaaa
open Go.ChangeShapes Go.WideShapes Go.ChangeAt Go.RowKit
set_option linter.unusedVariables false
set_option linter.unusedSimpArgs false
set_option maxRecDepth 100000
set_option maxHeartbeats 20000000

theorem walk (k t : List UInt8) (a : Option Addr) (c : Nat) (w : World) (hk : k.length = 32) (hb : Row w a (t.map b8)) (hc : t.length ≤ c) (hn : c ≤ 140737488351232) :
    Ret Try.prog 6 [.agg (k.map b8).toArray, .slice a t.length c] w (fun v w' => v = .bool true ∧ St w [] w' []) := by
  refine enter Try.func6 rfl Try.ntmps6 rfl ?_
  have hS := St.refl w []
  refine c_seq ?_
  refine c_region ?_
  refine wl_exv (x_box hS (v := .agg _) rfl rfl) rfl ?_
  rintro _ w1 ⟨b2, rfl, hS2⟩
  refine wl_val (r_assign (v := .bool false) rfl) rfl ?_
  refine wl_nil ?_
  refine c_then ?_
  refine c_seq ?_
  refine c_seq ?_
  refine c_region ?_
  refine wl_call (r_call fn20 rfl rfl) rfl (landed_ok _) ?_
  rintro _ w3 ⟨rfl, hx4⟩
  have hS5 := hS2.ext hx4
  refine wl_val (r_not rfl) rfl ?_
  refine wl_nil ?_
  refine c_then ?_
  refine c_false rfl ?_
  refine wp_skip ?_
  refine c_then ?_
  refine c_seq ?_
  refine c_region ?_
  refine wl_val (r_loadB ti61 rfl rfl (hS5.heap (.head _)) (by first | (simp [*]; done) | (simp [*] <;> omega) | omega)) rfl ?_
  refine wl_val (r_move (v := .slice _ _ _) rfl) rfl ?_
  refine wl_call (r_call fn40 rfl rfl) rfl (tagOf_ok k t _ _ _ hk (hb.st hS5) hc hn) ?_
  rintro _ w6 (⟨hbig, rfl, hx7⟩ | ⟨hin, rfl, hx7⟩)
  · have hS8 := hS5.ext hx7
    refine wl_val (r_move (v := .tuple _) rfl) rfl ?_
    refine wl_val (r_extract (v := .agg _) rfl rfl) rfl ?_
    refine wl_val (r_extract (v := .int .i64 _) rfl rfl) rfl ?_
    refine wl_exv (x_alloc (C := ((List.replicate 16 (0 : UInt8)).map b8)) hS8 ti62 rfl) rfl ?_
    rintro _ w9 ⟨b5, rfl, hS10⟩
    refine wl_exs (x_storeW [] hS10 ti62 rfl rfl (by first | (simp [*]; done) | (simp [*] <;> omega) | omega) (by first | (simp [*]; done) | (simp [*] <;> omega) | omega) (by first | exact one_b8 _ | exact one_v32 _)) rfl ?_
    intro w11 hS12
    simp only [List.cons_append, List.nil_append] at hS12
    refine wl_val (r_assign (v := .int .i64 _) rfl) rfl ?_
    refine wl_nil ?_
    refine c_then ?_
    refine c_seq ?_
    refine c_region ?_
    refine wl_val (r_loadB ti61 rfl rfl (hS12.heap (.tail _ (.head _))) (by first | (simp [*]; done) | (simp [*] <;> omega) | omega)) rfl ?_
    refine wl_val (r_move (v := .slice _ _ _) rfl) rfl ?_
    refine wl_call (r_call fn41 rfl rfl) rfl (sealOf_ok k t _ _ _ hk (hb.st hS12) hc hn) ?_
    rintro _ w13 (⟨hbig2, rfl, hx14⟩ | ⟨hin2, rfl, hx14⟩)
    · have hS15 := hS12.ext hx14
      refine wl_val (r_move (v := .tuple _) rfl) rfl ?_
      refine wl_val (r_extract (v := .agg _) rfl rfl) rfl ?_
      refine wl_val (r_extract (v := .int .i64 _) rfl rfl) rfl ?_
      refine wl_exv (x_alloc (C := ((List.replicate 64 (0 : UInt8)).map b8)) hS15 ti65 rfl) rfl ?_
      rintro _ w16 ⟨b7, rfl, hS17⟩
      refine wl_exs (x_storeW [] hS17 ti65 rfl rfl (by first | (simp [*]; done) | (simp [*] <;> omega) | omega) (by first | (simp [*]; done) | (simp [*] <;> omega) | omega) (by first | exact one_b8 _ | exact one_v32 _)) rfl ?_
      intro w18 hS19
      simp only [List.cons_append, List.nil_append] at hS19
      refine wl_val (r_assign (v := .int .i64 _) rfl) rfl ?_
      refine wl_nil ?_
      refine c_then ?_
      refine c_seq ?_
      refine c_seq ?_
      refine c_region ?_
      refine wl_val (r_move (v := .slice _ _ _) rfl) rfl ?_
      refine wl_val (r_len (T := 22) rfl ti22.und rfl _ rfl) rfl ?_
      refine wl_dec_t (r_gtr rfl rfl) rfl (by omega) ?_
      refine wl_nil ?_
      refine c_then ?_
      refine c_true rfl ?_
      refine c_seq ?_
      refine c_region ?_
      refine wl_val (r_move (v := .int .i64 _) rfl) rfl ?_
      refine wl_dec_t (r_eql rfl rfl) rfl (by decide) ?_
      refine wl_val (r_move (v := .bool _) rfl) rfl ?_
      refine wl_val (r_move (v := .int .i64 _) rfl) rfl ?_
      refine wl_dec_t (r_eql rfl rfl) rfl (by decide) ?_
      refine wl_val (r_pick_t rfl (v := .bool _) rfl) rfl ?_
      refine wl_val (r_move (v := .bool _) rfl) rfl ?_
      refine wl_val (r_loadB ti62 rfl rfl (hS19.heap (.tail _ (.head _))) (by first | (simp [*]; done) | (simp [*] <;> omega) | omega)) rfl ?_
      refine wl_val (r_build0 (cs := ((List.replicate 16 (0 : UInt8)).map b8)) ti62.und ti62 ti5) rfl ?_
      refine wl_dec_t (r_eqlA (u := undef) eg62 rfl rfl (eqIs_b8 ti62.und ti5 _ _ (by first | (simp [*]; done) | (simp [*] <;> omega) | omega) (by first | (simp [*]; done) | (simp [*] <;> omega) | omega))) rfl rfl ?_
      refine wl_val (r_pick_t rfl (v := .bool _) rfl) rfl ?_
      refine wl_val (r_move (v := .bool _) rfl) rfl ?_
      refine wl_val (r_loadB ti65 rfl rfl (hS19.heap (.head _)) (by first | (simp [*]; done) | (simp [*] <;> omega) | omega)) rfl ?_
      refine wl_val (r_build0 (cs := ((List.replicate 64 (0 : UInt8)).map b8)) ti65.und ti65 ti5) rfl ?_
      refine wl_dec_t (r_eqlA (u := undef) eg65 rfl rfl (eqIs_b8 ti65.und ti5 _ _ (by first | (simp [*]; done) | (simp [*] <;> omega) | omega) (by first | (simp [*]; done) | (simp [*] <;> omega) | omega))) rfl rfl ?_
      refine wl_val (r_pick_t rfl (v := .bool _) rfl) rfl ?_
      refine wl_val (r_assign (v := .bool _) rfl) rfl ?_
      refine wl_nil ?_
      refine c_then ?_
      refine wp_ret ?_
      refine c_thenR ?_
      refine ret1 Try.results6 ?_
      exact ⟨rfl, hS19.fin⟩
    · exfalso; omega
  · have hS8 := hS5.ext hx7
    refine wl_val (r_move (v := .tuple _) rfl) rfl ?_
    refine wl_val (r_extract (v := .agg _) rfl rfl) rfl ?_
    refine wl_val (r_extract (v := .int .i64 _) rfl rfl) rfl ?_
    refine wl_exv (x_alloc (C := ((List.replicate 16 (0 : UInt8)).map b8)) hS8 ti62 rfl) rfl ?_
    rintro _ w20 ⟨b5, rfl, hS21⟩
    refine wl_exs (x_storeW [] hS21 ti62 rfl rfl (by first | (simp [*]; done) | (simp [*] <;> omega) | omega) (by first | (simp [*]; done) | (simp [*] <;> omega) | omega) (by first | exact one_b8 _ | exact one_v32 _)) rfl ?_
    intro w22 hS23
    simp only [List.cons_append, List.nil_append] at hS23
    refine wl_val (r_assign (v := .int .i64 _) rfl) rfl ?_
    refine wl_nil ?_
    refine c_then ?_
    refine c_seq ?_
    refine c_region ?_
    refine wl_val (r_loadB ti61 rfl rfl (hS23.heap (.tail _ (.head _))) (by first | (simp [*]; done) | (simp [*] <;> omega) | omega)) rfl ?_
    refine wl_val (r_move (v := .slice _ _ _) rfl) rfl ?_
    refine wl_call (r_call fn41 rfl rfl) rfl (sealOf_ok k t _ _ _ hk (hb.st hS23) hc hn) ?_
    rintro _ w24 (⟨hbig2, rfl, hx25⟩ | ⟨hin2, rfl, hx25⟩)
    · exfalso; omega
    · have hS26 := hS23.ext hx25
      refine wl_val (r_move (v := .tuple _) rfl) rfl ?_
      refine wl_val (r_extract (v := .agg _) rfl rfl) rfl ?_
      refine wl_val (r_extract (v := .int .i64 _) rfl rfl) rfl ?_
      refine wl_exv (x_alloc (C := ((List.replicate 64 (0 : UInt8)).map b8)) hS26 ti65 rfl) rfl ?_
      rintro _ w27 ⟨b7, rfl, hS28⟩
      refine wl_exs (x_storeW [] hS28 ti65 rfl rfl (by first | (simp [*]; done) | (simp [*] <;> omega) | omega) (by first | (simp [*]; done) | (simp [*] <;> omega) | omega) (by first | exact one_b8 _ | exact one_v32 _)) rfl ?_
      intro w29 hS30
      simp only [List.cons_append, List.nil_append] at hS30
      refine wl_val (r_assign (v := .int .i64 _) rfl) rfl ?_
      refine wl_nil ?_
      refine c_then ?_
      refine c_seq ?_
      refine c_seq ?_
      refine c_region ?_
      refine wl_val (r_move (v := .slice _ _ _) rfl) rfl ?_
      refine wl_val (r_len (T := 22) rfl ti22.und rfl _ rfl) rfl ?_
      refine wl_dec_f (r_gtr rfl rfl) rfl (by omega) ?_
      refine wl_nil ?_
      refine c_then ?_
      refine c_false rfl ?_
      refine wp_skip ?_
      refine c_then ?_
      refine c_seq ?_
      refine c_drawS 18 hMixed hS30 ?_
      intro w31 hS32
      refine g_take 0 rfl (by decide +kernel) rfl (fun _ _ _ h => h) hS32 (fun wF hF => r_move (v := .int .i64 _) rfl) ?_
      refine g_dec_t 1 rfl (by decide +kernel) rfl (fun _ _ _ _ h => h) hS32 (fun wF hF => r_eql rfl rfl) (by decide) ?_
      refine g_take 2 rfl (by decide +kernel) rfl (fun _ _ _ h => h) hS32 (fun wF hF => r_move (v := .bool _) rfl) ?_
      refine g_take 3 rfl (by decide +kernel) rfl (fun _ _ _ h => h) hS32 (fun wF hF => r_move (v := .int .i64 _) rfl) ?_
      refine g_dec_t 4 rfl (by decide +kernel) rfl (fun _ _ _ _ h => h) hS32 (fun wF hF => r_eql rfl rfl) (by decide) ?_
      refine g_take 5 rfl (by decide +kernel) rfl (fun _ _ _ h => h) hS32 (fun wF hF => r_pick_t rfl (v := .bool _) rfl) ?_
      refine g_take 6 rfl (by decide +kernel) rfl (fun _ _ _ h => h) hS32 (fun wF hF => r_move (v := .bool _) rfl) ?_
      refine g_take 7 rfl (by decide +kernel) rfl (fun _ _ _ h => h) hS32 (fun wF hF => r_loadB ti62 rfl rfl (hF.heap (.tail _ (.head _))) (by first | (simp [*]; done) | (simp [*] <;> omega) | omega)) ?_
      refine g_take 8 rfl (by decide +kernel) rfl (fun _ _ _ h => h) hS32 (fun wF hF => r_loadB ti61 rfl rfl (hF.heap (.tail _ (.tail _ (.head _)))) (by first | (simp [*]; done) | (simp [*] <;> omega) | omega)) ?_
      refine g_take 9 rfl (by decide +kernel) rfl (fun _ _ _ h => h) hS32 (fun wF hF => r_move (v := .slice _ _ _) rfl) ?_
      refine g_one 10 (by decide +kernel) (by decide +kernel) ?_
      refine o_call rfl (r_call fn42 rfl rfl) rfl (rtag_ok k t _ _ _ hk (hb.st hS32) hin) ?_
      rintro _ w33 ⟨rfl, hx34⟩
      have hS35 := hS32.ext hx34
      refine ⟨hS35, ?_⟩
      refine g_dec_t 11 rfl (by decide +kernel) rfl (fun _ _ _ _ h => h) hS35 (fun wF hF => r_eqlA (u := undef) eg62 rfl rfl (eqIs_b8 ti62.und ti5 _ _ (by first | (simp [*]; done) | (simp [*] <;> omega) | omega) (by first | (simp [*]; done) | (simp [*] <;> omega) | omega))) rfl ?_
      refine g_take 12 rfl (by decide +kernel) rfl (fun _ _ _ h => h) hS35 (fun wF hF => r_pick_t rfl (v := .bool _) rfl) ?_
      refine g_take 13 rfl (by decide +kernel) rfl (fun _ _ _ h => h) hS35 (fun wF hF => r_move (v := .bool _) rfl) ?_
      refine g_take 14 rfl (by decide +kernel) rfl (fun _ _ _ h => h) hS35 (fun wF hF => r_loadB ti65 rfl rfl (hF.heap (.head _)) (by first | (simp [*]; done) | (simp [*] <;> omega) | omega)) ?_
      refine g_take 15 rfl (by decide +kernel) rfl (fun _ _ _ h => h) hS35 (fun wF hF => r_loadB ti61 rfl rfl (hF.heap (.tail _ (.tail _ (.head _)))) (by first | (simp [*]; done) | (simp [*] <;> omega) | omega)) ?_
      refine g_take 16 rfl (by decide +kernel) rfl (fun _ _ _ h => h) hS35 (fun wF hF => r_move (v := .slice _ _ _) rfl) ?_
      refine g_one 17 (by decide +kernel) (by decide +kernel) ?_
      refine o_call rfl (r_call fn43 rfl rfl) rfl (rseal_ok k t _ _ _ hk (hb.st hS35) hin) ?_
      rintro _ w36 ⟨rfl, hx37⟩
      have hS38 := hS35.ext hx37
      refine ⟨hS38, ?_⟩
      refine g_tail (by decide +kernel) rfl (by decide +kernel) ?_
      refine wl_dec_t (r_eqlA (u := undef) eg65 rfl rfl (eqIs_b8 ti65.und ti5 _ _ (by first | (simp [*]; done) | (simp [*] <;> omega) | omega) (by first | (simp [*]; done) | (simp [*] <;> omega) | omega))) rfl rfl ?_
      refine wl_val (r_pick_t rfl (v := .bool _) rfl) rfl ?_
      refine wl_val (r_assign (v := .bool _) rfl) rfl ?_
      refine wl_nil ?_
      refine c_then ?_
      refine wp_ret ?_
      refine ret1 Try.results6 ?_
      exact ⟨rfl, hS38.fin⟩


theorem own : ownKnob Try.prog.godebug = none := by kernel_rfl
theorem laidOut : laidOutB Try.prog = true := by kernel_rfl
theorem readable22 : Try.prog.readableRec 22 = true := by kernel_rfl
theorem inside22 : decide (22 < Try.prog.types.size) = true := by kernel_rfl
theorem readable61 : Try.prog.readableRec 61 = true := by kernel_rfl
theorem inside61 : decide (61 < Try.prog.types.size) = true := by kernel_rfl
theorem lifted (os : Os) (started : os.Started) (H : Type) (enc : TypeId × Value → H) :
    ReturnsInHanded {} Try.checked os 6 .any (Rows.tagsMatchSpec.pre6 enc Try.prog Try.f6 Rows.tagsMatchRow.domain false) (Rows.tagsMatchSpec.post enc Try.prog Try.f6 false true false false) := by
  refine returnsInHanded_of_change_sized (C := Try.checked) own started (by kernel_rfl) Try.func6
    (ChangeSpec.witness6 (enc := enc) (C := Try.checked) false ⟨#[], #[.agg ((List.replicate 32 (0 : UInt8)).map b8).toArray, .slice none 0 0], []⟩ 8 (by kernel_rfl) (by kernel_rfl) (by kernel_rfl) (by kernel_rfl)) ?_
  intro W base args ds gs before hval0 hW hcnd hsz0 _
  have hval : ∀ (j : Nat) t v, Try.f6.params[j]? = some t → args[j]? = some v → Value.okWide Try.prog W .any base t v := hval0
  have hW' := hW
  obtain ⟨p, q, hA0, hV, rfl, hfz, hnd⟩ := hW
  have hA : DataW.TrodAll enc Try.prog W 0 (fun _ => true) true Try.f6.params.toList args.toList ds p := hA0
  have hsz : (DataW.weightsEach Try.prog (Try.f6.params.toList ++ Rows.tagsMatchSpec.plain.varTypes Try.prog) (ds ++ gs)).all (· ≤ reachBytes) = true := hsz0
  rw [Try.params6] at hA hval hsz
  obtain ⟨v0, vs0, d0, ds0, p0, q0, hargs, rfl, rfl, h0, r0⟩ := trodAll_cons hA
  obtain ⟨v1, vs1, d1, ds1, p1, q1, rfl, rfl, rfl, h1, r1⟩ := trodAll_cons r0
  obtain ⟨rfl, rfl, rfl⟩ := trodAll_nil r1
  obtain rfl : args = #[v0, v1] := by cases args; simp_all
  obtain ⟨rfl, rfl⟩ := trodVars_none hV
  have lt0 : ∀ x ∈ p0, x.block < W.heap.size := by obtain ⟨m, hm⟩ := h0; exact DataW.trod_lt m _ _ _ hm
  have lt1 : ∀ x ∈ p1, x.block < W.heap.size := by obtain ⟨m, hm⟩ := h1; exact DataW.trod_lt m _ _ _ hm
  have ok0 := hval 0 61 v0 rfl rfl
  obtain ⟨k, lk, rfl⟩ := open_bytesA Try.underlying61 Try.underlying5 (by kernel_rfl) (by kernel_rfl) ok0 h0
  have ok1 := hval 1 22 v1 rfl rfl
  obtain ⟨al, l, cl, rfl, rl, lcl, hcl⟩ := open_bytesS (j := 1) Try.underlying22 Try.underlying5 (by kernel_rfl) (by kernel_rfl) ok1 h1 hsz rfl rfl
  refine Calls.mono (walk k l al cl W lk rl lcl hcl) fun e W' ⟨v, he, hv, hs⟩ => ?_
  subst hv; subst he
  have bel := hs.below
  exact ⟨_, rfl, _, _, _, [], _, [], hW', trodAll_mk1 (shut_bool Try.underlying4 _), (trodAll_cons_mk (Below.trod laidOut readable61 (of_decide_eq_true inside61) h0 bel lt0) (trodAll_cons_mk (Below.trod laidOut readable22 (of_decide_eq_true inside22) h1 bel lt1) trodAll_mk0)), rfl, bel.frame _, fun h => by cases h⟩
theorem over : Rows.tagsMatchRow.holds Try.pinned (OpenSpec.ofChange Rows.tagsMatchSpec) :=
  OpenClaim.holds_of_wide 6 Try.f6 rfl rfl rfl rfl rfl rfl rfl ⟨rfl, rfl, rfl, rfl, rfl⟩ rfl rfl rfl rfl rfl (by kernel_rfl) Try.func6 (by kernel_rfl)
    (of_decide_eq_true (by kernel_rfl)) (by unfold Func.isWrapper; rw [if_neg (of_decide_eq_false (by kernel_rfl))]; exact ⟨rfl, rfl⟩)
    (fun os started H enc _ => lifted os started H enc)
theorem proved : Rows.TagsMatchSaid := over
#print axioms proved
end Go.Proofs.Ytfohfnpehfcaaaa.lawTagsMatch
