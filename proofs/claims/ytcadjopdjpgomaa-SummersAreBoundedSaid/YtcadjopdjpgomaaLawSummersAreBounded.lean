/- For every domain and numbers of octets: a summer takes what fits and refuses what would be too much, and is then as it was; the law's function returns true and turns nothing. No condition. -/
import Derived.Test.YtcadjopdjpgomaaRows
import Derived.Test.YtcadjopdjpgomaaOpen
import Derived.Test.YtcadjopdjpgomaaMixE
namespace Go.Proofs.Ytcadjopdjpgomaa.lawSummersAreBounded
open Go.Kw Go.Proofs.Ytcadjopdjpgomaa
open Go.ChangeShapes Go.WideShapes Go.ChangeAt Go.RowKit
set_option linter.unusedVariables false
set_option linter.unusedSimpArgs false
set_option maxRecDepth 100000
set_option maxHeartbeats 20000000

theorem walk (p q r : Int) (w : World) (hp1 : -9223372036854775808 ≤ p) (hp2 : p ≤ 9223372036854775807) :
    Ret Try.prog 7 [.int .i64 p, .int .i64 q, .int .i64 r] w (fun v w' => v = .bool true ∧ St w [] w' []) := by
  refine enter Try.func7 rfl Try.ntmps7 rfl ?_
  have hS := St.refl w []
  refine c_seq ?_
  refine c_region ?_
  refine wl_val (r_assign (v := .bool false) rfl) rfl ?_
  refine wl_nil ?_
  refine c_then ?_
  refine c_seq ?_
  refine c_seq ?_
  refine c_region ?_
  refine wl_call (r_call fn15 rfl rfl) rfl (landed_ok _) ?_
  rintro _ w1 ⟨rfl, hx2⟩
  have hS3 := hS.ext hx2
  refine wl_val (r_not rfl) rfl ?_
  refine wl_nil ?_
  refine c_then ?_
  refine c_false rfl ?_
  refine wp_skip ?_
  refine c_then ?_
  refine c_seq ?_
  refine c_region ?_
  refine wl_val (r_move (v := .int .i64 _) rfl) rfl ?_
  refine wl_val (r_max2 rfl rfl _ rfl) rfl ?_
  refine wl_val (r_min2 rfl rfl _ rfl) rfl ?_
  refine wl_val (r_move (v := .int .i64 _) rfl) rfl ?_
  refine wl_val (r_max2 rfl rfl _ rfl) rfl ?_
  refine wl_val (r_min2 rfl rfl _ rfl) rfl ?_
  refine wl_val (r_assign (v := .int .i64 _) rfl) rfl ?_
  refine wl_val (r_assign (v := .int .i64 _) rfl) rfl ?_
  refine wl_nil ?_
  refine c_then ?_
  refine c_seq ?_
  obtain ⟨m, hm1, hl1⟩ : ∃ k : Nat, (k : Int) = min (max q 0) 40 ∧ k ≤ 40 := ⟨(min (max q 0) 40).toNat, by omega, by omega⟩
  refine c_set (d := 1) (v := vi m) (congrArg (Value.int .i64) hm1.symm) ?_
  obtain ⟨m2, hm2, hl2⟩ : ∃ k : Nat, (k : Int) = min (max r 0) 40 ∧ k ≤ 40 := ⟨(min (max r 0) 40).toNat, by omega, by omega⟩
  refine c_set (d := 2) (v := vi m2) (congrArg (Value.int .i64) hm2.symm) ?_
  refine c_region ?_
  refine wl_val (r_move (v := .int .i64 _) rfl) rfl ?_
  refine wl_call (r_call fn36 rfl rfl) rfl (new_ok p _ hp1 hp2) ?_
  rintro _ w4 (⟨hbad, rfl, hx5⟩ | ⟨hgood, b20, rfl, hx5⟩)
  · have hS6 := hS3.ext hx5
    refine wl_val (r_move (v := .tuple _) rfl) rfl ?_
    refine wl_val (r_extract (v := .pointer _) rfl rfl) rfl ?_
    refine wl_val (r_extract (v := .int .i64 _) rfl rfl) rfl ?_
    refine wl_val (r_assign (v := .pointer _) rfl) rfl ?_
    refine wl_val (r_assign (v := .int .i64 _) rfl) rfl ?_
    refine wl_nil ?_
    refine c_then ?_
    refine c_seq ?_
    refine c_seq ?_
    refine c_region ?_
    refine wl_val (r_move (v := .int .i64 _) rfl) rfl ?_
    refine wl_dec_t (r_neq rfl rfl) rfl (by decide) ?_
    refine wl_nil ?_
    refine c_then ?_
    refine c_true rfl ?_
    refine c_seq ?_
    refine c_region ?_
    refine wl_val (r_move (v := .int .i64 _) rfl) rfl ?_
    refine wl_dec (r_lss rfl rfl) rfl (fun h6_1 => ?_) (fun h6_1 => ?_)
    · refine wl_val (r_move (v := .bool _) rfl) rfl ?_
      refine wl_not rfl ?_
      refine wl_not rfl ?_
      refine wl_val (r_pick_t rfl (v := .bool true) rfl) rfl ?_
      refine wl_val (r_assign (v := .bool _) rfl) rfl ?_
      refine wl_nil ?_
      refine c_then ?_
      refine wp_ret ?_
      refine c_thenR ?_
      refine ret1 Try.results7 ?_
      first | exact ⟨rfl, hS6.fin⟩ | (exfalso; simp at hover; try omega)
    · refine wl_val (r_move (v := .bool _) rfl) rfl ?_
      refine wl_val (r_move (v := .int .i64 _) rfl) rfl ?_
      refine wl_dec_t (r_gtr rfl rfl) rfl (by omega) ?_
      refine wl_val (r_pick_f rfl (v := .bool _) rfl) rfl ?_
      refine wl_val (r_assign (v := .bool _) rfl) rfl ?_
      refine wl_nil ?_
      refine c_then ?_
      refine wp_ret ?_
      refine c_thenR ?_
      refine ret1 Try.results7 ?_
      first | exact ⟨rfl, hS6.fin⟩ | (exfalso; simp at hover; try omega)
  · have hS6 := hS3.call hx5
    simp only [List.cons_append, List.nil_append] at hS6
    refine wl_val (r_move (v := .tuple _) rfl) rfl ?_
    refine wl_val (r_extract (v := .pointer _) rfl rfl) rfl ?_
    refine wl_val (r_extract (v := .int .i64 _) rfl rfl) rfl ?_
    refine wl_val (r_assign (v := .pointer _) rfl) rfl ?_
    refine wl_val (r_assign (v := .int .i64 _) rfl) rfl ?_
    refine wl_nil ?_
    refine c_then ?_
    refine c_seq ?_
    refine c_seq ?_
    refine c_region ?_
    refine wl_val (r_move (v := .int .i64 _) rfl) rfl ?_
    refine wl_dec_f (r_neq rfl rfl) rfl (by decide) ?_
    refine wl_nil ?_
    refine c_then ?_
    refine c_false rfl ?_
    refine wp_skip ?_
    refine c_then ?_
    refine c_seq ?_
    refine c_seq ?_
    refine c_region ?_
    refine wl_val (r_move (v := .pointer _) rfl) rfl ?_
    refine wl_val (r_move (v := .int .i64 _) rfl) rfl ?_
    refine wl_val (r_subn (a := 1048576) rfl rfl (by omega) (by omega)) rfl ?_
    refine wl_exv (x_make (zs := ((List.replicate ((1048576 - m) * 1) (0 : UInt8)).map b8)) hS6 ti26.und ti5 rfl rfl (by first | omega | (simp [*]; done) | (simp [*] <;> omega)) (by first | omega | (simp [*]; done) | (simp [*] <;> omega)) (by first | omega | (simp [*]; done) | (simp [*] <;> omega)) (by first | exact made_b8 _ | rfl | simp [madeCells])) rfl ?_
    rintro _ w7 ⟨b34, rfl, hS8⟩
    refine wl_call (r_call fn37 rfl rfl) rfl (write_ok (ini (UInt8.ofNat p.toNat)) [] (List.replicate 32 (0 : UInt8)) b20 (List.replicate ((1048576 - m) * 1) (0 : UInt8)) _ _ _ _ (ini_len _) (by simp) (hS8.heap (.tail _ (.head _))) rfl (by simp) (Nat.le_refl _) (Row.of_at (at_all (hS8.heap (.head _)))) (Sep.ofNe (St.ne2 hS8)) (by omega) (by simp; try omega)) ?_
    rintro _ w9 (⟨hfit, rfl, rest1, hr1, hr2, hx10⟩ | ⟨hover, rfl, hx10⟩)
    · have hS11 := St.callM (X := [_]) (L := [_]) (hS8.perm ((List.Perm.cons _ (List.Perm.refl _)).trans (List.perm_middle (l₁ := [_])).symm)) hx10 (by simp [Item.id])
      simp only [List.cons_append, List.nil_append] at hS11
      simp only [List.nil_append] at hr2
      have htl : (List.replicate ((1048576 - m) * 1) (0 : UInt8)).length = 1048576 - m := by simp
      refine wl_dec_f (r_neq rfl rfl) rfl (by decide) ?_
      refine wl_nil ?_
      refine c_then ?_
      refine c_false rfl ?_
      refine wp_skip ?_
      refine c_then ?_
      refine c_seq ?_
      refine c_region ?_
      refine wl_val (r_move (v := .pointer _) rfl) rfl ?_
      refine wl_call (r_call fn38 rfl rfl) rfl (sum_ok _ _ _ _ _ (ini_len _) hr1 (hS11.heap (.head _)) hr2 (by rw [htl]; omega)) ?_
      rintro _ w12 ⟨rfl, hx13⟩
      have hS14 := hS11.ext hx13
      refine wl_exv (x_alloc (C := ((List.replicate 32 (0 : UInt8)).map b8)) hS14 ti65 rfl) rfl ?_
      rintro _ w15 ⟨b9, rfl, hS16⟩
      refine wl_exs (x_storeW [] hS16 ti65 rfl rfl (by first | (simp [*]; done) | (simp [*] <;> omega) | omega) (by first | (simp [*]; done) | (simp [*] <;> omega) | omega) (by first | exact one_b8 _ | exact one_v32 _)) rfl ?_
      intro w17 hS18
      simp only [List.cons_append, List.nil_append] at hS18
      refine wl_nil ?_
      refine c_then ?_
      refine c_seq ?_
      refine c_region ?_
      refine wl_val (r_move (v := .pointer _) rfl) rfl ?_
      refine wl_val (r_move (v := .int .i64 _) rfl) rfl ?_
      refine wl_exv (x_make (zs := ((List.replicate (m2 * 1) (0 : UInt8)).map b8)) hS18 ti26.und ti5 rfl rfl (by first | omega | (simp [*]; done) | (simp [*] <;> omega)) (by first | omega | (simp [*]; done) | (simp [*] <;> omega)) (by first | omega | (simp [*]; done) | (simp [*] <;> omega)) (by first | exact made_b8 _ | rfl | simp [madeCells])) rfl ?_
      rintro _ w19 ⟨b41, rfl, hS20⟩
      refine wl_call (r_call fn37 rfl rfl) rfl (write_ok (ini (UInt8.ofNat p.toNat)) (List.replicate ((1048576 - m) * 1) (0 : UInt8)) rest1 b20 (List.replicate (m2 * 1) (0 : UInt8)) _ _ _ _ (ini_len _) hr1 (hS20.heap (.tail _ (.tail _ (.head _)))) hr2 (by simp) (Nat.le_refl _) (Row.of_at (at_all (hS20.heap (.head _)))) (Sep.ofNe (St.ne2 (hS20.perm ((List.Perm.cons _ ((List.Perm.cons _ (List.Perm.refl _)).trans (List.perm_middle (l₁ := [_, _])).symm)).trans (List.perm_middle (l₁ := [_])).symm)).drop1.drop1)) (by omega) (by simp; try omega)) ?_
      rintro _ w21 (⟨hfit2, rfl, rest2, hr1b, hr2b, hx22⟩ | ⟨hover2, rfl, hx22⟩)
      · have hS23 := St.callM (X := [_]) (L := [_, _, _]) (hS20.perm ((List.Perm.cons _ (List.Perm.refl _)).trans (List.perm_middle (l₁ := [_, _])).symm)) hx22 (by simp [Item.id])
        simp only [List.cons_append, List.nil_append] at hS23
        refine wl_val (r_assign (v := .int .i64 _) rfl) rfl ?_
        refine wl_nil ?_
        refine c_then ?_
        refine c_seq ?_
        refine c_seq ?_
        refine c_region ?_
        refine wl_val (r_move (v := .int .i64 _) rfl) rfl ?_
        refine wl_val (r_move (v := .int .i64 _) rfl) rfl ?_
        refine wl_dec_t (r_leq rfl rfl) rfl (by rw [htl] at hfit2; omega) ?_
        refine wl_nil ?_
        refine c_then ?_
        refine c_true rfl ?_
        refine c_seq ?_
        refine c_region ?_
        refine wl_val (r_move (v := .int .i64 _) rfl) rfl ?_
        refine wl_dec_t (r_eql rfl rfl) rfl (by decide) ?_
        refine wl_val (r_assign (v := .bool _) rfl) rfl ?_
        refine wl_nil ?_
        refine c_then ?_
        refine wp_ret ?_
        refine c_thenR ?_
        refine ret1 Try.results7 ?_
        first | exact ⟨rfl, hS23.fin⟩ | (exfalso; simp at hover; try omega)
      · have hS23 := St.callM (X := [_]) (L := [_, _, _]) (hS20.perm ((List.Perm.cons _ (List.Perm.refl _)).trans (List.perm_middle (l₁ := [_, _])).symm)) hx22 (by simp [Item.id])
        simp only [List.cons_append, List.nil_append] at hS23
        refine wl_val (r_assign (v := .int .i64 _) rfl) rfl ?_
        refine wl_nil ?_
        refine c_then ?_
        refine c_seq ?_
        refine c_seq ?_
        refine c_region ?_
        refine wl_val (r_move (v := .int .i64 _) rfl) rfl ?_
        refine wl_val (r_move (v := .int .i64 _) rfl) rfl ?_
        refine wl_dec_f (r_leq rfl rfl) rfl (by rw [htl] at hover2; omega) ?_
        refine wl_nil ?_
        refine c_then ?_
        refine c_false rfl ?_
        refine wp_skip ?_
        refine c_then ?_
        refine c_seq ?_
        refine c_drawS 6 hMixed hS23 ?_
        intro w24 hS25
        refine g_take 0 rfl (by decide +kernel) rfl (fun _ _ _ h => h) hS25 (fun wF hF => r_move (v := .int .i64 _) rfl) ?_
        refine g_dec_t 1 rfl (by decide +kernel) rfl (fun _ _ _ _ h => h) hS25 (fun wF hF => r_eql rfl rfl) (by decide) ?_
        refine g_take 2 rfl (by decide +kernel) rfl (fun _ _ _ h => h) hS25 (fun wF hF => r_move (v := .bool _) rfl) ?_
        refine g_take 3 rfl (by decide +kernel) rfl (fun _ _ _ h => h) hS25 (fun wF hF => r_move (v := .pointer _) rfl) ?_
        refine g_take 5 rfl (by decide +kernel) rfl (fun _ _ _ h => h) hS25 (fun wF hF => r_loadB ti65 rfl rfl (hF.heap (.tail _ (.tail _ (.head _)))) (by first | (simp [*]; done) | (simp [*] <;> omega) | omega)) ?_
        refine g_one 4 (by decide +kernel) (by decide +kernel) ?_
        refine o_call rfl (r_call fn38 rfl rfl) rfl (sum_ok _ _ _ _ _ (ini_len _) hr1 (hS25.heap (.head _)) hr2 (by rw [htl]; omega)) ?_
        rintro _ w26 ⟨rfl, hx27⟩
        have hS28 := hS25.ext hx27
        refine ⟨hS28, ?_⟩
        refine g_tail (by decide +kernel) rfl (by decide +kernel) ?_
        refine wl_dec_t (r_eqlA (u := undef) eg65 rfl rfl (eqIs_b8 ti65.und ti5 _ _ (by first | (simp [*]; done) | (simp [*] <;> omega) | omega) (by first | (simp [*]; done) | (simp [*] <;> omega) | omega))) rfl rfl ?_
        refine wl_val (r_pick_t rfl (v := .bool _) rfl) rfl ?_
        refine wl_val (r_assign (v := .bool _) rfl) rfl ?_
        refine wl_nil ?_
        refine c_then ?_
        refine wp_ret ?_
        refine ret1 Try.results7 ?_
        first | exact ⟨rfl, hS28.fin⟩ | (exfalso; simp at hover; try omega)
    · have hS11 := St.callM (X := [_]) (L := [_]) (hS8.perm ((List.Perm.cons _ (List.Perm.refl _)).trans (List.perm_middle (l₁ := [_])).symm)) hx10 (by simp [Item.id])
      simp only [List.cons_append, List.nil_append] at hS11
      refine wl_dec_t (r_neq rfl rfl) rfl (by decide) ?_
      refine wl_nil ?_
      refine c_then ?_
      refine c_true rfl ?_
      refine c_seq ?_
      refine c_region ?_
      refine wl_val (r_assign (v := .bool false) rfl) rfl ?_
      refine wl_nil ?_
      refine c_then ?_
      refine wp_ret ?_
      refine c_thenR ?_
      refine ret1 Try.results7 ?_
      first | exact ⟨rfl, hS11.fin⟩ | (exfalso; simp at hover; try omega)


theorem own : ownKnob Try.prog.godebug = none := by kernel_rfl
theorem laidOut : laidOutB Try.prog = true := by kernel_rfl
theorem readable3 : Try.prog.readableRec 3 = true := by kernel_rfl
theorem inside3 : decide (3 < Try.prog.types.size) = true := by kernel_rfl
theorem lifted (os : Os) (started : os.Started) (H : Type) (enc : TypeId × Value → H) :
    ReturnsInHanded {} Try.checked os 7 .any (Rows.summersAreBoundedSpec.pre6 enc Try.prog Try.f7 Rows.summersAreBoundedRow.domain false) (Rows.summersAreBoundedSpec.post enc Try.prog Try.f7 false true false false) := by
  refine returnsInHanded_of_change_sized (C := Try.checked) own started (by kernel_rfl) Try.func7
    (ChangeSpec.witness6 (enc := enc) (C := Try.checked) false ⟨#[], #[.int .i64 0, .int .i64 0, .int .i64 0], []⟩ 8 (by kernel_rfl) (by kernel_rfl) (by kernel_rfl) (by kernel_rfl)) ?_
  intro W base args ds gs before hval0 hW hcnd hsz0 _
  have hval : ∀ (j : Nat) t v, Try.f7.params[j]? = some t → args[j]? = some v → Value.okWide Try.prog W .any base t v := hval0
  have hW' := hW
  obtain ⟨p, q, hA0, hV, rfl, hfz, hnd⟩ := hW
  have hA : DataW.TrodAll enc Try.prog W 0 (fun _ => true) true Try.f7.params.toList args.toList ds p := hA0
  have hsz : (DataW.weightsEach Try.prog (Try.f7.params.toList ++ Rows.summersAreBoundedSpec.plain.varTypes Try.prog) (ds ++ gs)).all (· ≤ reachBytes) = true := hsz0
  rw [Try.params7] at hA hval hsz
  obtain ⟨v0, vs0, d0, ds0, p0, q0, hargs, rfl, rfl, h0, r0⟩ := trodAll_cons hA
  obtain ⟨v1, vs1, d1, ds1, p1, q1, rfl, rfl, rfl, h1, r1⟩ := trodAll_cons r0
  obtain ⟨v2, vs2, d2, ds2, p2, q2, rfl, rfl, rfl, h2, r2⟩ := trodAll_cons r1
  obtain ⟨rfl, rfl, rfl⟩ := trodAll_nil r2
  obtain rfl : args = #[v0, v1, v2] := by cases args; simp_all
  obtain ⟨rfl, rfl⟩ := trodVars_none hV
  have lt0 : ∀ x ∈ p0, x.block < W.heap.size := by obtain ⟨m, hm⟩ := h0; exact DataW.trod_lt m _ _ _ hm
  have lt1 : ∀ x ∈ p1, x.block < W.heap.size := by obtain ⟨m, hm⟩ := h1; exact DataW.trod_lt m _ _ _ hm
  have lt2 : ∀ x ∈ p2, x.block < W.heap.size := by obtain ⟨m, hm⟩ := h2; exact DataW.trod_lt m _ _ _ hm
  have ok0 := hval 0 3 v0 rfl rfl
  obtain ⟨p, rfl, lop, hip⟩ := open_i64 Try.underlying3 ok0 h0
  have ok1 := hval 1 3 v1 rfl rfl
  obtain ⟨q, rfl, loq, hiq⟩ := open_i64 Try.underlying3 ok1 h1
  have ok2 := hval 2 3 v2 rfl rfl
  obtain ⟨r, rfl, lor, hir⟩ := open_i64 Try.underlying3 ok2 h2
  refine Calls.mono (walk p q r W lop hip) fun e W' ⟨v, he, hv, hs⟩ => ?_
  subst hv; subst he
  have bel := hs.below
  exact ⟨_, rfl, _, _, _, [], _, [], hW', trodAll_mk1 (shut_bool Try.underlying4 _), (trodAll_cons_mk (Below.trod laidOut readable3 (of_decide_eq_true inside3) h0 bel lt0) (trodAll_cons_mk (Below.trod laidOut readable3 (of_decide_eq_true inside3) h1 bel lt1) (trodAll_cons_mk (Below.trod laidOut readable3 (of_decide_eq_true inside3) h2 bel lt2) trodAll_mk0))), rfl, bel.frame _, fun h => by cases h⟩
theorem over : Rows.summersAreBoundedRow.holds Try.pinned (OpenSpec.ofChange Rows.summersAreBoundedSpec) :=
  OpenClaim.holds_of_wide 7 Try.f7 rfl rfl rfl rfl rfl rfl rfl ⟨rfl, rfl, rfl, rfl, rfl⟩ rfl rfl rfl rfl rfl (by kernel_rfl) Try.func7 (by kernel_rfl)
    (of_decide_eq_true (by kernel_rfl)) (by unfold Func.isWrapper; rw [if_neg (of_decide_eq_false (by kernel_rfl))]; exact ⟨rfl, rfl⟩)
    (fun os started H enc _ => lifted os started H enc)
theorem proved : Rows.SummersAreBoundedSaid := over
#print axioms proved
end Go.Proofs.Ytcadjopdjpgomaa.lawSummersAreBounded
