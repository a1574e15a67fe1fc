/- What the law's proof leans on. No condition. -/
import Derived.Test.YtbanoknkplcedaaPEMAH
import Derived.Test.YtbanoknkplcedaaPEMBF
import Derived.Test.YtbanoknkplcedaaPEMBG
import Derived.Test.YtbanoknkplcedaaPEMAN
section
namespace Go.Proofs.Ytbanoknkplcedaa
open Go.Kw
set_option linter.unusedVariables false
set_option linter.unusedSimpArgs false
set_option maxRecDepth 100000
theorem uses_ok (a : Nat) (w : World) (h2 : a < 13) :
    Ret Try.prog 30 [vi a] w (fun v w' => v = sv (gt usesT a) ∧ St w [] w' []) := by
  refine enter Try.func30 rfl Try.ntmps30 rfl ?_
  have hS := St.refl w []
  refine c_seq ?_; refine c_region ?_; refine wl_val (r_assign (v := .string ⟨#[]⟩) rfl) rfl ?_; refine wl_nil ?_; refine c_then ?_; refine c_seq ?_; refine c_region ?_; refine wl_exv (x_lit (vs := (usesT.map sv)) hS ti24.und ti9 rfl rfl rfl (by repeat' first | exact one_nil | exact one_b8 _ | exact one_v32 _ | exact one_all rfl | refine one_cons rfl ?_ | refine one_app ?_ ?_) (by decide)) rfl ?_; rintro _ w1 ⟨b3, rfl, hS2⟩; refine wl_val (r_move (v := .int .i64 _) rfl) rfl ?_; refine wl_val (r_ixB ti24.und ti9 rfl rfl (by omega)) rfl ?_; refine wl_val (r_loadB1 ti9.und rfl rfl (hS2.heap (.head _)) (map_gt _ _ _ (by exact h2))) rfl ?_; refine wl_val (r_assign (v := .string _) rfl) rfl ?_; refine wl_nil ?_; refine c_then ?_; refine wp_ret ?_; refine ret1 Try.results30 ?_
  exact ⟨rfl, hS2.fin⟩

theorem containsN_ok (a i : Nat) (w : World) (h1 : 1 ≤ a) (h2 : a < 13) (h3 : i < 12) : Ret Try.prog 62 [sv (gt usesT a), sv [gt letters i]] w (fun v w' => (needF a i = true ∧ v = .bool true ∧ St w [] w' []) ∨ (needF a i = false ∧ v = .bool false ∧ St w [] w' [])) := by
  have h := (containsB_ok (gt usesT a) (gt letters i) w).br
  rw [uses_need a h2 h1 i h3] at h
  exact h

theorem has_ok (a i b : Nat) (w : World) (hb : At w b 0 [sv (gt usesT a)]) (h1 : 1 ≤ a) (h2 : a < 13) (h3 : i < 12) :
    Ret Try.prog 61 [sv [gt letters i], pt b 0] w (fun v w' => (needF a i = true ∧ v = .bool true ∧ St w [] w' []) ∨ (needF a i = false ∧ v = .bool false ∧ St w [] w' [])) := by
  refine enter Try.func61 rfl Try.ntmps61 rfl ?_
  have hS := St.refl w []
  refine c_seq ?_; refine c_region ?_; refine wl_val (r_assign (v := .bool false) rfl) rfl ?_; refine wl_nil ?_; refine c_then ?_; refine c_seq ?_; refine c_region ?_; refine wl_val (r_loadAt1 ti9.und rfl rfl (hb.st hS) rfl (Nat.zero_add _)) rfl ?_; refine wl_val (r_move (v := .string _) rfl) rfl ?_; refine wl_call (r_call fn62 rfl rfl) rfl (containsN_ok a i _ h1 h2 h3) ?_
  rintro _ w1 (⟨hN, rfl, hx2⟩ | ⟨hN, rfl, hx2⟩)
  · have hS3 := hS.ext hx2
    refine wl_val (r_assign (v := .bool _) rfl) rfl ?_; refine wl_nil ?_; refine c_then ?_; refine wp_ret ?_; refine ret1 Try.results61 ?_
    first | exact .inl ⟨hN, rfl, hS3.fin⟩ | exact .inr ⟨hN, rfl, hS3.fin⟩
  have hS3 := hS.ext hx2
  refine wl_val (r_assign (v := .bool _) rfl) rfl ?_; refine wl_nil ?_; refine c_then ?_; refine wp_ret ?_; refine ret1 Try.results61 ?_
  first | exact .inl ⟨hN, rfl, hS3.fin⟩ | exact .inr ⟨hN, rfl, hS3.fin⟩

theorem within_ok (n lo hi : Int) (w : World) :
    Ret Try.prog 63 [.int .i64 n, .int .i64 lo, .int .i64 hi] w (fun v w' => (¬ outI n lo hi ∧ v = .bool true ∧ St w [] w' []) ∨ (outI n lo hi ∧ v = .bool false ∧ St w [] w' [])) := by
  refine enter Try.func63 rfl Try.ntmps63 rfl ?_
  have hS := St.refl w []
  refine c_seq ?_; refine c_region ?_; refine wl_val (r_assign (v := .bool false) rfl) rfl ?_; refine wl_nil ?_; refine c_then ?_; refine c_seq ?_; refine c_region ?_; refine wl_val (r_move (v := .int .i64 _) rfl) rfl ?_; refine wl_val (r_move (v := .int .i64 _) rfl) rfl ?_
  refine wl_dec (r_geq rfl rfl) rfl (fun h1_2 => ?_) (fun h1_2 => ?_)
  · refine wl_val (r_move (v := .bool _) rfl) rfl ?_
    refine wl_val (r_move (v := .int .i64 _) rfl) rfl ?_; refine wl_val (r_move (v := .int .i64 _) rfl) rfl ?_
    refine wl_dec (r_leq rfl rfl) rfl (fun h1_6 => ?_) (fun h1_6 => ?_)
    · refine wl_val (r_pick_t rfl (v := .bool _) rfl) rfl ?_
      refine wl_val (r_assign (v := .bool _) rfl) rfl ?_; refine wl_nil ?_; refine c_then ?_; refine wp_ret ?_; refine ret1 Try.results63 ?_
      first | exact .inl ⟨by unfold outI; omega, rfl, hS.fin⟩ | exact .inr ⟨by unfold outI; omega, rfl, hS.fin⟩
    refine wl_val (r_pick_t rfl (v := .bool _) rfl) rfl ?_; refine wl_val (r_assign (v := .bool _) rfl) rfl ?_; refine wl_nil ?_; refine c_then ?_; refine wp_ret ?_; refine ret1 Try.results63 ?_
    first | exact .inl ⟨by unfold outI; omega, rfl, hS.fin⟩ | exact .inr ⟨by unfold outI; omega, rfl, hS.fin⟩
  refine wl_val (r_move (v := .bool _) rfl) rfl ?_; refine wl_not rfl ?_; refine wl_not rfl ?_; refine wl_not rfl ?_; refine wl_val (r_pick_f rfl (v := .bool false) rfl) rfl ?_; refine wl_val (r_assign (v := .bool _) rfl) rfl ?_; refine wl_nil ?_; refine c_then ?_; refine wp_ret ?_; refine ret1 Try.results63 ?_
  first | exact .inl ⟨by unfold outI; omega, rfl, hS.fin⟩ | exact .inr ⟨by unfold outI; omega, rfl, hS.fin⟩

set_option maxHeartbeats 4000000 in
theorem bodyForm_ok (a : Nat) (x : BodyD) (w : World) (hx : BodyOk x) (h1 : 1 ≤ a) (h2 : a < 13) :
    Ret Try.prog 60 [vi a, .agg x.v.toArray] w (fun v w' => (ex x (needF a) 12 = true ∧ v = .int .i64 2 ∧ St w [] w' []) ∨ (ex x (needF a) 12 = false ∧ v = .int .i64 0 ∧ St w [] w' [])) := by
  have hmb := hx.mb
  have hcm := hx.cm
  have hxl := body_len hx
  refine enter Try.func60 rfl Try.ntmps60 rfl ?_
  have hS := St.refl w []
  refine c_seq ?_; refine c_region ?_; refine wl_exv (x_box hS (v := .agg _) rfl rfl) rfl ?_; rintro _ w1 ⟨b3, rfl, hS2⟩; refine wl_val (r_assign (v := .int .i64 0) rfl) rfl ?_; refine wl_nil ?_; refine c_then ?_; refine c_seq ?_; refine c_region ?_; refine wl_val (r_move (v := .int .i64 _) rfl) rfl ?_; refine wl_call (r_call fn30 rfl rfl) rfl (uses_ok a _ h2) ?_; rintro _ w3 ⟨rfl, hx4⟩
  have hS5 := hS2.ext hx4
  refine wl_val (r_assign (v := .string _) rfl) rfl ?_; refine wl_nil ?_; refine c_then ?_; refine c_seq ?_; refine c_seq ?_; refine c_drawS 55 hMixed hS5 ?_; intro w6 hS7; refine g_take 0 rfl (by decide +kernel) rfl (fun _ _ _ h => h) hS7 (fun wF hF => r_field fa29_0 rfl) ?_; refine g_take 1 rfl (by decide +kernel) rfl (fun _ _ _ h => h) hS7 (fun wF hF => r_loadB1 ti9.und rfl rfl (hF.heap (.head _)) body_tx) ?_; refine g_take 2 rfl (by decide +kernel) rfl (fun _ _ _ h => h) hS7 (fun wF hF => r_neqStrL rfl rfl) ?_; refine g_take 3 rfl (by decide +kernel) rfl (fun _ _ _ h => h) hS7 (fun wF hF => r_buildF (vs := [.string ⟨#[116]⟩, .bool _]) (out := [.string ⟨#[116]⟩, .bool _]) pl115 ti115 rfl rfl (by intro i hi; match i, hi with | 0, _ => rfl | 1, _ => rfl) rfl) ?_; refine g_take 4 rfl (by decide +kernel) rfl (fun _ _ _ h => h) hS7 (fun wF hF => r_field fa29_1 rfl) ?_; refine g_take 5 rfl (by decide +kernel) rfl (fun _ _ _ h => h) hS7 (fun wF hF => r_loadA (cs := x.mb.map b8) (by rw [List.length_map, hmb]; exact ti23) rfl rfl (body_at1 (hF.heap (.head _)) hx)) ?_; refine g_take 6 rfl (by decide +kernel) rfl (fun _ _ _ h => h) hS7 (fun wF hF => r_build0 (cs := ((List.replicate 16 (0 : UInt8)).map b8)) ti23.und ti23 ti5) ?_; refine g_take 7 rfl (by decide +kernel) rfl (fun _ _ _ h => h) hS7 (fun wF hF => r_neqA (u := undef) eg23 rfl rfl (eqIs_b8 ti23.und ti5 _ _ hmb (by simp))) ?_; refine g_take 8 rfl (by decide +kernel) rfl (fun _ _ _ h => h) hS7 (fun wF hF => r_buildF (vs := [.string ⟨#[109]⟩, .bool _]) (out := [.string ⟨#[109]⟩, .bool _]) pl115 ti115 rfl rfl (by intro i hi; match i, hi with | 0, _ => rfl | 1, _ => rfl) rfl) ?_
  refine g_take 9 rfl (by decide +kernel) rfl (fun _ _ _ h => h) hS7 (fun wF hF => r_field fa29_2 rfl) ?_; refine g_take 10 rfl (by decide +kernel) rfl (fun _ _ _ h => h) hS7 (fun wF hF => r_loadB1 ti24.und rfl rfl (hF.heap (.head _)) (body_ro hx)) ?_; refine g_take 11 rfl (by decide +kernel) rfl (fun _ _ _ h => h) hS7 (fun wF hF => r_len (T := 24) rfl ti24.und rfl _ rfl) ?_; refine g_take 12 rfl (by decide +kernel) rfl (fun _ _ _ h => h) hS7 (fun wF hF => r_gtr rfl rfl) ?_; refine g_take 13 rfl (by decide +kernel) rfl (fun _ _ _ h => h) hS7 (fun wF hF => r_buildF (vs := [.string ⟨#[114]⟩, .bool _]) (out := [.string ⟨#[114]⟩, .bool _]) pl115 ti115 rfl rfl (by intro i hi; match i, hi with | 0, _ => rfl | 1, _ => rfl) rfl) ?_; refine g_take 14 rfl (by decide +kernel) rfl (fun _ _ _ h => h) hS7 (fun wF hF => r_field fa29_3 rfl) ?_; refine g_take 15 rfl (by decide +kernel) rfl (fun _ _ _ h => h) hS7 (fun wF hF => r_loadB1 ti9.und rfl rfl (hF.heap (.head _)) (body_lb hx)) ?_; refine g_take 16 rfl (by decide +kernel) rfl (fun _ _ _ h => h) hS7 (fun wF hF => r_neqStrL rfl rfl) ?_; refine g_take 17 rfl (by decide +kernel) rfl (fun _ _ _ h => h) hS7 (fun wF hF => r_buildF (vs := [.string ⟨#[108]⟩, .bool _]) (out := [.string ⟨#[108]⟩, .bool _]) pl115 ti115 rfl rfl (by intro i hi; match i, hi with | 0, _ => rfl | 1, _ => rfl) rfl) ?_; refine g_take 18 rfl (by decide +kernel) rfl (fun _ _ _ h => h) hS7 (fun wF hF => r_field fa29_4 rfl) ?_; refine g_take 19 rfl (by decide +kernel) rfl (fun _ _ _ h => h) hS7 (fun wF hF => r_loadA (cs := x.cm.map b8) (by rw [List.length_map, hcm]; exact ti26) rfl rfl (body_at19 (hF.heap (.head _)) hx)) ?_
  refine g_take 20 rfl (by decide +kernel) rfl (fun _ _ _ h => h) hS7 (fun wF hF => r_build0 (cs := ((List.replicate 32 (0 : UInt8)).map b8)) ti26.und ti26 ti5) ?_; refine g_take 21 rfl (by decide +kernel) rfl (fun _ _ _ h => h) hS7 (fun wF hF => r_neqA (u := undef) eg26 rfl rfl (eqIs_b8 ti26.und ti5 _ _ hcm (by simp))) ?_; refine g_take 22 rfl (by decide +kernel) rfl (fun _ _ _ h => h) hS7 (fun wF hF => r_buildF (vs := [.string ⟨#[99]⟩, .bool _]) (out := [.string ⟨#[99]⟩, .bool _]) pl115 ti115 rfl rfl (by intro i hi; match i, hi with | 0, _ => rfl | 1, _ => rfl) rfl) ?_; refine g_take 23 rfl (by decide +kernel) rfl (fun _ _ _ h => h) hS7 (fun wF hF => r_field fa29_5 rfl) ?_; refine g_take 24 rfl (by decide +kernel) rfl (fun _ _ _ h => h) hS7 (fun wF hF => r_loadB1 ti3.und rfl rfl (hF.heap (.head _)) (body_ep hx)) ?_; refine g_take 25 rfl (by decide +kernel) rfl (fun _ _ _ h => h) hS7 (fun wF hF => r_neq rfl rfl) ?_; refine g_take 26 rfl (by decide +kernel) rfl (fun _ _ _ h => h) hS7 (fun wF hF => r_buildF (vs := [.string ⟨#[101]⟩, .bool _]) (out := [.string ⟨#[101]⟩, .bool _]) pl115 ti115 rfl rfl (by intro i hi; match i, hi with | 0, _ => rfl | 1, _ => rfl) rfl) ?_; refine g_take 27 rfl (by decide +kernel) rfl (fun _ _ _ h => h) hS7 (fun wF hF => r_field fa29_6 rfl) ?_; refine g_take 28 rfl (by decide +kernel) rfl (fun _ _ _ h => h) hS7 (fun wF hF => r_loadB1 ti3.und rfl rfl (hF.heap (.head _)) (body_pu hx)) ?_; refine g_take 29 rfl (by decide +kernel) rfl (fun _ _ _ h => h) hS7 (fun wF hF => r_neq rfl rfl) ?_
  refine g_take 30 rfl (by decide +kernel) rfl (fun _ _ _ h => h) hS7 (fun wF hF => r_buildF (vs := [.string ⟨#[112]⟩, .bool _]) (out := [.string ⟨#[112]⟩, .bool _]) pl115 ti115 rfl rfl (by intro i hi; match i, hi with | 0, _ => rfl | 1, _ => rfl) rfl) ?_; refine g_take 31 rfl (by decide +kernel) rfl (fun _ _ _ h => h) hS7 (fun wF hF => r_field fa29_7 rfl) ?_; refine g_take 32 rfl (by decide +kernel) rfl (fun _ _ _ h => h) hS7 (fun wF hF => r_loadB1 ti3.und rfl rfl (hF.heap (.head _)) (body_re hx)) ?_; refine g_take 33 rfl (by decide +kernel) rfl (fun _ _ _ h => h) hS7 (fun wF hF => r_neq rfl rfl) ?_; refine g_take 34 rfl (by decide +kernel) rfl (fun _ _ _ h => h) hS7 (fun wF hF => r_buildF (vs := [.string ⟨#[97]⟩, .bool _]) (out := [.string ⟨#[97]⟩, .bool _]) pl115 ti115 rfl rfl (by intro i hi; match i, hi with | 0, _ => rfl | 1, _ => rfl) rfl) ?_; refine g_take 35 rfl (by decide +kernel) rfl (fun _ _ _ h => h) hS7 (fun wF hF => r_field fa29_8 rfl) ?_; refine g_take 36 rfl (by decide +kernel) rfl (fun _ _ _ h => h) hS7 (fun wF hF => r_loadB1 ti3.und rfl rfl (hF.heap (.head _)) (body_ne hx)) ?_; refine g_take 37 rfl (by decide +kernel) rfl (fun _ _ _ h => h) hS7 (fun wF hF => r_neq rfl rfl) ?_; refine g_take 38 rfl (by decide +kernel) rfl (fun _ _ _ h => h) hS7 (fun wF hF => r_buildF (vs := [.string ⟨#[110]⟩, .bool _]) (out := [.string ⟨#[110]⟩, .bool _]) pl115 ti115 rfl rfl (by intro i hi; match i, hi with | 0, _ => rfl | 1, _ => rfl) rfl) ?_; refine g_take 39 rfl (by decide +kernel) rfl (fun _ _ _ h => h) hS7 (fun wF hF => r_field fa29_11 rfl) ?_
  refine g_take 40 rfl (by decide +kernel) rfl (fun _ _ _ h => h) hS7 (fun wF hF => r_loadB1 ti27.und rfl rfl (hF.heap (.head _)) (body_ho hx)) ?_; refine g_take 41 rfl (by decide +kernel) rfl (fun _ _ _ h => h) hS7 (fun wF hF => r_len (T := 27) rfl ti27.und rfl _ rfl) ?_; refine g_take 42 rfl (by decide +kernel) rfl (fun _ _ _ h => h) hS7 (fun wF hF => r_gtr rfl rfl) ?_; refine g_take 43 rfl (by decide +kernel) rfl (fun _ _ _ h => h) hS7 (fun wF hF => r_buildF (vs := [.string ⟨#[104]⟩, .bool _]) (out := [.string ⟨#[104]⟩, .bool _]) pl115 ti115 rfl rfl (by intro i hi; match i, hi with | 0, _ => rfl | 1, _ => rfl) rfl) ?_; refine g_take 44 rfl (by decide +kernel) rfl (fun _ _ _ h => h) hS7 (fun wF hF => r_field fa29_9 rfl) ?_; refine g_take 45 rfl (by decide +kernel) rfl (fun _ _ _ h => h) hS7 (fun wF hF => r_loadB1 ti3.und rfl rfl (hF.heap (.head _)) (body_ve hx)) ?_; refine g_take 46 rfl (by decide +kernel) rfl (fun _ _ _ h => h) hS7 (fun wF hF => r_neq rfl rfl) ?_; refine g_take 47 rfl (by decide +kernel) rfl (fun _ _ _ h => h) hS7 (fun wF hF => r_buildF (vs := [.string ⟨#[118]⟩, .bool _]) (out := [.string ⟨#[118]⟩, .bool _]) pl115 ti115 rfl rfl (by intro i hi; match i, hi with | 0, _ => rfl | 1, _ => rfl) rfl) ?_; refine g_take 48 rfl (by decide +kernel) rfl (fun _ _ _ h => h) hS7 (fun wF hF => r_field fa29_10 rfl) ?_; refine g_take 49 rfl (by decide +kernel) rfl (fun _ _ _ h => h) hS7 (fun wF hF => r_loadB1 ti3.und rfl rfl (hF.heap (.head _)) (body_ct hx)) ?_; refine g_take 50 rfl (by decide +kernel) rfl (fun _ _ _ h => h) hS7 (fun wF hF => r_neq rfl rfl) ?_
  refine g_take 51 rfl (by decide +kernel) rfl (fun _ _ _ h => h) hS7 (fun wF hF => r_buildF (vs := [.string ⟨#[107]⟩, .bool _]) (out := [.string ⟨#[107]⟩, .bool _]) pl115 ti115 rfl rfl (by intro i hi; match i, hi with | 0, _ => rfl | 1, _ => rfl) rfl) ?_; refine g_take 54 rfl (by decide +kernel) rfl (fun _ _ _ h => h) hS7 (fun wF hF => r_move (v := .int .i64 0) rfl) ?_; refine g_one 52 (by decide +kernel) (by decide +kernel) ?_; refine o_exv rfl (x_litP (form_flat x (p := decide ((0 : Int) < ((x.ro.length : Nat) : Int))) (q := decide ((0 : Int) < ((x.ho.length : Nat) : Int))) (decide_eq_decide.2 (by omega)) (decide_eq_decide.2 (by omega))) hS7 ti116.und ti115 rfl rfl (by intro c hc; simp only [List.mem_cons, List.not_mem_nil, or_false] at hc; rcases hc with rfl | rfl | rfl | rfl | rfl | rfl | rfl | rfl | rfl | rfl | rfl | rfl <;> rfl) rfl (by decide) (by decide)) rfl ?_; rintro _ w8 ⟨b62, rfl, hS9⟩
  refine ⟨hS9.drop1, ?_⟩
  refine g_take 53 rfl (by decide +kernel) rfl (fun _ _ _ h => h) hS9.drop1 (fun wF hF => r_len (T := 116) rfl ti116.und rfl _ rfl) ?_; refine g_tail (by decide +kernel) rfl (by decide +kernel) ?_; refine wl_nil ?_; refine c_then ?_; refine c_block ?_; refine c_loopE [5, 62, 63] (fun d e w' => ∃ (k : Nat), Kw.look e 64 = vi k ∧ d = 12 - k ∧ St w [] w' [.blk b62 (cl ((List.range 12).flatMap (fv x)) 115)] ∧ (k ≤ 12) ∧ (ex x (needF a) k = false)) (12 - 0) ?_ ?_
  · exact ⟨0, rfl, rfl, (hS9.perm ((List.Perm.cons _ (List.Perm.refl _)).trans (List.perm_middle (l₁ := [_])).symm)).drop1, Nat.zero_le _, rfl⟩
  · rintro d13 e10 w11 ⟨k, hc0_64, rfl, hS12, hk, hp⟩ -
    refine c_set (d := 64) hc0_64 ?_; refine c_seq ?_; refine c_region ?_
    refine wl_dec (r_lss rfl rfl) rfl (fun h3_0 => ?_) (fun h3_0 => ?_)
    · refine wl_nil ?_
      refine c_then ?_; refine c_seq ?_; refine c_true rfl ?_; refine wp_skip ?_; refine c_then ?_; refine c_seq ?_; refine c_block ?_; refine c_seq ?_; refine c_region ?_; refine wl_val (r_ixF (fv_len x) ti116.und ti115 rfl rfl (Row.of_at (at_all (hS12.heap (.head _)))) (by first | (simp [*]; done) | (simp [*] <;> omega) | omega) (by first | omega | (simp [*]; done) | (simp [*] <;> omega)) (by decide)) rfl ?_; refine wl_val (r_loadF (fv_len x) ti115 ag115 rfl (Row.of_at (at_all (hS12.heap (.head _)))) (by first | omega | (simp [*]; done) | (simp [*] <;> omega)) (by decide)) rfl ?_; refine wl_exv (x_alloc (C := [.string ⟨#[]⟩, .bool false]) hS12 ti115 rfl) rfl ?_; rintro _ w14 ⟨b7, rfl, hS15⟩; refine wl_exs (x_storeW [] hS15 ti115 rfl rfl rfl rfl (one_fv _ _)) rfl ?_; intro w16 hS17; simp only [List.cons_append, List.nil_append] at hS17; refine wl_nil ?_; refine c_then ?_; refine c_seq ?_
      have hg : gt (List.range 12) k = k := gt_range (by omega)
      rw [hg] at hS17
      refine c_region ?_; refine wl_val (r_field fa115_1 rfl) rfl ?_
      rcases bool_cases (setB x k) with hs | hs
      · refine wl_val (r_loadB1 (v := .bool true) ti4.und rfl rfl (hS17.heap (.head _)) (fv_b hs)) rfl ?_
        refine wl_val (r_move (v := .bool _) rfl) rfl ?_; refine wl_val (r_move (v := .string _) rfl) rfl ?_; refine wl_val (r_field fa115_0 rfl) rfl ?_; refine wl_val (r_loadB1 ti9.und rfl rfl (hS17.heap (.head _)) rfl) rfl ?_; refine wl_call (r_call fn62 rfl rfl) rfl (containsN_ok a k _ h1 h2 (by omega)) ?_
        rintro _ w18 (⟨hN, rfl, hx19⟩ | ⟨hN, rfl, hx19⟩)
        · have hS20 := hS17.ext hx19
          refine wl_val (r_not rfl) rfl ?_; refine wl_val (r_pick_t rfl (v := .bool _) rfl) rfl ?_; refine wl_nil ?_; refine c_then ?_; refine c_false rfl ?_; refine wp_skip ?_; refine c_inN ?_; refine c_then ?_; refine c_region ?_; refine wl_val (r_addn (b := 1) rfl rfl (by omega)) rfl ?_; refine wl_val (r_move (v := .int .i64 _) rfl) rfl ?_; refine wl_nil ?_; refine c_then ?_
          exact ⟨12 - (k + 1), _, by omega, rfl, ⟨k + 1, rfl, rfl, hS20.drop1, by omega, ex_n hp hN⟩, ⟨rfl, rfl, rfl, trivial⟩⟩
        have hS20 := hS17.ext hx19
        refine wl_val (r_not rfl) rfl ?_; refine wl_val (r_pick_t rfl (v := .bool _) rfl) rfl ?_; refine wl_nil ?_; refine c_then ?_; refine c_true rfl ?_; refine c_seq ?_; refine c_region ?_; refine wl_val (r_assign (v := .int .i64 2) rfl) rfl ?_; refine wl_nil ?_; refine c_then ?_; refine wp_ret ?_; refine c_inR ?_; refine c_thenR ?_; refine c_thenR ?_; refine c_inR ?_; refine c_thenR ?_; refine ret1 Try.results60 ?_
        exact .inl ⟨ex_yes 12 k (by omega) hN hs, rfl, hS20.fin⟩
      · refine wl_val (r_loadB1 (v := .bool false) ti4.und rfl rfl (hS17.heap (.head _)) (fv_b hs)) rfl ?_
        refine wl_val (r_move (v := .bool _) rfl) rfl ?_; refine wl_not rfl ?_; refine wl_not rfl ?_; refine wl_not rfl ?_; refine wl_not rfl ?_; refine wl_not rfl ?_; refine wl_val (r_pick_f rfl (v := .bool false) rfl) rfl ?_; refine wl_nil ?_; refine c_then ?_; refine c_false rfl ?_; refine wp_skip ?_; refine c_inN ?_; refine c_then ?_; refine c_region ?_; refine wl_val (r_addn (b := 1) rfl rfl (by omega)) rfl ?_; refine wl_val (r_move (v := .int .i64 _) rfl) rfl ?_; refine wl_nil ?_; refine c_then ?_
        exact ⟨12 - (k + 1), _, by omega, rfl, ⟨k + 1, rfl, rfl, hS17.drop1, by omega, ex_z hp hs⟩, ⟨rfl, rfl, rfl, trivial⟩⟩
    refine wl_nil ?_; refine c_then ?_; refine c_seq ?_; refine c_false rfl ?_; refine wp_exit ?_; refine c_thenE ?_; refine c_thenE ?_; refine c_inE ?_; refine c_then ?_; refine c_seq ?_; refine c_region ?_; refine wl_val (r_assign (v := .int .i64 0) rfl) rfl ?_; refine wl_nil ?_; refine c_then ?_; refine wp_ret ?_; refine ret1 Try.results60 ?_
    obtain rfl : k = 12 := by omega
    exact .inr ⟨hp, rfl, hS12.fin⟩

end Go.Proofs.Ytbanoknkplcedaa
end
section
namespace Go.Proofs.Ytbanoknkplcedaa
open Go.Kw
set_option linter.unusedVariables false
set_option linter.unusedSimpArgs false
set_option maxRecDepth 100000
set_option maxHeartbeats 4000000 in
theorem bodyError_ok (act : Int) (x : BodyD) (w : World) (hx : BodyOk x) (hro : Row w x.ra (x.ro.map sv)) (hho : Row w x.ha (x.ho.flatten.map b8)) :
    Ret Try.prog 28 [.int .i64 act, .agg x.v.toArray] w (fun v w' => v = .int .i64 (bodyE act x) ∧ St w [] w' []) := by
  have hmb := hx.mb
  have hcm := hx.cm
  have hxl := body_len hx
  refine enter Try.func28 rfl Try.ntmps28 rfl ?_
  have hS := St.refl w []
  refine c_seq ?_; refine c_region ?_; refine wl_exv (x_box hS (v := .agg _) rfl rfl) rfl ?_; rintro _ w1 ⟨b3, rfl, hS2⟩; refine wl_val (r_assign (v := .int .i64 0) rfl) rfl ?_; refine wl_nil ?_; refine c_then ?_; refine c_seq ?_; refine c_seq ?_; refine c_region ?_; refine wl_val (r_move (v := .int .i64 _) rfl) rfl ?_
  refine wl_dec (r_lss rfl rfl) rfl (fun h1_1 => ?_) (fun h1_1 => ?_)
  · refine wl_val (r_move (v := .bool _) rfl) rfl ?_
    refine wl_not rfl ?_; refine wl_not rfl ?_; refine wl_val (r_pick_t rfl (v := .bool true) rfl) rfl ?_; refine wl_nil ?_; refine c_then ?_; refine c_true rfl ?_; refine c_seq ?_; refine c_region ?_; refine wl_val (r_assign (v := .int .i64 3) rfl) rfl ?_; refine wl_nil ?_; refine c_then ?_; refine wp_ret ?_; refine c_thenR ?_; refine ret1 Try.results28 ?_
    exact ⟨congrArg (Value.int .i64) (bodyE_1 (by omega)).symm, hS2.fin⟩
  refine wl_val (r_move (v := .bool _) rfl) rfl ?_; refine wl_val (r_move (v := .int .i64 _) rfl) rfl ?_
  refine wl_dec (r_gtr rfl rfl) rfl (fun h1_4 => ?_) (fun h1_4 => ?_)
  · refine wl_val (r_pick_f rfl (v := .bool _) rfl) rfl ?_
    refine wl_nil ?_; refine c_then ?_; refine c_true rfl ?_; refine c_seq ?_; refine c_region ?_; refine wl_val (r_assign (v := .int .i64 3) rfl) rfl ?_; refine wl_nil ?_; refine c_then ?_; refine wp_ret ?_; refine c_thenR ?_; refine ret1 Try.results28 ?_
    exact ⟨congrArg (Value.int .i64) (bodyE_1 (by omega)).symm, hS2.fin⟩
  refine wl_val (r_pick_f rfl (v := .bool _) rfl) rfl ?_; refine wl_nil ?_; refine c_then ?_; refine c_false rfl ?_; refine wp_skip ?_; refine c_then ?_; refine c_seq ?_; refine c_seq ?_
  obtain ⟨act', rfl⟩ : ∃ i : Nat, act = (i : Int) := ⟨act.toNat, (by omega)⟩
  refine c_region ?_; refine wl_val (r_move (v := .int .i64 _) rfl) rfl ?_; refine wl_val (r_loadB ti29 ag29 rfl (hS2.heap (.head _)) (by first | (simp [*]; done) | (simp [*] <;> omega) | omega)) rfl ?_; refine wl_call (r_call fn60 rfl rfl) rfl (bodyForm_ok act' x _ hx (by omega) (by omega)) ?_
  rintro _ w3 (⟨hex, rfl, hx4⟩ | ⟨hex, rfl, hx4⟩)
  · have hS5 := hS2.ext hx4
    refine wl_val (r_assign (v := .int .i64 _) rfl) rfl ?_; refine wl_nil ?_; refine c_then ?_; refine c_seq ?_; refine c_region ?_; refine wl_val (r_move (v := .int .i64 _) rfl) rfl ?_; refine wl_dec_t (r_neq rfl rfl) rfl (by decide) ?_; refine wl_nil ?_; refine c_then ?_; refine c_true rfl ?_; refine c_seq ?_; refine c_region ?_; refine wl_val (r_move (v := .int .i64 _) rfl) rfl ?_; refine wl_val (r_assign (v := .int .i64 _) rfl) rfl ?_; refine wl_nil ?_; refine c_then ?_; refine wp_ret ?_; refine c_thenR ?_; refine ret1 Try.results28 ?_
    exact ⟨congrArg (Value.int .i64) (bodyN_2 (by omega) hex).symm, hS5.fin⟩
  have hS5 := hS2.ext hx4
  refine wl_val (r_assign (v := .int .i64 _) rfl) rfl ?_; refine wl_nil ?_; refine c_then ?_; refine c_seq ?_; refine c_region ?_; refine wl_val (r_move (v := .int .i64 _) rfl) rfl ?_; refine wl_dec_f (r_neq rfl rfl) rfl (by decide) ?_; refine wl_nil ?_; refine c_then ?_; refine c_false rfl ?_; refine wp_skip ?_; refine c_then ?_; refine c_seq ?_; refine c_region ?_; refine wl_val (r_move (v := .int .i64 _) rfl) rfl ?_; refine wl_call (r_call fn30 rfl rfl) rfl (uses_ok act' _ (by omega)) ?_; rintro _ w6 ⟨rfl, hx7⟩
  have hS8 := hS5.ext hx7
  refine wl_exv (x_alloc (C := [.string ⟨#[]⟩]) hS8 ti9 rfl) rfl ?_; rintro _ w9 ⟨b6, rfl, hS10⟩; refine wl_exs (x_store1 [] hS10 ti9 rfl rfl rfl (by simp)) rfl ?_; intro w11 hS12; simp only [List.cons_append, List.nil_append] at hS12; refine wl_nil ?_; refine c_then ?_; refine c_seq ?_; refine c_region ?_; refine wl_val (r_makeFunc (vs := [pt b6 0]) rfl) rfl ?_; refine wl_val (r_assign rfl) rfl ?_; refine wl_nil ?_; refine c_then ?_; refine c_seq ?_; refine c_region ?_; refine wl_val (r_assign rfl) rfl ?_; refine wl_nil ?_; refine c_then ?_; refine c_seq ?_; refine c_seq ?_; refine c_region ?_; refine wl_val (r_field fa29_0 rfl) rfl ?_; refine wl_val (r_loadB1 ti9.und rfl rfl (hS12.heap (.tail _ (.head _))) body_tx) rfl ?_; refine wl_val (r_lenStrL (T := 9) rfl ti9.und rfl _ rfl) rfl ?_
  refine wl_dec (r_gtr rfl rfl) rfl (fun h9_3 => ?_) (fun h9_3 => ?_)
  · refine wl_val (r_move (v := .bool _) rfl) rfl ?_
    refine wl_not rfl ?_; refine wl_not rfl ?_; refine wl_not rfl ?_; refine wl_not rfl ?_; refine wl_val (r_pick_t rfl (v := .bool true) rfl) rfl ?_; refine wl_val (r_move (v := .bool _) rfl) rfl ?_; refine wl_not rfl ?_; refine wl_not rfl ?_; refine wl_not rfl ?_; refine wl_not rfl ?_; refine wl_val (r_pick_t rfl (v := .bool true) rfl) rfl ?_; refine wl_nil ?_; refine c_then ?_; refine c_true rfl ?_; refine c_seq ?_; refine c_region ?_; refine wl_val (r_assign (v := .int .i64 5) rfl) rfl ?_; refine wl_nil ?_; refine c_then ?_; refine wp_ret ?_; refine c_thenR ?_; refine ret1 Try.results28 ?_
    exact ⟨congrArg (Value.int .i64) (bodyN_3 (by omega) hex (by omega)).symm, hS12.fin⟩
  refine wl_val (r_move (v := .bool _) rfl) rfl ?_; refine wl_val (r_field fa29_2 rfl) rfl ?_; refine wl_val (r_loadB1 ti24.und rfl rfl (hS12.heap (.tail _ (.head _))) (body_ro hx)) rfl ?_; refine wl_val (r_len (T := 24) rfl ti24.und rfl _ rfl) rfl ?_
  refine wl_dec (r_gtr rfl rfl) rfl (fun h9_8 => ?_) (fun h9_8 => ?_)
  · refine wl_val (r_pick_f rfl (v := .bool _) rfl) rfl ?_
    refine wl_val (r_move (v := .bool _) rfl) rfl ?_; refine wl_not rfl ?_; refine wl_not rfl ?_; refine wl_not rfl ?_; refine wl_not rfl ?_; refine wl_val (r_pick_t rfl (v := .bool true) rfl) rfl ?_; refine wl_nil ?_; refine c_then ?_; refine c_true rfl ?_; refine c_seq ?_; refine c_region ?_; refine wl_val (r_assign (v := .int .i64 5) rfl) rfl ?_; refine wl_nil ?_; refine c_then ?_; refine wp_ret ?_; refine c_thenR ?_; refine ret1 Try.results28 ?_
    exact ⟨congrArg (Value.int .i64) (bodyN_3 (by omega) hex (by omega)).symm, hS12.fin⟩
  refine wl_val (r_pick_f rfl (v := .bool _) rfl) rfl ?_; refine wl_val (r_move (v := .bool _) rfl) rfl ?_; refine wl_val (r_field fa29_11 rfl) rfl ?_; refine wl_val (r_loadB1 ti27.und rfl rfl (hS12.heap (.tail _ (.head _))) (body_ho hx)) rfl ?_; refine wl_val (r_len (T := 27) rfl ti27.und rfl _ rfl) rfl ?_
  refine wl_dec (r_gtr rfl rfl) rfl (fun h9_14 => ?_) (fun h9_14 => ?_)
  · refine wl_val (r_pick_f rfl (v := .bool _) rfl) rfl ?_
    refine wl_nil ?_; refine c_then ?_; refine c_true rfl ?_; refine c_seq ?_; refine c_region ?_; refine wl_val (r_assign (v := .int .i64 5) rfl) rfl ?_; refine wl_nil ?_; refine c_then ?_; refine wp_ret ?_; refine c_thenR ?_; refine ret1 Try.results28 ?_
    exact ⟨congrArg (Value.int .i64) (bodyN_3 (by omega) hex (by omega)).symm, hS12.fin⟩
  refine wl_val (r_pick_f rfl (v := .bool _) rfl) rfl ?_; refine wl_nil ?_; refine c_then ?_; refine c_false rfl ?_; refine wp_skip ?_; refine c_then ?_; refine c_cutE [3, 7, 8] (fun e w' => St w [] w' [.blk b6 (cl [sv (gt usesT act')] 9), .blk b3 (cl x.v 29)] ∧ (rolesE x.ro = 0)) ?_ ?_
  · refine c_seq ?_
    refine c_region ?_; refine wl_val (r_field fa29_2 rfl) rfl ?_; refine wl_val (r_loadB1 ti24.und rfl rfl (hS12.heap (.tail _ (.head _))) (body_ro hx)) rfl ?_; refine wl_val (r_len (T := 24) rfl ti24.und rfl _ rfl) rfl ?_; refine wl_val (r_move (v := .int .i64 0) rfl) rfl ?_; refine wl_nil ?_; refine c_then ?_; refine c_block ?_; refine c_loopE [3, 7, 8, 44, 45] (fun d e w' => ∃ (k : Nat), Kw.look e 46 = vi k ∧ d = x.ro.length - k ∧ St w [] w' [.blk b6 (cl [sv (gt usesT act')] 9), .blk b3 (cl x.v 29)] ∧ (k ≤ x.ro.length) ∧ (∀ j, j < k → roleAt x.ro j = 0)) (x.ro.length - 0) ?_ ?_
    · exact ⟨0, rfl, rfl, hS12, Nat.zero_le _, fun j h => by omega⟩
    · rintro d20 e17 w18 ⟨k, hc0_46, rfl, hS19, hk, hok⟩ -
      refine c_set (d := 46) hc0_46 ?_; refine c_seq ?_; refine c_region ?_
      refine wl_dec (r_lss rfl rfl) rfl (fun h12_0 => ?_) (fun h12_0 => ?_)
      · refine wl_nil ?_
        refine c_then ?_; refine c_seq ?_; refine c_true rfl ?_; refine wp_skip ?_; refine c_then ?_; refine c_seq ?_; refine c_block ?_; refine c_seq ?_; refine c_region ?_; refine wl_val (r_move (v := .int .i64 _) rfl) rfl ?_; refine wl_val (r_ixS ti24.und ti9 rfl rfl (hro.st hS19) (by omega) (by rw [List.length_map]; omega)) rfl ?_; refine wl_val (r_loadS1 ti9.und rfl rfl (hro.st hS19) (by rw [Nat.mul_one]; exact map_gt _ _ _ (by first | omega | (simp [*]; done) | (simp [*] <;> omega)))) rfl ?_; refine wl_val (r_assign (v := .int .i64 _) rfl) rfl ?_; refine wl_val (r_assign (v := .string _) rfl) rfl ?_; refine wl_nil ?_; refine c_then ?_; refine c_seq ?_; refine c_seq ?_
        have hsl := hx.rl _ (gt_mem x.ro k (by omega))
        refine c_region ?_; refine wl_val (r_move (v := .string _) rfl) rfl ?_; refine wl_call (r_call fn64 rfl rfl) rfl (risName_br _ _ hsl) ?_
        rintro _ w21 (⟨hnm, rfl, hx22⟩ | ⟨hnm, rfl, hx22⟩)
        · have hS23 := hS19.ext hx22
          refine wl_val (r_not rfl) rfl ?_; refine wl_nil ?_; refine c_then ?_; refine c_false rfl ?_; refine wp_skip ?_; refine c_then ?_; refine c_seq ?_; refine c_region ?_; refine wl_val (r_move (v := .int .i64 _) rfl) rfl ?_
          refine wl_dec (r_gtr rfl rfl) rfl (fun h16_1 => ?_) (fun h16_1 => ?_)
          · refine wl_val (r_move (v := .bool _) rfl) rfl ?_
            refine wl_val (r_field fa29_2 rfl) rfl ?_; refine wl_val (r_loadB1 ti24.und rfl rfl (hS23.heap (.tail _ (.head _))) (body_ro hx)) rfl ?_; refine wl_val (r_move (v := .int .i64 _) rfl) rfl ?_; refine wl_val (r_subn (b := 1) rfl rfl (by omega) (by omega)) rfl ?_; refine wl_val (r_ixS ti24.und ti9 rfl rfl (hro.st hS23) (by omega) (by rw [List.length_map]; omega)) rfl ?_; refine wl_val (r_loadS1 ti9.und rfl rfl (hro.st hS23) (by rw [Nat.mul_one]; exact map_gt _ _ _ (by first | omega | (simp [*]; done) | (simp [*] <;> omega)))) rfl ?_; refine wl_val (r_move (v := .string _) rfl) rfl ?_
            refine wl_dec (r_geqStrL rfl rfl) rfl (fun h16_10 => ?_) (fun h16_10 => ?_)
            · refine wl_val (r_pick_t rfl (v := .bool _) rfl) rfl ?_
              refine wl_nil ?_; refine c_then ?_; refine c_true rfl ?_; refine c_seq ?_; refine c_region ?_; refine wl_val (r_assign (v := .int .i64 9) rfl) rfl ?_; refine wl_nil ?_; refine c_then ?_; refine wp_ret ?_; refine c_inR ?_; refine c_thenR ?_; refine c_thenR ?_; refine c_inR ?_; refine c_thenR ?_; refine ret1 Try.results28 ?_
              have e9 : rolesE x.ro = 9 := (firstI_at (k := k) _ _ (Nat.zero_le _) (by omega) (fun j _ hj => hok j hj) (by rw [roleAt, if_neg (by rw [hnm]; decide), if_pos ⟨by omega, h16_10⟩]; decide)).trans (by rw [roleAt, if_neg (by rw [hnm]; decide), if_pos ⟨by omega, h16_10⟩])
              exact ⟨congrArg (Value.int .i64) ((bodyN_4 (by omega) hex (by omega) (by rw [e9]; decide)).trans e9).symm, hS23.fin⟩
            refine wl_val (r_pick_t rfl (v := .bool _) rfl) rfl ?_; refine wl_nil ?_; refine c_then ?_; refine c_false rfl ?_; refine wp_skip ?_; refine c_inN ?_; refine c_then ?_; refine c_region ?_; refine wl_val (r_addn (b := 1) rfl rfl (by omega)) rfl ?_; refine wl_val (r_move (v := .int .i64 _) rfl) rfl ?_; refine wl_nil ?_; refine c_then ?_
            exact ⟨x.ro.length - (k + 1), _, by omega, rfl, ⟨k + 1, rfl, rfl, hS23, by omega, fun j hj => by by_cases e : j = k; (subst e; rw [roleAt, if_neg (by rw [hnm]; decide), if_neg (fun h => h16_10 h.2)]); exact hok j (by omega)⟩, ⟨rfl, rfl, rfl, rfl, rfl, trivial⟩⟩
          refine wl_val (r_move (v := .bool _) rfl) rfl ?_; refine wl_not rfl ?_; refine wl_not rfl ?_; refine wl_not rfl ?_; refine wl_not rfl ?_; refine wl_not rfl ?_; refine wl_not rfl ?_; refine wl_not rfl ?_; refine wl_not rfl ?_; refine wl_val (r_pick_f rfl (v := .bool false) rfl) rfl ?_; refine wl_nil ?_; refine c_then ?_; refine c_false rfl ?_; refine wp_skip ?_; refine c_inN ?_; refine c_then ?_; refine c_region ?_; refine wl_val (r_addn (b := 1) rfl rfl (by omega)) rfl ?_; refine wl_val (r_move (v := .int .i64 _) rfl) rfl ?_; refine wl_nil ?_; refine c_then ?_
          exact ⟨x.ro.length - (k + 1), _, by omega, rfl, ⟨k + 1, rfl, rfl, hS23, by omega, fun j hj => by by_cases e : j = k; (subst e; rw [roleAt, if_neg (by rw [hnm]; decide), if_neg (fun h => by omega)]); exact hok j (by omega)⟩, ⟨rfl, rfl, rfl, rfl, rfl, trivial⟩⟩
        have hS23 := hS19.ext hx22
        refine wl_val (r_not rfl) rfl ?_; refine wl_nil ?_; refine c_then ?_; refine c_true rfl ?_; refine c_seq ?_; refine c_region ?_; refine wl_val (r_assign (v := .int .i64 6) rfl) rfl ?_; refine wl_nil ?_; refine c_then ?_; refine wp_ret ?_; refine c_thenR ?_; refine c_inR ?_; refine c_thenR ?_; refine c_thenR ?_; refine c_inR ?_; refine c_thenR ?_; refine ret1 Try.results28 ?_
        have e6 : rolesE x.ro = 6 := (firstI_at (k := k) _ _ (Nat.zero_le _) (by omega) (fun j _ hj => hok j hj) (by rw [roleAt, if_pos hnm]; decide)).trans (by rw [roleAt, if_pos hnm])
        exact ⟨congrArg (Value.int .i64) ((bodyN_4 (by omega) hex (by omega) (by rw [e6]; decide)).trans e6).symm, hS23.fin⟩
      refine wl_nil ?_; refine c_then ?_; refine c_seq ?_; refine c_false rfl ?_; refine wp_exit ?_; refine c_thenE ?_; refine c_thenE ?_; refine c_inE ?_; refine c_then ?_
      exact ⟨_, rfl, ⟨hS19, firstI_ok _ _ fun j _ hj => hok j (by omega)⟩, ⟨rfl, rfl, rfl, trivial⟩⟩
  · rintro e13 w14 ⟨hS15, hro0⟩ -
    refine c_cutE [3] (fun e w' => St w [] w' [.blk b6 (cl [sv (gt usesT act')] 9), .blk b3 (cl x.v 29)] ∧ (¬ ((needF act') 3 = true ∧ nameE x.lb = false)) ∧ (¬ rangeBad (needF act') x)) ?_ ?_
    · refine c_block ?_
      refine c_cutE [3, 4, 7, 8] (fun e w' => ∃ (p : Bool), Kw.look e 67 = .bool p ∧ St w [] w' [.blk b6 (cl [sv (gt usesT act')] 9), .blk b3 (cl x.v 29)] ∧ (p = true → (needF act') 3 = true ∧ nameE x.lb = false) ∧ (p = false → ¬ ((needF act') 3 = true ∧ nameE x.lb = false))) ?_ ?_
      · refine c_region ?_
        refine wl_val (r_move rfl) rfl ?_; refine wl_call (r_callDyn fn61 rfl rfl) rfl (has_ok act' 3 b6 _ (at_all (hS15.heap (.head _))) (by omega) (by omega) (by decide)) ?_
        rintro _ w32 (⟨hN, rfl, hx33⟩ | ⟨hN, rfl, hx33⟩)
        · have hS34 := hS15.ext hx33
          refine wl_val (r_move (v := .bool _) rfl) rfl ?_; refine wl_val (r_field fa29_3 rfl) rfl ?_; refine wl_val (r_loadB1 ti9.und rfl rfl (hS34.heap (.tail _ (.head _))) (body_lb hx)) rfl ?_; refine wl_call (r_call fn64 rfl rfl) rfl (risName_br _ _ hx.ll) ?_
          rintro _ w35 (⟨hnm, rfl, hx36⟩ | ⟨hnm, rfl, hx36⟩)
          · have hS37 := hS34.ext hx36
            refine wl_val (r_not rfl) rfl ?_; refine wl_val (r_pick_t rfl (v := .bool _) rfl) rfl ?_; refine wl_val (r_assign (v := .bool _) rfl) rfl ?_; refine wl_nil ?_; refine c_then ?_
            exact ⟨_, rfl, ⟨false, rfl, hS37, (fun h => by cases h), fun _ h => by simp_all⟩, ⟨rfl, rfl, rfl, rfl, trivial⟩⟩
          have hS37 := hS34.ext hx36
          refine wl_val (r_not rfl) rfl ?_; refine wl_val (r_pick_t rfl (v := .bool _) rfl) rfl ?_; refine wl_val (r_assign (v := .bool _) rfl) rfl ?_; refine wl_nil ?_; refine c_then ?_
          exact ⟨_, rfl, ⟨true, rfl, hS37, fun _ => ⟨hN, hnm⟩, fun h => by cases h⟩, ⟨rfl, rfl, rfl, rfl, trivial⟩⟩
        have hS34 := hS15.ext hx33
        refine wl_val (r_move (v := .bool _) rfl) rfl ?_; refine wl_not rfl ?_; refine wl_not rfl ?_; refine wl_not rfl ?_; refine wl_not rfl ?_; refine wl_val (r_pick_f rfl (v := .bool false) rfl) rfl ?_; refine wl_val (r_assign (v := .bool _) rfl) rfl ?_; refine wl_nil ?_; refine c_then ?_
        exact ⟨_, rfl, ⟨false, rfl, hS34, (fun h => by cases h), fun _ h => by simp_all⟩, ⟨rfl, rfl, rfl, rfl, trivial⟩⟩
      · rintro e28 w29 ⟨p, hc31_67, hS30, hy, hn⟩ -
        refine c_set (d := 67) hc31_67 ?_
        rcases p with _ | _
        · have hn5 := hn rfl
          refine c_false rfl ?_; refine c_seq ?_; refine c_cutE [3, 4, 7, 8] (fun e w' => ∃ (p : Bool), Kw.look e 76 = .bool p ∧ St w [] w' [.blk b6 (cl [sv (gt usesT act')] 9), .blk b3 (cl x.v 29)] ∧ (p = true → rangeR (needF act') x) ∧ (p = false → ¬ ((needF act') 6 = true ∧ outI x.pu 1 3))) ?_ ?_
          · refine c_region ?_
            refine wl_val (r_move rfl) rfl ?_; refine wl_call (r_callDyn fn61 rfl rfl) rfl (has_ok act' 6 b6 _ (at_all (hS30.heap (.head _))) (by omega) (by omega) (by decide)) ?_
            rintro _ w42 (⟨hN, rfl, hx43⟩ | ⟨hN, rfl, hx43⟩)
            · have hS44 := hS30.ext hx43
              refine wl_val (r_move (v := .bool _) rfl) rfl ?_; refine wl_val (r_move rfl) rfl ?_; refine wl_val (r_field fa29_6 rfl) rfl ?_; refine wl_val (r_loadB1 ti3.und rfl rfl (hS44.heap (.tail _ (.head _))) (body_pu hx)) rfl ?_; refine wl_call (r_callDyn fn63 rfl rfl) rfl (within_ok x.pu 1 3 _) ?_
              rintro _ w45 (⟨ho, rfl, hx46⟩ | ⟨ho, rfl, hx46⟩)
              · have hS47 := hS44.ext hx46
                refine wl_val (r_not rfl) rfl ?_; refine wl_val (r_pick_t rfl (v := .bool _) rfl) rfl ?_; refine wl_val (r_assign (v := .bool _) rfl) rfl ?_; refine wl_nil ?_; refine c_then ?_
                exact ⟨_, rfl, ⟨false, rfl, hS47, (fun h => by cases h), fun _ h => ho h.2⟩, ⟨rfl, rfl, rfl, rfl, trivial⟩⟩
              have hS47 := hS44.ext hx46
              refine wl_val (r_not rfl) rfl ?_; refine wl_val (r_pick_t rfl (v := .bool _) rfl) rfl ?_; refine wl_val (r_assign (v := .bool _) rfl) rfl ?_; refine wl_nil ?_; refine c_then ?_
              exact ⟨_, rfl, ⟨true, rfl, hS47, fun _ => (show rangeR _ _ from .inl ⟨hN, ho⟩), fun h => by cases h⟩, ⟨rfl, rfl, rfl, rfl, trivial⟩⟩
            have hS44 := hS30.ext hx43
            refine wl_val (r_move (v := .bool _) rfl) rfl ?_; refine wl_not rfl ?_; refine wl_not rfl ?_; refine wl_not rfl ?_; refine wl_not rfl ?_; refine wl_not rfl ?_; refine wl_val (r_pick_f rfl (v := .bool false) rfl) rfl ?_; refine wl_val (r_assign (v := .bool _) rfl) rfl ?_; refine wl_nil ?_; refine c_then ?_
            exact ⟨_, rfl, ⟨false, rfl, hS44, (fun h => by cases h), fun _ h => by rw [hN] at h; exact absurd h.1 (by decide)⟩, ⟨rfl, rfl, rfl, rfl, trivial⟩⟩
          · rintro e38 w39 ⟨p, hc41_76, hS40, hy0, hz0⟩ -
            refine c_set (d := 76) hc41_76 ?_
            rcases p with _ | _
            · have hz0 := hz0 rfl
              refine c_false rfl ?_; refine c_cutE [3, 4, 7, 8] (fun e w' => ∃ (p : Bool), Kw.look e 76 = .bool p ∧ St w [] w' [.blk b6 (cl [sv (gt usesT act')] 9), .blk b3 (cl x.v 29)] ∧ (p = true → rangeR (needF act') x) ∧ (p = false → ¬ ((needF act') 7 = true ∧ outI x.re 0 255))) ?_ ?_
              · refine c_region ?_
                refine wl_val (r_move rfl) rfl ?_; refine wl_call (r_callDyn fn61 rfl rfl) rfl (has_ok act' 7 b6 _ (at_all (hS40.heap (.head _))) (by omega) (by omega) (by decide)) ?_
                rintro _ w52 (⟨hN, rfl, hx53⟩ | ⟨hN, rfl, hx53⟩)
                · have hS54 := hS40.ext hx53
                  refine wl_val (r_move (v := .bool _) rfl) rfl ?_; refine wl_val (r_move rfl) rfl ?_; refine wl_val (r_field fa29_7 rfl) rfl ?_; refine wl_val (r_loadB1 ti3.und rfl rfl (hS54.heap (.tail _ (.head _))) (body_re hx)) rfl ?_; refine wl_call (r_callDyn fn63 rfl rfl) rfl (within_ok x.re 0 255 _) ?_
                  rintro _ w55 (⟨ho, rfl, hx56⟩ | ⟨ho, rfl, hx56⟩)
                  · have hS57 := hS54.ext hx56
                    refine wl_val (r_not rfl) rfl ?_; refine wl_val (r_pick_t rfl (v := .bool _) rfl) rfl ?_; refine wl_val (r_assign (v := .bool _) rfl) rfl ?_; refine wl_nil ?_; refine c_then ?_
                    exact ⟨_, rfl, ⟨false, rfl, hS57, (fun h => by cases h), fun _ h => ho h.2⟩, ⟨rfl, rfl, rfl, rfl, trivial⟩⟩
                  have hS57 := hS54.ext hx56
                  refine wl_val (r_not rfl) rfl ?_; refine wl_val (r_pick_t rfl (v := .bool _) rfl) rfl ?_; refine wl_val (r_assign (v := .bool _) rfl) rfl ?_; refine wl_nil ?_; refine c_then ?_
                  exact ⟨_, rfl, ⟨true, rfl, hS57, fun _ => (show rangeR _ _ from .inr (.inl ⟨hN, ho⟩)), fun h => by cases h⟩, ⟨rfl, rfl, rfl, rfl, trivial⟩⟩
                have hS54 := hS40.ext hx53
                refine wl_val (r_move (v := .bool _) rfl) rfl ?_; refine wl_not rfl ?_; refine wl_not rfl ?_; refine wl_not rfl ?_; refine wl_not rfl ?_; refine wl_not rfl ?_; refine wl_val (r_pick_f rfl (v := .bool false) rfl) rfl ?_; refine wl_val (r_assign (v := .bool _) rfl) rfl ?_; refine wl_nil ?_; refine c_then ?_
                exact ⟨_, rfl, ⟨false, rfl, hS54, (fun h => by cases h), fun _ h => by rw [hN] at h; exact absurd h.1 (by decide)⟩, ⟨rfl, rfl, rfl, rfl, trivial⟩⟩
              · rintro e48 w49 ⟨p, hc51_76, hS50, hy1, hz1⟩ -
                refine c_set (d := 76) hc51_76 ?_
                rcases p with _ | _
                · have hz1 := hz1 rfl
                  refine c_false rfl ?_; refine c_cutE [3, 4, 7, 8] (fun e w' => ∃ (p : Bool), Kw.look e 76 = .bool p ∧ St w [] w' [.blk b6 (cl [sv (gt usesT act')] 9), .blk b3 (cl x.v 29)] ∧ (p = true → rangeR (needF act') x) ∧ (p = false → ¬ ((needF act') 10 = true ∧ outI x.ve 0 255))) ?_ ?_
                  · refine c_region ?_
                    refine wl_val (r_move rfl) rfl ?_; refine wl_call (r_callDyn fn61 rfl rfl) rfl (has_ok act' 10 b6 _ (at_all (hS50.heap (.head _))) (by omega) (by omega) (by decide)) ?_
                    rintro _ w62 (⟨hN, rfl, hx63⟩ | ⟨hN, rfl, hx63⟩)
                    · have hS64 := hS50.ext hx63
                      refine wl_val (r_move (v := .bool _) rfl) rfl ?_; refine wl_val (r_move rfl) rfl ?_; refine wl_val (r_field fa29_9 rfl) rfl ?_; refine wl_val (r_loadB1 ti3.und rfl rfl (hS64.heap (.tail _ (.head _))) (body_ve hx)) rfl ?_; refine wl_call (r_callDyn fn63 rfl rfl) rfl (within_ok x.ve 0 255 _) ?_
                      rintro _ w65 (⟨ho, rfl, hx66⟩ | ⟨ho, rfl, hx66⟩)
                      · have hS67 := hS64.ext hx66
                        refine wl_val (r_not rfl) rfl ?_; refine wl_val (r_pick_t rfl (v := .bool _) rfl) rfl ?_; refine wl_val (r_assign (v := .bool _) rfl) rfl ?_; refine wl_nil ?_; refine c_then ?_
                        exact ⟨_, rfl, ⟨false, rfl, hS67, (fun h => by cases h), fun _ h => ho h.2⟩, ⟨rfl, rfl, rfl, rfl, trivial⟩⟩
                      have hS67 := hS64.ext hx66
                      refine wl_val (r_not rfl) rfl ?_; refine wl_val (r_pick_t rfl (v := .bool _) rfl) rfl ?_; refine wl_val (r_assign (v := .bool _) rfl) rfl ?_; refine wl_nil ?_; refine c_then ?_
                      exact ⟨_, rfl, ⟨true, rfl, hS67, fun _ => (show rangeR _ _ from .inr (.inr (.inl ⟨hN, ho⟩))), fun h => by cases h⟩, ⟨rfl, rfl, rfl, rfl, trivial⟩⟩
                    have hS64 := hS50.ext hx63
                    refine wl_val (r_move (v := .bool _) rfl) rfl ?_; refine wl_not rfl ?_; refine wl_not rfl ?_; refine wl_not rfl ?_; refine wl_not rfl ?_; refine wl_not rfl ?_; refine wl_val (r_pick_f rfl (v := .bool false) rfl) rfl ?_; refine wl_val (r_assign (v := .bool _) rfl) rfl ?_; refine wl_nil ?_; refine c_then ?_
                    exact ⟨_, rfl, ⟨false, rfl, hS64, (fun h => by cases h), fun _ h => by rw [hN] at h; exact absurd h.1 (by decide)⟩, ⟨rfl, rfl, rfl, rfl, trivial⟩⟩
                  · rintro e58 w59 ⟨p, hc61_76, hS60, hy2, hz2⟩ -
                    refine c_set (d := 76) hc61_76 ?_
                    rcases p with _ | _
                    · have hz2 := hz2 rfl
                      refine c_false rfl ?_; refine c_cutE [3, 4, 7, 8] (fun e w' => ∃ (p : Bool), Kw.look e 76 = .bool p ∧ St w [] w' [.blk b6 (cl [sv (gt usesT act')] 9), .blk b3 (cl x.v 29)] ∧ (p = true → rangeR (needF act') x) ∧ (p = false → ¬ ((needF act') 8 = true ∧ outI x.ne 1 32))) ?_ ?_
                      · refine c_region ?_
                        refine wl_val (r_move rfl) rfl ?_; refine wl_call (r_callDyn fn61 rfl rfl) rfl (has_ok act' 8 b6 _ (at_all (hS60.heap (.head _))) (by omega) (by omega) (by decide)) ?_
                        rintro _ w72 (⟨hN, rfl, hx73⟩ | ⟨hN, rfl, hx73⟩)
                        · have hS74 := hS60.ext hx73
                          refine wl_val (r_move (v := .bool _) rfl) rfl ?_; refine wl_val (r_move rfl) rfl ?_; refine wl_val (r_field fa29_8 rfl) rfl ?_; refine wl_val (r_loadB1 ti3.und rfl rfl (hS74.heap (.tail _ (.head _))) (body_ne hx)) rfl ?_; refine wl_call (r_callDyn fn63 rfl rfl) rfl (within_ok x.ne 1 32 _) ?_
                          rintro _ w75 (⟨ho, rfl, hx76⟩ | ⟨ho, rfl, hx76⟩)
                          · have hS77 := hS74.ext hx76
                            refine wl_val (r_not rfl) rfl ?_; refine wl_val (r_pick_t rfl (v := .bool _) rfl) rfl ?_; refine wl_val (r_assign (v := .bool _) rfl) rfl ?_; refine wl_nil ?_; refine c_then ?_
                            exact ⟨_, rfl, ⟨false, rfl, hS77, (fun h => by cases h), fun _ h => ho h.2⟩, ⟨rfl, rfl, rfl, rfl, trivial⟩⟩
                          have hS77 := hS74.ext hx76
                          refine wl_val (r_not rfl) rfl ?_; refine wl_val (r_pick_t rfl (v := .bool _) rfl) rfl ?_; refine wl_val (r_assign (v := .bool _) rfl) rfl ?_; refine wl_nil ?_; refine c_then ?_
                          exact ⟨_, rfl, ⟨true, rfl, hS77, fun _ => (show rangeR _ _ from .inr (.inr (.inr (.inl ⟨hN, ho⟩)))), fun h => by cases h⟩, ⟨rfl, rfl, rfl, rfl, trivial⟩⟩
                        have hS74 := hS60.ext hx73
                        refine wl_val (r_move (v := .bool _) rfl) rfl ?_; refine wl_not rfl ?_; refine wl_not rfl ?_; refine wl_not rfl ?_; refine wl_not rfl ?_; refine wl_not rfl ?_; refine wl_val (r_pick_f rfl (v := .bool false) rfl) rfl ?_; refine wl_val (r_assign (v := .bool _) rfl) rfl ?_; refine wl_nil ?_; refine c_then ?_
                        exact ⟨_, rfl, ⟨false, rfl, hS74, (fun h => by cases h), fun _ h => by rw [hN] at h; exact absurd h.1 (by decide)⟩, ⟨rfl, rfl, rfl, rfl, trivial⟩⟩
                      · rintro e68 w69 ⟨p, hc71_76, hS70, hy3, hz3⟩ -
                        refine c_set (d := 76) hc71_76 ?_
                        rcases p with _ | _
                        · have hz3 := hz3 rfl
                          refine c_false rfl ?_; refine c_cutE [3, 4, 7, 8] (fun e w' => ∃ (p : Bool), Kw.look e 76 = .bool p ∧ St w [] w' [.blk b6 (cl [sv (gt usesT act')] 9), .blk b3 (cl x.v 29)] ∧ (p = true → rangeR (needF act') x) ∧ (p = false → ¬ ((needF act') 5 = true ∧ outI x.ep 0 4294967295))) ?_ ?_
                          · refine c_region ?_
                            refine wl_val (r_move rfl) rfl ?_; refine wl_call (r_callDyn fn61 rfl rfl) rfl (has_ok act' 5 b6 _ (at_all (hS70.heap (.head _))) (by omega) (by omega) (by decide)) ?_
                            rintro _ w82 (⟨hN, rfl, hx83⟩ | ⟨hN, rfl, hx83⟩)
                            · have hS84 := hS70.ext hx83
                              refine wl_val (r_move (v := .bool _) rfl) rfl ?_; refine wl_val (r_move rfl) rfl ?_; refine wl_val (r_field fa29_5 rfl) rfl ?_; refine wl_val (r_loadB1 ti3.und rfl rfl (hS84.heap (.tail _ (.head _))) (body_ep hx)) rfl ?_; refine wl_call (r_callDyn fn63 rfl rfl) rfl (within_ok x.ep 0 4294967295 _) ?_
                              rintro _ w85 (⟨ho, rfl, hx86⟩ | ⟨ho, rfl, hx86⟩)
                              · have hS87 := hS84.ext hx86
                                refine wl_val (r_not rfl) rfl ?_; refine wl_val (r_pick_t rfl (v := .bool _) rfl) rfl ?_; refine wl_val (r_assign (v := .bool _) rfl) rfl ?_; refine wl_nil ?_; refine c_then ?_
                                exact ⟨_, rfl, ⟨false, rfl, hS87, (fun h => by cases h), fun _ h => ho h.2⟩, ⟨rfl, rfl, rfl, rfl, trivial⟩⟩
                              have hS87 := hS84.ext hx86
                              refine wl_val (r_not rfl) rfl ?_; refine wl_val (r_pick_t rfl (v := .bool _) rfl) rfl ?_; refine wl_val (r_assign (v := .bool _) rfl) rfl ?_; refine wl_nil ?_; refine c_then ?_
                              exact ⟨_, rfl, ⟨true, rfl, hS87, fun _ => (show rangeR _ _ from .inr (.inr (.inr (.inr (.inl ⟨hN, ho⟩))))), fun h => by cases h⟩, ⟨rfl, rfl, rfl, rfl, trivial⟩⟩
                            have hS84 := hS70.ext hx83
                            refine wl_val (r_move (v := .bool _) rfl) rfl ?_; refine wl_not rfl ?_; refine wl_not rfl ?_; refine wl_not rfl ?_; refine wl_not rfl ?_; refine wl_not rfl ?_; refine wl_val (r_pick_f rfl (v := .bool false) rfl) rfl ?_; refine wl_val (r_assign (v := .bool _) rfl) rfl ?_; refine wl_nil ?_; refine c_then ?_
                            exact ⟨_, rfl, ⟨false, rfl, hS84, (fun h => by cases h), fun _ h => by rw [hN] at h; exact absurd h.1 (by decide)⟩, ⟨rfl, rfl, rfl, rfl, trivial⟩⟩
                          · rintro e78 w79 ⟨p, hc81_76, hS80, hy4, hz4⟩ -
                            refine c_set (d := 76) hc81_76 ?_
                            rcases p with _ | _
                            · have hz4 := hz4 rfl
                              refine c_false rfl ?_; refine c_region ?_; refine wl_val (r_move rfl) rfl ?_; refine wl_call (r_callDyn fn61 rfl rfl) rfl (has_ok act' 11 b6 _ (at_all (hS80.heap (.head _))) (by omega) (by omega) (by decide)) ?_
                              rintro _ w88 (⟨hN, rfl, hx89⟩ | ⟨hN, rfl, hx89⟩)
                              · have hS90 := hS80.ext hx89
                                refine wl_val (r_move (v := .bool _) rfl) rfl ?_; refine wl_val (r_move rfl) rfl ?_; refine wl_val (r_field fa29_10 rfl) rfl ?_; refine wl_val (r_loadB1 ti3.und rfl rfl (hS90.heap (.tail _ (.head _))) (body_ct hx)) rfl ?_; refine wl_call (r_callDyn fn63 rfl rfl) rfl (within_ok x.ct 0 65536 _) ?_
                                rintro _ w91 (⟨ho, rfl, hx92⟩ | ⟨ho, rfl, hx92⟩)
                                · have hS93 := hS90.ext hx92
                                  refine wl_val (r_not rfl) rfl ?_; refine wl_val (r_pick_t rfl (v := .bool _) rfl) rfl ?_; refine wl_val (r_assign (v := .bool _) rfl) rfl ?_; refine wl_nil ?_; refine c_then ?_; refine c_false rfl ?_; refine wp_skip ?_; refine c_inN ?_; refine c_then ?_
                                  exact ⟨_, rfl, ⟨hS93, hn5, fun h => ((range_iff hex).1 h).elim hz0 (fun h => h.elim hz1 (fun h => h.elim hz2 (fun h => h.elim hz3 (fun h => h.elim hz4 (fun h => ho h.2)))))⟩, ⟨rfl, trivial⟩⟩
                                have hS93 := hS90.ext hx92
                                refine wl_val (r_not rfl) rfl ?_; refine wl_val (r_pick_t rfl (v := .bool _) rfl) rfl ?_; refine wl_val (r_assign (v := .bool _) rfl) rfl ?_; refine wl_nil ?_; refine c_then ?_; refine c_true rfl ?_; refine c_seq ?_; refine c_region ?_; refine wl_val (r_assign (v := .int .i64 4) rfl) rfl ?_; refine wl_nil ?_; refine c_then ?_; refine wp_ret ?_; refine c_inR ?_; refine c_thenR ?_; refine ret1 Try.results28 ?_
                                exact ⟨congrArg (Value.int .i64) (bodyN_6 (by omega) hex (by omega) hro0 hn5 ((range_iff hex).2 (show rangeR _ _ from .inr (.inr (.inr (.inr (.inr (⟨hN, ho⟩)))))))).symm, hS93.fin⟩
                              have hS90 := hS80.ext hx89
                              refine wl_val (r_move (v := .bool _) rfl) rfl ?_; refine wl_not rfl ?_; refine wl_not rfl ?_; refine wl_not rfl ?_; refine wl_not rfl ?_; refine wl_not rfl ?_; refine wl_val (r_pick_f rfl (v := .bool false) rfl) rfl ?_; refine wl_val (r_assign (v := .bool _) rfl) rfl ?_; refine wl_nil ?_; refine c_then ?_; refine c_false rfl ?_; refine wp_skip ?_; refine c_inN ?_; refine c_then ?_
                              exact ⟨_, rfl, ⟨hS90, hn5, fun h => ((range_iff hex).1 h).elim hz0 (fun h => h.elim hz1 (fun h => h.elim hz2 (fun h => h.elim hz3 (fun h => h.elim hz4 (fun h => by rw [hN] at h; exact absurd h.1 (by decide))))))⟩, ⟨rfl, trivial⟩⟩
                            · have hyy := hy4 rfl
                              refine c_true rfl ?_; refine wp_skip ?_; refine c_then ?_; refine c_true rfl ?_; refine c_seq ?_; refine c_region ?_; refine wl_val (r_assign (v := .int .i64 4) rfl) rfl ?_; refine wl_nil ?_; refine c_then ?_; refine wp_ret ?_; refine c_inR ?_; refine c_thenR ?_; refine ret1 Try.results28 ?_
                              exact ⟨congrArg (Value.int .i64) (bodyN_6 (by omega) hex (by omega) hro0 hn5 ((range_iff hex).2 hyy)).symm, hS80.fin⟩
                        · have hyy := hy3 rfl
                          refine c_true rfl ?_; refine wp_skip ?_; refine c_then ?_; refine c_true rfl ?_; refine c_seq ?_; refine c_region ?_; refine wl_val (r_assign (v := .int .i64 4) rfl) rfl ?_; refine wl_nil ?_; refine c_then ?_; refine wp_ret ?_; refine c_inR ?_; refine c_thenR ?_; refine ret1 Try.results28 ?_
                          exact ⟨congrArg (Value.int .i64) (bodyN_6 (by omega) hex (by omega) hro0 hn5 ((range_iff hex).2 hyy)).symm, hS70.fin⟩
                    · have hyy := hy2 rfl
                      refine c_true rfl ?_; refine wp_skip ?_; refine c_then ?_; refine c_true rfl ?_; refine c_seq ?_; refine c_region ?_; refine wl_val (r_assign (v := .int .i64 4) rfl) rfl ?_; refine wl_nil ?_; refine c_then ?_; refine wp_ret ?_; refine c_inR ?_; refine c_thenR ?_; refine ret1 Try.results28 ?_
                      exact ⟨congrArg (Value.int .i64) (bodyN_6 (by omega) hex (by omega) hro0 hn5 ((range_iff hex).2 hyy)).symm, hS60.fin⟩
                · have hyy := hy1 rfl
                  refine c_true rfl ?_; refine wp_skip ?_; refine c_then ?_; refine c_true rfl ?_; refine c_seq ?_; refine c_region ?_; refine wl_val (r_assign (v := .int .i64 4) rfl) rfl ?_; refine wl_nil ?_; refine c_then ?_; refine wp_ret ?_; refine c_inR ?_; refine c_thenR ?_; refine ret1 Try.results28 ?_
                  exact ⟨congrArg (Value.int .i64) (bodyN_6 (by omega) hex (by omega) hro0 hn5 ((range_iff hex).2 hyy)).symm, hS50.fin⟩
            · have hyy := hy0 rfl
              refine c_true rfl ?_; refine wp_skip ?_; refine c_then ?_; refine c_true rfl ?_; refine c_seq ?_; refine c_region ?_; refine wl_val (r_assign (v := .int .i64 4) rfl) rfl ?_; refine wl_nil ?_; refine c_then ?_; refine wp_ret ?_; refine c_inR ?_; refine c_thenR ?_; refine ret1 Try.results28 ?_
              exact ⟨congrArg (Value.int .i64) (bodyN_6 (by omega) hex (by omega) hro0 hn5 ((range_iff hex).2 hyy)).symm, hS40.fin⟩
        · obtain ⟨hN, hnm⟩ := hy rfl
          refine c_true rfl ?_; refine c_seq ?_; refine c_region ?_; refine wl_val (r_assign (v := .int .i64 6) rfl) rfl ?_; refine wl_nil ?_; refine c_then ?_; refine wp_ret ?_; refine c_inR ?_; refine c_thenR ?_; refine ret1 Try.results28 ?_
          exact ⟨congrArg (Value.int .i64) (bodyN_5 (by omega) hex (by omega) hro0 hN hnm).symm, hS30.fin⟩
    · rintro e24 w25 ⟨hS26, hn5, hrg⟩ -
      refine c_seq ?_; refine c_seq ?_; refine c_region ?_; refine wl_val (r_field fa29_11 rfl) rfl ?_; refine wl_val (r_loadB1 ti27.und rfl rfl (hS26.heap (.tail _ (.head _))) (body_ho hx)) rfl ?_; refine wl_val (r_len (T := 27) rfl ti27.und rfl _ rfl) rfl ?_; refine wl_val (r_move (v := .int .i64 0) rfl) rfl ?_; refine wl_nil ?_; refine c_then ?_; refine c_block ?_; refine c_loopE [3, 133] (fun d e w' => ∃ (k : Nat), Kw.look e 134 = vi k ∧ d = x.ho.length - k ∧ St w [] w' [.blk b6 (cl [sv (gt usesT act')] 9), .blk b3 (cl x.v 29)] ∧ (k ≤ x.ho.length) ∧ (∀ j, j < k → holdAt x.ho j = 0)) (x.ho.length - 0) ?_ ?_
      · exact ⟨0, rfl, rfl, hS26, Nat.zero_le _, fun j h => by omega⟩
      · rintro d97 e94 w95 ⟨k, hc1_134, rfl, hS96, hk, hok⟩ -
        refine c_set (d := 134) hc1_134 ?_; refine c_seq ?_; refine c_region ?_
        refine wl_dec (r_lss rfl rfl) rfl (fun h29_0 => ?_) (fun h29_0 => ?_)
        · refine wl_nil ?_
          refine c_then ?_; refine c_seq ?_; refine c_true rfl ?_; refine wp_skip ?_; refine c_then ?_; refine c_seq ?_; refine c_block ?_; refine c_seq ?_; refine c_region ?_; refine wl_val (r_move (v := .int .i64 _) rfl) rfl ?_; refine wl_val (r_assign (v := .int .i64 _) rfl) rfl ?_; refine wl_nil ?_; refine c_then ?_; refine c_seq ?_; refine c_drawS 14 hMixed hS96 ?_; intro w98 hS99; refine g_take 0 rfl (by decide +kernel) rfl (fun _ _ _ h => h) hS99 (fun wF hF => r_move (v := .int .i64 _) rfl) ?_
          refine g_dec 1 rfl (by decide +kernel) rfl (fun _ _ _ _ h => h) hS99 (fun wF hF => r_gtr rfl rfl) (fun h31_1 => ?_) (fun h31_1 => ?_)
          · refine g_take 2 rfl (by decide +kernel) rfl (fun _ _ _ h => h) hS99 (fun wF hF => r_move (v := .bool _) rfl) ?_
            refine g_take 3 rfl (by decide +kernel) rfl (fun _ _ _ h => h) hS99 (fun wF hF => r_field fa29_11 rfl) ?_; refine g_take 4 rfl (by decide +kernel) rfl (fun _ _ _ h => h) hS99 (fun wF hF => r_loadB1 ti27.und rfl rfl (hF.heap (.tail _ (.head _))) (body_ho hx)) ?_; refine g_take 5 rfl (by decide +kernel) rfl (fun _ _ _ h => h) hS99 (fun wF hF => r_move (v := .int .i64 _) rfl) ?_; refine g_take 6 rfl (by decide +kernel) rfl (fun _ _ _ h => h) hS99 (fun wF hF => r_subn (b := 1) rfl rfl (by omega) (by omega)) ?_; refine g_take 7 rfl (by decide +kernel) rfl (fun _ _ _ h => h) hS99 (fun wF hF => r_ixN ti27.und ti23 rfl rfl (hho.st hF) (hx.h16) rfl (by omega) (by decide)) ?_; refine g_take 8 rfl (by decide +kernel) rfl (fun _ _ _ h => h) hS99 (fun wF hF => r_loadN ti23 rfl rfl (hho.st hF) (hx.h16) (by omega) (by decide)) ?_; refine g_take 9 rfl (by decide +kernel) rfl (fun _ _ _ h => h) hS99 (fun wF hF => r_field fa29_11 rfl) ?_; refine g_take 10 rfl (by decide +kernel) rfl (fun _ _ _ h => h) hS99 (fun wF hF => r_loadB1 ti27.und rfl rfl (hF.heap (.tail _ (.head _))) (body_ho hx)) ?_; refine g_take 11 rfl (by decide +kernel) rfl (fun _ _ _ h => h) hS99 (fun wF hF => r_move (v := .int .i64 _) rfl) ?_; refine g_take 12 rfl (by decide +kernel) rfl (fun _ _ _ h => h) hS99 (fun wF hF => r_ixN ti27.und ti23 rfl rfl (hho.st hF) (hx.h16) rfl (by omega) (by decide)) ?_; refine g_take 13 rfl (by decide +kernel) rfl (fun _ _ _ h => h) hS99 (fun wF hF => r_loadN ti23 rfl rfl (hho.st hF) (hx.h16) (by omega) (by decide)) ?_
            refine g_tail (by decide +kernel) rfl (by decide +kernel) ?_; refine wl_call (r_call fn65 rfl rfl) rfl (idOrder_ok _ _ _ (hx.h16.gt (by omega)) (hx.h16.gt (by omega))) ?_; rintro _ w100 ⟨rfl, hx101⟩
            have hS102 := hS99.ext hx101
            refine wl_dec (r_geq rfl rfl) rfl (fun h31_15 => ?_) (fun h31_15 => ?_)
            · refine wl_val (r_pick_t rfl (v := .bool _) rfl) rfl ?_
              refine wl_nil ?_; refine c_then ?_; refine c_true rfl ?_; refine c_seq ?_; refine c_region ?_; refine wl_val (r_assign (v := .int .i64 9) rfl) rfl ?_; refine wl_nil ?_; refine c_then ?_; refine wp_ret ?_; refine c_inR ?_; refine c_thenR ?_; refine c_thenR ?_; refine c_inR ?_; refine c_thenR ?_; refine ret1 Try.results28 ?_
              have e9 : holdAt x.ho k = 9 := by rw [holdAt, if_pos ⟨by omega, by omega⟩]
              exact ⟨congrArg (Value.int .i64) ((bodyN_7 (by omega) hex (by omega) hro0 hn5 hrg).trans ((firstI_at (k := k) _ _ (Nat.zero_le _) (by omega) (fun j _ hj => hok j hj) (by rw [e9]; decide)).trans e9)).symm, hS102.fin⟩
            refine wl_val (r_pick_t rfl (v := .bool _) rfl) rfl ?_; refine wl_nil ?_; refine c_then ?_; refine c_false rfl ?_; refine wp_skip ?_; refine c_inN ?_; refine c_then ?_; refine c_region ?_; refine wl_val (r_addn (b := 1) rfl rfl (by omega)) rfl ?_; refine wl_val (r_move (v := .int .i64 _) rfl) rfl ?_; refine wl_nil ?_; refine c_then ?_
            exact ⟨x.ho.length - (k + 1), _, by omega, rfl, ⟨k + 1, rfl, rfl, hS102, by omega, fun j hj => by by_cases e : j = k; (subst e; rw [holdAt, if_neg (fun h => by omega)]); exact hok j (by omega)⟩, ⟨rfl, rfl, trivial⟩⟩
          refine g_take 2 rfl (by decide +kernel) rfl (fun _ _ _ h => h) hS99 (fun wF hF => r_move (v := .bool _) rfl) ?_; refine g_takeN 3 rfl (by decide +kernel) rfl (fun _ _ _ h => h) hS99 ?_; refine g_takeN 4 rfl (by decide +kernel) rfl (fun _ _ _ h => h) hS99 ?_; refine g_takeN 5 rfl (by decide +kernel) rfl (fun _ _ _ h => h) hS99 ?_; refine g_takeN 6 rfl (by decide +kernel) rfl (fun _ _ _ h => h) hS99 ?_; refine g_takeN 7 rfl (by decide +kernel) rfl (fun _ _ _ h => h) hS99 ?_; refine g_takeN 8 rfl (by decide +kernel) rfl (fun _ _ _ h => h) hS99 ?_; refine g_takeN 9 rfl (by decide +kernel) rfl (fun _ _ _ h => h) hS99 ?_; refine g_takeN 10 rfl (by decide +kernel) rfl (fun _ _ _ h => h) hS99 ?_; refine g_takeN 11 rfl (by decide +kernel) rfl (fun _ _ _ h => h) hS99 ?_; refine g_takeN 12 rfl (by decide +kernel) rfl (fun _ _ _ h => h) hS99 ?_; refine g_takeN 13 rfl (by decide +kernel) rfl (fun _ _ _ h => h) hS99 ?_; refine g_tail (by decide +kernel) rfl (by decide +kernel) ?_; refine wl_not rfl ?_; refine wl_not rfl ?_; refine wl_val (r_pick_f rfl (v := .bool false) rfl) rfl ?_; refine wl_nil ?_; refine c_then ?_; refine c_false rfl ?_; refine wp_skip ?_; refine c_inN ?_; refine c_then ?_; refine c_region ?_; refine wl_val (r_addn (b := 1) rfl rfl (by omega)) rfl ?_; refine wl_val (r_move (v := .int .i64 _) rfl) rfl ?_; refine wl_nil ?_; refine c_then ?_
          exact ⟨x.ho.length - (k + 1), _, by omega, rfl, ⟨k + 1, rfl, rfl, hS99, by omega, fun j hj => by by_cases e : j = k; (subst e; rw [holdAt, if_neg (fun h => by omega)]); exact hok j (by omega)⟩, ⟨rfl, rfl, trivial⟩⟩
        refine wl_nil ?_; refine c_then ?_; refine c_seq ?_; refine c_false rfl ?_; refine wp_exit ?_; refine c_thenE ?_; refine c_thenE ?_; refine c_inE ?_; refine c_then ?_; refine c_seq ?_; refine c_region ?_; refine wl_val (r_assign (v := .int .i64 0) rfl) rfl ?_; refine wl_nil ?_; refine c_then ?_; refine wp_ret ?_; refine ret1 Try.results28 ?_
        exact ⟨congrArg (Value.int .i64) ((bodyN_7 (by omega) hex (by omega) hro0 hn5 hrg).trans (firstI_ok _ _ fun j _ hj => hok j (by omega))).symm, hS96.fin⟩

end Go.Proofs.Ytbanoknkplcedaa
end
