/- What the law's proof leans on. No condition. -/
import Derived.Test.YtmonnmndphlkaaaGreatPWmAH
import Derived.Test.YtmonnmndphlkaaaGreatPWmBC
import Derived.Test.YtmonnmndphlkaaaGreatPWmBF
namespace Go.Proofs.YtmonnmndphlkaaaGreat
open Go.Kw
set_option linter.unusedVariables false
set_option linter.unusedSimpArgs false
set_option maxRecDepth 100000
theorem check_ok (rs : List RuleD) (pa : Option Addr) (n pc : Nat) (w : World) (hrs : Row w pa (rs.flatMap RuleD.v)) (hl : rs.length = n) (hn : n ≤ 140737488351232) (hall : ∀ r ∈ rs, RuleAt w r) :
    Ret Tryz.prog 51 [.agg #[.slice pa n pc]] w (fun v w' => v = .int .i64 (polE rs) ∧ St w [] w' []) := by
  subst hl
  refine enter Tryz.func51 rfl Tryz.ntmps51 rfl ?_
  have hS := St.refl w []
  refine c_seq ?_; refine c_region ?_; refine wl_exv (x_box hS (v := .agg _) rfl rfl) rfl ?_; rintro _ w1 ⟨b1, rfl, hS2⟩; refine wl_val (r_assign (v := .int .i64 0) rfl) rfl ?_; refine wl_nil ?_; refine c_then ?_; refine c_seq ?_; refine c_seq ?_; refine c_region ?_; refine wl_val (r_field fa24_0 rfl) rfl ?_; refine wl_val (r_loadB1 ti22.und rfl rfl (hS2.heap (.head _)) rfl) rfl ?_; refine wl_val (r_len (T := 22) rfl ti22.und rfl _ rfl) rfl ?_
  refine wl_dec (r_gtr rfl rfl) rfl (fun h1_3 => ?_) (fun h1_3 => ?_)
  · refine wl_nil ?_
    refine c_then ?_; refine c_true rfl ?_; refine c_seq ?_; refine c_region ?_; refine wl_val (r_assign (v := .int .i64 5) rfl) rfl ?_; refine wl_nil ?_; refine c_then ?_; refine wp_ret ?_; refine c_thenR ?_; refine ret1 Tryz.results51 ?_
    first | exact ⟨congrArg (Value.int .i64) (polE_big (by omega)).symm, hS2.fin⟩ | exact ⟨congrArg (Value.int .i64) (polE_at (by omega) (by omega) hok h7_1).symm, hS2.fin⟩ | (obtain rfl : k = rs.length := (by omega); exact ⟨congrArg (Value.int .i64) (polE_ok (by omega) hok).symm, hS2.fin⟩)
  refine wl_nil ?_; refine c_then ?_; refine c_false rfl ?_; refine wp_skip ?_; refine c_then ?_; refine c_seq ?_; refine c_seq ?_; refine c_region ?_; refine wl_val (r_field fa24_0 rfl) rfl ?_; refine wl_val (r_loadB1 ti22.und rfl rfl (hS2.heap (.head _)) rfl) rfl ?_; refine wl_val (r_len (T := 22) rfl ti22.und rfl _ rfl) rfl ?_; refine wl_val (r_move (v := .int .i64 0) rfl) rfl ?_; refine wl_nil ?_; refine c_then ?_; refine c_block ?_; refine c_loopE [11, 12] (fun d e w' => ∃ (k : Nat), Kw.look e 13 = vi k ∧ d = rs.length - k ∧ St w [] w' [] ∧ (k ≤ rs.length) ∧ (∀ i, i < k → ruleE (gt rs i) = 0)) (rs.length - 0) ?_ ?_
  · exact ⟨0, rfl, rfl, hS2.fin, Nat.zero_le _, fun i hi => by omega⟩
  · rintro d6 e3 w4 ⟨k, hc0_13, rfl, hS5, hk, hok⟩ -
    refine c_set (d := 13) hc0_13 ?_; refine c_seq ?_; refine c_region ?_
    refine wl_dec (r_lss rfl rfl) rfl (fun h4_0 => ?_) (fun h4_0 => ?_)
    · refine wl_nil ?_
      refine c_then ?_; refine c_seq ?_; refine c_true rfl ?_; refine wp_skip ?_; refine c_then ?_; refine c_seq ?_; refine c_block ?_; refine c_seq ?_; refine c_region ?_; refine wl_val (r_ixF rule_v8 ti22.und ti50 rfl rfl (hrs.st hS5) (by first | (simp [*]; done) | (simp [*] <;> omega) | omega) (by first | omega | (simp [*]; done) | (simp [*] <;> omega)) (by decide)) rfl ?_; refine wl_val (r_loadF rule_v8 ti50 ag50 rfl (hrs.st hS5) (by first | omega | (simp [*]; done) | (simp [*] <;> omega)) (by decide)) rfl ?_; refine wl_exv (x_alloc (C := [.bool false, .slice none 0 0, .slice none 0 0, .slice none 0 0, .int .i64 0, .int .i64 0, .int .i64 0, .string ⟨#[]⟩]) hS5 ti50 rfl) rfl ?_; rintro _ w7 ⟨b4, rfl, hS8⟩; refine wl_exs (x_storeW [] hS8 ti50 rfl rfl rfl rfl (one_rule _)) rfl ?_; intro w9 hS10; simp only [List.cons_append, List.nil_append] at hS10; refine wl_nil ?_; refine c_then ?_; refine c_seq ?_
      have hgk := (hall (gt rs k) (gt_mem rs k (by omega))).st hS10
      refine c_region ?_; refine wl_val (r_loadB ti50 ag50 rfl (hS10.heap (.head _)) (by first | (simp [*]; done) | (simp [*] <;> omega) | omega)) rfl ?_; refine wl_call (r_call fn78 rfl rfl) rfl (ruleFault_ok (gt rs k) _ hgk.ok hgk.h1 hgk.h2 hgk.h3) ?_; rintro _ w11 ⟨rfl, hx12⟩
      have hS13 := hS10.ext hx12
      refine wl_val (r_assign (v := .int .i64 _) rfl) rfl ?_; refine wl_nil ?_; refine c_then ?_; refine c_seq ?_; refine c_region ?_; refine wl_val (r_move (v := .int .i64 _) rfl) rfl ?_
      refine wl_dec (r_neq rfl rfl) rfl (fun h7_1 => ?_) (fun h7_1 => ?_)
      · refine wl_nil ?_
        refine c_then ?_; refine c_true rfl ?_; refine c_seq ?_; refine c_region ?_; refine wl_val (r_move (v := .int .i64 _) rfl) rfl ?_; refine wl_val (r_assign (v := .int .i64 _) rfl) rfl ?_; refine wl_nil ?_; refine c_then ?_; refine wp_ret ?_; refine c_inR ?_; refine c_thenR ?_; refine c_thenR ?_; refine c_inR ?_; refine c_thenR ?_; refine ret1 Tryz.results51 ?_
        first | exact ⟨congrArg (Value.int .i64) (polE_big (by omega)).symm, hS13.fin⟩ | exact ⟨congrArg (Value.int .i64) (polE_at (by omega) (by omega) hok h7_1).symm, hS13.fin⟩ | (obtain rfl : k = rs.length := (by omega); exact ⟨congrArg (Value.int .i64) (polE_ok (by omega) hok).symm, hS13.fin⟩)
      refine wl_nil ?_; refine c_then ?_; refine c_false rfl ?_; refine wp_skip ?_; refine c_inN ?_; refine c_then ?_; refine c_region ?_; refine wl_val (r_addn (b := 1) rfl rfl (by omega)) rfl ?_; refine wl_val (r_move (v := .int .i64 _) rfl) rfl ?_; refine wl_nil ?_; refine c_then ?_
      exact ⟨rs.length - (k + 1), _, by omega, rfl, ⟨k + 1, rfl, rfl, hS13.fin, by omega, ok_step hok (Decidable.of_not_not h7_1)⟩, ⟨rfl, rfl, trivial⟩⟩
    refine wl_nil ?_; refine c_then ?_; refine c_seq ?_; refine c_false rfl ?_; refine wp_exit ?_; refine c_thenE ?_; refine c_thenE ?_; refine c_inE ?_; refine c_then ?_; refine c_seq ?_; refine c_region ?_; refine wl_val (r_assign (v := .int .i64 0) rfl) rfl ?_; refine wl_nil ?_; refine c_then ?_; refine wp_ret ?_; refine ret1 Tryz.results51 ?_
    first | exact ⟨congrArg (Value.int .i64) (polE_big (by omega)).symm, hS5.fin⟩ | exact ⟨congrArg (Value.int .i64) (polE_at (by omega) (by omega) hok h7_1).symm, hS5.fin⟩ | (obtain rfl : k = rs.length := (by omega); exact ⟨congrArg (Value.int .i64) (polE_ok (by omega) hok).symm, hS5.fin⟩)

theorem rcheck_ok (rs : List RuleD) (pa : Option Addr) (n pc : Nat) (w : World) (hrs : Row w pa (rs.flatMap RuleD.v)) (hl : rs.length = n) (hn : n ≤ 140737488351232) (hall : ∀ r ∈ rs, RuleAt w r) :
    Ret Tryz.prog 8 [.agg #[.slice pa n pc]] w (fun v w' => v = .int .i64 (polE rs) ∧ St w [] w' []) := by
  subst hl
  refine enter Tryz.func8 rfl Tryz.ntmps8 rfl ?_
  have hS := St.refl w []
  refine c_seq ?_; refine c_region ?_; refine wl_exv (x_box hS (v := .agg _) rfl rfl) rfl ?_; rintro _ w1 ⟨b1, rfl, hS2⟩; refine wl_val (r_assign (v := .int .i64 0) rfl) rfl ?_; refine wl_nil ?_; refine c_then ?_; refine c_seq ?_; refine c_seq ?_; refine c_region ?_; refine wl_val (r_field fa24_0 rfl) rfl ?_; refine wl_val (r_loadB1 ti22.und rfl rfl (hS2.heap (.head _)) rfl) rfl ?_; refine wl_val (r_len (T := 22) rfl ti22.und rfl _ rfl) rfl ?_
  refine wl_dec (r_gtr rfl rfl) rfl (fun h1_3 => ?_) (fun h1_3 => ?_)
  · refine wl_nil ?_
    refine c_then ?_; refine c_true rfl ?_; refine c_seq ?_; refine c_region ?_; refine wl_val (r_assign (v := .int .i64 5) rfl) rfl ?_; refine wl_nil ?_; refine c_then ?_; refine wp_ret ?_; refine c_thenR ?_; refine ret1 Tryz.results8 ?_
    first | exact ⟨congrArg (Value.int .i64) (polE_big (by omega)).symm, hS2.fin⟩ | exact ⟨congrArg (Value.int .i64) (polE_at (by omega) (by omega) hok h7_1).symm, hS2.fin⟩ | (obtain rfl : k = rs.length := (by omega); exact ⟨congrArg (Value.int .i64) (polE_ok (by omega) hok).symm, hS2.fin⟩)
  refine wl_nil ?_; refine c_then ?_; refine c_false rfl ?_; refine wp_skip ?_; refine c_then ?_; refine c_seq ?_; refine c_seq ?_; refine c_region ?_; refine wl_val (r_field fa24_0 rfl) rfl ?_; refine wl_val (r_loadB1 ti22.und rfl rfl (hS2.heap (.head _)) rfl) rfl ?_; refine wl_val (r_len (T := 22) rfl ti22.und rfl _ rfl) rfl ?_; refine wl_val (r_move (v := .int .i64 0) rfl) rfl ?_; refine wl_nil ?_; refine c_then ?_; refine c_block ?_; refine c_loopE [11, 12] (fun d e w' => ∃ (k : Nat), Kw.look e 13 = vi k ∧ d = rs.length - k ∧ St w [] w' [] ∧ (k ≤ rs.length) ∧ (∀ i, i < k → ruleE (gt rs i) = 0)) (rs.length - 0) ?_ ?_
  · exact ⟨0, rfl, rfl, hS2.fin, Nat.zero_le _, fun i hi => by omega⟩
  · rintro d6 e3 w4 ⟨k, hc0_13, rfl, hS5, hk, hok⟩ -
    refine c_set (d := 13) hc0_13 ?_; refine c_seq ?_; refine c_region ?_
    refine wl_dec (r_lss rfl rfl) rfl (fun h4_0 => ?_) (fun h4_0 => ?_)
    · refine wl_nil ?_
      refine c_then ?_; refine c_seq ?_; refine c_true rfl ?_; refine wp_skip ?_; refine c_then ?_; refine c_seq ?_; refine c_block ?_; refine c_seq ?_; refine c_region ?_; refine wl_val (r_ixF rule_v8 ti22.und ti50 rfl rfl (hrs.st hS5) (by first | (simp [*]; done) | (simp [*] <;> omega) | omega) (by first | omega | (simp [*]; done) | (simp [*] <;> omega)) (by decide)) rfl ?_; refine wl_val (r_loadF rule_v8 ti50 ag50 rfl (hrs.st hS5) (by first | omega | (simp [*]; done) | (simp [*] <;> omega)) (by decide)) rfl ?_; refine wl_exv (x_alloc (C := [.bool false, .slice none 0 0, .slice none 0 0, .slice none 0 0, .int .i64 0, .int .i64 0, .int .i64 0, .string ⟨#[]⟩]) hS5 ti50 rfl) rfl ?_; rintro _ w7 ⟨b4, rfl, hS8⟩; refine wl_exs (x_storeW [] hS8 ti50 rfl rfl rfl rfl (one_rule _)) rfl ?_; intro w9 hS10; simp only [List.cons_append, List.nil_append] at hS10; refine wl_nil ?_; refine c_then ?_; refine c_seq ?_
      have hgk := (hall (gt rs k) (gt_mem rs k (by omega))).st hS10
      refine c_region ?_; refine wl_val (r_loadB ti50 ag50 rfl (hS10.heap (.head _)) (by first | (simp [*]; done) | (simp [*] <;> omega) | omega)) rfl ?_; refine wl_call (r_call fn26 rfl rfl) rfl (ruleError_ok (gt rs k) _ hgk.ok hgk.h1 hgk.h2 hgk.h3) ?_; rintro _ w11 ⟨rfl, hx12⟩
      have hS13 := hS10.ext hx12
      refine wl_val (r_assign (v := .int .i64 _) rfl) rfl ?_; refine wl_nil ?_; refine c_then ?_; refine c_seq ?_; refine c_region ?_; refine wl_val (r_move (v := .int .i64 _) rfl) rfl ?_
      refine wl_dec (r_neq rfl rfl) rfl (fun h7_1 => ?_) (fun h7_1 => ?_)
      · refine wl_nil ?_
        refine c_then ?_; refine c_true rfl ?_; refine c_seq ?_; refine c_region ?_; refine wl_val (r_move (v := .int .i64 _) rfl) rfl ?_; refine wl_val (r_assign (v := .int .i64 _) rfl) rfl ?_; refine wl_nil ?_; refine c_then ?_; refine wp_ret ?_; refine c_inR ?_; refine c_thenR ?_; refine c_thenR ?_; refine c_inR ?_; refine c_thenR ?_; refine ret1 Tryz.results8 ?_
        first | exact ⟨congrArg (Value.int .i64) (polE_big (by omega)).symm, hS13.fin⟩ | exact ⟨congrArg (Value.int .i64) (polE_at (by omega) (by omega) hok h7_1).symm, hS13.fin⟩ | (obtain rfl : k = rs.length := (by omega); exact ⟨congrArg (Value.int .i64) (polE_ok (by omega) hok).symm, hS13.fin⟩)
      refine wl_nil ?_; refine c_then ?_; refine c_false rfl ?_; refine wp_skip ?_; refine c_inN ?_; refine c_then ?_; refine c_region ?_; refine wl_val (r_addn (b := 1) rfl rfl (by omega)) rfl ?_; refine wl_val (r_move (v := .int .i64 _) rfl) rfl ?_; refine wl_nil ?_; refine c_then ?_
      exact ⟨rs.length - (k + 1), _, by omega, rfl, ⟨k + 1, rfl, rfl, hS13.fin, by omega, ok_step hok (Decidable.of_not_not h7_1)⟩, ⟨rfl, rfl, trivial⟩⟩
    refine wl_nil ?_; refine c_then ?_; refine c_seq ?_; refine c_false rfl ?_; refine wp_exit ?_; refine c_thenE ?_; refine c_thenE ?_; refine c_inE ?_; refine c_then ?_; refine c_seq ?_; refine c_region ?_; refine wl_val (r_assign (v := .int .i64 0) rfl) rfl ?_; refine wl_nil ?_; refine c_then ?_; refine wp_ret ?_; refine ret1 Tryz.results8 ?_
    first | exact ⟨congrArg (Value.int .i64) (polE_big (by omega)).symm, hS5.fin⟩ | exact ⟨congrArg (Value.int .i64) (polE_at (by omega) (by omega) hok h7_1).symm, hS5.fin⟩ | (obtain rfl : k = rs.length := (by omega); exact ⟨congrArg (Value.int .i64) (polE_ok (by omega) hok).symm, hS5.fin⟩)

end Go.Proofs.YtmonnmndphlkaaaGreat
