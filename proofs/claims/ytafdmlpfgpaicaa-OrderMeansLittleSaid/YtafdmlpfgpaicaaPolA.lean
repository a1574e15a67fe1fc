/- Policies checked, asks decided. No condition. -/
import Derived.Test.YtafdmlpfgpaicaaFacts
import Derived.Test.YtafdmlpfgpaicaaAskD
import Derived.Test.YtafdmlpfgpaicaaPol
namespace Go.Proofs.Ytafdmlpfgpaicaa
open Go.Kw
set_option linter.unusedVariables false
set_option linter.unusedSimpArgs false
set_option maxRecDepth 100000
theorem check_ok (rs : List RuleD) (pa : Option Addr) (n pc : Nat) (w : World) (hrs : Row w pa (rs.flatMap RuleD.v)) (hl : rs.length = n) (hn : n ≤ 140737488351232) (hall : ∀ r ∈ rs, RuleAt w r) :
    Ret Try.prog 59 [.agg #[.slice pa n pc]] w (fun v w' => v = .int .i64 (polE rs) ∧ St w [] w' []) := by
  subst hl
  refine enter Try.func59 rfl Try.ntmps59 rfl ?_
  have hS := St.refl w []
  refine c_seq ?_
  refine c_region ?_
  refine wl_exv (x_box hS (v := .agg _) rfl rfl) rfl ?_
  rintro _ w1 ⟨b1, rfl, hS2⟩
  refine wl_val (r_assign (v := .int .i64 0) rfl) rfl ?_
  refine wl_nil ?_
  refine c_then ?_
  refine c_seq ?_
  refine c_seq ?_
  refine c_region ?_
  refine wl_val (r_field fa48_0 rfl) rfl ?_
  refine wl_val (r_loadB1 ti46.und rfl rfl (hS2.heap (.head _)) rfl) rfl ?_
  refine wl_val (r_len (T := 46) rfl ti46.und rfl _ rfl) rfl ?_
  refine wl_dec (r_gtr rfl rfl) rfl (fun h1_3 => ?_) (fun h1_3 => ?_)
  · refine wl_nil ?_
    refine c_then ?_
    refine c_true rfl ?_
    refine c_seq ?_
    refine c_region ?_
    refine wl_val (r_assign (v := .int .i64 5) rfl) rfl ?_
    refine wl_nil ?_
    refine c_then ?_
    refine wp_ret ?_
    refine c_thenR ?_
    refine ret1 Try.results59 ?_
    first | exact ⟨congrArg (Value.int .i64) (polE_big (by omega)).symm, hS2.fin⟩ | exact ⟨congrArg (Value.int .i64) (polE_at (by omega) (by omega) hok h7_1).symm, hS2.fin⟩ | (obtain rfl : k = rs.length := (by omega); exact ⟨congrArg (Value.int .i64) (polE_ok (by omega) hok).symm, hS2.fin⟩)
  refine wl_nil ?_
  refine c_then ?_
  refine c_false rfl ?_
  refine wp_skip ?_
  refine c_then ?_
  refine c_seq ?_
  refine c_seq ?_
  refine c_region ?_
  refine wl_val (r_field fa48_0 rfl) rfl ?_
  refine wl_val (r_loadB1 ti46.und rfl rfl (hS2.heap (.head _)) rfl) rfl ?_
  refine wl_val (r_len (T := 46) rfl ti46.und rfl _ rfl) rfl ?_
  refine wl_val (r_move (v := .int .i64 0) rfl) rfl ?_
  refine wl_nil ?_
  refine c_then ?_
  refine c_block ?_
  refine c_loopE [11, 12] (fun d e w' => ∃ (k : Nat), Kw.look e 13 = vi k ∧ d = rs.length - k ∧ St w [] w' [] ∧ (k ≤ rs.length) ∧ (∀ i, i < k → ruleE (gt rs i) = 0)) (rs.length - 0) ?_ ?_
  · exact ⟨0, rfl, rfl, hS2.fin, Nat.zero_le _, fun i hi => by omega⟩
  · rintro d6 e3 w4 ⟨k, hc0_13, rfl, hS5, hk, hok⟩ -
    refine c_set (d := 13) hc0_13 ?_
    refine c_seq ?_
    refine c_region ?_
    refine wl_dec (r_lss rfl rfl) rfl (fun h4_0 => ?_) (fun h4_0 => ?_)
    · refine wl_nil ?_
      refine c_then ?_
      refine c_seq ?_
      refine c_true rfl ?_
      refine wp_skip ?_
      refine c_then ?_
      refine c_seq ?_
      refine c_block ?_
      refine c_seq ?_
      refine c_region ?_
      refine wl_val (r_ixF rule_v8 ti46.und ti37 rfl rfl (hrs.st hS5) (by first | (simp [*]; done) | (simp [*] <;> omega) | omega) (by first | omega | (simp [*]; done) | (simp [*] <;> omega)) (by decide)) rfl ?_
      refine wl_val (r_loadF rule_v8 ti37 ag37 rfl (hrs.st hS5) (by first | omega | (simp [*]; done) | (simp [*] <;> omega)) (by decide)) rfl ?_
      refine wl_exv (x_alloc (C := [.bool false, .slice none 0 0, .slice none 0 0, .slice none 0 0, .int .i64 0, .int .i64 0, .int .i64 0, .string ⟨#[]⟩]) hS5 ti37 rfl) rfl ?_
      rintro _ w7 ⟨b4, rfl, hS8⟩
      refine wl_exs (x_storeW [] hS8 ti37 rfl rfl rfl rfl (one_rule _)) rfl ?_
      intro w9 hS10
      simp only [List.cons_append, List.nil_append] at hS10
      refine wl_nil ?_
      refine c_then ?_
      refine c_seq ?_
      have hgk := (hall (gt rs k) (gt_mem rs k (by omega))).st hS10
      refine c_region ?_
      refine wl_val (r_loadB ti37 ag37 rfl (hS10.heap (.head _)) (by first | (simp [*]; done) | (simp [*] <;> omega) | omega)) rfl ?_
      refine wl_call (r_call fn46 rfl rfl) rfl (ruleFault_ok (gt rs k) _ hgk.ok hgk.h1 hgk.h2 hgk.h3) ?_
      rintro _ w11 ⟨rfl, hx12⟩
      have hS13 := hS10.ext hx12
      refine wl_val (r_assign (v := .int .i64 _) rfl) rfl ?_
      refine wl_nil ?_
      refine c_then ?_
      refine c_seq ?_
      refine c_region ?_
      refine wl_val (r_move (v := .int .i64 _) rfl) rfl ?_
      refine wl_dec (r_neq rfl rfl) rfl (fun h7_1 => ?_) (fun h7_1 => ?_)
      · refine wl_nil ?_
        refine c_then ?_
        refine c_true rfl ?_
        refine c_seq ?_
        refine c_region ?_
        refine wl_val (r_move (v := .int .i64 _) rfl) rfl ?_
        refine wl_val (r_assign (v := .int .i64 _) rfl) rfl ?_
        refine wl_nil ?_
        refine c_then ?_
        refine wp_ret ?_
        refine c_inR ?_
        refine c_thenR ?_
        refine c_thenR ?_
        refine c_inR ?_
        refine c_thenR ?_
        refine ret1 Try.results59 ?_
        first | exact ⟨congrArg (Value.int .i64) (polE_big (by omega)).symm, hS13.fin⟩ | exact ⟨congrArg (Value.int .i64) (polE_at (by omega) (by omega) hok h7_1).symm, hS13.fin⟩ | (obtain rfl : k = rs.length := (by omega); exact ⟨congrArg (Value.int .i64) (polE_ok (by omega) hok).symm, hS13.fin⟩)
      refine wl_nil ?_
      refine c_then ?_
      refine c_false rfl ?_
      refine wp_skip ?_
      refine c_inN ?_
      refine c_then ?_
      refine c_region ?_
      refine wl_val (r_addn (b := 1) rfl rfl (by omega)) rfl ?_
      refine wl_val (r_move (v := .int .i64 _) rfl) rfl ?_
      refine wl_nil ?_
      refine c_then ?_
      exact ⟨rs.length - (k + 1), _, by omega, rfl, ⟨k + 1, rfl, rfl, hS13.fin, by omega, ok_step hok (Decidable.of_not_not h7_1)⟩, ⟨rfl, rfl, trivial⟩⟩
    refine wl_nil ?_
    refine c_then ?_
    refine c_seq ?_
    refine c_false rfl ?_
    refine wp_exit ?_
    refine c_thenE ?_
    refine c_thenE ?_
    refine c_inE ?_
    refine c_then ?_
    refine c_seq ?_
    refine c_region ?_
    refine wl_val (r_assign (v := .int .i64 0) rfl) rfl ?_
    refine wl_nil ?_
    refine c_then ?_
    refine wp_ret ?_
    refine ret1 Try.results59 ?_
    first | exact ⟨congrArg (Value.int .i64) (polE_big (by omega)).symm, hS5.fin⟩ | exact ⟨congrArg (Value.int .i64) (polE_at (by omega) (by omega) hok h7_1).symm, hS5.fin⟩ | (obtain rfl : k = rs.length := (by omega); exact ⟨congrArg (Value.int .i64) (polE_ok (by omega) hok).symm, hS5.fin⟩)

theorem rcheck_ok (rs : List RuleD) (pa : Option Addr) (n pc : Nat) (w : World) (hrs : Row w pa (rs.flatMap RuleD.v)) (hl : rs.length = n) (hn : n ≤ 140737488351232) (hall : ∀ r ∈ rs, RuleAt w r) :
    Ret Try.prog 22 [.agg #[.slice pa n pc]] w (fun v w' => v = .int .i64 (polE rs) ∧ St w [] w' []) := by
  subst hl
  refine enter Try.func22 rfl Try.ntmps22 rfl ?_
  have hS := St.refl w []
  refine c_seq ?_
  refine c_region ?_
  refine wl_exv (x_box hS (v := .agg _) rfl rfl) rfl ?_
  rintro _ w1 ⟨b1, rfl, hS2⟩
  refine wl_val (r_assign (v := .int .i64 0) rfl) rfl ?_
  refine wl_nil ?_
  refine c_then ?_
  refine c_seq ?_
  refine c_seq ?_
  refine c_region ?_
  refine wl_val (r_field fa48_0 rfl) rfl ?_
  refine wl_val (r_loadB1 ti46.und rfl rfl (hS2.heap (.head _)) rfl) rfl ?_
  refine wl_val (r_len (T := 46) rfl ti46.und rfl _ rfl) rfl ?_
  refine wl_dec (r_gtr rfl rfl) rfl (fun h1_3 => ?_) (fun h1_3 => ?_)
  · refine wl_nil ?_
    refine c_then ?_
    refine c_true rfl ?_
    refine c_seq ?_
    refine c_region ?_
    refine wl_val (r_assign (v := .int .i64 5) rfl) rfl ?_
    refine wl_nil ?_
    refine c_then ?_
    refine wp_ret ?_
    refine c_thenR ?_
    refine ret1 Try.results22 ?_
    first | exact ⟨congrArg (Value.int .i64) (polE_big (by omega)).symm, hS2.fin⟩ | exact ⟨congrArg (Value.int .i64) (polE_at (by omega) (by omega) hok h7_1).symm, hS2.fin⟩ | (obtain rfl : k = rs.length := (by omega); exact ⟨congrArg (Value.int .i64) (polE_ok (by omega) hok).symm, hS2.fin⟩)
  refine wl_nil ?_
  refine c_then ?_
  refine c_false rfl ?_
  refine wp_skip ?_
  refine c_then ?_
  refine c_seq ?_
  refine c_seq ?_
  refine c_region ?_
  refine wl_val (r_field fa48_0 rfl) rfl ?_
  refine wl_val (r_loadB1 ti46.und rfl rfl (hS2.heap (.head _)) rfl) rfl ?_
  refine wl_val (r_len (T := 46) rfl ti46.und rfl _ rfl) rfl ?_
  refine wl_val (r_move (v := .int .i64 0) rfl) rfl ?_
  refine wl_nil ?_
  refine c_then ?_
  refine c_block ?_
  refine c_loopE [11, 12] (fun d e w' => ∃ (k : Nat), Kw.look e 13 = vi k ∧ d = rs.length - k ∧ St w [] w' [] ∧ (k ≤ rs.length) ∧ (∀ i, i < k → ruleE (gt rs i) = 0)) (rs.length - 0) ?_ ?_
  · exact ⟨0, rfl, rfl, hS2.fin, Nat.zero_le _, fun i hi => by omega⟩
  · rintro d6 e3 w4 ⟨k, hc0_13, rfl, hS5, hk, hok⟩ -
    refine c_set (d := 13) hc0_13 ?_
    refine c_seq ?_
    refine c_region ?_
    refine wl_dec (r_lss rfl rfl) rfl (fun h4_0 => ?_) (fun h4_0 => ?_)
    · refine wl_nil ?_
      refine c_then ?_
      refine c_seq ?_
      refine c_true rfl ?_
      refine wp_skip ?_
      refine c_then ?_
      refine c_seq ?_
      refine c_block ?_
      refine c_seq ?_
      refine c_region ?_
      refine wl_val (r_ixF rule_v8 ti46.und ti37 rfl rfl (hrs.st hS5) (by first | (simp [*]; done) | (simp [*] <;> omega) | omega) (by first | omega | (simp [*]; done) | (simp [*] <;> omega)) (by decide)) rfl ?_
      refine wl_val (r_loadF rule_v8 ti37 ag37 rfl (hrs.st hS5) (by first | omega | (simp [*]; done) | (simp [*] <;> omega)) (by decide)) rfl ?_
      refine wl_exv (x_alloc (C := [.bool false, .slice none 0 0, .slice none 0 0, .slice none 0 0, .int .i64 0, .int .i64 0, .int .i64 0, .string ⟨#[]⟩]) hS5 ti37 rfl) rfl ?_
      rintro _ w7 ⟨b4, rfl, hS8⟩
      refine wl_exs (x_storeW [] hS8 ti37 rfl rfl rfl rfl (one_rule _)) rfl ?_
      intro w9 hS10
      simp only [List.cons_append, List.nil_append] at hS10
      refine wl_nil ?_
      refine c_then ?_
      refine c_seq ?_
      have hgk := (hall (gt rs k) (gt_mem rs k (by omega))).st hS10
      refine c_region ?_
      refine wl_val (r_loadB ti37 ag37 rfl (hS10.heap (.head _)) (by first | (simp [*]; done) | (simp [*] <;> omega) | omega)) rfl ?_
      refine wl_call (r_call fn17 rfl rfl) rfl (ruleError_ok (gt rs k) _ hgk.ok hgk.h1 hgk.h2 hgk.h3) ?_
      rintro _ w11 ⟨rfl, hx12⟩
      have hS13 := hS10.ext hx12
      refine wl_val (r_assign (v := .int .i64 _) rfl) rfl ?_
      refine wl_nil ?_
      refine c_then ?_
      refine c_seq ?_
      refine c_region ?_
      refine wl_val (r_move (v := .int .i64 _) rfl) rfl ?_
      refine wl_dec (r_neq rfl rfl) rfl (fun h7_1 => ?_) (fun h7_1 => ?_)
      · refine wl_nil ?_
        refine c_then ?_
        refine c_true rfl ?_
        refine c_seq ?_
        refine c_region ?_
        refine wl_val (r_move (v := .int .i64 _) rfl) rfl ?_
        refine wl_val (r_assign (v := .int .i64 _) rfl) rfl ?_
        refine wl_nil ?_
        refine c_then ?_
        refine wp_ret ?_
        refine c_inR ?_
        refine c_thenR ?_
        refine c_thenR ?_
        refine c_inR ?_
        refine c_thenR ?_
        refine ret1 Try.results22 ?_
        first | exact ⟨congrArg (Value.int .i64) (polE_big (by omega)).symm, hS13.fin⟩ | exact ⟨congrArg (Value.int .i64) (polE_at (by omega) (by omega) hok h7_1).symm, hS13.fin⟩ | (obtain rfl : k = rs.length := (by omega); exact ⟨congrArg (Value.int .i64) (polE_ok (by omega) hok).symm, hS13.fin⟩)
      refine wl_nil ?_
      refine c_then ?_
      refine c_false rfl ?_
      refine wp_skip ?_
      refine c_inN ?_
      refine c_then ?_
      refine c_region ?_
      refine wl_val (r_addn (b := 1) rfl rfl (by omega)) rfl ?_
      refine wl_val (r_move (v := .int .i64 _) rfl) rfl ?_
      refine wl_nil ?_
      refine c_then ?_
      exact ⟨rs.length - (k + 1), _, by omega, rfl, ⟨k + 1, rfl, rfl, hS13.fin, by omega, ok_step hok (Decidable.of_not_not h7_1)⟩, ⟨rfl, rfl, trivial⟩⟩
    refine wl_nil ?_
    refine c_then ?_
    refine c_seq ?_
    refine c_false rfl ?_
    refine wp_exit ?_
    refine c_thenE ?_
    refine c_thenE ?_
    refine c_inE ?_
    refine c_then ?_
    refine c_seq ?_
    refine c_region ?_
    refine wl_val (r_assign (v := .int .i64 0) rfl) rfl ?_
    refine wl_nil ?_
    refine c_then ?_
    refine wp_ret ?_
    refine ret1 Try.results22 ?_
    first | exact ⟨congrArg (Value.int .i64) (polE_big (by omega)).symm, hS5.fin⟩ | exact ⟨congrArg (Value.int .i64) (polE_at (by omega) (by omega) hok h7_1).symm, hS5.fin⟩ | (obtain rfl : k = rs.length := (by omega); exact ⟨congrArg (Value.int .i64) (polE_ok (by omega) hok).symm, hS5.fin⟩)

theorem always_ok (n : Int) (w : World) :
    Ret Try.prog 61 [.int .i64 n] w (fun v w' => v = .bool true ∧ St w [] w' []) := by
  refine enter Try.func61 rfl Try.ntmps61 rfl ?_
  have hS := St.refl w []
  refine c_seq ?_
  refine c_region ?_
  refine wl_val (r_assign (v := .bool false) rfl) rfl ?_
  refine wl_nil ?_
  refine c_then ?_
  refine c_seq ?_
  refine c_region ?_
  refine wl_val (r_assign (v := .bool true) rfl) rfl ?_
  refine wl_nil ?_
  refine c_then ?_
  refine wp_ret ?_
  refine ret1 Try.results61 ?_
  exact ⟨rfl, hS.fin⟩

set_option maxHeartbeats 4000000 in
theorem decide_ok (rs : List RuleD) (pa : Option Addr) (n pc : Nat) (q : AskD) (w : World) (hrs : Row w pa (rs.flatMap RuleD.v)) (hl : rs.length = n) (hn : n ≤ 140737488351232) (hall : ∀ r ∈ rs, RuleAt w r) (hq : AskOk q) (hr : Row w q.ra (q.ro.map sv)) (ht0 : 0 ≤ q.tm) (ht1 : q.tm ≤ 1099511627776) :
    Ret Try.prog 60 [.agg #[.slice pa n pc], .agg q.v.toArray, .func (.func 61) #[] #[]] w (fun v w' => ∃ al ru nd fr, v = .agg (decV al ru nd fr).toArray ∧ DecR rs q al ru nd fr ∧ St w [] w' []) := by
  subst hl
  have hac := hq.ac
  have hkey := hq.key
  have hdet := hq.det
  refine enter Try.func60 rfl Try.ntmps60 rfl ?_
  have hS := St.refl w []
  refine c_seq ?_
  refine c_region ?_
  refine wl_exv (x_box hS (v := .agg _) rfl rfl) rfl ?_
  rintro _ w1 ⟨b3, rfl, hS2⟩
  refine wl_exv (x_box hS2 (v := .agg _) rfl rfl) rfl ?_
  rintro _ w3 ⟨b4, rfl, hS4⟩
  refine wl_exv (x_alloc (C := [.bool false, .int .i64 0, .int .i64 0, .string ⟨#[]⟩]) hS4 ti50 rfl) rfl ?_
  rintro _ w5 ⟨b6, rfl, hS6⟩
  refine wl_nil ?_
  refine c_then ?_
  refine c_seq ?_
  refine c_region ?_
  refine wl_val (r_assign (v := .int .i64 (-1)) rfl) rfl ?_
  refine wl_nil ?_
  refine c_then ?_
  refine c_seq ?_
  refine c_seq ?_
  refine c_region ?_
  refine wl_val (r_field fa48_0 rfl) rfl ?_
  refine wl_val (r_loadB1 ti46.und rfl rfl (hS6.heap (.tail _ (.tail _ (.head _)))) rfl) rfl ?_
  refine wl_val (r_len (T := 46) rfl ti46.und rfl _ rfl) rfl ?_
  refine wl_val (r_move (v := .int .i64 0) rfl) rfl ?_
  refine wl_nil ?_
  refine c_then ?_
  refine c_block ?_
  refine c_loopE [2, 3, 4, 6, 12, 13] (fun d e w' => ∃ (k : Nat) (best : Int), Kw.look e 14 = vi k ∧ Kw.look e 7 = .int .i64 best ∧ d = rs.length - k ∧ St w [] w' [.blk b6 (cl [.bool false, .int .i64 0, .int .i64 0, .string ⟨#[]⟩] 50), .blk b4 (cl q.v 34), .blk b3 (cl [.slice pa rs.length pc] 48)] ∧ (k ≤ rs.length) ∧ (BestR rs q k best)) (rs.length - 0) ?_ ?_
  · exact ⟨0, -1, rfl, rfl, rfl, hS6, Nat.zero_le _, best_zero rs q⟩
  · rintro d10 e7 w8 ⟨k, best, hc0_14, hc0_7, rfl, hS9, hk, hbest⟩ -
    refine c_set (d := 14) hc0_14 ?_
    refine c_set (d := 7) hc0_7 ?_
    refine c_seq ?_
    refine c_region ?_
    refine wl_dec (r_lss rfl rfl) rfl (fun h3_0 => ?_) (fun h3_0 => ?_)
    · refine wl_nil ?_
      refine c_then ?_
      refine c_seq ?_
      refine c_true rfl ?_
      refine wp_skip ?_
      refine c_then ?_
      refine c_seq ?_
      refine c_block ?_
      refine c_seq ?_
      refine c_region ?_
      refine wl_val (r_move (v := .int .i64 _) rfl) rfl ?_
      refine wl_val (r_ixF rule_v8 ti46.und ti37 rfl rfl (hrs.st hS9) (by first | (simp [*]; done) | (simp [*] <;> omega) | omega) (by first | omega | (simp [*]; done) | (simp [*] <;> omega)) (by decide)) rfl ?_
      refine wl_val (r_loadF rule_v8 ti37 ag37 rfl (hrs.st hS9) (by first | omega | (simp [*]; done) | (simp [*] <;> omega)) (by decide)) rfl ?_
      refine wl_exv (x_alloc (C := [.bool false, .slice none 0 0, .slice none 0 0, .slice none 0 0, .int .i64 0, .int .i64 0, .int .i64 0, .string ⟨#[]⟩]) hS9 ti37 rfl) rfl ?_
      rintro _ w11 ⟨b9, rfl, hS12⟩
      refine wl_val (r_assign (v := .int .i64 _) rfl) rfl ?_
      refine wl_exs (x_storeW [] hS12 ti37 rfl rfl rfl rfl (one_rule _)) rfl ?_
      intro w13 hS14
      simp only [List.cons_append, List.nil_append] at hS14
      refine wl_nil ?_
      refine c_then ?_
      refine c_seq ?_
      refine c_seq ?_
      have hgk := hall (gt rs k) (gt_mem rs k (by omega))
      refine c_region ?_
      refine wl_val (r_move rfl) rfl ?_
      refine wl_val (r_move (v := .int .i64 _) rfl) rfl ?_
      refine wl_call (r_callDyn fn61 rfl rfl) rfl (always_ok _ _) ?_
      rintro _ w15 ⟨rfl, hx16⟩
      have hS17 := hS14.ext hx16
      refine wl_val (r_not rfl) rfl ?_
      refine wl_val (r_move (v := .bool _) rfl) rfl ?_
      refine wl_val (r_loadB ti37 ag37 rfl (hS17.heap (.head _)) (by first | (simp [*]; done) | (simp [*] <;> omega) | omega)) rfl ?_
      refine wl_val (r_loadB ti34 ag34 rfl (hS17.heap (.tail _ (.tail _ (.head _)))) (by first | (simp [*]; done) | (simp [*] <;> omega) | omega)) rfl ?_
      refine wl_call (r_call fn47 rfl rfl) rfl ((meets_ok (gt rs k) q _ (hgk.st hS17).ok (hgk.st hS17).h1 (hgk.st hS17).h2 (hgk.st hS17).h3 hq (hr.st hS17) ht0 ht1).br) ?_
      rintro _ w18 (⟨hmt, rfl, hx19⟩ | ⟨hmt, rfl, hx19⟩)
      · have hS20 := hS17.ext hx19
        refine wl_val (r_not rfl) rfl ?_
        refine wl_val (r_pick_f rfl (v := .bool _) rfl) rfl ?_
        refine wl_nil ?_
        refine c_then ?_
        refine c_false rfl ?_
        refine wp_skip ?_
        refine c_then ?_
        refine c_seq ?_
        refine c_seq ?_
        rcases bool_cases (gt rs k).dn with hdn | hdn
        · refine c_region ?_
          refine wl_val (r_field fa37_0 rfl) rfl ?_
          refine wl_val (r_loadB1 ti4.und rfl rfl (hS20.heap (.head _)) (by first | exact rule_dn_t hdn | exact rule_dn_f hdn)) rfl ?_
          refine wl_nil ?_
          refine c_then ?_
          refine c_true rfl ?_
          refine c_seq ?_
          refine c_region ?_
          refine wl_val (r_move (v := .int .i64 _) rfl) rfl ?_
          refine wl_val (r_buildP (ps := [(1, .int .i64 _)]) (out := [.bool false, .int .i64 _, .int .i64 0, .string ⟨#[]⟩]) pl50 ti50 rfl rfl) rfl ?_
          refine wl_exs (x_storeW [_] hS20 ti50 rfl rfl rfl rfl (by repeat' first | exact one_nil | exact one_b8 _ | exact one_v32 _ | exact one_all rfl | refine one_cons rfl ?_ | refine one_app ?_ ?_)) rfl ?_
          intro w21 hS22
          simp only [List.cons_append, List.nil_append] at hS22
          refine wl_nil ?_
          refine c_then ?_
          refine wp_ret ?_
          refine c_thenR ?_
          refine c_inR ?_
          refine c_thenR ?_
          refine c_thenR ?_
          refine c_inR ?_
          refine c_thenR ?_
          refine retc Try.results60 ⟨_, rfl, run_loadVar_blk ti50 ag50 (hS22.heap (.tail _ (.head _))) rfl⟩ ?_
          first | exact ⟨false, _, 0, [], rfl, .inl ⟨k, by omega, hmt, hdn, fun j hj hm => hbest.1 j hj hm, rfl, rfl, rfl, rfl⟩, hS22.fin⟩ | exact ⟨false, -1, 0, [], rfl, .inr ⟨_, hbest, .inl ⟨rfl, rfl, rfl, rfl, rfl⟩⟩, hS22.fin⟩ | exact ⟨true, _, _, _, rfl, .inr ⟨_, hbest, .inr ⟨j, rfl, rfl, rfl, rfl, rfl⟩⟩, hS22.fin⟩
        refine c_region ?_
        refine wl_val (r_field fa37_0 rfl) rfl ?_
        refine wl_val (r_loadB1 ti4.und rfl rfl (hS20.heap (.head _)) (by first | exact rule_dn_t hdn | exact rule_dn_f hdn)) rfl ?_
        refine wl_nil ?_
        refine c_then ?_
        refine c_false rfl ?_
        refine wp_skip ?_
        refine c_then ?_
        refine c_seq ?_
        rcases best_or hbest with rfl | ⟨j, rfl, hj⟩
        · refine c_drawS 11 hMixed hS20 ?_
          intro w23 hS24
          refine g_take 0 rfl (by decide +kernel) rfl (fun _ _ _ h => h) hS24 (fun wF hF => r_move (v := .int .i64 _) rfl) ?_
          refine g_dec_t 1 rfl (by decide +kernel) rfl (fun _ _ _ _ h => h) hS24 (fun wF hF => r_lss rfl rfl) (by decide) ?_
          refine g_take 2 rfl (by decide +kernel) rfl (fun _ _ _ h => h) hS24 (fun wF hF => r_move (v := .bool _) rfl) ?_
          refine g_takeN 3 rfl (by decide +kernel) rfl (fun _ _ _ h => h) hS24 ?_
          refine g_takeN 4 rfl (by decide +kernel) rfl (fun _ _ _ h => h) hS24 ?_
          refine g_takeN 5 rfl (by decide +kernel) rfl (fun _ _ _ h => h) hS24 ?_
          refine g_takeN 6 rfl (by decide +kernel) rfl (fun _ _ _ h => h) hS24 ?_
          refine g_takeN 7 rfl (by decide +kernel) rfl (fun _ _ _ h => h) hS24 ?_
          refine g_takeN 8 rfl (by decide +kernel) rfl (fun _ _ _ h => h) hS24 ?_
          refine g_takeN 9 rfl (by decide +kernel) rfl (fun _ _ _ h => h) hS24 ?_
          refine g_takeN 10 rfl (by decide +kernel) rfl (fun _ _ _ h => h) hS24 ?_
          refine g_tail (by decide +kernel) rfl (by decide +kernel) ?_
          refine wl_not rfl ?_
          refine wl_val (r_pick_t rfl (v := .bool true) rfl) rfl ?_
          refine wl_nil ?_
          refine c_then ?_
          refine c_true rfl ?_
          refine c_region ?_
          refine wl_val (r_move (v := .int .i64 _) rfl) rfl ?_
          refine wl_val (r_assign (v := .int .i64 _) rfl) rfl ?_
          refine wl_nil ?_
          refine c_inN ?_
          refine c_then ?_
          refine c_region ?_
          refine wl_val (r_addn (b := 1) rfl rfl (by omega)) rfl ?_
          refine wl_val (r_move (v := .int .i64 _) rfl) rfl ?_
          refine wl_nil ?_
          refine c_then ?_
          exact ⟨rs.length - (k + 1), _, by omega, rfl, ⟨k + 1, _, rfl, rfl, rfl, hS24.drop1, by omega, (by first | exact best_skip hbest hmt | exact best_first hbest hmt hdn | exact best_keep hbest hdn h8_11 | exact best_new hbest hmt hdn h8_11)⟩, ⟨rfl, rfl, rfl, rfl, rfl, rfl, trivial⟩⟩
        refine c_drawS 11 hMixed hS20 ?_
        intro w25 hS26
        refine g_take 0 rfl (by decide +kernel) rfl (fun _ _ _ h => h) hS26 (fun wF hF => r_move (v := .int .i64 _) rfl) ?_
        refine g_dec_f 1 rfl (by decide +kernel) rfl (fun _ _ _ _ h => h) hS26 (fun wF hF => r_lss rfl rfl) (by omega) ?_
        refine g_take 2 rfl (by decide +kernel) rfl (fun _ _ _ h => h) hS26 (fun wF hF => r_move (v := .bool _) rfl) ?_
        refine g_take 3 rfl (by decide +kernel) rfl (fun _ _ _ h => h) hS26 (fun wF hF => r_field fa37_6 rfl) ?_
        refine g_take 4 rfl (by decide +kernel) rfl (fun _ _ _ h => h) hS26 (fun wF hF => r_loadB1 ti3.und rfl rfl (hF.heap (.head _)) rfl) ?_
        refine g_take 5 rfl (by decide +kernel) rfl (fun _ _ _ h => h) hS26 (fun wF hF => r_field fa48_0 rfl) ?_
        refine g_take 6 rfl (by decide +kernel) rfl (fun _ _ _ h => h) hS26 (fun wF hF => r_loadB1 ti46.und rfl rfl (hF.heap (.tail _ (.tail _ (.tail _ (.head _))))) rfl) ?_
        refine g_take 7 rfl (by decide +kernel) rfl (fun _ _ _ h => h) hS26 (fun wF hF => r_move (v := .int .i64 _) rfl) ?_
        refine g_take 8 rfl (by decide +kernel) rfl (fun _ _ _ h => h) hS26 (fun wF hF => r_ixF rule_v8 ti46.und ti37 rfl rfl (hrs.st hF) (by first | (simp [*]; done) | (simp [*] <;> omega) | omega) (by first | omega | (simp [*]; done) | (simp [*] <;> omega)) (by decide)) ?_
        refine g_take 9 rfl (by decide +kernel) rfl (fun _ _ _ h => h) hS26 (fun wF hF => r_fieldF rule_v8 fa37_6 rfl (hrs.st hF) (by first | omega | (simp [*]; done) | (simp [*] <;> omega)) (by decide)) ?_
        refine g_take 10 rfl (by decide +kernel) rfl (fun _ _ _ h => h) hS26 (fun wF hF => r_loadFF (off := 6) rule_v8 ti3.und rfl rfl (hrs.st hF) (by first | omega | (simp [*]; done) | (simp [*] <;> omega)) (by decide) rfl) ?_
        refine g_tail (by decide +kernel) rfl (by decide +kernel) ?_
        refine wl_dec (r_lss rfl rfl) rfl (fun h8_11 => ?_) (fun h8_11 => ?_)
        · refine wl_val (r_pick_f rfl (v := .bool _) rfl) rfl ?_
          refine wl_nil ?_
          refine c_then ?_
          refine c_true rfl ?_
          refine c_region ?_
          refine wl_val (r_move (v := .int .i64 _) rfl) rfl ?_
          refine wl_val (r_assign (v := .int .i64 _) rfl) rfl ?_
          refine wl_nil ?_
          refine c_inN ?_
          refine c_then ?_
          refine c_region ?_
          refine wl_val (r_addn (b := 1) rfl rfl (by omega)) rfl ?_
          refine wl_val (r_move (v := .int .i64 _) rfl) rfl ?_
          refine wl_nil ?_
          refine c_then ?_
          exact ⟨rs.length - (k + 1), _, by omega, rfl, ⟨k + 1, _, rfl, rfl, rfl, hS26.drop1, by omega, (by first | exact best_skip hbest hmt | exact best_first hbest hmt hdn | exact best_keep hbest hdn h8_11 | exact best_new hbest hmt hdn h8_11)⟩, ⟨rfl, rfl, rfl, rfl, rfl, rfl, trivial⟩⟩
        refine wl_val (r_pick_f rfl (v := .bool _) rfl) rfl ?_
        refine wl_nil ?_
        refine c_then ?_
        refine c_false rfl ?_
        refine wp_skip ?_
        refine c_inN ?_
        refine c_then ?_
        refine c_region ?_
        refine wl_val (r_addn (b := 1) rfl rfl (by omega)) rfl ?_
        refine wl_val (r_move (v := .int .i64 _) rfl) rfl ?_
        refine wl_nil ?_
        refine c_then ?_
        exact ⟨rs.length - (k + 1), _, by omega, rfl, ⟨k + 1, _, rfl, rfl, rfl, hS26.drop1, by omega, (by first | exact best_skip hbest hmt | exact best_first hbest hmt hdn | exact best_keep hbest hdn h8_11 | exact best_new hbest hmt hdn h8_11)⟩, ⟨rfl, rfl, rfl, rfl, rfl, rfl, trivial⟩⟩
      have hS20 := hS17.ext hx19
      refine wl_val (r_not rfl) rfl ?_
      refine wl_val (r_pick_f rfl (v := .bool _) rfl) rfl ?_
      refine wl_nil ?_
      refine c_then ?_
      refine c_true rfl ?_
      refine wp_exit ?_
      refine c_thenE ?_
      refine c_inE ?_
      refine c_then ?_
      refine c_region ?_
      refine wl_val (r_addn (b := 1) rfl rfl (by omega)) rfl ?_
      refine wl_val (r_move (v := .int .i64 _) rfl) rfl ?_
      refine wl_nil ?_
      refine c_then ?_
      exact ⟨rs.length - (k + 1), _, by omega, rfl, ⟨k + 1, _, rfl, rfl, rfl, hS20.drop1, by omega, (by first | exact best_skip hbest hmt | exact best_first hbest hmt hdn | exact best_keep hbest hdn h8_11 | exact best_new hbest hmt hdn h8_11)⟩, ⟨rfl, rfl, rfl, rfl, rfl, rfl, trivial⟩⟩
    refine wl_nil ?_
    refine c_then ?_
    refine c_seq ?_
    refine c_false rfl ?_
    refine wp_exit ?_
    refine c_thenE ?_
    refine c_thenE ?_
    refine c_inE ?_
    refine c_then ?_
    refine c_seq ?_
    refine c_seq ?_
    rcases best_or hbest with rfl | ⟨j, rfl, hj⟩
    · obtain rfl : k = rs.length := by omega
      refine c_region ?_
      refine wl_val (r_move (v := .int .i64 _) rfl) rfl ?_
      refine wl_dec_t (r_lss rfl rfl) rfl (by decide) ?_
      refine wl_nil ?_
      refine c_then ?_
      refine c_true rfl ?_
      refine c_seq ?_
      refine c_region ?_
      refine wl_val (r_buildP (ps := [(1, .int .i64 (-1))]) (out := [.bool false, .int .i64 (-1), .int .i64 0, .string ⟨#[]⟩]) pl50 ti50 rfl rfl) rfl ?_
      refine wl_exs (x_storeW [] hS9 ti50 rfl rfl rfl rfl (by repeat' first | exact one_nil | exact one_b8 _ | exact one_v32 _ | exact one_all rfl | refine one_cons rfl ?_ | refine one_app ?_ ?_)) rfl ?_
      intro w27 hS28
      simp only [List.cons_append, List.nil_append] at hS28
      refine wl_nil ?_
      refine c_then ?_
      refine wp_ret ?_
      refine c_thenR ?_
      refine retc Try.results60 ⟨_, rfl, run_loadVar_blk ti50 ag50 (hS28.heap (.head _)) rfl⟩ ?_
      first | exact ⟨false, _, 0, [], rfl, .inl ⟨k, by omega, hmt, hdn, fun j hj hm => hbest.1 j hj hm, rfl, rfl, rfl, rfl⟩, hS28.fin⟩ | exact ⟨false, -1, 0, [], rfl, .inr ⟨_, hbest, .inl ⟨rfl, rfl, rfl, rfl, rfl⟩⟩, hS28.fin⟩ | exact ⟨true, _, _, _, rfl, .inr ⟨_, hbest, .inr ⟨j, rfl, rfl, rfl, rfl, rfl⟩⟩, hS28.fin⟩
    obtain rfl : k = rs.length := by omega
    refine c_region ?_
    refine wl_val (r_move (v := .int .i64 _) rfl) rfl ?_
    refine wl_dec_f (r_lss rfl rfl) rfl (by omega) ?_
    refine wl_nil ?_
    refine c_then ?_
    refine c_false rfl ?_
    refine wp_skip ?_
    refine c_then ?_
    refine c_seq ?_
    refine c_region ?_
    refine wl_val (r_field fa48_0 rfl) rfl ?_
    refine wl_val (r_loadB1 ti46.und rfl rfl (hS9.heap (.tail _ (.tail _ (.head _)))) rfl) rfl ?_
    refine wl_val (r_move (v := .int .i64 _) rfl) rfl ?_
    refine wl_val (r_ixF rule_v8 ti46.und ti37 rfl rfl (hrs.st hS9) (by first | (simp [*]; done) | (simp [*] <;> omega) | omega) (by first | omega | (simp [*]; done) | (simp [*] <;> omega)) (by decide)) rfl ?_
    refine wl_val (r_loadF rule_v8 ti37 ag37 rfl (hrs.st hS9) (by first | omega | (simp [*]; done) | (simp [*] <;> omega)) (by decide)) rfl ?_
    refine wl_exv (x_alloc (C := [.bool false, .slice none 0 0, .slice none 0 0, .slice none 0 0, .int .i64 0, .int .i64 0, .int .i64 0, .string ⟨#[]⟩]) hS9 ti37 rfl) rfl ?_
    rintro _ w29 ⟨b10, rfl, hS30⟩
    refine wl_exs (x_storeW [] hS30 ti37 rfl rfl rfl rfl (one_rule _)) rfl ?_
    intro w31 hS32
    simp only [List.cons_append, List.nil_append] at hS32
    refine wl_nil ?_
    refine c_then ?_
    refine c_seq ?_
    refine c_region ?_
    refine wl_val (r_move (v := .int .i64 _) rfl) rfl ?_
    refine wl_val (r_field fa37_6 rfl) rfl ?_
    refine wl_val (r_loadB1 ti3.und rfl rfl (hS32.heap (.head _)) rfl) rfl ?_
    refine wl_val (r_field fa37_7 rfl) rfl ?_
    refine wl_val (r_loadB1 ti9.und rfl rfl (hS32.heap (.head _)) rfl) rfl ?_
    refine wl_val (r_buildF (vs := [.bool true, .int .i64 _, .int .i64 _, .string _]) (out := [.bool true, .int .i64 _, .int .i64 _, .string _]) pl50 ti50 rfl rfl (by intro i hi; match i, hi with | 0, _ => rfl | 1, _ => rfl | 2, _ => rfl | 3, _ => rfl) rfl) rfl ?_
    refine wl_exs (x_storeW [_] hS32 ti50 rfl rfl rfl rfl (by repeat' first | exact one_nil | exact one_b8 _ | exact one_v32 _ | exact one_all rfl | refine one_cons rfl ?_ | refine one_app ?_ ?_)) rfl ?_
    intro w33 hS34
    simp only [List.cons_append, List.nil_append] at hS34
    refine wl_nil ?_
    refine c_then ?_
    refine wp_ret ?_
    refine retc Try.results60 ⟨_, rfl, run_loadVar_blk ti50 ag50 (hS34.heap (.tail _ (.head _))) rfl⟩ ?_
    first | exact ⟨false, _, 0, [], rfl, .inl ⟨k, by omega, hmt, hdn, fun j hj hm => hbest.1 j hj hm, rfl, rfl, rfl, rfl⟩, hS34.fin⟩ | exact ⟨false, -1, 0, [], rfl, .inr ⟨_, hbest, .inl ⟨rfl, rfl, rfl, rfl, rfl⟩⟩, hS34.fin⟩ | exact ⟨true, _, _, _, rfl, .inr ⟨_, hbest, .inr ⟨j, rfl, rfl, rfl, rfl, rfl⟩⟩, hS34.fin⟩

end Go.Proofs.Ytafdmlpfgpaicaa
