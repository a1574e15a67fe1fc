/- What the law's proof leans on. No condition. -/
import Derived.Test.YtjnnhlbfgnopiaaGreatDoorPAAH
import Derived.Test.YtjnnhlbfgnopiaaGreatDoorPABT
import Derived.Test.YtjnnhlbfgnopiaaGreatDoorPAAT
namespace Go.Proofs.YtjnnhlbfgnopiaaGreatDoor
open Go.Kw
set_option linter.unusedVariables false
set_option linter.unusedSimpArgs false
set_option maxRecDepth 100000
theorem check_ok_c0 {p : Prop} (h : p := by first | exact ⟨congrArg (Value.int .i64) (polE_big Om).symm, hF.fin⟩ | exact ⟨congrArg (Value.int .i64) (polE_at Om Om hok h7_1).symm, hF.fin⟩ | (obtain rfl : k = rs.length := Om; exact ⟨congrArg (Value.int .i64) (polE_ok Om hok).symm, hF.fin⟩)) : p := h
theorem check_ok (rs : List RuleD) (pa : Option Addr) (n pc : Nat) (w : World) (hrs : Row w pa (rs.flatMap RuleD.v)) (hl : rs.length = n) (hn : n ≤ 140737488351232) (hall : ∀ r ∈ rs, RuleAt w r) :
    Ret Tryz.prog 13 [.agg #[.slice pa n pc]] w (fun v w' => v = .int .i64 (polE rs) ∧ St w [] w' []) := by
  subst hl
  refine enter Tryz.func13 rfl Tryz.ntmps13 rfl ?_
  have hS := St.refl w []
  refine zS<|zR<|zB (v := .agg _) hS rfl rfl fun b1 w1 hS2=>zq 1 rfl<|zN<|zT<|zS<|zS<|zR<|zF fa25_0 rfl ti23.und rfl (hS2.heap Z0) rfl rfl rfl<|zV (r_len (T := 23) rfl ti23.und rfl _ rfl) ?_
  refine wl_dec (r_gtr rfl rfl) rfl (fun h1_3 => ?_) (fun h1_3 => ?_)
  · refine zN<|zT<|zt rfl<|zS<|zR<|zq 1 rfl<|zN<|zT<|zU<|zL<|ret1 Tryz.results13 ?_
    have hF := hS2; exact check_ok_c0
  refine zN<|zT<|zf rfl<|zK<|zT<|zS<|zS<|zR<|zF fa25_0 rfl ti23.und rfl (hS2.heap Z0) rfl rfl rfl<|zV (r_len (T := 23) rfl ti23.und rfl _ rfl)<|zq 1 rfl<|zN<|zT<|zI ?_
  refine c_loopE [11, 12] (fun d e w' => ∃ (k : Nat), Kw.look e 13 = vi k ∧ d = rs.length - k ∧ St w [] w' [] ∧ (k ≤ rs.length) ∧ (∀ i, i < k → ruleE (gt rs i) = 0)) (rs.length - 0) ?_ ?_
  · exact ⟨0, rfl, rfl, hS2.fin, Nat.zero_le _, fun i hi => by omega⟩
  · rintro d6 e3 w4 ⟨k, hc0_13, rfl, hS5, hk, hok⟩ -
    refine c_set (d := 13) hc0_13<|zS<|zR ?_
    refine wl_dec (r_lss rfl rfl) rfl (fun h4_0 => ?_) (fun h4_0 => ?_)
    · refine zN<|zT<|zS<|zt rfl<|zK<|zT<|zS<|zI<|zS<|zR<|zV (r_ixF rule_v8 ti23.und ti51 rfl rfl (hrs.st hS5) Ln Sd (by decide)) ?_
      refine zV (r_loadF rule_v8 ti51 ag51 rfl (hrs.st hS5) Sd (by decide)) ?_; refine zA (C := [.bool false, .slice none 0 0, .slice none 0 0, .slice none 0 0, .int .i64 0, .int .i64 0, .int .i64 0, .string ⟨#[]⟩]) hS5 ti51 rfl fun b4 w7 hS8=>zY (x_storeW [] hS8 ti51 rfl rfl rfl rfl (one_rule _)) ?_; intro w9 hS10; simp only [ca, na] at hS10; refine zN<|zT<|zS ?_
      have hgk := (hall (gt rs k) (gt_mem rs k Om)).st hS10
      refine zR<|zV (r_loadB ti51 ag51 rfl (hS10.heap Z0) Ln) ?_; refine zE fn34 rfl hS10 (ruleFault_ok (gt rs k) _ hgk.ok hgk.h1 hgk.h2 hgk.h3) fun w11 hS13=>zq 1 rfl<|zN<|zT<|zS<|zR<|zq 1 rfl ?_
      refine wl_dec (r_neq rfl rfl) rfl (fun h7_1 => ?_) (fun h7_1 => ?_)
      · refine zN<|zT<|zt rfl<|zS<|zR<|zq 2 rfl<|zN<|zT<|zU<|zH<|zL<|zL<|zH<|zL<|ret1 Tryz.results13 ?_
        have hF := hS13; exact check_ok_c0
      refine zN<|zT<|zf rfl<|zK<|zJ<|zT<|zR<|zV (r_addn (b := 1) rfl rfl Om)<|zq 1 rfl<|zN<|zT ?_
      exact ⟨rs.length - (k + 1), _, by omega, rfl, ⟨k + 1, rfl, rfl, hS13.fin, by omega, ok_step hok (Decidable.of_not_not h7_1)⟩, ⟨rfl, rfl, trivial⟩⟩
    refine zN<|zT<|zS<|zf rfl<|zO<|zM<|zM<|c_inE<|zT<|zS<|zR<|zq 1 rfl<|zN<|zT<|zU<|ret1 Tryz.results13 ?_
    have hF := hS5; exact check_ok_c0

theorem rcheck_ok_c0 {p : Prop} (h : p := by first | exact ⟨congrArg (Value.int .i64) (polE_big Om).symm, hF.fin⟩ | exact ⟨congrArg (Value.int .i64) (polE_at Om Om hok h7_1).symm, hF.fin⟩ | (obtain rfl : k = rs.length := Om; exact ⟨congrArg (Value.int .i64) (polE_ok Om hok).symm, hF.fin⟩)) : p := h
theorem rcheck_ok (rs : List RuleD) (pa : Option Addr) (n pc : Nat) (w : World) (hrs : Row w pa (rs.flatMap RuleD.v)) (hl : rs.length = n) (hn : n ≤ 140737488351232) (hall : ∀ r ∈ rs, RuleAt w r) :
    Ret Tryz.prog 9 [.agg #[.slice pa n pc]] w (fun v w' => v = .int .i64 (polE rs) ∧ St w [] w' []) := by
  subst hl
  refine enter Tryz.func9 rfl Tryz.ntmps9 rfl ?_
  have hS := St.refl w []
  refine zS<|zR<|zB (v := .agg _) hS rfl rfl fun b1 w1 hS2=>zq 1 rfl<|zN<|zT<|zS<|zS<|zR<|zF fa25_0 rfl ti23.und rfl (hS2.heap Z0) rfl rfl rfl<|zV (r_len (T := 23) rfl ti23.und rfl _ rfl) ?_
  refine wl_dec (r_gtr rfl rfl) rfl (fun h1_3 => ?_) (fun h1_3 => ?_)
  · refine zN<|zT<|zt rfl<|zS<|zR<|zq 1 rfl<|zN<|zT<|zU<|zL<|ret1 Tryz.results9 ?_
    have hF := hS2; exact rcheck_ok_c0
  refine zN<|zT<|zf rfl<|zK<|zT<|zS<|zS<|zR<|zF fa25_0 rfl ti23.und rfl (hS2.heap Z0) rfl rfl rfl<|zV (r_len (T := 23) rfl ti23.und rfl _ rfl)<|zq 1 rfl<|zN<|zT<|zI ?_
  refine c_loopE [11, 12] (fun d e w' => ∃ (k : Nat), Kw.look e 13 = vi k ∧ d = rs.length - k ∧ St w [] w' [] ∧ (k ≤ rs.length) ∧ (∀ i, i < k → ruleE (gt rs i) = 0)) (rs.length - 0) ?_ ?_
  · exact ⟨0, rfl, rfl, hS2.fin, Nat.zero_le _, fun i hi => by omega⟩
  · rintro d6 e3 w4 ⟨k, hc0_13, rfl, hS5, hk, hok⟩ -
    refine c_set (d := 13) hc0_13<|zS<|zR ?_
    refine wl_dec (r_lss rfl rfl) rfl (fun h4_0 => ?_) (fun h4_0 => ?_)
    · refine zN<|zT<|zS<|zt rfl<|zK<|zT<|zS<|zI<|zS<|zR<|zV (r_ixF rule_v8 ti23.und ti51 rfl rfl (hrs.st hS5) Ln Sd (by decide)) ?_
      refine zV (r_loadF rule_v8 ti51 ag51 rfl (hrs.st hS5) Sd (by decide)) ?_; refine zA (C := [.bool false, .slice none 0 0, .slice none 0 0, .slice none 0 0, .int .i64 0, .int .i64 0, .int .i64 0, .string ⟨#[]⟩]) hS5 ti51 rfl fun b4 w7 hS8=>zY (x_storeW [] hS8 ti51 rfl rfl rfl rfl (one_rule _)) ?_; intro w9 hS10; simp only [ca, na] at hS10; refine zN<|zT<|zS ?_
      have hgk := (hall (gt rs k) (gt_mem rs k Om)).st hS10
      refine zR<|zV (r_loadB ti51 ag51 rfl (hS10.heap Z0) Ln) ?_; refine zE fn29 rfl hS10 (ruleError_ok (gt rs k) _ hgk.ok hgk.h1 hgk.h2 hgk.h3) fun w11 hS13=>zq 1 rfl<|zN<|zT<|zS<|zR<|zq 1 rfl ?_
      refine wl_dec (r_neq rfl rfl) rfl (fun h7_1 => ?_) (fun h7_1 => ?_)
      · refine zN<|zT<|zt rfl<|zS<|zR<|zq 2 rfl<|zN<|zT<|zU<|zH<|zL<|zL<|zH<|zL<|ret1 Tryz.results9 ?_
        have hF := hS13; exact rcheck_ok_c0
      refine zN<|zT<|zf rfl<|zK<|zJ<|zT<|zR<|zV (r_addn (b := 1) rfl rfl Om)<|zq 1 rfl<|zN<|zT ?_
      exact ⟨rs.length - (k + 1), _, by omega, rfl, ⟨k + 1, rfl, rfl, hS13.fin, by omega, ok_step hok (Decidable.of_not_not h7_1)⟩, ⟨rfl, rfl, trivial⟩⟩
    refine zN<|zT<|zS<|zf rfl<|zO<|zM<|zM<|c_inE<|zT<|zS<|zR<|zq 1 rfl<|zN<|zT<|zU<|ret1 Tryz.results9 ?_
    have hF := hS5; exact rcheck_ok_c0

end Go.Proofs.YtjnnhlbfgnopiaaGreatDoor
