/- What the law's proof leans on. No condition. -/
import Derived.Test.YtbjjfpaiffckiaaDoorPFGAH
import Derived.Test.YtbjjfpaiffckiaaDoorPFGAV
import Derived.Test.YtbjjfpaiffckiaaDoorPFGAW
namespace Go.Proofs.YtbjjfpaiffckiaaDoor
open Go.Kw
set_option linter.unusedVariables false
set_option linter.unusedSimpArgs false
set_option maxRecDepth 100000
set_option maxHeartbeats 4000000 in
theorem fadd_ok (w0 w : World) (LT : List Kw.Item) (bf sz n c : Nat) (a : Option Addr) (p : List (List UInt8)) (leaf : List UInt8) (hS0 : St w0 [] w (.blk bf (cl [vi (sz), .slice a n c] 47) :: .row (.slice a n c) 29 32 n ((p).flatten.map b8) :: LT)) (ht : At w0 1 0 (dbTab.map b8)) (h32 : S32 p) (hl : p.length = n) (hleaf : leaf.length = 32) (hsz : sz < 63) (htz : tzN (sz + 1) ≤ n) (hn : n ≤ 100) :
    Ret Tryd.prog 11 [pt bf 0, .agg (leaf.map b8).toArray] w (fun v w' => ∃ m a' c', v = vi 0 ∧ m = (mergeN (tzN (sz + 1)) (p ++ [leaf])).length ∧ m ≤ c' ∧ St w0 [] w' (.blk bf (cl [vi (sz + 1), .slice a' m c'] 47) :: .row (.slice a' m c') 29 32 m ((mergeN (tzN (sz + 1)) (p ++ [leaf])).flatten.map b8) :: LT)) := by
  refine enter Tryd.func11 rfl Tryd.ntmps11 rfl ?_
  have hS := hS0
  refine c_seq ?_; refine c_region ?_; refine wl_exv (x_box hS (v := .agg _) rfl rfl) rfl ?_; rintro _ w1 ⟨b3, rfl, hS2⟩; refine wl_val (r_assign (v := .int .i64 0) rfl) rfl ?_; refine wl_nil ?_; refine c_then ?_; refine c_seq ?_; refine c_seq ?_; refine c_region ?_; refine wl_val (r_move (v := .pointer _) rfl) rfl ?_; refine wl_val (r_nilCheck rfl) rfl ?_; refine wl_val (r_field fa47_0 rfl) rfl ?_; refine wl_val (r_loadB1 ti3.und rfl rfl (hS2.heap (.tail _ (.head _))) rfl) rfl ?_
  refine wl_dec (r_geq rfl rfl) rfl (fun h1_4 => ?_) (fun h1_4 => ?_)
  · refine wl_nil ?_
    refine c_then ?_; refine c_true rfl ?_; refine c_seq ?_; refine c_region ?_; refine wl_val (r_assign (v := .int .i64 5) rfl) rfl ?_; refine wl_nil ?_; refine c_then ?_; refine wp_ret ?_; refine c_thenR ?_; refine ret1 Tryd.results11 ?_
    exfalso; omega
  refine wl_nil ?_; refine c_then ?_; refine c_false rfl ?_; refine wp_skip ?_; refine c_then ?_; refine c_seq ?_; refine c_region ?_; refine wl_val (r_move (v := .pointer _) rfl) rfl ?_; refine wl_val (r_nilCheck rfl) rfl ?_; refine wl_val (r_field fa47_0 rfl) rfl ?_; refine wl_val (r_loadB1 ti3.und rfl rfl (hS2.heap (.tail _ (.head _))) rfl) rfl ?_; refine wl_val (r_addn (b := 1) rfl rfl (by omega)) rfl ?_; refine wl_val (r_nilCheck rfl) rfl ?_; refine wl_val (r_field fa47_0 rfl) rfl ?_; refine wl_exs (x_store1 [_] hS2 ti3 rfl rfl rfl (by simp)) rfl ?_; intro w3 hS4; simp only [List.cons_append, List.nil_append] at hS4; refine wl_nil ?_; refine c_then ?_; refine c_seq ?_; refine c_drawSF 8 hMixed hS4 (hS4.perm ((List.Perm.cons _ (List.Perm.refl _)).trans (List.perm_middle (l₁ := [_, _])).symm)).drop1 ?_; intro w5 hS6; refine g_take 0 rfl (by decide +kernel) rfl (fun _ _ _ h => h) (hS6.perm ((List.Perm.cons _ (List.Perm.refl _)).trans (List.perm_middle (l₁ := [_, _])).symm)).drop1 (fun wF hF => r_move (v := .pointer _) rfl) ?_; refine g_take 1 rfl (by decide +kernel) rfl (fun _ _ _ h => h) (hS6.perm ((List.Perm.cons _ (List.Perm.refl _)).trans (List.perm_middle (l₁ := [_, _])).symm)).drop1 (fun wF hF => r_move (v := .pointer _) rfl) ?_; refine g_take 2 rfl (by decide +kernel) rfl (fun _ _ _ h => h) (hS6.perm ((List.Perm.cons _ (List.Perm.refl _)).trans (List.perm_middle (l₁ := [_, _])).symm)).drop1 (fun wF hF => r_nilCheck rfl) ?_; refine g_take 3 rfl (by decide +kernel) rfl (fun _ _ _ h => h) (hS6.perm ((List.Perm.cons _ (List.Perm.refl _)).trans (List.perm_middle (l₁ := [_, _])).symm)).drop1 (fun wF hF => r_field fa47_1 rfl) ?_
  refine g_take 4 rfl (by decide +kernel) rfl (fun _ _ _ h => h) (hS6.perm ((List.Perm.cons _ (List.Perm.refl _)).trans (List.perm_middle (l₁ := [_, _])).symm)).drop1 (fun wF hF => r_loadB1 ti24.und rfl rfl (hF.heap (.tail _ (.head _))) rfl) ?_; refine g_take 5 rfl (by decide +kernel) rfl (fun _ _ _ h => h) (hS6.perm ((List.Perm.cons _ (List.Perm.refl _)).trans (List.perm_middle (l₁ := [_, _])).symm)).drop1 (fun wF hF => r_loadB ti29 rfl rfl (hF.heap (.head _)) (by first | (simp [*]; done) | (simp [*] <;> omega) | omega)) ?_; refine g_one 6 (by decide +kernel) (by decide +kernel) ?_; refine o_exv rfl (x_litA1 hS6 ti24.und ti29 rfl (by first | (simp [*]; done) | (simp [*] <;> omega) | omega) rfl (by decide) (by decide)) rfl ?_; rintro _ w7 ⟨b24, rfl, hS8⟩
  refine ⟨(hS8.perm (List.Perm.cons _ ((List.Perm.cons _ (List.Perm.refl _)).trans (List.perm_middle (l₁ := [_, _])).symm))).drop1.drop1, ?_⟩
  refine g_one 7 (by decide +kernel) (by decide +kernel) ?_; refine o_exv rfl (x_append [_, _, _] hS8 ti24.und ti29 rfl (by decide) rfl rfl (Row.of_at (at_all (hS8.heap (.head _)))) (by first | (simp [*]; done) | (simp [*] <;> omega) | omega) (by first | exact one_b8 _ | exact one_v32 _ | (intro c hc; simp only [List.mem_cons, List.not_mem_nil, or_false] at hc; (first | subst hc | rcases hc with rfl | rfl) <;> rfl)) (by first | omega | (simp [*]; done) | (simp [*] <;> omega)) (by first | omega | (simp [*]; done) | (simp [*] <;> omega)) _ rfl) rfl ?_; rintro _ w9 ⟨aq11, cq11, rfl, hcq11, hS10⟩; simp only [List.cons_append, List.nil_append] at hS10
  refine ⟨(hS10.perm (List.Perm.cons _ ((List.Perm.cons _ (List.Perm.refl _)).trans (List.perm_middle (l₁ := [_, _])).symm))).drop1.drop1, ?_⟩
  refine g_tail (by decide +kernel) rfl (by decide +kernel) ?_; refine wl_val (r_nilCheck rfl) rfl ?_; refine wl_val (r_field fa47_1 rfl) rfl ?_; refine wl_exs (x_store1 [_, _] hS10 ti24 rfl rfl rfl (by simp)) rfl ?_; intro w12 hS13; simp only [List.cons_append, List.nil_append] at hS13; refine wl_nil ?_; refine c_then ?_; refine c_seq ?_; refine c_seq ?_; refine c_region ?_; refine wl_val (r_move (v := .pointer _) rfl) rfl ?_; refine wl_val (r_nilCheck rfl) rfl ?_; refine wl_val (r_field fa47_0 rfl) rfl ?_; refine wl_val (r_loadB1 ti3.und rfl rfl (hS13.heap (.tail _ (.tail _ (.head _)))) rfl) rfl ?_; refine wl_val (c_i64_u64 ti50.und ⟨_, ti3.und⟩ rfl (by omega)) rfl ?_; refine wl_call (r_call fn22 rfl rfl) rfl (tz_ok (UInt64.ofNat (sz + 1)) (sz + 1) _ rfl (by omega) (by omega) (ht.st hS13)) ?_; rintro _ w14 ⟨rfl, hx15⟩
  have hS16 := hS13.ext hx15
  refine wl_val (r_move (v := .int .i64 0) rfl) rfl ?_; refine wl_nil ?_; refine c_then ?_; refine c_block ?_; refine c_loopE [0, 4, 33] (fun d e w' => ∃ (j m : Nat) (a' : Option Addr) (c' : Nat), Kw.look e 34 = vi j ∧ d = tzN (sz + 1) - j ∧ St w0 [] w' (.blk bf (cl [vi (sz + 1), .slice a' m c'] 47) :: .row (.slice a' m c') 29 32 m ((mergeN j (p ++ [leaf])).flatten.map b8) :: .blk b3 (cl (leaf.map b8) 29) :: LT) ∧ (m = (mergeN j (p ++ [leaf])).length) ∧ (j ≤ tzN (sz + 1)) ∧ (m ≤ c')) (tzN (sz + 1) - 0) ?_ ?_
  have hS21 := St.reRow1 (k := n + 1) (zs := (mergeN 0 (p ++ [leaf])).flatten.map b8) (hS16.perm ((List.Perm.cons _ (List.Perm.refl _)).trans (List.perm_middle (l₁ := [_, _, _])).symm)) rfl (by rw [mergeN, flat_snoc, List.map_append])
  · exact ⟨0, n + 1, _, _, rfl, rfl, (hS21.perm ((List.Perm.cons _ ((List.Perm.cons _ (List.Perm.refl _)).trans (List.perm_middle (l₁ := [_, _])).symm)).trans (List.perm_middle (l₁ := [_])).symm)).drop1, by rw [mergeN, List.length_append, hl]; rfl, Nat.zero_le _, hcq11⟩
  · rintro d20 e17 w18 ⟨j, m, a', c', hc0_34, rfl, hS19, hm, hj, hcm⟩ -
    refine c_set (d := 34) hc0_34 ?_; refine c_seq ?_; refine c_region ?_
    refine wl_dec (r_lss rfl rfl) rfl (fun h6_0 => ?_) (fun h6_0 => ?_)
    · refine wl_nil ?_
      refine c_then ?_; refine c_seq ?_; refine c_true rfl ?_; refine wp_skip ?_; refine c_then ?_; refine c_seq ?_; refine c_block ?_; refine c_seq ?_
      have hmj := mergeN_len j (p ++ [leaf]) (by rw [List.length_append, hl]; show j + 1 ≤ n + 1; omega)
      rw [List.length_append, hl] at hmj
      have hmj2 : m = n + 1 - j := hm.trans hmj
      have hQ : S32 (mergeN j (p ++ [leaf])) := mergeN_32 j (h32.app (S32.one hleaf))
      refine c_region ?_; refine wl_val (r_move (v := .pointer _) rfl) rfl ?_; refine wl_val (r_nilCheck rfl) rfl ?_; refine wl_val (r_field fa47_1 rfl) rfl ?_; refine wl_val (r_loadB1 ti24.und rfl rfl (hS19.heap (.head _)) rfl) rfl ?_; refine wl_val (r_len (T := 24) rfl ti24.und rfl _ rfl) rfl ?_; refine wl_val (r_assign (v := .int .i64 _) rfl) rfl ?_; refine wl_nil ?_; refine c_then ?_; refine c_drawSF 27 hMixed hS19 (hS19.perm ((List.Perm.cons _ (List.Perm.refl _)).trans (List.perm_middle (l₁ := [_])).symm)).drop1 ?_; intro w22 hS23; refine g_take 0 rfl (by decide +kernel) rfl (fun _ _ _ h => h) (hS23.perm ((List.Perm.cons _ (List.Perm.refl _)).trans (List.perm_middle (l₁ := [_])).symm)).drop1 (fun wF hF => r_move (v := .pointer _) rfl) ?_; refine g_take 1 rfl (by decide +kernel) rfl (fun _ _ _ h => h) (hS23.perm ((List.Perm.cons _ (List.Perm.refl _)).trans (List.perm_middle (l₁ := [_])).symm)).drop1 (fun wF hF => r_move (v := .pointer _) rfl) ?_; refine g_take 2 rfl (by decide +kernel) rfl (fun _ _ _ h => h) (hS23.perm ((List.Perm.cons _ (List.Perm.refl _)).trans (List.perm_middle (l₁ := [_])).symm)).drop1 (fun wF hF => r_nilCheck rfl) ?_; refine g_take 3 rfl (by decide +kernel) rfl (fun _ _ _ h => h) (hS23.perm ((List.Perm.cons _ (List.Perm.refl _)).trans (List.perm_middle (l₁ := [_])).symm)).drop1 (fun wF hF => r_field fa47_1 rfl) ?_; refine g_take 4 rfl (by decide +kernel) rfl (fun _ _ _ h => h) (hS23.perm ((List.Perm.cons _ (List.Perm.refl _)).trans (List.perm_middle (l₁ := [_])).symm)).drop1 (fun wF hF => r_loadB1 ti24.und rfl rfl (hF.heap (.head _)) rfl) ?_
      refine g_take 5 rfl (by decide +kernel) rfl (fun _ _ _ h => h) (hS23.perm ((List.Perm.cons _ (List.Perm.refl _)).trans (List.perm_middle (l₁ := [_])).symm)).drop1 (fun wF hF => r_move (v := .int .i64 _) rfl) ?_; refine g_take 6 rfl (by decide +kernel) rfl (fun _ _ _ h => h) (hS23.perm ((List.Perm.cons _ (List.Perm.refl _)).trans (List.perm_middle (l₁ := [_])).symm)).drop1 (fun wF hF => r_subn (b := 2) rfl rfl (by omega) (by omega)) ?_; refine g_take 7 rfl (by decide +kernel) rfl (fun _ _ _ h => h) (hS23.perm ((List.Perm.cons _ (List.Perm.refl _)).trans (List.perm_middle (l₁ := [_])).symm)).drop1 (fun wF hF => r_sl_h ti24.und ti29 rfl rfl (by first | (simp [*]; done) | (simp [*] <;> omega) | omega)) ?_; refine g_take 8 rfl (by decide +kernel) rfl (fun _ _ _ h => h) (hS23.perm ((List.Perm.cons _ (List.Perm.refl _)).trans (List.perm_middle (l₁ := [_])).symm)).drop1 (fun wF hF => r_move (v := .pointer _) rfl) ?_; refine g_take 9 rfl (by decide +kernel) rfl (fun _ _ _ h => h) (hS23.perm ((List.Perm.cons _ (List.Perm.refl _)).trans (List.perm_middle (l₁ := [_])).symm)).drop1 (fun wF hF => r_nilCheck rfl) ?_; refine g_take 10 rfl (by decide +kernel) rfl (fun _ _ _ h => h) (hS23.perm ((List.Perm.cons _ (List.Perm.refl _)).trans (List.perm_middle (l₁ := [_])).symm)).drop1 (fun wF hF => r_field fa47_1 rfl) ?_; refine g_take 11 rfl (by decide +kernel) rfl (fun _ _ _ h => h) (hS23.perm ((List.Perm.cons _ (List.Perm.refl _)).trans (List.perm_middle (l₁ := [_])).symm)).drop1 (fun wF hF => r_loadB1 ti24.und rfl rfl (hF.heap (.head _)) rfl) ?_
      refine g_take 12 rfl (by decide +kernel) rfl (fun _ _ _ h => h) (hS23.perm ((List.Perm.cons _ (List.Perm.refl _)).trans (List.perm_middle (l₁ := [_])).symm)).drop1 (fun wF hF => r_move (v := .int .i64 _) rfl) ?_; refine g_take 13 rfl (by decide +kernel) rfl (fun _ _ _ h => h) (hS23.perm ((List.Perm.cons _ (List.Perm.refl _)).trans (List.perm_middle (l₁ := [_])).symm)).drop1 (fun wF hF => r_subn (b := 2) rfl rfl (by omega) (by omega)) ?_; refine g_take 16 rfl (by decide +kernel) rfl (fun _ _ _ h => h) (hS23.perm ((List.Perm.cons _ (List.Perm.refl _)).trans (List.perm_middle (l₁ := [_])).symm)).drop1 (fun wF hF => r_move (v := .pointer _) rfl) ?_; refine g_take 17 rfl (by decide +kernel) rfl (fun _ _ _ h => h) (hS23.perm ((List.Perm.cons _ (List.Perm.refl _)).trans (List.perm_middle (l₁ := [_])).symm)).drop1 (fun wF hF => r_nilCheck rfl) ?_; refine g_take 18 rfl (by decide +kernel) rfl (fun _ _ _ h => h) (hS23.perm ((List.Perm.cons _ (List.Perm.refl _)).trans (List.perm_middle (l₁ := [_])).symm)).drop1 (fun wF hF => r_field fa47_1 rfl) ?_; refine g_take 19 rfl (by decide +kernel) rfl (fun _ _ _ h => h) (hS23.perm ((List.Perm.cons _ (List.Perm.refl _)).trans (List.perm_middle (l₁ := [_])).symm)).drop1 (fun wF hF => r_loadB1 ti24.und rfl rfl (hF.heap (.head _)) rfl) ?_; refine g_take 20 rfl (by decide +kernel) rfl (fun _ _ _ h => h) (hS23.perm ((List.Perm.cons _ (List.Perm.refl _)).trans (List.perm_middle (l₁ := [_])).symm)).drop1 (fun wF hF => r_move (v := .int .i64 _) rfl) ?_
      refine g_take 21 rfl (by decide +kernel) rfl (fun _ _ _ h => h) (hS23.perm ((List.Perm.cons _ (List.Perm.refl _)).trans (List.perm_middle (l₁ := [_])).symm)).drop1 (fun wF hF => r_subn (b := 1) rfl rfl (by omega) (by omega)) ?_; refine g_all (rs := [14, 22]) (by decide +kernel) (by decide +kernel) rfl ?_
      simp only [List.forall_mem_cons, List.not_mem_nil, false_imp_iff, implies_true, and_true]
      refine ⟨?_, ?_⟩
      · refine o_val rfl (r_ix32 ti24.und ti29 rfl rfl (St.rowAt hS23 (.tail _ (.head _))) hQ (by first | (simp [*]; done) | (simp [*] <;> omega) | omega) (by first | omega | (simp [*]; done) | (simp [*] <;> omega))) rfl ?_
        refine ⟨(hS23.perm ((List.Perm.cons _ (List.Perm.refl _)).trans (List.perm_middle (l₁ := [_])).symm)).drop1, ?_⟩
        refine g_all (rs := [15, 22]) (by decide +kernel) (by decide +kernel) rfl ?_
        simp only [List.forall_mem_cons, List.not_mem_nil, false_imp_iff, implies_true, and_true]
        refine ⟨?_, ?_⟩
        · refine o_val rfl (r_load32 ti29 rfl rfl (St.rowAt hS23 (.tail _ (.head _))) hQ (by first | omega | (simp [*]; done) | (simp [*] <;> omega))) rfl ?_
          refine ⟨(hS23.perm ((List.Perm.cons _ (List.Perm.refl _)).trans (List.perm_middle (l₁ := [_])).symm)).drop1, ?_⟩
          refine g_one 22 (by decide +kernel) (by decide +kernel) ?_; refine o_val rfl (r_ix32 ti24.und ti29 rfl rfl (St.rowAt hS23 (.tail _ (.head _))) hQ (by first | (simp [*]; done) | (simp [*] <;> omega) | omega) (by first | omega | (simp [*]; done) | (simp [*] <;> omega))) rfl ?_
          refine ⟨(hS23.perm ((List.Perm.cons _ (List.Perm.refl _)).trans (List.perm_middle (l₁ := [_])).symm)).drop1, ?_⟩
          refine g_one 23 (by decide +kernel) (by decide +kernel) ?_; refine o_val rfl (r_load32 ti29 rfl rfl (St.rowAt hS23 (.tail _ (.head _))) hQ (by first | omega | (simp [*]; done) | (simp [*] <;> omega))) rfl ?_
          refine ⟨(hS23.perm ((List.Perm.cons _ (List.Perm.refl _)).trans (List.perm_middle (l₁ := [_])).symm)).drop1, ?_⟩
          refine g_one 24 (by decide +kernel) (by decide +kernel) ?_; refine o_call rfl (r_call fn19 rfl rfl) rfl (node_ok _ _ _ (hQ.gt (by omega)) (hQ.gt (by omega))) ?_; rintro _ w24 ⟨rfl, hx25⟩
          have hS26 := hS23.ext hx25
          refine ⟨(hS26.perm ((List.Perm.cons _ (List.Perm.refl _)).trans (List.perm_middle (l₁ := [_])).symm)).drop1, ?_⟩
          refine g_one 25 (by decide +kernel) (by decide +kernel) ?_; refine o_exv rfl (x_litA1 hS26 ti24.und ti29 rfl (by first | (simp [*]; done) | (simp [*] <;> omega) | omega) rfl (by decide) (by decide)) rfl ?_; rintro _ w27 ⟨b66, rfl, hS28⟩
          refine ⟨(hS28.perm (List.Perm.cons _ ((List.Perm.cons _ (List.Perm.refl _)).trans (List.perm_middle (l₁ := [_])).symm))).drop1.drop1, ?_⟩
          refine g_one 26 (by decide +kernel) (by decide +kernel) ?_
          have hS30 := St.rowCut (l1 := [_, _]) (h := m - 2) hS28 (by omega)
          simp only [List.cons_append, List.nil_append] at hS30
          rw [flat32_takeV hQ (m - 2)] at hS30
          refine o_exv rfl (x_append [_, _] hS30 ti24.und ti29 rfl (by decide) rfl rfl (Row.of_at (at_all (hS30.heap (.head _)))) (by rw [List.length_map, nodeL_len]) (one_b8 _) (by omega) (by omega) _ rfl) rfl ?_; rintro _ w29 ⟨aq33, cq33, rfl, hcq33, hS31⟩; simp only [List.cons_append, List.nil_append] at hS31
          refine ⟨(hS31.perm (List.Perm.cons _ ((List.Perm.cons _ (List.Perm.refl _)).trans (List.perm_middle (l₁ := [_])).symm))).drop1.drop1, ?_⟩
          refine g_tail (by decide +kernel) rfl (by decide +kernel) ?_; refine wl_val (r_nilCheck rfl) rfl ?_; refine wl_val (r_field fa47_1 rfl) rfl ?_; refine wl_exs (x_store1 [_] hS31 ti24 rfl rfl rfl (by simp)) rfl ?_; intro w34 hS35; simp only [List.cons_append, List.nil_append] at hS35; refine wl_nil ?_; refine c_inN ?_; refine c_then ?_; refine c_region ?_; refine wl_val (r_addn (b := 1) rfl rfl (by omega)) rfl ?_; refine wl_val (r_move (v := .int .i64 _) rfl) rfl ?_; refine wl_nil ?_; refine c_then ?_
          have eQ : (mergeN (j + 1) (p ++ [leaf])).flatten.map b8 = (((mergeN j (p ++ [leaf])).take (m - 2)).flatten.map b8) ++ (nodeL (gt (mergeN j (p ++ [leaf])) (m - 2)) (gt (mergeN j (p ++ [leaf])) (m - 1))).map b8 := by rw [mergeN, merge1, ← hm, flat_snoc, List.map_append]
          have hm1 := mergeN_len (j + 1) (p ++ [leaf]) (by rw [List.length_append, hl]; show j + 1 + 1 ≤ n + 1; omega)
          rw [List.length_append, hl] at hm1
          have hS36 := St.reRow1 (k := m - 2 + 1) (zs := (mergeN (j + 1) (p ++ [leaf])).flatten.map b8) (hS35.perm ((List.Perm.cons _ (List.Perm.refl _)).trans (List.perm_middle (l₁ := [_, _])).symm)) rfl eQ.symm
          exact ⟨tzN (sz + 1) - (j + 1), _, by omega, rfl, ⟨j + 1, m - 2 + 1, _, _, rfl, rfl, (hS36.perm ((List.Perm.cons _ ((List.Perm.cons _ (List.Perm.refl _)).trans (List.perm_middle (l₁ := [_])).symm)).trans (List.perm_middle (l₁ := [_])).symm)).drop1, by rw [hm1]; simp only [List.length_cons, List.length_nil]; omega, by omega, by omega⟩, ⟨rfl, rfl, rfl, trivial⟩⟩
        · refine o_val rfl (r_ix32 ti24.und ti29 rfl rfl (St.rowAt hS23 (.tail _ (.head _))) hQ (by first | (simp [*]; done) | (simp [*] <;> omega) | omega) (by first | omega | (simp [*]; done) | (simp [*] <;> omega))) rfl ?_
          refine ⟨(hS23.perm ((List.Perm.cons _ (List.Perm.refl _)).trans (List.perm_middle (l₁ := [_])).symm)).drop1, ?_⟩
          refine g_all (rs := [15, 23]) (by decide +kernel) (by decide +kernel) rfl ?_
          simp only [List.forall_mem_cons, List.not_mem_nil, false_imp_iff, implies_true, and_true]
          refine ⟨?_, ?_⟩
          · refine o_val rfl (r_load32 ti29 rfl rfl (St.rowAt hS23 (.tail _ (.head _))) hQ (by first | omega | (simp [*]; done) | (simp [*] <;> omega))) rfl ?_
            refine ⟨(hS23.perm ((List.Perm.cons _ (List.Perm.refl _)).trans (List.perm_middle (l₁ := [_])).symm)).drop1, ?_⟩
            refine g_one 23 (by decide +kernel) (by decide +kernel) ?_; refine o_val rfl (r_load32 ti29 rfl rfl (St.rowAt hS23 (.tail _ (.head _))) hQ (by first | omega | (simp [*]; done) | (simp [*] <;> omega))) rfl ?_
            refine ⟨(hS23.perm ((List.Perm.cons _ (List.Perm.refl _)).trans (List.perm_middle (l₁ := [_])).symm)).drop1, ?_⟩
            refine g_one 24 (by decide +kernel) (by decide +kernel) ?_; refine o_call rfl (r_call fn19 rfl rfl) rfl (node_ok _ _ _ (hQ.gt (by omega)) (hQ.gt (by omega))) ?_; rintro _ w37 ⟨rfl, hx38⟩
            have hS39 := hS23.ext hx38
            refine ⟨(hS39.perm ((List.Perm.cons _ (List.Perm.refl _)).trans (List.perm_middle (l₁ := [_])).symm)).drop1, ?_⟩
            refine g_one 25 (by decide +kernel) (by decide +kernel) ?_; refine o_exv rfl (x_litA1 hS39 ti24.und ti29 rfl (by first | (simp [*]; done) | (simp [*] <;> omega) | omega) rfl (by decide) (by decide)) rfl ?_; rintro _ w40 ⟨b66, rfl, hS41⟩
            refine ⟨(hS41.perm (List.Perm.cons _ ((List.Perm.cons _ (List.Perm.refl _)).trans (List.perm_middle (l₁ := [_])).symm))).drop1.drop1, ?_⟩
            refine g_one 26 (by decide +kernel) (by decide +kernel) ?_
            have hS43 := St.rowCut (l1 := [_, _]) (h := m - 2) hS41 (by omega)
            simp only [List.cons_append, List.nil_append] at hS43
            rw [flat32_takeV hQ (m - 2)] at hS43
            refine o_exv rfl (x_append [_, _] hS43 ti24.und ti29 rfl (by decide) rfl rfl (Row.of_at (at_all (hS43.heap (.head _)))) (by rw [List.length_map, nodeL_len]) (one_b8 _) (by omega) (by omega) _ rfl) rfl ?_; rintro _ w42 ⟨aq46, cq46, rfl, hcq46, hS44⟩; simp only [List.cons_append, List.nil_append] at hS44
            refine ⟨(hS44.perm (List.Perm.cons _ ((List.Perm.cons _ (List.Perm.refl _)).trans (List.perm_middle (l₁ := [_])).symm))).drop1.drop1, ?_⟩
            refine g_tail (by decide +kernel) rfl (by decide +kernel) ?_; refine wl_val (r_nilCheck rfl) rfl ?_; refine wl_val (r_field fa47_1 rfl) rfl ?_; refine wl_exs (x_store1 [_] hS44 ti24 rfl rfl rfl (by simp)) rfl ?_; intro w47 hS48; simp only [List.cons_append, List.nil_append] at hS48; refine wl_nil ?_; refine c_inN ?_; refine c_then ?_; refine c_region ?_; refine wl_val (r_addn (b := 1) rfl rfl (by omega)) rfl ?_; refine wl_val (r_move (v := .int .i64 _) rfl) rfl ?_; refine wl_nil ?_; refine c_then ?_
            have eQ : (mergeN (j + 1) (p ++ [leaf])).flatten.map b8 = (((mergeN j (p ++ [leaf])).take (m - 2)).flatten.map b8) ++ (nodeL (gt (mergeN j (p ++ [leaf])) (m - 2)) (gt (mergeN j (p ++ [leaf])) (m - 1))).map b8 := by rw [mergeN, merge1, ← hm, flat_snoc, List.map_append]
            have hm1 := mergeN_len (j + 1) (p ++ [leaf]) (by rw [List.length_append, hl]; show j + 1 + 1 ≤ n + 1; omega)
            rw [List.length_append, hl] at hm1
            have hS49 := St.reRow1 (k := m - 2 + 1) (zs := (mergeN (j + 1) (p ++ [leaf])).flatten.map b8) (hS48.perm ((List.Perm.cons _ (List.Perm.refl _)).trans (List.perm_middle (l₁ := [_, _])).symm)) rfl eQ.symm
            exact ⟨tzN (sz + 1) - (j + 1), _, by omega, rfl, ⟨j + 1, m - 2 + 1, _, _, rfl, rfl, (hS49.perm ((List.Perm.cons _ ((List.Perm.cons _ (List.Perm.refl _)).trans (List.perm_middle (l₁ := [_])).symm)).trans (List.perm_middle (l₁ := [_])).symm)).drop1, by rw [hm1]; simp only [List.length_cons, List.length_nil]; omega, by omega, by omega⟩, ⟨rfl, rfl, rfl, trivial⟩⟩
          · refine o_val rfl (r_load32 ti29 rfl rfl (St.rowAt hS23 (.tail _ (.head _))) hQ (by first | omega | (simp [*]; done) | (simp [*] <;> omega))) rfl ?_
            refine ⟨(hS23.perm ((List.Perm.cons _ (List.Perm.refl _)).trans (List.perm_middle (l₁ := [_])).symm)).drop1, ?_⟩
            refine g_one 15 (by decide +kernel) (by decide +kernel) ?_; refine o_val rfl (r_load32 ti29 rfl rfl (St.rowAt hS23 (.tail _ (.head _))) hQ (by first | omega | (simp [*]; done) | (simp [*] <;> omega))) rfl ?_
            refine ⟨(hS23.perm ((List.Perm.cons _ (List.Perm.refl _)).trans (List.perm_middle (l₁ := [_])).symm)).drop1, ?_⟩
            refine g_one 24 (by decide +kernel) (by decide +kernel) ?_; refine o_call rfl (r_call fn19 rfl rfl) rfl (node_ok _ _ _ (hQ.gt (by omega)) (hQ.gt (by omega))) ?_; rintro _ w50 ⟨rfl, hx51⟩
            have hS52 := hS23.ext hx51
            refine ⟨(hS52.perm ((List.Perm.cons _ (List.Perm.refl _)).trans (List.perm_middle (l₁ := [_])).symm)).drop1, ?_⟩
            refine g_one 25 (by decide +kernel) (by decide +kernel) ?_; refine o_exv rfl (x_litA1 hS52 ti24.und ti29 rfl (by first | (simp [*]; done) | (simp [*] <;> omega) | omega) rfl (by decide) (by decide)) rfl ?_; rintro _ w53 ⟨b66, rfl, hS54⟩
            refine ⟨(hS54.perm (List.Perm.cons _ ((List.Perm.cons _ (List.Perm.refl _)).trans (List.perm_middle (l₁ := [_])).symm))).drop1.drop1, ?_⟩
            refine g_one 26 (by decide +kernel) (by decide +kernel) ?_
            have hS56 := St.rowCut (l1 := [_, _]) (h := m - 2) hS54 (by omega)
            simp only [List.cons_append, List.nil_append] at hS56
            rw [flat32_takeV hQ (m - 2)] at hS56
            refine o_exv rfl (x_append [_, _] hS56 ti24.und ti29 rfl (by decide) rfl rfl (Row.of_at (at_all (hS56.heap (.head _)))) (by rw [List.length_map, nodeL_len]) (one_b8 _) (by omega) (by omega) _ rfl) rfl ?_; rintro _ w55 ⟨aq59, cq59, rfl, hcq59, hS57⟩; simp only [List.cons_append, List.nil_append] at hS57
            refine ⟨(hS57.perm (List.Perm.cons _ ((List.Perm.cons _ (List.Perm.refl _)).trans (List.perm_middle (l₁ := [_])).symm))).drop1.drop1, ?_⟩
            refine g_tail (by decide +kernel) rfl (by decide +kernel) ?_; refine wl_val (r_nilCheck rfl) rfl ?_; refine wl_val (r_field fa47_1 rfl) rfl ?_; refine wl_exs (x_store1 [_] hS57 ti24 rfl rfl rfl (by simp)) rfl ?_; intro w60 hS61; simp only [List.cons_append, List.nil_append] at hS61; refine wl_nil ?_; refine c_inN ?_; refine c_then ?_; refine c_region ?_; refine wl_val (r_addn (b := 1) rfl rfl (by omega)) rfl ?_; refine wl_val (r_move (v := .int .i64 _) rfl) rfl ?_; refine wl_nil ?_; refine c_then ?_
            have eQ : (mergeN (j + 1) (p ++ [leaf])).flatten.map b8 = (((mergeN j (p ++ [leaf])).take (m - 2)).flatten.map b8) ++ (nodeL (gt (mergeN j (p ++ [leaf])) (m - 2)) (gt (mergeN j (p ++ [leaf])) (m - 1))).map b8 := by rw [mergeN, merge1, ← hm, flat_snoc, List.map_append]
            have hm1 := mergeN_len (j + 1) (p ++ [leaf]) (by rw [List.length_append, hl]; show j + 1 + 1 ≤ n + 1; omega)
            rw [List.length_append, hl] at hm1
            have hS62 := St.reRow1 (k := m - 2 + 1) (zs := (mergeN (j + 1) (p ++ [leaf])).flatten.map b8) (hS61.perm ((List.Perm.cons _ (List.Perm.refl _)).trans (List.perm_middle (l₁ := [_, _])).symm)) rfl eQ.symm
            exact ⟨tzN (sz + 1) - (j + 1), _, by omega, rfl, ⟨j + 1, m - 2 + 1, _, _, rfl, rfl, (hS62.perm ((List.Perm.cons _ ((List.Perm.cons _ (List.Perm.refl _)).trans (List.perm_middle (l₁ := [_])).symm)).trans (List.perm_middle (l₁ := [_])).symm)).drop1, by rw [hm1]; simp only [List.length_cons, List.length_nil]; omega, by omega, by omega⟩, ⟨rfl, rfl, rfl, trivial⟩⟩
      · refine o_val rfl (r_ix32 ti24.und ti29 rfl rfl (St.rowAt hS23 (.tail _ (.head _))) hQ (by first | (simp [*]; done) | (simp [*] <;> omega) | omega) (by first | omega | (simp [*]; done) | (simp [*] <;> omega))) rfl ?_
        refine ⟨(hS23.perm ((List.Perm.cons _ (List.Perm.refl _)).trans (List.perm_middle (l₁ := [_])).symm)).drop1, ?_⟩
        refine g_all (rs := [14, 23]) (by decide +kernel) (by decide +kernel) rfl ?_
        simp only [List.forall_mem_cons, List.not_mem_nil, false_imp_iff, implies_true, and_true]
        refine ⟨?_, ?_⟩
        · refine o_val rfl (r_ix32 ti24.und ti29 rfl rfl (St.rowAt hS23 (.tail _ (.head _))) hQ (by first | (simp [*]; done) | (simp [*] <;> omega) | omega) (by first | omega | (simp [*]; done) | (simp [*] <;> omega))) rfl ?_
          refine ⟨(hS23.perm ((List.Perm.cons _ (List.Perm.refl _)).trans (List.perm_middle (l₁ := [_])).symm)).drop1, ?_⟩
          refine g_all (rs := [15, 23]) (by decide +kernel) (by decide +kernel) rfl ?_
          simp only [List.forall_mem_cons, List.not_mem_nil, false_imp_iff, implies_true, and_true]
          refine ⟨?_, ?_⟩
          · refine o_val rfl (r_load32 ti29 rfl rfl (St.rowAt hS23 (.tail _ (.head _))) hQ (by first | omega | (simp [*]; done) | (simp [*] <;> omega))) rfl ?_
            refine ⟨(hS23.perm ((List.Perm.cons _ (List.Perm.refl _)).trans (List.perm_middle (l₁ := [_])).symm)).drop1, ?_⟩
            refine g_one 23 (by decide +kernel) (by decide +kernel) ?_; refine o_val rfl (r_load32 ti29 rfl rfl (St.rowAt hS23 (.tail _ (.head _))) hQ (by first | omega | (simp [*]; done) | (simp [*] <;> omega))) rfl ?_
            refine ⟨(hS23.perm ((List.Perm.cons _ (List.Perm.refl _)).trans (List.perm_middle (l₁ := [_])).symm)).drop1, ?_⟩
            refine g_one 24 (by decide +kernel) (by decide +kernel) ?_; refine o_call rfl (r_call fn19 rfl rfl) rfl (node_ok _ _ _ (hQ.gt (by omega)) (hQ.gt (by omega))) ?_; rintro _ w63 ⟨rfl, hx64⟩
            have hS65 := hS23.ext hx64
            refine ⟨(hS65.perm ((List.Perm.cons _ (List.Perm.refl _)).trans (List.perm_middle (l₁ := [_])).symm)).drop1, ?_⟩
            refine g_one 25 (by decide +kernel) (by decide +kernel) ?_; refine o_exv rfl (x_litA1 hS65 ti24.und ti29 rfl (by first | (simp [*]; done) | (simp [*] <;> omega) | omega) rfl (by decide) (by decide)) rfl ?_; rintro _ w66 ⟨b66, rfl, hS67⟩
            refine ⟨(hS67.perm (List.Perm.cons _ ((List.Perm.cons _ (List.Perm.refl _)).trans (List.perm_middle (l₁ := [_])).symm))).drop1.drop1, ?_⟩
            refine g_one 26 (by decide +kernel) (by decide +kernel) ?_
            have hS69 := St.rowCut (l1 := [_, _]) (h := m - 2) hS67 (by omega)
            simp only [List.cons_append, List.nil_append] at hS69
            rw [flat32_takeV hQ (m - 2)] at hS69
            refine o_exv rfl (x_append [_, _] hS69 ti24.und ti29 rfl (by decide) rfl rfl (Row.of_at (at_all (hS69.heap (.head _)))) (by rw [List.length_map, nodeL_len]) (one_b8 _) (by omega) (by omega) _ rfl) rfl ?_; rintro _ w68 ⟨aq72, cq72, rfl, hcq72, hS70⟩; simp only [List.cons_append, List.nil_append] at hS70
            refine ⟨(hS70.perm (List.Perm.cons _ ((List.Perm.cons _ (List.Perm.refl _)).trans (List.perm_middle (l₁ := [_])).symm))).drop1.drop1, ?_⟩
            refine g_tail (by decide +kernel) rfl (by decide +kernel) ?_; refine wl_val (r_nilCheck rfl) rfl ?_; refine wl_val (r_field fa47_1 rfl) rfl ?_; refine wl_exs (x_store1 [_] hS70 ti24 rfl rfl rfl (by simp)) rfl ?_; intro w73 hS74; simp only [List.cons_append, List.nil_append] at hS74; refine wl_nil ?_; refine c_inN ?_; refine c_then ?_; refine c_region ?_; refine wl_val (r_addn (b := 1) rfl rfl (by omega)) rfl ?_; refine wl_val (r_move (v := .int .i64 _) rfl) rfl ?_; refine wl_nil ?_; refine c_then ?_
            have eQ : (mergeN (j + 1) (p ++ [leaf])).flatten.map b8 = (((mergeN j (p ++ [leaf])).take (m - 2)).flatten.map b8) ++ (nodeL (gt (mergeN j (p ++ [leaf])) (m - 2)) (gt (mergeN j (p ++ [leaf])) (m - 1))).map b8 := by rw [mergeN, merge1, ← hm, flat_snoc, List.map_append]
            have hm1 := mergeN_len (j + 1) (p ++ [leaf]) (by rw [List.length_append, hl]; show j + 1 + 1 ≤ n + 1; omega)
            rw [List.length_append, hl] at hm1
            have hS75 := St.reRow1 (k := m - 2 + 1) (zs := (mergeN (j + 1) (p ++ [leaf])).flatten.map b8) (hS74.perm ((List.Perm.cons _ (List.Perm.refl _)).trans (List.perm_middle (l₁ := [_, _])).symm)) rfl eQ.symm
            exact ⟨tzN (sz + 1) - (j + 1), _, by omega, rfl, ⟨j + 1, m - 2 + 1, _, _, rfl, rfl, (hS75.perm ((List.Perm.cons _ ((List.Perm.cons _ (List.Perm.refl _)).trans (List.perm_middle (l₁ := [_])).symm)).trans (List.perm_middle (l₁ := [_])).symm)).drop1, by rw [hm1]; simp only [List.length_cons, List.length_nil]; omega, by omega, by omega⟩, ⟨rfl, rfl, rfl, trivial⟩⟩
          · refine o_val rfl (r_load32 ti29 rfl rfl (St.rowAt hS23 (.tail _ (.head _))) hQ (by first | omega | (simp [*]; done) | (simp [*] <;> omega))) rfl ?_
            refine ⟨(hS23.perm ((List.Perm.cons _ (List.Perm.refl _)).trans (List.perm_middle (l₁ := [_])).symm)).drop1, ?_⟩
            refine g_one 15 (by decide +kernel) (by decide +kernel) ?_; refine o_val rfl (r_load32 ti29 rfl rfl (St.rowAt hS23 (.tail _ (.head _))) hQ (by first | omega | (simp [*]; done) | (simp [*] <;> omega))) rfl ?_
            refine ⟨(hS23.perm ((List.Perm.cons _ (List.Perm.refl _)).trans (List.perm_middle (l₁ := [_])).symm)).drop1, ?_⟩
            refine g_one 24 (by decide +kernel) (by decide +kernel) ?_; refine o_call rfl (r_call fn19 rfl rfl) rfl (node_ok _ _ _ (hQ.gt (by omega)) (hQ.gt (by omega))) ?_; rintro _ w76 ⟨rfl, hx77⟩
            have hS78 := hS23.ext hx77
            refine ⟨(hS78.perm ((List.Perm.cons _ (List.Perm.refl _)).trans (List.perm_middle (l₁ := [_])).symm)).drop1, ?_⟩
            refine g_one 25 (by decide +kernel) (by decide +kernel) ?_; refine o_exv rfl (x_litA1 hS78 ti24.und ti29 rfl (by first | (simp [*]; done) | (simp [*] <;> omega) | omega) rfl (by decide) (by decide)) rfl ?_; rintro _ w79 ⟨b66, rfl, hS80⟩
            refine ⟨(hS80.perm (List.Perm.cons _ ((List.Perm.cons _ (List.Perm.refl _)).trans (List.perm_middle (l₁ := [_])).symm))).drop1.drop1, ?_⟩
            refine g_one 26 (by decide +kernel) (by decide +kernel) ?_
            have hS82 := St.rowCut (l1 := [_, _]) (h := m - 2) hS80 (by omega)
            simp only [List.cons_append, List.nil_append] at hS82
            rw [flat32_takeV hQ (m - 2)] at hS82
            refine o_exv rfl (x_append [_, _] hS82 ti24.und ti29 rfl (by decide) rfl rfl (Row.of_at (at_all (hS82.heap (.head _)))) (by rw [List.length_map, nodeL_len]) (one_b8 _) (by omega) (by omega) _ rfl) rfl ?_; rintro _ w81 ⟨aq85, cq85, rfl, hcq85, hS83⟩; simp only [List.cons_append, List.nil_append] at hS83
            refine ⟨(hS83.perm (List.Perm.cons _ ((List.Perm.cons _ (List.Perm.refl _)).trans (List.perm_middle (l₁ := [_])).symm))).drop1.drop1, ?_⟩
            refine g_tail (by decide +kernel) rfl (by decide +kernel) ?_; refine wl_val (r_nilCheck rfl) rfl ?_; refine wl_val (r_field fa47_1 rfl) rfl ?_; refine wl_exs (x_store1 [_] hS83 ti24 rfl rfl rfl (by simp)) rfl ?_; intro w86 hS87; simp only [List.cons_append, List.nil_append] at hS87; refine wl_nil ?_; refine c_inN ?_; refine c_then ?_; refine c_region ?_; refine wl_val (r_addn (b := 1) rfl rfl (by omega)) rfl ?_; refine wl_val (r_move (v := .int .i64 _) rfl) rfl ?_; refine wl_nil ?_; refine c_then ?_
            have eQ : (mergeN (j + 1) (p ++ [leaf])).flatten.map b8 = (((mergeN j (p ++ [leaf])).take (m - 2)).flatten.map b8) ++ (nodeL (gt (mergeN j (p ++ [leaf])) (m - 2)) (gt (mergeN j (p ++ [leaf])) (m - 1))).map b8 := by rw [mergeN, merge1, ← hm, flat_snoc, List.map_append]
            have hm1 := mergeN_len (j + 1) (p ++ [leaf]) (by rw [List.length_append, hl]; show j + 1 + 1 ≤ n + 1; omega)
            rw [List.length_append, hl] at hm1
            have hS88 := St.reRow1 (k := m - 2 + 1) (zs := (mergeN (j + 1) (p ++ [leaf])).flatten.map b8) (hS87.perm ((List.Perm.cons _ (List.Perm.refl _)).trans (List.perm_middle (l₁ := [_, _])).symm)) rfl eQ.symm
            exact ⟨tzN (sz + 1) - (j + 1), _, by omega, rfl, ⟨j + 1, m - 2 + 1, _, _, rfl, rfl, (hS88.perm ((List.Perm.cons _ ((List.Perm.cons _ (List.Perm.refl _)).trans (List.perm_middle (l₁ := [_])).symm)).trans (List.perm_middle (l₁ := [_])).symm)).drop1, by rw [hm1]; simp only [List.length_cons, List.length_nil]; omega, by omega, by omega⟩, ⟨rfl, rfl, rfl, trivial⟩⟩
        · refine o_val rfl (r_load32 ti29 rfl rfl (St.rowAt hS23 (.tail _ (.head _))) hQ (by first | omega | (simp [*]; done) | (simp [*] <;> omega))) rfl ?_
          refine ⟨(hS23.perm ((List.Perm.cons _ (List.Perm.refl _)).trans (List.perm_middle (l₁ := [_])).symm)).drop1, ?_⟩
          refine g_one 14 (by decide +kernel) (by decide +kernel) ?_; refine o_val rfl (r_ix32 ti24.und ti29 rfl rfl (St.rowAt hS23 (.tail _ (.head _))) hQ (by first | (simp [*]; done) | (simp [*] <;> omega) | omega) (by first | omega | (simp [*]; done) | (simp [*] <;> omega))) rfl ?_
          refine ⟨(hS23.perm ((List.Perm.cons _ (List.Perm.refl _)).trans (List.perm_middle (l₁ := [_])).symm)).drop1, ?_⟩
          refine g_one 15 (by decide +kernel) (by decide +kernel) ?_; refine o_val rfl (r_load32 ti29 rfl rfl (St.rowAt hS23 (.tail _ (.head _))) hQ (by first | omega | (simp [*]; done) | (simp [*] <;> omega))) rfl ?_
          refine ⟨(hS23.perm ((List.Perm.cons _ (List.Perm.refl _)).trans (List.perm_middle (l₁ := [_])).symm)).drop1, ?_⟩
          refine g_one 24 (by decide +kernel) (by decide +kernel) ?_; refine o_call rfl (r_call fn19 rfl rfl) rfl (node_ok _ _ _ (hQ.gt (by omega)) (hQ.gt (by omega))) ?_; rintro _ w89 ⟨rfl, hx90⟩
          have hS91 := hS23.ext hx90
          refine ⟨(hS91.perm ((List.Perm.cons _ (List.Perm.refl _)).trans (List.perm_middle (l₁ := [_])).symm)).drop1, ?_⟩
          refine g_one 25 (by decide +kernel) (by decide +kernel) ?_; refine o_exv rfl (x_litA1 hS91 ti24.und ti29 rfl (by first | (simp [*]; done) | (simp [*] <;> omega) | omega) rfl (by decide) (by decide)) rfl ?_; rintro _ w92 ⟨b66, rfl, hS93⟩
          refine ⟨(hS93.perm (List.Perm.cons _ ((List.Perm.cons _ (List.Perm.refl _)).trans (List.perm_middle (l₁ := [_])).symm))).drop1.drop1, ?_⟩
          refine g_one 26 (by decide +kernel) (by decide +kernel) ?_
          have hS95 := St.rowCut (l1 := [_, _]) (h := m - 2) hS93 (by omega)
          simp only [List.cons_append, List.nil_append] at hS95
          rw [flat32_takeV hQ (m - 2)] at hS95
          refine o_exv rfl (x_append [_, _] hS95 ti24.und ti29 rfl (by decide) rfl rfl (Row.of_at (at_all (hS95.heap (.head _)))) (by rw [List.length_map, nodeL_len]) (one_b8 _) (by omega) (by omega) _ rfl) rfl ?_; rintro _ w94 ⟨aq98, cq98, rfl, hcq98, hS96⟩; simp only [List.cons_append, List.nil_append] at hS96
          refine ⟨(hS96.perm (List.Perm.cons _ ((List.Perm.cons _ (List.Perm.refl _)).trans (List.perm_middle (l₁ := [_])).symm))).drop1.drop1, ?_⟩
          refine g_tail (by decide +kernel) rfl (by decide +kernel) ?_; refine wl_val (r_nilCheck rfl) rfl ?_; refine wl_val (r_field fa47_1 rfl) rfl ?_; refine wl_exs (x_store1 [_] hS96 ti24 rfl rfl rfl (by simp)) rfl ?_; intro w99 hS100; simp only [List.cons_append, List.nil_append] at hS100; refine wl_nil ?_; refine c_inN ?_; refine c_then ?_; refine c_region ?_; refine wl_val (r_addn (b := 1) rfl rfl (by omega)) rfl ?_; refine wl_val (r_move (v := .int .i64 _) rfl) rfl ?_; refine wl_nil ?_; refine c_then ?_
          have eQ : (mergeN (j + 1) (p ++ [leaf])).flatten.map b8 = (((mergeN j (p ++ [leaf])).take (m - 2)).flatten.map b8) ++ (nodeL (gt (mergeN j (p ++ [leaf])) (m - 2)) (gt (mergeN j (p ++ [leaf])) (m - 1))).map b8 := by rw [mergeN, merge1, ← hm, flat_snoc, List.map_append]
          have hm1 := mergeN_len (j + 1) (p ++ [leaf]) (by rw [List.length_append, hl]; show j + 1 + 1 ≤ n + 1; omega)
          rw [List.length_append, hl] at hm1
          have hS101 := St.reRow1 (k := m - 2 + 1) (zs := (mergeN (j + 1) (p ++ [leaf])).flatten.map b8) (hS100.perm ((List.Perm.cons _ (List.Perm.refl _)).trans (List.perm_middle (l₁ := [_, _])).symm)) rfl eQ.symm
          exact ⟨tzN (sz + 1) - (j + 1), _, by omega, rfl, ⟨j + 1, m - 2 + 1, _, _, rfl, rfl, (hS101.perm ((List.Perm.cons _ ((List.Perm.cons _ (List.Perm.refl _)).trans (List.perm_middle (l₁ := [_])).symm)).trans (List.perm_middle (l₁ := [_])).symm)).drop1, by rw [hm1]; simp only [List.length_cons, List.length_nil]; omega, by omega, by omega⟩, ⟨rfl, rfl, rfl, trivial⟩⟩
    refine wl_nil ?_; refine c_then ?_; refine c_seq ?_; refine c_false rfl ?_; refine wp_exit ?_; refine c_thenE ?_; refine c_thenE ?_; refine c_inE ?_; refine c_then ?_; refine c_seq ?_; refine c_region ?_; refine wl_val (r_assign (v := .int .i64 0) rfl) rfl ?_; refine wl_nil ?_; refine c_then ?_; refine wp_ret ?_; refine ret1 Tryd.results11 ?_
    obtain rfl : j = tzN (sz + 1) := by omega
    exact ⟨m, a', c', rfl, hm, hcm, (hS19.perm ((List.Perm.cons _ (List.Perm.refl _)).trans (List.perm_middle (l₁ := [_, _])).symm)).drop1⟩

end Go.Proofs.YtbjjfpaiffckiaaDoor
