/- What the law's proof leans on. No condition. -/
import Derived.Test.YtbanoknkplcedaaPEMAH
import Derived.Test.YtbanoknkplcedaaPEMBL
import Derived.Test.YtbanoknkplcedaaPEMBK
import Derived.Test.YtbanoknkplcedaaPEMBM
namespace Go.Proofs.Ytbanoknkplcedaa
open Go.Kw
set_option linter.unusedVariables false
set_option linter.unusedSimpArgs false
set_option maxRecDepth 100000
theorem rdtake_ok (w0 : World) (LT : List Kw.Item) (r : Nat) (m : Nat) (s : Rd) (a : Option Addr) (c : Nat) (w : World) (hS0 : St w0 [] w (.blk r (cl [.slice a (s).1.length c, .bool (s).2] 71) :: LT)) (hb : Row w0 a (s.1.map b8)) (hc : s.1.length ≤ c) (hn : s.1.length ≤ 140737488351232) (hm : m ≤ 1000000) :
    Ret Try.prog 66 [pt r 0, vi m] w (fun v w' => ∃ b cb a' c', v = .slice b m cb ∧ m ≤ cb ∧ Row w' b ((tk true s m).1.map b8) ∧ Row w0 a' (((tk true s m).2).1.map b8) ∧ ((tk true s m).2).1.length ≤ c' ∧ St w0 [] w' (.blk r (cl [.slice a' ((tk true s m).2).1.length c', .bool ((tk true s m).2).2] 71) :: LT)) := by
  refine enter Try.func66 rfl Try.ntmps66 rfl ?_
  have hS := hS0
  refine c_seq ?_; refine c_region ?_; refine wl_val (r_assign (v := .slice none 0 0) rfl) rfl ?_; refine wl_nil ?_; refine c_then ?_; refine c_seq ?_; refine c_seq ?_; refine c_region ?_; refine wl_val (r_move (v := .pointer _) rfl) rfl ?_; refine wl_val (r_nilCheck rfl) rfl ?_; refine wl_val (r_field fa71_0 rfl) rfl ?_; refine wl_val (r_loadB1 ti30.und rfl rfl (hS.heap (.head _)) rfl) rfl ?_; refine wl_val (r_len (T := 30) rfl ti30.und rfl _ rfl) rfl ?_; refine wl_val (r_move (v := .int .i64 _) rfl) rfl ?_
  refine wl_dec (r_lss rfl rfl) rfl (fun h1_6 => ?_) (fun h1_6 => ?_)
  · refine wl_nil ?_
    refine c_then ?_; refine c_true rfl ?_; refine c_seq ?_; refine c_region ?_; refine wl_val (r_move (v := .pointer _) rfl) rfl ?_; refine wl_val (r_nilCheck rfl) rfl ?_; refine wl_val (r_field fa71_1 rfl) rfl ?_; refine wl_exs (x_store1 [] hS ti4 rfl rfl rfl (by simp)) rfl ?_; intro w1 hS2; simp only [List.cons_append, List.nil_append] at hS2; refine wl_nil ?_; refine c_then ?_; refine c_seq ?_; refine c_region ?_; refine wl_val (r_move (v := .int .i64 _) rfl) rfl ?_; refine wl_exv (x_make (zs := ((List.replicate m (0 : UInt8)).map b8)) hS2 ti30.und ti5 rfl rfl (Nat.le_refl _) (by omega) (by omega) (by rw [Nat.mul_one]; exact made_b8 _)) rfl ?_; rintro _ w3 ⟨b17, rfl, hS4⟩; refine wl_val (r_assign (v := .slice _ _ _) rfl) rfl ?_; refine wl_nil ?_; refine c_then ?_; refine wp_ret ?_; refine c_thenR ?_; refine ret1 Try.results66 ?_
    rw [show tk true s m = (List.replicate m 0, (s.1, true)) from by rw [tk, tkV_f (by omega), tkR_f (by omega), tkS_f (by omega)]]
    exact ⟨_, _, _, _, rfl, Nat.le_refl _, Row.of_at (at_all (hS4.heap (.head _))), hb, hc, hS4.drop1⟩
  refine wl_nil ?_; refine c_then ?_; refine c_false rfl ?_; refine wp_skip ?_; refine c_then ?_; refine c_seq ?_; refine c_region ?_; refine wl_val (r_move (v := .pointer _) rfl) rfl ?_; refine wl_val (r_nilCheck rfl) rfl ?_; refine wl_val (r_field fa71_0 rfl) rfl ?_; refine wl_val (r_loadB1 ti30.und rfl rfl (hS.heap (.head _)) rfl) rfl ?_; refine wl_val (r_move (v := .int .i64 _) rfl) rfl ?_; refine wl_val (r_move (v := .int .i64 _) rfl) rfl ?_; refine wl_val (r_sl_hm ti30.und ti5 rfl rfl rfl (by omega) (by omega)) rfl ?_; refine wl_val (r_assign (v := .slice _ _ _) rfl) rfl ?_; refine wl_nil ?_; refine c_then ?_; refine c_seq ?_; refine c_region ?_; refine wl_val (r_move (v := .pointer _) rfl) rfl ?_; refine wl_val (r_move (v := .pointer _) rfl) rfl ?_; refine wl_val (r_nilCheck rfl) rfl ?_; refine wl_val (r_field fa71_0 rfl) rfl ?_; refine wl_val (r_loadB1 ti30.und rfl rfl (hS.heap (.head _)) rfl) rfl ?_; refine wl_val (r_move (v := .int .i64 _) rfl) rfl ?_; refine wl_val (r_sl_l ti30.und ti5 rfl rfl (by omega)) rfl ?_; refine wl_val (r_nilCheck rfl) rfl ?_; refine wl_val (r_field fa71_0 rfl) rfl ?_; refine wl_exs (x_store1 [] hS ti30 rfl rfl rfl (by simp)) rfl ?_; intro w5 hS6; simp only [List.cons_append, List.nil_append] at hS6; refine wl_nil ?_; refine c_then ?_; refine c_seq ?_; refine c_region ?_; refine wl_val (r_move (v := .slice _ _ _) rfl) rfl ?_; refine wl_val (r_assign (v := .slice _ _ _) rfl) rfl ?_; refine wl_nil ?_; refine c_then ?_; refine wp_ret ?_; refine ret1 Try.results66 ?_
  have hm2 : m ≤ s.1.length := by omega
  rw [show tk true s m = (s.1.take m, (s.1.drop m, s.2)) from by rw [tk, tkV_t hm2, tkR_t hm2, tkS_t hm2]]
  exact ⟨_, m, Kw.sub a c m 1, c - m, rfl, by omega, (hb.st hS6).head, hb.rest hc, by rw [List.length_drop]; omega, by rw [List.length_drop]; exact hS6⟩

theorem rtake_ok (w0 : World) (LT : List Kw.Item) (r : Nat) (m : Nat) (s : Rd) (a : Option Addr) (c : Nat) (w : World) (hS0 : St w0 [] w (.blk r (cl [.slice a (s).1.length c, .bool (s).2] 77) :: LT)) (hb : Row w0 a (s.1.map b8)) (hc : s.1.length ≤ c) (hn : s.1.length ≤ 140737488351232) (hm : m ≤ 1000000) :
    Ret Try.prog 38 [pt r 0, vi m] w (fun v w' => ∃ b cb a' c', v = .slice b m cb ∧ m ≤ cb ∧ Row w' b ((tk false s m).1.map b8) ∧ Row w0 a' (((tk false s m).2).1.map b8) ∧ ((tk false s m).2).1.length ≤ c' ∧ St w0 [] w' (.blk r (cl [.slice a' ((tk false s m).2).1.length c', .bool ((tk false s m).2).2] 77) :: LT)) := by
  refine enter Try.func38 rfl Try.ntmps38 rfl ?_
  have hS := hS0
  refine c_seq ?_; refine c_region ?_; refine wl_val (r_assign (v := .slice none 0 0) rfl) rfl ?_; refine wl_nil ?_; refine c_then ?_; refine c_seq ?_; refine c_seq ?_; refine c_region ?_; refine wl_val (r_move (v := .pointer _) rfl) rfl ?_; refine wl_val (r_nilCheck rfl) rfl ?_; refine wl_val (r_field fa77_0 rfl) rfl ?_; refine wl_val (r_loadB1 ti30.und rfl rfl (hS.heap (.head _)) rfl) rfl ?_; refine wl_val (r_len (T := 30) rfl ti30.und rfl _ rfl) rfl ?_; refine wl_val (r_move (v := .int .i64 _) rfl) rfl ?_
  refine wl_dec (r_lss rfl rfl) rfl (fun h1_6 => ?_) (fun h1_6 => ?_)
  · refine wl_nil ?_
    refine c_then ?_; refine c_true rfl ?_; refine c_seq ?_; refine c_region ?_; refine wl_val (r_move (v := .pointer _) rfl) rfl ?_; refine wl_val (r_move (v := .pointer _) rfl) rfl ?_; refine wl_val (r_nilCheck rfl) rfl ?_; refine wl_val (r_field fa77_1 rfl) rfl ?_; refine wl_exs (x_store1 [] hS ti4 rfl rfl rfl (by simp)) rfl ?_; intro w1 hS2; simp only [List.cons_append, List.nil_append] at hS2; refine wl_val (r_nilCheck rfl) rfl ?_; refine wl_val (r_field fa77_0 rfl) rfl ?_; refine wl_exs (x_store1 [] hS2 ti30 rfl rfl rfl (by simp)) rfl ?_; intro w3 hS4; simp only [List.cons_append, List.nil_append] at hS4; refine wl_nil ?_; refine c_then ?_; refine c_seq ?_; refine c_region ?_; refine wl_val (r_move (v := .int .i64 _) rfl) rfl ?_; refine wl_exv (x_make (zs := ((List.replicate m (0 : UInt8)).map b8)) hS4 ti30.und ti5 rfl rfl (Nat.le_refl _) (by omega) (by omega) (by rw [Nat.mul_one]; exact made_b8 _)) rfl ?_; rintro _ w5 ⟨b20, rfl, hS6⟩; refine wl_val (r_assign (v := .slice _ _ _) rfl) rfl ?_; refine wl_nil ?_; refine c_then ?_; refine wp_ret ?_; refine c_thenR ?_; refine ret1 Try.results38 ?_
    rw [show tk false s m = (List.replicate m 0, ([], true)) from by rw [tk, tkV_f (by omega), tkR_g (by omega), tkS_f (by omega)]]
    exact ⟨_, _, _, _, rfl, Nat.le_refl _, Row.of_at (at_all (hS6.heap (.head _))), Row.nil, Nat.zero_le _, hS6.drop1⟩
  refine wl_nil ?_; refine c_then ?_; refine c_false rfl ?_; refine wp_skip ?_; refine c_then ?_; refine c_seq ?_; refine c_region ?_; refine wl_val (r_move (v := .pointer _) rfl) rfl ?_; refine wl_val (r_nilCheck rfl) rfl ?_; refine wl_val (r_field fa77_0 rfl) rfl ?_; refine wl_val (r_loadB1 ti30.und rfl rfl (hS.heap (.head _)) rfl) rfl ?_; refine wl_val (r_move (v := .int .i64 _) rfl) rfl ?_; refine wl_val (r_sl_h ti30.und ti5 rfl rfl (by omega)) rfl ?_; refine wl_val (r_assign (v := .slice _ _ _) rfl) rfl ?_; refine wl_nil ?_; refine c_then ?_; refine c_seq ?_; refine c_region ?_; refine wl_val (r_move (v := .pointer _) rfl) rfl ?_; refine wl_val (r_move (v := .pointer _) rfl) rfl ?_; refine wl_val (r_nilCheck rfl) rfl ?_; refine wl_val (r_field fa77_0 rfl) rfl ?_; refine wl_val (r_loadB1 ti30.und rfl rfl (hS.heap (.head _)) rfl) rfl ?_; refine wl_val (r_move (v := .int .i64 _) rfl) rfl ?_; refine wl_val (r_sl_l ti30.und ti5 rfl rfl (by omega)) rfl ?_; refine wl_val (r_nilCheck rfl) rfl ?_; refine wl_val (r_field fa77_0 rfl) rfl ?_; refine wl_exs (x_store1 [] hS ti30 rfl rfl rfl (by simp)) rfl ?_; intro w7 hS8; simp only [List.cons_append, List.nil_append] at hS8; refine wl_nil ?_; refine c_then ?_; refine c_seq ?_; refine c_region ?_; refine wl_val (r_move (v := .slice _ _ _) rfl) rfl ?_; refine wl_val (r_assign (v := .slice _ _ _) rfl) rfl ?_; refine wl_nil ?_; refine c_then ?_; refine wp_ret ?_; refine ret1 Try.results38 ?_
  have hm2 : m ≤ s.1.length := by omega
  rw [show tk false s m = (s.1.take m, (s.1.drop m, s.2)) from by rw [tk, tkV_t hm2, tkR_t hm2, tkS_t hm2]]
  exact ⟨_, c, Kw.sub a c m 1, c - m, rfl, by omega, (hb.st hS8).head, hb.rest hc, by rw [List.length_drop]; omega, by rw [List.length_drop]; exact hS8⟩

theorem octet_f (w0 : World) (LT : List Kw.Item) (r : Nat) (s : Rd) (a : Option Addr) (c : Nat) (w : World) (hS0 : St w0 [] w (.blk r (cl [.slice a (s).1.length c, .bool (s).2] 71) :: LT)) (hb : Row w0 a (s.1.map b8)) (hc : s.1.length ≤ c) (hn : s.1.length ≤ 140737488351232) :
    Ret Try.prog 68 [pt r 0, .bool false] w (fun v w' => ∃ a' c', v = vi 0 ∧ Row w0 a' ((s).1.map b8) ∧ (s).1.length ≤ c' ∧ St w0 [] w' (.blk r (cl [.slice a' (s).1.length c', .bool (s).2] 71) :: LT)) := by
  refine enter Try.func68 rfl Try.ntmps68 rfl ?_
  have hS := hS0
  refine c_seq ?_; refine c_region ?_; refine wl_val (r_assign (v := .int .i64 0) rfl) rfl ?_; refine wl_nil ?_; refine c_then ?_; refine c_seq ?_; refine c_seq ?_; refine c_region ?_; refine wl_val (r_move (v := .bool _) rfl) rfl ?_; refine wl_val (r_not rfl) rfl ?_; refine wl_nil ?_; refine c_then ?_; refine c_true rfl ?_; refine c_seq ?_; refine c_region ?_; refine wl_val (r_assign (v := .int .i64 0) rfl) rfl ?_; refine wl_nil ?_; refine c_then ?_; refine wp_ret ?_; refine c_thenR ?_; refine ret1 Try.results68 ?_
  exact ⟨_, _, rfl, hb, hc, hS⟩

theorem octet_t (w0 : World) (LT : List Kw.Item) (r : Nat) (s : Rd) (a : Option Addr) (c : Nat) (w : World) (hS0 : St w0 [] w (.blk r (cl [.slice a (s).1.length c, .bool (s).2] 71) :: LT)) (hb : Row w0 a (s.1.map b8)) (hc : s.1.length ≤ c) (hn : s.1.length ≤ 140737488351232) :
    Ret Try.prog 68 [pt r 0, .bool true] w (fun v w' => ∃ a' c', v = vi (one1 true s).1 ∧ Row w0 a' (((one1 true s).2).1.map b8) ∧ ((one1 true s).2).1.length ≤ c' ∧ St w0 [] w' (.blk r (cl [.slice a' ((one1 true s).2).1.length c', .bool ((one1 true s).2).2] 71) :: LT)) := by
  refine enter Try.func68 rfl Try.ntmps68 rfl ?_
  have hS := hS0
  refine c_seq ?_; refine c_region ?_; refine wl_val (r_assign (v := .int .i64 0) rfl) rfl ?_; refine wl_nil ?_; refine c_then ?_; refine c_seq ?_; refine c_seq ?_; refine c_region ?_; refine wl_val (r_move (v := .bool _) rfl) rfl ?_; refine wl_val (r_not rfl) rfl ?_; refine wl_nil ?_; refine c_then ?_; refine c_false rfl ?_; refine wp_skip ?_; refine c_then ?_; refine c_seq ?_; refine c_region ?_; refine wl_val (r_move (v := .pointer _) rfl) rfl ?_; refine wl_call (r_call fn66 rfl rfl) rfl (rdtake_ok _ _ _ 1 (s) _ _ _ hS hb hc hn (by decide)) ?_; rintro _ w1 ⟨bq2, cbq2, aq2, cq2, rfl, hcbq2, hvq2, hbq2, hcq2, hS3⟩; refine wl_val (r_ixS (m := 0) ti30.und ti5 rfl rfl hvq2 (by decide) (by rw [List.length_map, tk_len]; decide)) rfl ?_; refine wl_val (r_loadS1 ti5.und rfl rfl hvq2 (by rw [Nat.mul_one]; exact map_gt _ _ _ (by rw [tk_len]; decide))) rfl ?_; refine wl_val (c_u8_i64 ti3.und ⟨_, ti5.und⟩ rfl) rfl ?_; refine wl_val (r_assign (v := .int .i64 _) rfl) rfl ?_; refine wl_nil ?_; refine c_then ?_; refine wp_ret ?_; refine ret1 Try.results68 ?_
  exact ⟨_, _, rfl, hbq2, hcq2, hS3⟩

theorem rone_ok (w0 : World) (LT : List Kw.Item) (r : Nat) (s : Rd) (a : Option Addr) (c : Nat) (w : World) (hS0 : St w0 [] w (.blk r (cl [.slice a (s).1.length c, .bool (s).2] 77) :: LT)) (hb : Row w0 a (s.1.map b8)) (hc : s.1.length ≤ c) (hn : s.1.length ≤ 140737488351232) :
    Ret Try.prog 39 [pt r 0] w (fun v w' => ∃ a' c', v = vi (one1 false s).1 ∧ Row w0 a' (((one1 false s).2).1.map b8) ∧ ((one1 false s).2).1.length ≤ c' ∧ St w0 [] w' (.blk r (cl [.slice a' ((one1 false s).2).1.length c', .bool ((one1 false s).2).2] 77) :: LT)) := by
  refine enter Try.func39 rfl Try.ntmps39 rfl ?_
  have hS := hS0
  refine c_seq ?_; refine c_region ?_; refine wl_val (r_assign (v := .int .i64 0) rfl) rfl ?_; refine wl_nil ?_; refine c_then ?_; refine c_seq ?_; refine c_region ?_; refine wl_val (r_move (v := .pointer _) rfl) rfl ?_; refine wl_call (r_call fn38 rfl rfl) rfl (rtake_ok _ _ _ 1 (s) _ _ _ hS hb hc hn (by decide)) ?_; rintro _ w1 ⟨bq2, cbq2, aq2, cq2, rfl, hcbq2, hvq2, hbq2, hcq2, hS3⟩; refine wl_val (r_ixS (m := 0) ti30.und ti5 rfl rfl hvq2 (by decide) (by rw [List.length_map, tk_len]; decide)) rfl ?_; refine wl_val (r_loadS1 ti5.und rfl rfl hvq2 (by rw [Nat.mul_one]; exact map_gt _ _ _ (by rw [tk_len]; decide))) rfl ?_; refine wl_val (c_u8_i64 ti3.und ⟨_, ti5.und⟩ rfl) rfl ?_; refine wl_val (r_assign (v := .int .i64 _) rfl) rfl ?_; refine wl_nil ?_; refine c_then ?_; refine wp_ret ?_; refine ret1 Try.results39 ?_
  exact ⟨_, _, rfl, hbq2, hcq2, hS3⟩

theorem rdoctet_ok (w0 : World) (LT : List Kw.Item) (r : Nat) (is : Bool) (s : Rd) (a : Option Addr) (c : Nat) (w : World) (hS0 : St w0 [] w (.blk r (cl [.slice a (s).1.length c, .bool (s).2] 71) :: LT)) (hb : Row w0 a (s.1.map b8)) (hc : s.1.length ≤ c) (hn : s.1.length ≤ 140737488351232) :
    Ret Try.prog 68 [pt r 0, .bool is] w (fun v w' => ∃ a' c', v = vi (octB true is s).1 ∧ Row w0 a' (((octB true is s).2).1.map b8) ∧ ((octB true is s).2).1.length ≤ c' ∧ St w0 [] w' (.blk r (cl [.slice a' ((octB true is s).2).1.length c', .bool ((octB true is s).2).2] 71) :: LT)) := by
  cases is
  · exact octet_f w0 LT r s a c w hS0 hb hc hn
  · exact octet_t w0 LT r s a c w hS0 hb hc hn

theorem rdid_ok (w0 : World) (LT : List Kw.Item) (r : Nat) (s : Rd) (a : Option Addr) (c : Nat) (w : World) (hS0 : St w0 [] w (.blk r (cl [.slice a (s).1.length c, .bool (s).2] 71) :: LT)) (hb : Row w0 a (s.1.map b8)) (hc : s.1.length ≤ c) (hn : s.1.length ≤ 140737488351232) :
    Ret Try.prog 67 [pt r 0] w (fun v w' => ∃ a' c', v = .agg ((tk true s 16).1.map b8).toArray ∧ Row w0 a' (((tk true s 16).2).1.map b8) ∧ ((tk true s 16).2).1.length ≤ c' ∧ St w0 [] w' (.blk r (cl [.slice a' ((tk true s 16).2).1.length c', .bool ((tk true s 16).2).2] 71) :: LT)) := by
  refine enter Try.func67 rfl Try.ntmps67 rfl ?_
  have hS := hS0
  refine c_seq ?_; refine c_region ?_; refine wl_exv (x_alloc (C := ((List.replicate 16 (0 : UInt8)).map b8)) hS ti23 rfl) rfl ?_; rintro _ w1 ⟨b2, rfl, hS2⟩; refine wl_nil ?_; refine c_then ?_; refine c_seq ?_; refine c_region ?_; refine wl_val (r_move (v := .pointer _) rfl) rfl ?_; refine wl_call (r_call fn66 rfl rfl) rfl (rdtake_ok _ _ _ 16 (s) _ _ _ (hS2.perm ((List.Perm.cons _ (List.Perm.refl _)).trans (List.perm_middle (l₁ := [_])).symm)) hb hc hn (by decide)) ?_; rintro _ w3 ⟨bq4, cbq4, aq4, cq4, rfl, hcbq4, hvq4, hbq4, hcq4, hS5⟩; refine wl_val (r_s2a ti23.und rfl (by decide)) rfl ?_; refine wl_val (r_loadPX ti23 rfl rfl hvq4 (by omega) (by rw [List.length_map, tk_len])) rfl ?_; refine wl_exs (x_storeW [_] hS5 ti23 rfl rfl (by rw [List.length_map, tk_len]) (by simp) (one_b8 _)) rfl ?_; intro w6 hS7; simp only [List.cons_append, List.nil_append] at hS7; refine wl_nil ?_; refine c_then ?_; refine wp_ret ?_; refine retc Try.results67 ⟨_, rfl, run_loadVar_blk ti23 rfl (hS7.heap (.tail _ (.head _))) (by rw [List.length_map, tk_len])⟩ ?_
  exact ⟨_, _, rfl, hbq4, hcq4, (hS7.perm ((List.Perm.cons _ (List.Perm.refl _)).trans (List.perm_middle (l₁ := [_])).symm)).drop1⟩

theorem rdtext_ok (w0 : World) (LT : List Kw.Item) (r : Nat) (s : Rd) (a : Option Addr) (c : Nat) (w : World) (hS0 : St w0 [] w (.blk r (cl [.slice a (s).1.length c, .bool (s).2] 71) :: LT)) (hb : Row w0 a (s.1.map b8)) (hc : s.1.length ≤ c) (hn : s.1.length ≤ 140737488351232) :
    Ret Try.prog 69 [pt r 0] w (fun v w' => ∃ a' c', v = sv (text1 true s).1 ∧ Row w0 a' (((text1 true s).2).1.map b8) ∧ ((text1 true s).2).1.length ≤ c' ∧ St w0 [] w' (.blk r (cl [.slice a' ((text1 true s).2).1.length c', .bool ((text1 true s).2).2] 71) :: LT)) := by
  refine enter Try.func69 rfl Try.ntmps69 rfl ?_
  have hS := hS0
  refine c_seq ?_; refine c_region ?_; refine wl_val (r_assign (v := .string ⟨#[]⟩) rfl) rfl ?_; refine wl_nil ?_; refine c_then ?_; refine c_seq ?_; refine c_region ?_; refine wl_val (r_move (v := .pointer _) rfl) rfl ?_; refine wl_val (r_move (v := .pointer _) rfl) rfl ?_; refine wl_call (r_call fn68 rfl rfl) rfl (rdoctet_ok _ _ _ true (s) _ _ _ hS hb hc hn) ?_; rintro _ w1 ⟨aq2, cq2, rfl, hbq2, hcq2, hS3⟩; refine wl_call (r_call fn66 rfl rfl) rfl (rdtake_ok _ _ _ (one1 true s).1 ((octB true true (s)).2) _ _ _ hS3 hbq2 hcq2 (Nat.le_trans (octB_rest true _ (s)) hn) (Nat.le_trans (one1_le true s) (by decide))) ?_; rintro _ w4 ⟨bq5, cbq5, aq5, cq5, rfl, hcbq5, hvq5, hbq5, hcq5, hS6⟩; refine wl_val (r_bytesToStr ti9.und ti30.und ti5.und rfl hvq5 (tk_len _ _ _)) rfl ?_; refine wl_val (r_assign (v := .string _) rfl) rfl ?_; refine wl_nil ?_; refine c_then ?_; refine wp_ret ?_; refine ret1 Try.results69 ?_
  exact ⟨_, _, rfl, hbq5, hcq5, hS6⟩

theorem long_n (l : List UInt8) (n : Nat) (a : Option Addr) (c : Nat) (w : World) (hl : l.length = n) (hb : Row w a (l.map b8)) (hc : n ≤ c) (hn : n ≤ 140737488355328) :
    Ret Try.prog 46 [.slice a n c, .int .i64 0] w (fun v w' => v = .tuple #[vi (longV l 0), .int .i64 (longE l 0)] ∧ St w [] w' []) := by
  subst hl; exact long_ok l a c 0 w hb hc hn (by decide) (by decide)
theorem number_n (l : List UInt8) (n : Nat) (a : Option Addr) (c : Nat) (w : World) (hl : l.length = n) (hb : Row w a (l.map b8)) (hc : n ≤ c) (hn : n ≤ 140737488355328) :
    Ret Try.prog 70 [.slice a n c, .int .i64 0] w (fun v w' => v = .tuple #[v32 (word4 (takeL l 0 4)), .int .i64 (roomI l.length 0 4)] ∧ St w [] w' []) := by
  subst hl; exact number_ok l a c 0 w hb hc hn (by decide) (by decide)

theorem rdlong_ok (w0 : World) (LT : List Kw.Item) (r : Nat) (s : Rd) (a : Option Addr) (c : Nat) (w : World) (hS0 : St w0 [] w (.blk r (cl [.slice a (s).1.length c, .bool (s).2] 71) :: LT)) (hb : Row w0 a (s.1.map b8)) (hc : s.1.length ≤ c) (hn : s.1.length ≤ 140737488351232) :
    Ret Try.prog 71 [pt r 0] w (fun v w' => ∃ a' c', v = .int .i64 (ctV true (tk true s 8).1) ∧ Row w0 a' (((tk true s 8).2).1.map b8) ∧ ((tk true s 8).2).1.length ≤ c' ∧ St w0 [] w' (.blk r (cl [.slice a' ((tk true s 8).2).1.length c', .bool ((tk true s 8).2).2] 71) :: LT)) := by
  refine enter Try.func71 rfl Try.ntmps71 rfl ?_
  have hS := hS0
  refine c_seq ?_; refine c_region ?_; refine wl_val (r_assign (v := .int .i64 0) rfl) rfl ?_; refine wl_nil ?_; refine c_then ?_; refine c_seq ?_; refine c_region ?_; refine wl_val (r_move (v := .pointer _) rfl) rfl ?_; refine wl_call (r_call fn66 rfl rfl) rfl (rdtake_ok _ _ _ 8 (s) _ _ _ hS hb hc hn (by decide)) ?_; rintro _ w1 ⟨bq2, cbq2, aq2, cq2, rfl, hcbq2, hvq2, hbq2, hcq2, hS3⟩; refine wl_call (r_call fn46 rfl rfl) rfl (long_n _ 8 _ _ _ (tk_len true s 8) hvq2 (by assumption) (by decide)) ?_; rintro _ w4 ⟨rfl, hx5⟩
  have hS6 := hS3.ext hx5
  refine wl_val (r_move (v := .tuple _) rfl) rfl ?_; refine wl_val (r_extract (v := .int .i64 _) rfl rfl) rfl ?_; refine wl_val (r_extract (v := .int .i64 _) rfl rfl) rfl ?_; refine wl_val (r_assign (v := .int .i64 _) rfl) rfl ?_; refine wl_val (r_assign (v := .int .i64 _) rfl) rfl ?_; refine wl_nil ?_; refine c_then ?_; refine c_seq ?_; refine c_seq ?_; refine c_region ?_; refine wl_val (r_move (v := .int .i64 _) rfl) rfl ?_
  refine wl_dec (r_neq rfl rfl) rfl (fun h2_1 => ?_) (fun h2_1 => ?_)
  · refine wl_nil ?_
    refine c_then ?_; refine c_true rfl ?_; refine c_seq ?_; refine c_region ?_; refine wl_val (r_assign (v := .int .i64 65537) rfl) rfl ?_; refine wl_nil ?_; refine c_then ?_; refine wp_ret ?_; refine c_thenR ?_; refine ret1 Try.results71 ?_
    exact ⟨_, _, congrArg (Value.int .i64) ((long_ct (tk_len true s 8)).1 h2_1).symm, hbq2, hcq2, hS6⟩
  refine wl_nil ?_; refine c_then ?_; refine c_false rfl ?_; refine wp_skip ?_; refine c_then ?_; refine c_seq ?_; refine c_region ?_; refine wl_val (r_move (v := .int .i64 _) rfl) rfl ?_; refine wl_val (r_assign (v := .int .i64 _) rfl) rfl ?_; refine wl_nil ?_; refine c_then ?_; refine wp_ret ?_; refine ret1 Try.results71 ?_
  exact ⟨_, _, congrArg (Value.int .i64) ((long_ct (tk_len true s 8)).2 (Decidable.of_not_not h2_1)).symm, hbq2, hcq2, hS6⟩

theorem rnumber_ok (l : List UInt8) (a : Option Addr) (n c : Nat) (w : World) (hb : Row w a (l.map b8)) (hl : l.length = n) (hn : n ≤ 140737488355328) :
    Ret Try.prog 40 [.slice a n c] w (fun v w' => v = .int .i64 (sgN (natN l)) ∧ St w [] w' []) := by
  refine enter Try.func40 rfl Try.ntmps40 rfl ?_
  have hS := St.refl w []
  refine c_seq ?_; refine c_region ?_; refine wl_val (r_assign (v := .int .i64 0) rfl) rfl ?_; refine wl_nil ?_; refine c_then ?_; refine c_seq ?_; refine c_region ?_; refine wl_val (r_assign (v := .int .i64 0) rfl) rfl ?_; refine wl_nil ?_; refine c_then ?_; refine c_seq ?_; refine c_seq ?_; refine c_region ?_; refine wl_val (r_move (v := .slice _ _ _) rfl) rfl ?_; refine wl_val (r_len (T := 30) rfl ti30.und rfl _ rfl) rfl ?_; refine wl_val (r_move (v := .int .i64 0) rfl) rfl ?_; refine wl_nil ?_; refine c_then ?_; refine c_block ?_; refine c_loopE [2, 6, 7] (fun d e w' => ∃ (k : Nat), Kw.look e 8 = vi k ∧ Kw.look e 3 = .int .i64 (sgN (natN (l.take k))) ∧ d = n - k ∧ St w [] w' [] ∧ (k ≤ n)) (n - 0) ?_ ?_
  · exact ⟨0, rfl, rfl, rfl, hS, Nat.zero_le _⟩
  · rintro d4 e1 w2 ⟨k, hc0_8, hc0_3, rfl, hS3, hk⟩ -
    refine c_set (d := 8) hc0_8 ?_; refine c_set (d := 3) hc0_3 ?_; refine c_seq ?_; refine c_region ?_
    refine wl_dec (r_lss rfl rfl) rfl (fun h3_0 => ?_) (fun h3_0 => ?_)
    · refine wl_nil ?_
      refine c_then ?_; refine c_seq ?_; refine c_true rfl ?_; refine wp_skip ?_; refine c_then ?_; refine c_seq ?_; refine c_block ?_; refine c_seq ?_; refine c_region ?_; refine wl_val (r_ixS ti30.und ti5 rfl rfl (hb.st hS3) (by first | omega | (simp [*]; done) | (simp [*] <;> omega)) (by first | (simp [*]; done) | (simp [*] <;> omega) | omega)) rfl ?_; refine wl_val (r_loadS1 ti5.und rfl rfl (hb.st hS3) (by rw [Nat.mul_one]; exact map_gt _ _ _ (by first | omega | (simp [*]; done) | (simp [*] <;> omega)))) rfl ?_; refine wl_val (r_assign (v := .int .u8 _) rfl) rfl ?_; refine wl_nil ?_; refine c_then ?_; refine c_region ?_; refine wl_val (r_move (v := .int .i64 _) rfl) rfl ?_; refine wl_val (r_shlN rfl rfl) rfl ?_; refine wl_val (r_move (v := .int .u8 _) rfl) rfl ?_; refine wl_val (c_u8_i64 ti3.und ⟨_, ti5.und⟩ rfl) rfl ?_; refine wl_val (r_orN rfl rfl) rfl ?_; refine wl_val (r_assign (v := .int .i64 _) rfl) rfl ?_; refine wl_nil ?_; refine c_inN ?_; refine c_then ?_; refine c_region ?_; refine wl_val (r_addn (b := 1) rfl rfl (by omega)) rfl ?_; refine wl_val (r_move (v := .int .i64 _) rfl) rfl ?_; refine wl_nil ?_; refine c_then ?_
      exact ⟨n - (k + 1), _, by omega, rfl, ⟨k + 1, rfl, congrArg (fun z => Value.int .i64 (sgN z)) (natN_step (by omega)).symm, rfl, hS3, by omega⟩, ⟨rfl, rfl, rfl, trivial⟩⟩
    refine wl_nil ?_; refine c_then ?_; refine c_seq ?_; refine c_false rfl ?_; refine wp_exit ?_; refine c_thenE ?_; refine c_thenE ?_; refine c_inE ?_; refine c_then ?_; refine c_seq ?_; refine c_region ?_; refine wl_val (r_move (v := .int .i64 _) rfl) rfl ?_; refine wl_val (r_assign (v := .int .i64 _) rfl) rfl ?_; refine wl_nil ?_; refine c_then ?_; refine wp_ret ?_; refine ret1 Try.results40 ?_
    obtain rfl : k = l.length := by omega
    rw [List.take_length]
    exact ⟨rfl, hS3.fin⟩

end Go.Proofs.Ytbanoknkplcedaa
