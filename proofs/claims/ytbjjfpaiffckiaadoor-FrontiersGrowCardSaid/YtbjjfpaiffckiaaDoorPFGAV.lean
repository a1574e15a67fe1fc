/- What the law's proof leans on. No condition. -/
import Derived.Test.YtbjjfpaiffckiaaDoorPFGAH
import Derived.Test.YtbjjfpaiffckiaaDoorPFGAT
import Derived.Test.YtbjjfpaiffckiaaDoorPFGAU
section
namespace Go.Proofs.YtbjjfpaiffckiaaDoor
open Go.Kw
set_option linter.unusedVariables false
set_option linter.unusedSimpArgs false
set_option maxRecDepth 100000
theorem tz64_ok (x : UInt64) (m : Nat) (w : World) (hx : x = UInt64.ofNat m) (h0 : 0 < m) (hm : m < 64) (ht : At w 1 0 (dbTab.map b8)) :
    Ret Tryd.prog 32 [v64 x] w (fun v w' => v = vi (tzN m) ∧ St w [] w' []) := by
  refine enter Tryd.func32 rfl Tryd.ntmps32 rfl ?_
  have hS := St.refl w []
  refine c_seq ?_; refine c_region ?_; refine wl_val (r_assign (v := .int .i64 0) rfl) rfl ?_; refine wl_nil ?_; refine c_then ?_; refine c_seq ?_; refine c_seq ?_; refine c_region ?_; refine wl_val (r_move (v := .int .u64 _) rfl) rfl ?_; refine wl_dec_f (r_eql rfl rfl) rfl (fun h => by rw [hx, UInt64.toNat_ofNat'] at h; omega) ?_; refine wl_nil ?_; refine c_then ?_; refine c_false rfl ?_; refine wp_skip ?_; refine c_then ?_; refine c_seq ?_
  subst hx
  refine c_region ?_; refine wl_val (r_move (v := .int .u64 _) rfl) rfl ?_; refine wl_val (r_move (v := .int .u64 _) rfl) rfl ?_; refine wl_val (r_neg64 rfl) rfl ?_; refine wl_val (r_and64 rfl rfl) rfl ?_; refine wl_val (r_mul64 (b := 285870213051353865) rfl rfl) rfl ?_; refine wl_val (r_shr64 (s := 58) rfl rfl (by first | omega | (simp [*]; done) | (simp [*] <;> omega))) rfl ?_; refine wl_val (r_ixA (m := tzIx m) (o' := 0 + tzIx m) ti63.und ti5 rfl rfl (tz_all m hm).1 (by omega)) rfl ?_; refine wl_val (r_load1 ti5.und rfl rfl ((ht.st hS) _ _ (map_gt _ _ _ (tz_all m hm).1))) rfl ?_; refine wl_val (c_u8_i64 ti3.und ⟨_, ti5.und⟩ rfl) rfl ?_; refine wl_val (r_assign (v := .int .i64 _) rfl) rfl ?_; refine wl_nil ?_; refine c_then ?_; refine wp_ret ?_; refine ret1 Tryd.results32 ?_
  exact ⟨congrArg (fun t : Nat => vi t) (tz_tab h0 hm), hS.fin⟩

theorem tz_ok (x : UInt64) (m : Nat) (w : World) (hx : x = UInt64.ofNat m) (h0 : 0 < m) (hm : m < 64) (ht : At w 1 0 (dbTab.map b8)) :
    Ret Tryd.prog 22 [v64 x] w (fun v w' => v = vi (tzN m) ∧ St w [] w' []) := by
  refine enter Tryd.func22 rfl Tryd.ntmps22 rfl ?_
  have hS := St.refl w []
  refine c_seq ?_; refine c_region ?_; refine wl_val (r_assign (v := .int .i64 0) rfl) rfl ?_; refine wl_nil ?_; refine c_then ?_; refine c_seq ?_; refine c_false rfl ?_; refine wp_skip ?_; refine c_then ?_; refine c_seq ?_; refine c_region ?_; refine wl_val (r_move (v := .int .u64 _) rfl) rfl ?_; refine wl_call (r_call fn32 rfl rfl) rfl (tz64_ok x m _ hx h0 hm (ht.st hS)) ?_; rintro _ w1 ⟨rfl, hx2⟩
  have hS3 := hS.ext hx2
  refine wl_val (r_assign (v := .int .i64 _) rfl) rfl ?_; refine wl_nil ?_; refine c_then ?_; refine wp_ret ?_; refine ret1 Tryd.results22 ?_
  exact ⟨rfl, hS3.fin⟩

end Go.Proofs.YtbjjfpaiffckiaaDoor
end
section
namespace Go.Proofs.YtbjjfpaiffckiaaDoor
open Go.Kw
set_option linter.unusedVariables false
set_option linter.unusedSimpArgs false
set_option maxRecDepth 100000
theorem newFrontier_ok (w : World) :
    Ret Tryd.prog 6 [] w (fun v w' => ∃ b, v = pt b 0 ∧ St w [] w' [.blk b (cl [vi 0, .slice none 0 0] 47)]) := by
  refine enter Tryd.func6 rfl Tryd.ntmps6 rfl ?_
  have hS := St.refl w []
  refine c_seq ?_; refine c_region ?_; refine wl_val (r_assign (v := .pointer none) rfl) rfl ?_; refine wl_nil ?_; refine c_then ?_; refine c_seq ?_; refine c_region ?_; refine wl_val (r_buildZ pl47 ti47) rfl ?_; refine wl_exv (x_box hS (v := .agg _) rfl rfl) rfl ?_; rintro _ w1 ⟨b2, rfl, hS2⟩; refine wl_val (r_assign (v := .pointer _) rfl) rfl ?_; refine wl_nil ?_; refine c_then ?_; refine wp_ret ?_; refine ret1 Tryd.results6 ?_
  exact ⟨_, rfl, hS2⟩

theorem froot_ok (b sz n c : Nat) (a : Option Addr) (p : List (List UInt8)) (w : World) (hf : At w b 0 [vi sz, .slice a n c]) (hb : Row w a (p.flatten.map b8)) (h32 : S32 p) (hl : p.length = n) (hpos : 0 < sz → 0 < n) (hn : n ≤ 4398046511104) :
    Ret Tryd.prog 7 [pt b 0] w (fun v w' => (sz = 0 ∧ v = .tuple #[.agg ((List.replicate 32 (0 : UInt8)).map b8).toArray, vi 10] ∧ St w [] w' []) ∨ (0 < sz ∧ v = .tuple #[.agg ((bagL p).map b8).toArray, vi 0] ∧ St w [] w' [])) := by
  refine enter Tryd.func7 rfl Tryd.ntmps7 rfl ?_
  have hS := St.refl w []
  refine c_seq ?_; refine c_region ?_; refine wl_exv (x_alloc (C := ((List.replicate 32 (0 : UInt8)).map b8)) hS ti29 rfl) rfl ?_; rintro _ w1 ⟨b2, rfl, hS2⟩; refine wl_val (r_assign (v := .int .i64 0) rfl) rfl ?_; refine wl_nil ?_; refine c_then ?_; refine c_seq ?_; refine c_seq ?_; refine c_region ?_; refine wl_val (r_move (v := .pointer _) rfl) rfl ?_; refine wl_val (r_nilCheck rfl) rfl ?_; refine wl_val (r_field fa47_0 rfl) rfl ?_; refine wl_val (r_loadAt1 (j := 0) ti3.und rfl rfl (hf.st hS2) rfl rfl) rfl ?_
  refine wl_dec (r_eql rfl rfl) rfl (fun h1_4 => ?_) (fun h1_4 => ?_)
  · refine wl_nil ?_
    refine c_then ?_; refine c_true rfl ?_; refine c_seq ?_; refine c_region ?_; refine wl_val (r_build0 (cs := ((List.replicate 32 (0 : UInt8)).map b8)) ti29.und ti29 ti5) rfl ?_; refine wl_exs (x_storeW [] hS2 ti29 rfl rfl (by first | (simp [*]; done) | (simp [*] <;> omega) | omega) (by first | (simp [*]; done) | (simp [*] <;> omega) | omega) (by repeat' first | exact one_nil | exact one_b8 _ | exact one_v32 _ | exact one_all rfl | refine one_cons rfl ?_ | refine one_app ?_ ?_)) rfl ?_; intro w3 hS4; simp only [List.cons_append, List.nil_append] at hS4; refine wl_val (r_assign (v := .int .i64 10) rfl) rfl ?_; refine wl_nil ?_; refine c_then ?_; refine wp_ret ?_; refine c_thenR ?_; refine ret2 Tryd.results7 ⟨_, rfl, run_loadVar_blk ti29 rfl (hS4.heap (.head _)) (by first | (simp [*]; done) | (simp [*] <;> omega) | omega)⟩ rfl ?_
    exact .inl ⟨by omega, rfl, hS4.fin⟩
  refine wl_nil ?_; refine c_then ?_; refine c_false rfl ?_; refine wp_skip ?_; refine c_then ?_; refine c_seq ?_
  have hnp := hpos (by omega)
  have hgl : (gt p (n - 1)).length = 32 := h32.gt (by omega)
  refine c_region ?_; refine wl_val (r_move (v := .pointer _) rfl) rfl ?_; refine wl_val (r_nilCheck rfl) rfl ?_; refine wl_val (r_field fa47_1 rfl) rfl ?_; refine wl_val (r_loadAt1 (j := 1) ti24.und rfl rfl (hf.st hS2) rfl rfl) rfl ?_; refine wl_val (r_len (T := 24) rfl ti24.und rfl _ rfl) rfl ?_; refine wl_val (r_assign (v := .int .i64 _) rfl) rfl ?_; refine wl_nil ?_; refine c_then ?_; refine c_seq ?_; refine c_region ?_; refine wl_val (r_move (v := .pointer _) rfl) rfl ?_; refine wl_val (r_nilCheck rfl) rfl ?_; refine wl_val (r_field fa47_1 rfl) rfl ?_; refine wl_val (r_loadAt1 (j := 1) ti24.und rfl rfl (hf.st hS2) rfl rfl) rfl ?_; refine wl_val (r_move (v := .int .i64 _) rfl) rfl ?_; refine wl_val (r_subn (b := 1) rfl rfl (by omega) (by omega)) rfl ?_; refine wl_val (r_ix32 ti24.und ti29 rfl rfl (hb.st hS2) h32 (by first | (simp [*]; done) | (simp [*] <;> omega) | omega) (by first | omega | (simp [*]; done) | (simp [*] <;> omega))) rfl ?_; refine wl_val (r_load32 ti29 rfl rfl (hb.st hS2) h32 (by first | omega | (simp [*]; done) | (simp [*] <;> omega))) rfl ?_; refine wl_exv (x_alloc (C := ((List.replicate 32 (0 : UInt8)).map b8)) hS2 ti29 rfl) rfl ?_; rintro _ w5 ⟨b5, rfl, hS6⟩; refine wl_exs (x_storeW [] hS6 ti29 rfl rfl (by first | (simp [*]; done) | (simp [*] <;> omega) | omega) (by first | (simp [*]; done) | (simp [*] <;> omega) | omega) (by repeat' first | exact one_nil | exact one_b8 _ | exact one_v32 _ | exact one_all rfl | refine one_cons rfl ?_ | refine one_app ?_ ?_)) rfl ?_
  intro w7 hS8; simp only [List.cons_append, List.nil_append] at hS8; refine wl_nil ?_; refine c_then ?_; refine c_seq ?_; refine c_seq ?_; refine c_region ?_; refine wl_val (r_move (v := .int .i64 _) rfl) rfl ?_; refine wl_val (r_subi rfl rfl (by omega) (by omega)) rfl ?_; refine wl_val (r_assign (v := .int .i64 _) rfl) rfl ?_; refine wl_nil ?_; refine c_then ?_; refine c_block ?_; refine c_loopE [0, 2, 3, 5] (fun d e w' => ∃ (k : Nat) (r : List UInt8), Kw.look e 6 = .int .i64 ((n : Int) - 2 - k) ∧ d = n - 1 - k ∧ St w [] w' [.blk b5 (cl (r.map b8) 29), .blk b2 (cl ((List.replicate 32 (0 : UInt8)).map b8) 29)] ∧ (k + 1 ≤ n) ∧ (bagL (p.drop (n - 1 - k)) = r) ∧ (r.length = 32)) (n - 1 - 0) ?_ ?_
  · exact ⟨0, gt p (n - 1), congrArg (Value.int .i64) (by omega), rfl, hS8, by omega, bag_last (by omega), hgl⟩
  · rintro d12 e9 w10 ⟨k, r, hc0_6, rfl, hS11, hk, hr, hrl⟩ -
    refine c_set (d := 6) hc0_6 ?_; refine c_seq ?_; refine c_seq ?_; refine c_region ?_; refine wl_val (r_move (v := .int .i64 _) rfl) rfl ?_
    refine wl_dec (r_geq rfl rfl) rfl (fun h6_1 => ?_) (fun h6_1 => ?_)
    · refine wl_nil ?_
      refine c_then ?_; refine c_true rfl ?_; refine wp_skip ?_; refine c_then ?_; refine c_seq ?_; refine c_block ?_
      obtain ⟨j, hj⟩ : ∃ j : Nat, (n : Int) - 2 - k = j := ⟨n - 2 - k, by omega⟩
      refine c_set (d := 6) (v := vi j) (congrArg (Value.int .i64) hj) ?_; refine c_drawS 8 hMixed hS11 ?_; intro w13 hS14; refine g_take 0 rfl (by decide +kernel) rfl (fun _ _ _ h => h) hS14 (fun wF hF => r_move (v := .pointer _) rfl) ?_; refine g_take 1 rfl (by decide +kernel) rfl (fun _ _ _ h => h) hS14 (fun wF hF => r_nilCheck rfl) ?_; refine g_take 2 rfl (by decide +kernel) rfl (fun _ _ _ h => h) hS14 (fun wF hF => r_field fa47_1 rfl) ?_; refine g_take 3 rfl (by decide +kernel) rfl (fun _ _ _ h => h) hS14 (fun wF hF => r_loadAt1 (j := 1) ti24.und rfl rfl (hf.st hF) rfl rfl) ?_; refine g_take 4 rfl (by decide +kernel) rfl (fun _ _ _ h => h) hS14 (fun wF hF => r_move (v := .int .i64 _) rfl) ?_; refine g_take 5 rfl (by decide +kernel) rfl (fun _ _ _ h => h) hS14 (fun wF hF => r_ix32 ti24.und ti29 rfl rfl (hb.st hF) h32 (by first | (simp [*]; done) | (simp [*] <;> omega) | omega) (by first | omega | (simp [*]; done) | (simp [*] <;> omega))) ?_; refine g_take 6 rfl (by decide +kernel) rfl (fun _ _ _ h => h) hS14 (fun wF hF => r_load32 ti29 rfl rfl (hb.st hF) h32 (by first | omega | (simp [*]; done) | (simp [*] <;> omega))) ?_; refine g_take 7 rfl (by decide +kernel) rfl (fun _ _ _ h => h) hS14 (fun wF hF => r_loadB ti29 rfl rfl (hF.heap (.head _)) (by first | (simp [*]; done) | (simp [*] <;> omega) | omega)) ?_; refine g_tail (by decide +kernel) rfl (by decide +kernel) ?_; refine wl_call (r_call fn19 rfl rfl) rfl (node_ok _ _ _ (h32.gt (by omega)) hrl) ?_; rintro _ w15 ⟨rfl, hx16⟩
      have hS17 := hS14.ext hx16
      refine wl_exs (x_storeW [] hS17 ti29 rfl rfl (by first | (simp [*]; done) | (simp [*] <;> omega) | omega) (by first | (simp [*]; done) | (simp [*] <;> omega) | omega) (by repeat' first | exact one_nil | exact one_b8 _ | exact one_v32 _ | exact one_all rfl | refine one_cons rfl ?_ | refine one_app ?_ ?_)) rfl ?_; intro w18 hS19; simp only [List.cons_append, List.nil_append] at hS19; refine wl_nil ?_; refine c_inN ?_; refine c_then ?_; refine c_region ?_; refine wl_val (r_move (v := .int .i64 _) rfl) rfl ?_; refine wl_val (r_subi rfl rfl (by omega) (by omega)) rfl ?_; refine wl_val (r_assign (v := .int .i64 _) rfl) rfl ?_; refine wl_nil ?_; refine c_then ?_
      have er : bagL (p.drop (n - 1 - (k + 1))) = nodeL (gt p j) r := by rw [← hr, show n - 1 - k = j + 1 by omega, show n - 1 - (k + 1) = j by omega]; exact bag_drop (by omega)
      exact ⟨n - 1 - (k + 1), _, by omega, rfl, ⟨k + 1, nodeL (gt p j) r, congrArg (Value.int .i64) (by omega), rfl, hS19, by omega, er, nodeL_len _ _⟩, ⟨rfl, rfl, rfl, rfl, trivial⟩⟩
    refine wl_nil ?_; refine c_then ?_; refine c_false rfl ?_; refine wp_exit ?_; refine c_thenE ?_; refine c_thenE ?_; refine c_inE ?_; refine c_then ?_; refine c_seq ?_; refine c_region ?_; refine wl_val (r_loadB ti29 rfl rfl (hS11.heap (.head _)) (by first | (simp [*]; done) | (simp [*] <;> omega) | omega)) rfl ?_; refine wl_exs (x_storeW [_] hS11 ti29 rfl rfl (by first | (simp [*]; done) | (simp [*] <;> omega) | omega) (by first | (simp [*]; done) | (simp [*] <;> omega) | omega) (by repeat' first | exact one_nil | exact one_b8 _ | exact one_v32 _ | exact one_all rfl | refine one_cons rfl ?_ | refine one_app ?_ ?_)) rfl ?_; intro w20 hS21; simp only [List.cons_append, List.nil_append] at hS21; refine wl_val (r_assign (v := .int .i64 0) rfl) rfl ?_; refine wl_nil ?_; refine c_then ?_; refine wp_ret ?_; refine ret2 Tryd.results7 ⟨_, rfl, run_loadVar_blk ti29 rfl (hS21.heap (.tail _ (.head _))) (by first | (simp [*]; done) | (simp [*] <;> omega) | omega)⟩ rfl ?_
    obtain rfl : k = n - 1 := by omega
    rw [show n - 1 - (n - 1) = 0 by omega, List.drop_zero] at hr
    subst hr
    exact .inr ⟨by omega, rfl, hS21.fin⟩

end Go.Proofs.YtbjjfpaiffckiaaDoor
end
