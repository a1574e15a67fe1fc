/- What the law's proof leans on. No condition. -/
import Derived.Test.YtbjjfpaiffckiaaDoorPFGAH
import Derived.Test.YtbjjfpaiffckiaaDoorPFGAS
import Derived.Test.YtbjjfpaiffckiaaDoorPFGAR
namespace Go.Proofs.YtbjjfpaiffckiaaDoor
open Go.Kw
set_option linter.unusedVariables false
set_option linter.unusedSimpArgs false
set_option maxRecDepth 100000
theorem ones64_ok (x : UInt64) (n : Nat) (w : World) (hx : x.toNat = n) (hn : n ≤ 65536) :
    Ret Tryd.prog 30 [v64 x] w (fun v w' => v = vi (popN n) ∧ St w [] w' []) := by
  refine enter Tryd.func30 rfl Tryd.ntmps30 rfl ?_
  have hS := St.refl w []
  refine c_seq ?_; refine c_region ?_; refine wl_val (r_assign (v := .int .i64 0) rfl) rfl ?_; refine wl_nil ?_; refine c_then ?_; refine c_seq ?_; refine c_region ?_; refine wl_val (r_move (v := .int .u64 _) rfl) rfl ?_; refine wl_val (r_shr64 (s := 1) rfl rfl (by first | omega | (simp [*]; done) | (simp [*] <;> omega))) rfl ?_; refine wl_val (r_and64 (b := 6148914691236517205) rfl rfl) rfl ?_; refine wl_val (r_move (v := .int .u64 _) rfl) rfl ?_; refine wl_val (r_and64 (b := 6148914691236517205) rfl rfl) rfl ?_; refine wl_val (r_add64 rfl rfl) rfl ?_; refine wl_val (r_assign (v := .int .u64 _) rfl) rfl ?_; refine wl_nil ?_; refine c_then ?_; refine c_seq ?_; refine c_region ?_; refine wl_val (r_move (v := .int .u64 _) rfl) rfl ?_; refine wl_val (r_shr64 (s := 2) rfl rfl (by first | omega | (simp [*]; done) | (simp [*] <;> omega))) rfl ?_; refine wl_val (r_and64 (b := 3689348814741910323) rfl rfl) rfl ?_; refine wl_val (r_move (v := .int .u64 _) rfl) rfl ?_; refine wl_val (r_and64 (b := 3689348814741910323) rfl rfl) rfl ?_; refine wl_val (r_add64 rfl rfl) rfl ?_; refine wl_val (r_assign (v := .int .u64 _) rfl) rfl ?_; refine wl_nil ?_; refine c_then ?_; refine c_seq ?_; refine c_region ?_; refine wl_val (r_move (v := .int .u64 _) rfl) rfl ?_; refine wl_val (r_shr64 (s := 4) rfl rfl (by first | omega | (simp [*]; done) | (simp [*] <;> omega))) rfl ?_; refine wl_val (r_move (v := .int .u64 _) rfl) rfl ?_; refine wl_val (r_add64 rfl rfl) rfl ?_; refine wl_val (r_and64 (b := 1085102592571150095) rfl rfl) rfl ?_
  refine wl_val (r_assign (v := .int .u64 _) rfl) rfl ?_; refine wl_nil ?_; refine c_then ?_; refine c_seq ?_; refine c_region ?_; refine wl_val (r_move (v := .int .u64 _) rfl) rfl ?_; refine wl_val (r_move (v := .int .u64 _) rfl) rfl ?_; refine wl_val (r_shr64 (s := 8) rfl rfl (by first | omega | (simp [*]; done) | (simp [*] <;> omega))) rfl ?_; refine wl_val (r_add64 rfl rfl) rfl ?_; refine wl_val (r_assign (v := .int .u64 _) rfl) rfl ?_; refine wl_nil ?_; refine c_then ?_; refine c_seq ?_; refine c_region ?_; refine wl_val (r_move (v := .int .u64 _) rfl) rfl ?_; refine wl_val (r_move (v := .int .u64 _) rfl) rfl ?_; refine wl_val (r_shr64 (s := 16) rfl rfl (by first | omega | (simp [*]; done) | (simp [*] <;> omega))) rfl ?_; refine wl_val (r_add64 rfl rfl) rfl ?_; refine wl_val (r_assign (v := .int .u64 _) rfl) rfl ?_; refine wl_nil ?_; refine c_then ?_; refine c_seq ?_; refine c_region ?_; refine wl_val (r_move (v := .int .u64 _) rfl) rfl ?_; refine wl_val (r_move (v := .int .u64 _) rfl) rfl ?_; refine wl_val (r_shr64 (s := 32) rfl rfl (by first | omega | (simp [*]; done) | (simp [*] <;> omega))) rfl ?_; refine wl_val (r_add64 rfl rfl) rfl ?_; refine wl_val (r_assign (v := .int .u64 _) rfl) rfl ?_; refine wl_nil ?_; refine c_then ?_; refine c_seq ?_; refine c_region ?_; refine wl_val (r_move (v := .int .u64 _) rfl) rfl ?_; refine wl_val (c_u64_i64 ti3.und ⟨_, ti61.und⟩ rfl (by have h := onesU_nat hx hn; show (onesU x).toNat ≤ _; omega)) rfl ?_; refine wl_val (r_andm (s := 7) (by decide) rfl rfl) rfl ?_
  refine wl_val (r_assign (v := .int .i64 _) rfl) rfl ?_; refine wl_nil ?_; refine c_then ?_; refine wp_ret ?_; refine ret1 Tryd.results30 ?_
  refine ⟨congrArg (fun t : Nat => vi t) ?_, hS.fin⟩
  have h := onesU_nat hx hn
  have h2 := onesN_pop hn
  show (((onesU x).toNat : Int) % (128 : Int)).toNat = popN n
  rw [h.1]
  omega

theorem ones_ok (x : UInt64) (n : Nat) (w : World) (hx : x.toNat = n) (hn : n ≤ 65536) :
    Ret Tryd.prog 21 [v64 x] w (fun v w' => v = vi (popN n) ∧ St w [] w' []) := by
  refine enter Tryd.func21 rfl Tryd.ntmps21 rfl ?_
  have hS := St.refl w []
  refine c_seq ?_; refine c_region ?_; refine wl_val (r_assign (v := .int .i64 0) rfl) rfl ?_; refine wl_nil ?_; refine c_then ?_; refine c_seq ?_; refine c_false rfl ?_; refine wp_skip ?_; refine c_then ?_; refine c_seq ?_; refine c_region ?_; refine wl_val (r_move (v := .int .u64 _) rfl) rfl ?_; refine wl_call (r_call fn30 rfl rfl) rfl (ones64_ok x n _ hx hn) ?_; rintro _ w1 ⟨rfl, hx2⟩
  have hS3 := hS.ext hx2
  refine wl_val (r_assign (v := .int .i64 _) rfl) rfl ?_; refine wl_nil ?_; refine c_then ?_; refine wp_ret ?_; refine ret1 Tryd.results21 ?_
  exact ⟨rfl, hS3.fin⟩

theorem frontierOf_ok (size : Int) (l : List (List UInt8)) (a : Option Addr) (n c : Nat) (w : World) (hb : Row w a (l.flatten.map b8)) (h32 : S32 l) (hl : l.length = n) (hn : n ≤ 4398046511104) :
    Ret Tryd.prog 9 [.int .i64 size, .slice a n c] w (fun v w' => ((size < 0 ∨ 65536 < size) ∧ v = .tuple #[.pointer none, vi 4] ∧ St w [] w' []) ∨ ((0 ≤ size ∧ size ≤ 65536 ∧ ¬ n = popN size.toNat) ∧ v = .tuple #[.pointer none, vi 2] ∧ St w [] w' []) ∨ ((0 ≤ size ∧ size ≤ 65536 ∧ n = popN size.toNat) ∧ ∃ bf a' c', v = .tuple #[pt bf 0, vi 0] ∧ n ≤ c' ∧ St w [] w' [.blk bf (cl [.int .i64 size, .slice a' n c'] 47), .row (.slice a' n c') 29 32 n (l.flatten.map b8)])) := by
  refine enter Tryd.func9 rfl Tryd.ntmps9 rfl ?_
  have hS := St.refl w []
  refine c_seq ?_; refine c_region ?_; refine wl_val (r_assign (v := .pointer none) rfl) rfl ?_; refine wl_val (r_assign (v := .int .i64 0) rfl) rfl ?_; refine wl_nil ?_; refine c_then ?_; refine c_seq ?_; refine c_seq ?_; refine c_region ?_; refine wl_val (r_move (v := .int .i64 _) rfl) rfl ?_
  refine wl_dec (r_lss rfl rfl) rfl (fun h1_1 => ?_) (fun h1_1 => ?_)
  · refine wl_val (r_move (v := .bool _) rfl) rfl ?_
    refine wl_not rfl ?_; refine wl_not rfl ?_; refine wl_val (r_pick_t rfl (v := .bool true) rfl) rfl ?_; refine wl_nil ?_; refine c_then ?_; refine c_true rfl ?_; refine c_seq ?_; refine c_region ?_; refine wl_val (r_assign (v := .pointer none) rfl) rfl ?_; refine wl_val (r_assign (v := .int .i64 4) rfl) rfl ?_; refine wl_nil ?_; refine c_then ?_; refine wp_ret ?_; refine c_thenR ?_; refine ret2 Tryd.results9 rfl rfl ?_
    first | exact .inl ⟨by omega, rfl, hS.fin⟩ | exact .inr (.inl ⟨⟨by omega, by omega, by simp only [Int.toNat_natCast]; omega⟩, rfl, hS.fin⟩)
  refine wl_val (r_move (v := .bool _) rfl) rfl ?_; refine wl_val (r_move (v := .int .i64 _) rfl) rfl ?_
  refine wl_dec (r_gtr rfl rfl) rfl (fun h1_4 => ?_) (fun h1_4 => ?_)
  · refine wl_val (r_pick_f rfl (v := .bool _) rfl) rfl ?_
    refine wl_nil ?_; refine c_then ?_; refine c_true rfl ?_; refine c_seq ?_; refine c_region ?_; refine wl_val (r_assign (v := .pointer none) rfl) rfl ?_; refine wl_val (r_assign (v := .int .i64 4) rfl) rfl ?_; refine wl_nil ?_; refine c_then ?_; refine wp_ret ?_; refine c_thenR ?_; refine ret2 Tryd.results9 rfl rfl ?_
    first | exact .inl ⟨by omega, rfl, hS.fin⟩ | exact .inr (.inl ⟨⟨by omega, by omega, by simp only [Int.toNat_natCast]; omega⟩, rfl, hS.fin⟩)
  refine wl_val (r_pick_f rfl (v := .bool _) rfl) rfl ?_; refine wl_nil ?_; refine c_then ?_; refine c_false rfl ?_; refine wp_skip ?_; refine c_then ?_; refine c_seq ?_; refine c_seq ?_
  obtain ⟨size', rfl⟩ : ∃ i : Nat, size = (i : Int) := ⟨size.toNat, (by omega)⟩
  refine c_region ?_; refine wl_val (r_move (v := .slice _ _ _) rfl) rfl ?_; refine wl_val (r_len (T := 24) rfl ti24.und rfl _ rfl) rfl ?_; refine wl_val (r_move (v := .int .i64 _) rfl) rfl ?_; refine wl_val (c_i64_u64 ti50.und ⟨_, ti3.und⟩ rfl (by omega)) rfl ?_; refine wl_call (r_call fn21 rfl rfl) rfl (ones_ok (UInt64.ofNat size') size' _ (by rw [UInt64.toNat_ofNat']; omega) (by omega)) ?_; rintro _ w1 ⟨rfl, hx2⟩
  have hS3 := hS.ext hx2
  refine wl_dec (r_neq rfl rfl) rfl (fun h3_5 => ?_) (fun h3_5 => ?_)
  · refine wl_nil ?_
    refine c_then ?_; refine c_true rfl ?_; refine c_seq ?_; refine c_region ?_; refine wl_val (r_assign (v := .pointer none) rfl) rfl ?_; refine wl_val (r_assign (v := .int .i64 2) rfl) rfl ?_; refine wl_nil ?_; refine c_then ?_; refine wp_ret ?_; refine c_thenR ?_; refine ret2 Tryd.results9 rfl rfl ?_
    first | exact .inl ⟨by omega, rfl, hS3.fin⟩ | exact .inr (.inl ⟨⟨by omega, by omega, by simp only [Int.toNat_natCast]; omega⟩, rfl, hS3.fin⟩)
  refine wl_nil ?_; refine c_then ?_; refine c_false rfl ?_; refine wp_skip ?_; refine c_then ?_; refine c_seq ?_; refine c_region ?_; refine wl_val (r_move (v := .int .i64 _) rfl) rfl ?_; refine wl_val (r_move (v := .slice _ _ _) rfl) rfl ?_; refine wl_call (r_call fn20 rfl rfl) rfl (clones_ok l a n c _ (hb.st hS3) h32 hl hn) ?_; rintro _ w4 ⟨a20, c20, rfl, hc20, hx5⟩
  have hS6 := hS3.call hx5
  simp only [List.cons_append, List.nil_append] at hS6; refine wl_val (r_buildF (vs := [.int .i64 _, .slice _ _ _]) (out := [.int .i64 _, .slice _ _ _]) pl47 ti47 rfl rfl (by intro i hi; match i, hi with | 0, _ => rfl | 1, _ => rfl) rfl) rfl ?_; refine wl_exv (x_box hS6 (v := .agg _) rfl rfl) rfl ?_; rintro _ w7 ⟨b22, rfl, hS8⟩; refine wl_val (r_assign (v := .pointer _) rfl) rfl ?_; refine wl_val (r_assign (v := .int .i64 0) rfl) rfl ?_; refine wl_nil ?_; refine c_then ?_; refine wp_ret ?_; refine ret2 Tryd.results9 rfl rfl ?_
  exact .inr (.inr ⟨⟨by omega, by omega, by simp only [Int.toNat_natCast]; omega⟩, _, _, _, rfl, hc20, hS8⟩)

theorem fsize_ok (b : Nat) (n : Int) (sl : Value) (w : World) (hb : At w b 0 [.int .i64 n, sl]) :
    Ret Tryd.prog 10 [pt b 0] w (fun v w' => v = .int .i64 n ∧ St w [] w' []) := by
  refine enter Tryd.func10 rfl Tryd.ntmps10 rfl ?_
  have hS := St.refl w []
  refine c_seq ?_; refine c_region ?_; refine wl_val (r_assign (v := .int .i64 0) rfl) rfl ?_; refine wl_nil ?_; refine c_then ?_; refine c_seq ?_; refine c_region ?_; refine wl_val (r_move (v := .pointer _) rfl) rfl ?_; refine wl_val (r_nilCheck rfl) rfl ?_; refine wl_val (r_field fa47_0 rfl) rfl ?_; refine wl_val (r_loadAt1 (j := 0) ti3.und rfl rfl (hb.st hS) rfl rfl) rfl ?_; refine wl_val (r_assign (v := .int .i64 _) rfl) rfl ?_; refine wl_nil ?_; refine c_then ?_; refine wp_ret ?_; refine ret1 Tryd.results10 ?_
  exact ⟨rfl, hS.fin⟩

theorem fpeaks_ok (b : Nat) (z : Value) (l : List (List UInt8)) (a : Option Addr) (n c : Nat) (w : World) (hf : At w b 0 [z, .slice a n c]) (hb : Row w a (l.flatten.map b8)) (h32 : S32 l) (hl : l.length = n) (hn : n ≤ 4398046511104) :
    Ret Tryd.prog 8 [pt b 0] w (fun v w' => ∃ a' c', v = .slice a' n c' ∧ n ≤ c' ∧ St w [] w' [.row (.slice a' n c') 29 32 n (l.flatten.map b8)]) := by
  refine enter Tryd.func8 rfl Tryd.ntmps8 rfl ?_
  have hS := St.refl w []
  refine c_seq ?_; refine c_region ?_; refine wl_val (r_assign (v := .slice none 0 0) rfl) rfl ?_; refine wl_nil ?_; refine c_then ?_; refine c_seq ?_; refine c_region ?_; refine wl_val (r_move (v := .pointer _) rfl) rfl ?_; refine wl_val (r_nilCheck rfl) rfl ?_; refine wl_val (r_field fa47_1 rfl) rfl ?_; refine wl_val (r_loadAt1 (j := 1) ti24.und rfl rfl (hf.st hS) rfl rfl) rfl ?_; refine wl_call (r_call fn20 rfl rfl) rfl (clones_ok l a n c _ (hb.st hS) h32 hl hn) ?_; rintro _ w1 ⟨a7, c7, rfl, hc7, hx2⟩
  have hS3 := hS.call hx2
  simp only [List.cons_append, List.nil_append] at hS3; refine wl_val (r_assign (v := .slice _ _ _) rfl) rfl ?_; refine wl_nil ?_; refine c_then ?_; refine wp_ret ?_; refine ret1 Tryd.results8 ?_
  exact ⟨_, _, rfl, hc7, hS3⟩

end Go.Proofs.YtbjjfpaiffckiaaDoor
