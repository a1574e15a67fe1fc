/- What the law's proof leans on. No condition. -/
import Derived.Test.YtflfocmfdlmjiaaPTcAH
import Derived.Test.YtflfocmfdlmjiaaPTcAJ
import Derived.Test.YtflfocmfdlmjiaaPTcAL
import Derived.Test.YtflfocmfdlmjiaaPTcAM
namespace Go.Proofs.Ytflfocmfdlmjiaa
open Go.Kw
set_option linter.unusedVariables false
set_option linter.unusedSimpArgs false
set_option maxRecDepth 100000
theorem rlong_ok (n : Nat) (w : World) (hn : n ≤ 9223372036854775807) :
    Ret Try.prog 38 [vi n] w (fun v w' => ∃ b, v = .slice (some ⟨b, 0, none⟩) 8 8 ∧ St w [] w' [.blk b (cl ((octs8 (UInt64.ofNat n)).map b8) 5)]) := by
  refine enter Try.func38 rfl Try.ntmps38 rfl ?_
  have hS := St.refl w []
  refine c_seq ?_; refine c_region ?_; refine wl_val (r_assign (v := .slice none 0 0) rfl) rfl ?_; refine wl_nil ?_; refine c_then ?_; refine c_seq ?_; refine c_region ?_; refine wl_exv (x_make (l := 8) (c := 8) (zs := ((List.replicate 8 (0 : UInt8)).map b8)) hS ti22.und ti5 rfl rfl (by first | omega | (simp [*]; done) | (simp [*] <;> omega)) (by first | omega | (simp [*]; done) | (simp [*] <;> omega)) (by first | omega | (simp [*]; done) | (simp [*] <;> omega)) (by first | exact made_b8 _ | rfl | simp [madeCells])) rfl ?_; rintro _ w1 ⟨b5, rfl, hS2⟩; refine wl_val (r_assign (v := .slice _ _ _) rfl) rfl ?_; refine wl_nil ?_; refine c_then ?_; refine c_seq ?_; refine c_seq ?_; refine c_region ?_; refine wl_val (r_move (v := .slice _ _ _) rfl) rfl ?_; refine wl_val (r_len (T := 22) rfl ti22.und rfl _ rfl) rfl ?_; refine wl_val (r_move (v := .int .i64 0) rfl) rfl ?_; refine wl_nil ?_; refine c_then ?_; refine c_block ?_; refine c_loopE [0, 2, 3, 7] (fun d e w' => ∃ (k : Nat), Kw.look e 8 = vi k ∧ d = 8 - k ∧ St w [] w' [.blk b5 (cl ((upto 8 (fun i => UInt8.ofNat (n / 2 ^ (56 - 8 * i))) 0 k).map b8) 5)] ∧ (k ≤ 8)) (8) ?_ ?_
  · exact ⟨0, rfl, rfl, by rw [upto_zero]; exact hS2, by omega⟩
  · rintro d6 e3 w4 ⟨k, hc0_8, rfl, hS5, hI0_0⟩ -
    refine c_set (d := 8) hc0_8 ?_; refine c_seq ?_; refine c_region ?_
    refine wl_dec (r_lss rfl rfl) rfl (fun h3_0 => ?_) (fun h3_0 => ?_)
    · refine wl_nil ?_
      refine c_then ?_; refine c_seq ?_; refine c_true rfl ?_; refine wp_skip ?_; refine c_then ?_; refine c_seq ?_; refine c_block ?_; refine c_seq ?_; refine c_region ?_; refine wl_val (r_move (v := .int .i64 _) rfl) rfl ?_; refine wl_val (r_assign (v := .int .i64 _) rfl) rfl ?_; refine wl_nil ?_; refine c_then ?_; refine c_region ?_; refine wl_val (r_move (v := .slice _ _ _) rfl) rfl ?_; refine wl_val (r_move (v := .int .i64 _) rfl) rfl ?_; refine wl_val (r_move (v := .int .i64 _) rfl) rfl ?_; refine wl_val (r_move (v := .int .i64 _) rfl) rfl ?_; refine wl_val (r_muln (a := 8) rfl rfl (by omega)) rfl ?_; refine wl_val (r_subn (a := 56) rfl rfl (by omega) (by omega)) rfl ?_; refine wl_val (r_shri rfl rfl (by omega)) rfl ?_; refine wl_val (c_i64_u8 ti5.und ⟨_, ti3.und⟩ rfl) rfl ?_; refine wl_val (r_ixB ti22.und ti5 rfl rfl (by first | omega | (simp [*]; done) | (simp [*] <;> omega))) rfl ?_; refine wl_exs (x_store1m [] hS5 ti5 rfl rfl rfl (by first | omega | (simp [*]; done) | (simp [*] <;> omega))) rfl ?_; intro w7 hS8; simp only [List.cons_append, List.nil_append] at hS8; refine wl_nil ?_; refine c_inN ?_; refine c_then ?_; refine c_region ?_; refine wl_val (r_addn (b := 1) rfl rfl (by omega)) rfl ?_; refine wl_val (r_move (v := .int .i64 _) rfl) rfl ?_; refine wl_nil ?_; refine c_then ?_
      refine ⟨8 - (k + 1), _, by omega, rfl, ⟨k + 1, rfl, rfl, ?_, by omega⟩, ⟨rfl, rfl, rfl, rfl, trivial⟩⟩
      rw [← upto_set _ _ _ _ (by omega)]
      exact hS8
    refine wl_nil ?_; refine c_then ?_; refine c_seq ?_; refine c_false rfl ?_; refine wp_exit ?_; refine c_thenE ?_; refine c_thenE ?_; refine c_inE ?_; refine c_then ?_; refine c_seq ?_; refine c_region ?_; refine wl_val (r_move (v := .slice _ _ _) rfl) rfl ?_; refine wl_val (r_assign (v := .slice _ _ _) rfl) rfl ?_; refine wl_nil ?_; refine c_then ?_; refine wp_ret ?_; refine ret1 Try.results38 ?_
    obtain rfl : k = 8 := by omega
    rw [upto_full] at hS5
    refine ⟨_, rfl, ?_⟩
    rw [← longR_eq n (by omega)]
    exact hS5

end Go.Proofs.Ytflfocmfdlmjiaa
