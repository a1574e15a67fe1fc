/- What the law's proof leans on. No condition. -/
import Derived.Test.YtmonnmndphlkaaaGreatPPdAH
import Derived.Test.YtmonnmndphlkaaaGreatPPdBH
import Derived.Test.YtmonnmndphlkaaaGreatPPdBS
import Derived.Test.YtmonnmndphlkaaaGreatPPdAI
import Derived.Test.YtmonnmndphlkaaaGreatPPdAX
section
namespace Go.Proofs.YtmonnmndphlkaaaGreat
open Go.Kw
set_option linter.unusedVariables false
set_option linter.unusedSimpArgs false
set_option maxRecDepth 100000
theorem growR_ok (n : Nat) (w : World) (hn : n ≤ 1099511627776) :
    Ret Tryz.prog 38 [.slice none 0 0, vi n] w (fun v w' => ∃ a' c', v = .slice a' 0 c' ∧ St w [] w' [.row (.slice a' 0 c') 50 8 0 []]) := by
  refine enter Tryz.func38 rfl Tryz.ntmps38 rfl ?_
  have hS := St.refl w []
  refine c_seq ?_; refine c_region ?_; refine wl_val (r_assign (v := .slice none 0 0) rfl) rfl ?_; refine wl_nil ?_; refine c_then ?_; refine c_seq ?_; refine c_seq ?_; refine c_region ?_; refine wl_val (r_move (v := .int .i64 _) rfl) rfl ?_; refine wl_dec_f (r_lss rfl rfl) rfl (by omega) ?_; refine wl_nil ?_; refine c_then ?_; refine c_false rfl ?_; refine wp_skip ?_; refine c_then ?_; refine c_seq ?_; refine c_seq ?_; refine c_region ?_; refine wl_val (r_move (v := .int .i64 _) rfl) rfl ?_; refine wl_val (r_move (v := .slice _ _ _) rfl) rfl ?_; refine wl_val (r_cap (T := 22) rfl ti22.und rfl _ rfl) rfl ?_; refine wl_val (r_move (v := .slice _ _ _) rfl) rfl ?_; refine wl_val (r_len (T := 22) rfl ti22.und rfl _ rfl) rfl ?_; refine wl_val (r_subn rfl rfl (by omega) (by omega)) rfl ?_; refine wl_val (r_subn rfl rfl (by omega) (by omega)) rfl ?_; refine wl_val (r_assign (v := .int .i64 _) rfl) rfl ?_; refine wl_nil ?_; refine c_then ?_; refine c_seq ?_; refine c_region ?_; refine wl_val (r_move (v := .int .i64 _) rfl) rfl ?_
  refine wl_dec (r_gtr rfl rfl) rfl (fun h4_1 => ?_) (fun h4_1 => ?_)
  · refine wl_nil ?_
    refine c_then ?_; refine c_true rfl ?_; refine c_region ?_; refine wl_val (r_move (v := .slice _ _ _) rfl) rfl ?_; refine wl_val (r_move (v := .slice _ _ _) rfl) rfl ?_; refine wl_val (r_cap (T := 22) rfl ti22.und rfl _ rfl) rfl ?_; refine wl_val (r_sl_h ti22.und ti50 rfl rfl (by omega)) rfl ?_; refine wl_val (r_move (v := .int .i64 _) rfl) rfl ?_; refine wl_exv (x_growNil hS ti22.und ti50 ti3.und rfl (by decide) rfl rfl (by first | omega | (simp [*]; done) | (simp [*] <;> omega)) (by first | omega | (simp [*]; done) | (simp [*] <;> omega)) (by first | omega | (simp [*]; done) | (simp [*] <;> omega)) _ rfl) rfl ?_; rintro _ w1 ⟨aq3, cq3, xq3, rfl, hcq3, hS2⟩; refine wl_val (r_move (v := .slice _ _ _) rfl) rfl ?_; refine wl_val (r_len (T := 22) rfl ti22.und rfl _ rfl) rfl ?_; refine wl_val (r_sl_h ti22.und ti50 rfl rfl (by omega)) rfl ?_
    have hS4 := hS2.rowCut (l1 := []) (h := 0) (Nat.zero_le _)
    simp only [List.cons_append, List.nil_append, Nat.zero_mul, List.take_zero] at hS4
    refine wl_val (r_assign (v := .slice _ _ _) rfl) rfl ?_; refine wl_nil ?_; refine c_then ?_; refine c_seq ?_; refine c_region ?_; refine wl_val (r_move (v := .slice _ _ _) rfl) rfl ?_; refine wl_val (r_assign (v := .slice _ _ _) rfl) rfl ?_; refine wl_nil ?_; refine c_then ?_; refine wp_ret ?_; refine ret1 Tryz.results38 ?_
    first | exact ⟨_, _, rfl, hS4⟩ | exact ⟨none, 0, rfl, hS4.nilRow⟩
  refine wl_nil ?_; refine c_then ?_; refine c_false rfl ?_; refine wp_skip ?_; refine c_then ?_; refine c_seq ?_; refine c_region ?_; refine wl_val (r_move (v := .slice _ _ _) rfl) rfl ?_; refine wl_val (r_assign (v := .slice _ _ _) rfl) rfl ?_; refine wl_nil ?_; refine c_then ?_; refine wp_ret ?_; refine ret1 Tryz.results38 ?_
  first | exact ⟨_, _, rfl, hS⟩ | exact ⟨none, 0, rfl, hS.nilRow⟩

theorem concatR_ok (ps : List (Sl RuleD)) (a : Option Addr) (c : Nat) (w : World) (hb : Row w a (ps.map Sl.v)) (hr : ∀ q ∈ ps, Row w q.a (q.xs.flatMap RuleD.v)) (hl : ps.length ≤ 1000) (hn : totalR ps ≤ 1000) :
    Ret Tryz.prog 14 [.slice a ps.length c] w (fun v w' => ∃ a' c', v = .slice a' (totalR ps) c' ∧ St w [] w' [.row (.slice a' (totalR ps) c') 50 8 (totalR ps) ((joinedR ps).flatMap RuleD.v)]) := by
  refine enter Tryz.func14 rfl Tryz.ntmps14 rfl ?_
  have hS := St.refl w []
  refine c_seq ?_; refine c_region ?_; refine wl_val (r_assign (v := .slice none 0 0) rfl) rfl ?_; refine wl_nil ?_; refine c_then ?_; refine c_seq ?_; refine c_region ?_; refine wl_val (r_assign (v := .int .i64 0) rfl) rfl ?_; refine wl_nil ?_; refine c_then ?_; refine c_seq ?_; refine c_seq ?_; refine c_region ?_; refine wl_val (r_move (v := .slice _ _ _) rfl) rfl ?_; refine wl_val (r_len (T := 81) rfl ti81.und rfl _ rfl) rfl ?_; refine wl_val (r_move (v := .int .i64 0) rfl) rfl ?_; refine wl_nil ?_; refine c_then ?_; refine c_block ?_; refine c_loopE [0, 2, 9, 10] (fun d e w' => ∃ (k : Nat), Kw.look e 11 = vi k ∧ Kw.look e 3 = vi (totalR (ps.take k)) ∧ d = ps.length - k ∧ St w [] w' [] ∧ (k ≤ ps.length)) (ps.length - 0) ?_ ?_
  · exact ⟨0, rfl, rfl, rfl, hS, Nat.zero_le _⟩
  · rintro d4 e1 w2 ⟨k, hc0_11, hc0_3, rfl, hS3, hI0_0⟩ -
    refine c_set (d := 11) hc0_11 ?_; refine c_set (d := 3) hc0_3 ?_; refine c_seq ?_; refine c_region ?_
    refine wl_dec (r_lss rfl rfl) rfl (fun h3_0 => ?_) (fun h3_0 => ?_)
    · refine wl_nil ?_
      refine c_then ?_; refine c_seq ?_; refine c_true rfl ?_; refine wp_skip ?_; refine c_then ?_; refine c_seq ?_; refine c_block ?_; refine c_seq ?_; refine c_region ?_; refine wl_val (r_ixS ti81.und ti22 rfl rfl (hb.st hS3) (by first | omega | (simp [*]; done) | (simp [*] <;> omega)) (by first | (simp [*]; done) | (simp [*] <;> omega) | omega)) rfl ?_; refine wl_val (r_loadS1 ti22.und rfl rfl (hb.st hS3) (by rw [Nat.mul_one]; exact map_gt _ _ _ (by first | omega | (simp [*]; done) | (simp [*] <;> omega)))) rfl ?_; refine wl_val (r_assign (v := .slice _ _ _) rfl) rfl ?_; refine wl_nil ?_; refine c_then ?_; refine c_seq ?_
      have ht := totalR_take ps k (by omega)
      have htl := totalR_le ps (k + 1)
      refine c_region ?_; refine wl_val (r_move (v := .int .i64 _) rfl) rfl ?_; refine wl_val (r_move (v := .slice _ _ _) rfl) rfl ?_; refine wl_val (r_len (T := 22) rfl ti22.und rfl _ rfl) rfl ?_; refine wl_val (r_addn rfl rfl (by omega)) rfl ?_; refine wl_val (r_assign (v := .int .i64 _) rfl) rfl ?_; refine wl_nil ?_; refine c_then ?_; refine c_seq ?_; refine c_region ?_; refine wl_val (r_move (v := .int .i64 _) rfl) rfl ?_; refine wl_dec_f (r_lss rfl rfl) rfl (by omega) ?_; refine wl_nil ?_; refine c_then ?_; refine c_false rfl ?_; refine wp_skip ?_; refine c_inN ?_; refine c_then ?_; refine c_region ?_; refine wl_val (r_addn (b := 1) rfl rfl (by omega)) rfl ?_; refine wl_val (r_move (v := .int .i64 _) rfl) rfl ?_; refine wl_nil ?_; refine c_then ?_
      exact ⟨ps.length - (k + 1), _, by omega, rfl, ⟨k + 1, rfl, congrArg (fun t => Value.int .i64 ((t : Nat) : Int)) ht.symm, rfl, hS3, by omega⟩, ⟨rfl, rfl, rfl, rfl, trivial⟩⟩
    refine wl_nil ?_; refine c_then ?_; refine c_seq ?_; refine c_false rfl ?_; refine wp_exit ?_; refine c_thenE ?_; refine c_thenE ?_; refine c_inE ?_; refine c_then ?_; refine c_seq ?_
    have htl := totalR_le ps k
    refine c_region ?_; refine wl_val (r_move (v := .int .i64 _) rfl) rfl ?_; refine wl_call (r_call fn38 rfl rfl) rfl (growR_ok _ _ (by first | omega | (simp [*]; done) | (simp [*] <;> omega))) ?_; rintro _ w5 ⟨a24, c24, rfl, hx6⟩
    have hS7 := hS3.call hx6
    simp only [List.cons_append, List.nil_append] at hS7; refine wl_val (r_assign (v := .slice _ _ _) rfl) rfl ?_; refine wl_nil ?_; refine c_then ?_; refine c_seq ?_; refine c_seq ?_; refine c_region ?_; refine wl_val (r_move (v := .slice _ _ _) rfl) rfl ?_; refine wl_val (r_len (T := 81) rfl ti81.und rfl _ rfl) rfl ?_; refine wl_val (r_move (v := .int .i64 0) rfl) rfl ?_; refine wl_nil ?_; refine c_then ?_; refine c_block ?_; refine c_loopE [2, 25, 26] (fun d e w' => ∃ (k : Nat) (a6 : Option Addr) (c6 : Nat), Kw.look e 27 = vi k ∧ Kw.look e 6 = .slice a6 (totalR (ps.take k)) c6 ∧ d = ps.length - k ∧ St w [] w' [.row (.slice a6 (totalR (ps.take k)) c6) 50 8 (totalR (ps.take k)) ((joinedR (ps.take k)).flatMap RuleD.v)] ∧ (k ≤ ps.length)) (ps.length - 0) ?_ ?_
    · exact ⟨0, _, _, rfl, rfl, rfl, hS7, Nat.zero_le _⟩
    · rintro d11 e8 w9 ⟨k, a6, c6, hc1_27, hc1_6, rfl, hS10, hI1_0⟩ -
      refine c_set (d := 27) hc1_27 ?_; refine c_set (d := 6) hc1_6 ?_; refine c_seq ?_; refine c_region ?_
      refine wl_dec (r_lss rfl rfl) rfl (fun h11_0 => ?_) (fun h11_0 => ?_)
      · refine wl_nil ?_
        refine c_then ?_; refine c_seq ?_; refine c_true rfl ?_; refine wp_skip ?_; refine c_then ?_; refine c_seq ?_; refine c_block ?_; refine c_seq ?_; refine c_region ?_; refine wl_val (r_ixS ti81.und ti22 rfl rfl (hb.st hS10) (by first | omega | (simp [*]; done) | (simp [*] <;> omega)) (by first | (simp [*]; done) | (simp [*] <;> omega) | omega)) rfl ?_; refine wl_val (r_loadS1 ti22.und rfl rfl (hb.st hS10) (by rw [Nat.mul_one]; exact map_gt _ _ _ (by first | omega | (simp [*]; done) | (simp [*] <;> omega)))) rfl ?_; refine wl_val (r_assign (v := .slice _ _ _) rfl) rfl ?_; refine wl_nil ?_; refine c_then ?_
        have ht := totalR_take ps k (by omega)
        have htl := totalR_le ps (k + 1)
        have hrk := hr (gt ps k) (gt_mem ps k (by omega))
        refine c_region ?_; refine wl_val (r_move (v := .slice _ _ _) rfl) rfl ?_; refine wl_val (r_move (v := .slice _ _ _) rfl) rfl ?_; refine wl_exv (x_append [] hS10 ti22.und ti50 rfl (by decide) rfl rfl (hrk.st hS10) (by rw [flatM_len rule_v8]) (one_flat _) (by omega) (by omega) _ rfl) rfl ?_; rintro _ w12 ⟨aq14, cq14, rfl, hcq14, hS13⟩; simp only [List.cons_append, List.nil_append] at hS13; refine wl_val (r_assign (v := .slice _ _ _) rfl) rfl ?_; refine wl_nil ?_; refine c_inN ?_; refine c_then ?_; refine c_region ?_; refine wl_val (r_addn (b := 1) rfl rfl (by omega)) rfl ?_; refine wl_val (r_move (v := .int .i64 _) rfl) rfl ?_; refine wl_nil ?_; refine c_then ?_
        refine ⟨ps.length - (k + 1), _, by omega, rfl, ⟨k + 1, _, _, rfl, (by rw [ht]; rfl), rfl, ?_, by omega⟩, ⟨rfl, rfl, rfl, trivial⟩⟩
        rw [ht, joinedR_take ps k (by omega), List.flatMap_append]
        exact hS13
      refine wl_nil ?_; refine c_then ?_; refine c_seq ?_; refine c_false rfl ?_; refine wp_exit ?_; refine c_thenE ?_; refine c_thenE ?_; refine c_inE ?_; refine c_then ?_; refine c_seq ?_; refine c_region ?_; refine wl_val (r_move (v := .slice _ _ _) rfl) rfl ?_; refine wl_val (r_assign (v := .slice _ _ _) rfl) rfl ?_; refine wl_nil ?_; refine c_then ?_; refine wp_ret ?_; refine ret1 Tryz.results14 ?_
      obtain rfl : k = ps.length := by omega
      simp only [List.take_length] at *
      exact ⟨_, _, rfl, hS10⟩

end Go.Proofs.YtmonnmndphlkaaaGreat
end
section
namespace Go.Proofs.YtmonnmndphlkaaaGreat
open Go.Kw
set_option linter.unusedVariables false
set_option linter.unusedSimpArgs false
set_option maxRecDepth 100000
theorem concatR2_ok (x y : List RuleD) (a1 a2 a : Option Addr) (n1 n2 c1 c2 c : Nat) (w : World) (hb : Row w a [.slice a1 n1 c1, .slice a2 n2 c2]) (h1 : Row w a1 (x.flatMap RuleD.v)) (h2 : Row w a2 (y.flatMap RuleD.v)) (l1 : x.length = n1) (l2 : y.length = n2) (hn : n1 + n2 ≤ 1000) :
    Ret Tryz.prog 14 [.slice a 2 c] w (fun v w' => ∃ a' c', v = .slice a' (n1 + n2) c' ∧ St w [] w' [.row (.slice a' (n1 + n2) c') 50 8 (n1 + n2) ((x ++ y).flatMap RuleD.v)]) := by
  subst l1; subst l2
  have e : totalR [⟨a1, c1, x⟩, ⟨a2, c2, y⟩] = x.length + y.length := by simp [totalR]
  have e2 : joinedR [⟨a1, c1, x⟩, ⟨a2, c2, y⟩] = x ++ y := by simp [joinedR]
  have h := concatR_ok [⟨a1, c1, x⟩, ⟨a2, c2, y⟩] a c w hb (by intro q hq; simp only [List.mem_cons, List.not_mem_nil, or_false] at hq; rcases hq with rfl | rfl <;> first | exact h1 | exact h2) (by simp) (by rw [e]; exact hn)
  rw [e, e2] at h
  exact h

end Go.Proofs.YtmonnmndphlkaaaGreat
end
