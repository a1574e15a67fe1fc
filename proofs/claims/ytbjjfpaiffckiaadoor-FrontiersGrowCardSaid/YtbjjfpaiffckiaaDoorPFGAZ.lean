/- What the law's proof leans on. No condition. -/
import Derived.Test.YtbjjfpaiffckiaaDoorPFGAH
import Derived.Test.YtbjjfpaiffckiaaDoorPFGAX
import Derived.Test.YtbjjfpaiffckiaaDoorPFGAY
namespace Go.Proofs.YtbjjfpaiffckiaaDoor
open Go.Kw
set_option linter.unusedVariables false
set_option linter.unusedSimpArgs false
set_option maxRecDepth 100000
set_option maxHeartbeats 4000000 in
theorem rpeaks_ok (l : List (List UInt8)) (a : Option Addr) (n c : Nat) (w : World) (hb : Row w a (l.flatten.map b8)) (h32 : S32 l) (hl : l.length = n) (hc : n ≤ c) (hn : n < 2 ^ 21) :
    Ret Tryd.prog 13 [.slice a n c] w (fun v w' => ∃ a' c', v = .slice a' (peaksN 21 l).length c' ∧ (peaksN 21 l).length ≤ c' ∧ St w [] w' [.row (.slice a' (peaksN 21 l).length c') 29 32 (peaksN 21 l).length ((peaksN 21 l).flatten.map b8)]) := by
  refine enter Tryd.func13 rfl Tryd.ntmps13 rfl ?_
  have hS := St.refl w []
  refine c_seq ?_; refine c_region ?_; refine wl_val (r_assign (v := .slice none 0 0) rfl) rfl ?_; refine wl_nil ?_; refine c_then ?_; refine c_seq ?_; refine c_region ?_; refine wl_val (r_assign (v := .slice none 0 0) rfl) rfl ?_; refine wl_nil ?_; refine c_then ?_; refine c_seq ?_; refine c_seq ?_; refine c_region ?_; refine wl_val (r_assign (v := .int .i64 1048576) rfl) rfl ?_; refine wl_nil ?_; refine c_then ?_; refine c_block ?_; refine c_loopE [2] (fun d e w' => ∃ (t : Nat) (Lr : List (List UInt8)) (ar : Option Addr) (nr cr m : Nat) (ao : Option Addr) (co : Nat) (D : List (List UInt8)), Kw.look e 4 = vi (2 ^ t / 2) ∧ Kw.look e 0 = .slice ar nr cr ∧ Kw.look e 3 = .slice ao m co ∧ d = 0 + t ∧ St w [] w' [.row (.slice ao m co) 29 32 m (D.flatten.map b8)] ∧ (Row w ar (Lr.flatten.map b8)) ∧ (S32 Lr) ∧ (Lr.length = nr) ∧ (nr ≤ cr) ∧ (Lr.length < 2 ^ t) ∧ (D ++ peaksN t Lr = peaksN 21 l) ∧ (D.length = m) ∧ (m ≤ co) ∧ (m + t ≤ 21)) (0 + 21) ?_ ?_
  have hS5 := St.nilRow (E := 29) (sz := 32) hS
  · exact ⟨21, l, a, n, c, 0, none, 0, [], rfl, rfl, rfl, rfl, hS5, hb, h32, hl, hc, (by rw [hl]; exact hn), rfl, rfl, Nat.le_refl _, Nat.le_refl _⟩
  · rintro d4 e1 w2 ⟨t, Lr, ar, nr, cr, m, ao, co, D, hc0_4, hc0_0, hc0_3, rfl, hS3, hbr, h32r, hnr, hcr, hlt, hpk, hDm, hco, hmt⟩ -
    refine c_set (d := 4) hc0_4 ?_; refine c_set (d := 0) hc0_0 ?_; refine c_set (d := 3) hc0_3 ?_; refine c_seq ?_; refine c_seq ?_; refine c_region ?_; refine wl_val (r_move (v := .int .i64 _) rfl) rfl ?_
    refine wl_dec (r_gtr rfl rfl) rfl (fun h3_1 => ?_) (fun h3_1 => ?_)
    · refine wl_nil ?_
      refine c_then ?_; refine c_true rfl ?_; refine wp_skip ?_; refine c_then ?_; refine c_seq ?_; refine c_block ?_; refine c_seq ?_
      obtain ⟨t', rfl⟩ : ∃ t', t = t' + 1 := ⟨t - 1, by rcases Nat.eq_zero_or_pos t with h | h; (subst h; simp at h3_1); omega⟩
      have e2 : 2 ^ (t' + 1) / 2 = 2 ^ t' := by rw [Nat.pow_succ]; omega
      have hp2 := Nat.two_pow_pos t'
      have hp3 : 2 ^ t' ≤ 2 ^ 20 := Nat.pow_le_pow_right (by decide) (by omega)
      have hpw : 2 ^ (t' + 1) = 2 ^ t' * 2 := Nat.pow_succ ..
      have han := and_pow hlt
      rw [hnr] at han
      refine c_set (d := 4) (v := vi (2 ^ t')) (congrArg (fun k : Nat => vi k) e2) ?_; refine c_region ?_; refine wl_val (r_move (v := .slice _ _ _) rfl) rfl ?_; refine wl_val (r_len (T := 24) rfl ti24.und rfl _ rfl) rfl ?_; refine wl_val (r_move (v := .int .i64 _) rfl) rfl ?_; refine wl_val (r_andnn rfl rfl (by omega) (by omega)) rfl ?_
      refine wl_dec (r_neq rfl rfl) rfl (fun h5_4 => ?_) (fun h5_4 => ?_)
      · refine wl_nil ?_
        refine c_then ?_; refine c_true rfl ?_; refine c_seq ?_
        have hle : 2 ^ t' ≤ nr := by by_cases hh : 2 ^ t' ≤ nr; exact hh; (rw [if_neg hh] at han; exact absurd han (by omega))
        have htk : Row w ar ((Lr.take (2 ^ t')).flatten.map b8) := hbr.take32 h32r _
        have hdr : Row w (sub ar cr (2 ^ t') 32) ((Lr.drop (2 ^ t')).flatten.map b8) := hbr.from32 h32r (by omega) (2 ^ t')
        have hrl := rootL_len (Lr.take (2 ^ t')) (h32r.take _) (by rw [List.length_take]; omega)
        refine c_region ?_; refine wl_val (r_move (v := .slice _ _ _) rfl) rfl ?_; refine wl_val (r_move (v := .slice _ _ _) rfl) rfl ?_; refine wl_val (r_move (v := .int .i64 _) rfl) rfl ?_; refine wl_val (r_sl_h ti24.und ti29 rfl rfl (by omega)) rfl ?_; refine wl_call (r_call fn14 rfl rfl) rfl (rroot_ok _ (Lr.take (2 ^ t')) _ _ _ (htk.st hS3) (h32r.take _) (by rw [List.length_take]; omega) (by omega) (by omega) (by omega)) ?_; rintro _ w6 ⟨rfl, hx7⟩
        have hS8 := hS3.ext hx7
        refine wl_exv (x_litA1 hS8 ti24.und ti29 rfl (by first | (simp [*]; done) | (simp [*] <;> omega) | omega) rfl (by decide) (by decide)) rfl ?_; rintro _ w9 ⟨b19, rfl, hS10⟩; refine wl_exv (x_append [_] hS10 ti24.und ti29 rfl (by decide) rfl rfl (Row.of_at (at_all (hS10.heap (.head _)))) (by first | (simp [*]; done) | (simp [*] <;> omega) | omega) (by first | exact one_b8 _ | exact one_v32 _ | (intro c hc; simp only [List.mem_cons, List.not_mem_nil, or_false] at hc; (first | subst hc | rcases hc with rfl | rfl) <;> rfl)) (by first | omega | (simp [*]; done) | (simp [*] <;> omega)) (by first | omega | (simp [*]; done) | (simp [*] <;> omega)) _ rfl) rfl ?_; rintro _ w11 ⟨aq13, cq13, rfl, hcq13, hS12⟩; simp only [List.cons_append, List.nil_append] at hS12; refine wl_val (r_assign (v := .slice _ _ _) rfl) rfl ?_; refine wl_nil ?_; refine c_then ?_; refine c_region ?_; refine wl_val (r_move (v := .slice _ _ _) rfl) rfl ?_; refine wl_val (r_move (v := .int .i64 _) rfl) rfl ?_; refine wl_val (r_sl_l ti24.und ti29 rfl rfl (by omega)) rfl ?_; refine wl_val (r_assign (v := .slice _ _ _) rfl) rfl ?_; refine wl_nil ?_; refine c_inN ?_; refine c_then ?_; refine c_region ?_; refine wl_val (r_move (v := .int .i64 _) rfl) rfl ?_; refine wl_val (r_quon (b := 2) rfl rfl (by omega) (by omega)) rfl ?_; refine wl_val (r_assign (v := .int .i64 _) rfl) rfl ?_; refine wl_nil ?_; refine c_then ?_
        have eD : D.flatten.map b8 ++ (rootL (Lr.take (2 ^ t'))).map b8 = (D ++ [rootL (Lr.take (2 ^ t'))]).flatten.map b8 := by rw [flat_snoc, List.map_append]
        rw [eD] at hS12
        exact ⟨0 + t', _, by omega, rfl, ⟨t', Lr.drop (2 ^ t'), _, _, _, m + 1, _, _, D ++ [rootL (Lr.take (2 ^ t'))], rfl, rfl, rfl, rfl, hS12.drop1, hdr, h32r.drop _, by rw [List.length_drop, hnr], by omega, by rw [List.length_drop]; omega, (by rw [List.append_assoc]; rw [peaksN_hi (by omega)] at hpk; exact hpk), by rw [List.length_append, hDm]; rfl, hcq13, by omega⟩, ⟨rfl, trivial⟩⟩
      refine wl_nil ?_; refine c_then ?_; refine c_false rfl ?_; refine wp_skip ?_; refine c_inN ?_; refine c_then ?_; refine c_region ?_; refine wl_val (r_move (v := .int .i64 _) rfl) rfl ?_; refine wl_val (r_quon (b := 2) rfl rfl (by omega) (by omega)) rfl ?_; refine wl_val (r_assign (v := .int .i64 _) rfl) rfl ?_; refine wl_nil ?_; refine c_then ?_
      have hnl : ¬ 2 ^ t' ≤ nr := by intro hh; rw [if_pos hh] at han; omega
      exact ⟨0 + t', _, by omega, rfl, ⟨t', Lr, _, _, _, m, _, _, D, rfl, rfl, rfl, rfl, hS3, hbr, h32r, hnr, hcr, by omega, (by rw [peaksN_lo (by omega)] at hpk; exact hpk), hDm, hco, by omega⟩, ⟨rfl, trivial⟩⟩
    refine wl_nil ?_; refine c_then ?_; refine c_false rfl ?_; refine wp_exit ?_; refine c_thenE ?_; refine c_thenE ?_; refine c_inE ?_; refine c_then ?_; refine c_seq ?_; refine c_region ?_; refine wl_val (r_move (v := .slice _ _ _) rfl) rfl ?_; refine wl_val (r_assign (v := .slice _ _ _) rfl) rfl ?_; refine wl_nil ?_; refine c_then ?_; refine wp_ret ?_; refine ret1 Tryd.results13 ?_
    obtain rfl : t = 0 := by rcases Nat.eq_zero_or_pos t with h | h; exact h; (obtain ⟨t', rfl⟩ : ∃ t', t = t' + 1 := ⟨t - 1, by omega⟩; have := Nat.two_pow_pos t'; rw [Nat.pow_succ] at h3_1; exfalso; omega)
    rw [peaksN, List.append_nil] at hpk
    subst hpk hDm
    exact ⟨_, _, rfl, hco, hS3⟩

end Go.Proofs.YtbjjfpaiffckiaaDoor
