/- What the law's proof leans on. No condition. -/
import Derived.Test.YtflfocmfdlmjiaaPTcAH
import Derived.Test.YtflfocmfdlmjiaaPTcAI
import Derived.Test.YtflfocmfdlmjiaaPTcAL
namespace Go.Proofs.Ytflfocmfdlmjiaa
open Go.Kw
set_option linter.unusedVariables false
set_option linter.unusedSimpArgs false
set_option maxRecDepth 100000
theorem equal_ok (xs ys : List UInt8) (a1 a2 : Option Addr) (n1 n2 c1 c2 : Nat) (w : World) (h1 : Row w a1 (xs.map b8)) (h2 : Row w a2 (ys.map b8)) (l1 : xs.length = n1) (l2 : ys.length = n2) :
    Ret Try.prog 10 [.slice a1 n1 c1, .slice a2 n2 c2] w (fun v w' => v = .bool (decide (xs = ys)) ∧ St w [] w' []) := by
  refine enter Try.func10 rfl Try.ntmps10 rfl ?_
  have hS := St.refl w []
  refine c_seq ?_; refine c_region ?_; refine wl_val (r_assign (v := .bool false) rfl) rfl ?_; refine wl_nil ?_; refine c_then ?_; refine c_seq ?_; refine c_region ?_; refine wl_val (r_move (v := .slice _ _ _) rfl) rfl ?_; refine wl_val (r_bytesToStr ti9.und ti22.und ti5.und rfl (h1.st hS) (by first | (simp [*]; done) | (simp [*] <;> omega) | omega)) rfl ?_; refine wl_val (r_move (v := .slice _ _ _) rfl) rfl ?_; refine wl_val (r_bytesToStr ti9.und ti22.und ti5.und rfl (h2.st hS) (by first | (simp [*]; done) | (simp [*] <;> omega) | omega)) rfl ?_; refine wl_val (r_eqlStr rfl rfl) rfl ?_; refine wl_val (r_assign (v := .bool _) rfl) rfl ?_; refine wl_nil ?_; refine c_then ?_; refine wp_ret ?_; refine ret1 Try.results10 ?_
  exact ⟨congrArg Value.bool (ba_dec _ _), hS.fin⟩

theorem equal_t (xs ys : List UInt8) (a1 a2 : Option Addr) (n1 n2 c1 c2 : Nat) (w : World) (h1 : Row w a1 (xs.map b8)) (h2 : Row w a2 (ys.map b8)) (l1 : xs.length = n1) (l2 : ys.length = n2) (h : xs = ys) :
    Ret Try.prog 10 [.slice a1 n1 c1, .slice a2 n2 c2] w (fun v w' => v = .bool true ∧ St w [] w' []) :=
  (equal_ok xs ys a1 a2 n1 n2 c1 c2 w h1 h2 l1 l2).mono fun v w' hv => by rw [decide_eq_true h] at hv; exact hv

theorem equal_f (xs ys : List UInt8) (a1 a2 : Option Addr) (n1 n2 c1 c2 : Nat) (w : World) (h1 : Row w a1 (xs.map b8)) (h2 : Row w a2 (ys.map b8)) (l1 : xs.length = n1) (l2 : ys.length = n2) (h : ¬ xs = ys) :
    Ret Try.prog 10 [.slice a1 n1 c1, .slice a2 n2 c2] w (fun v w' => v = .bool false ∧ St w [] w' []) :=
  (equal_ok xs ys a1 a2 n1 n2 c1 c2 w h1 h2 l1 l2).mono fun v w' hv => by rw [decide_eq_false h] at hv; exact hv

theorem equal_br (xs ys : List UInt8) (a1 a2 : Option Addr) (n1 n2 c1 c2 : Nat) (w : World) (h1 : Row w a1 (xs.map b8)) (h2 : Row w a2 (ys.map b8)) (l1 : xs.length = n1) (l2 : ys.length = n2) :
    Ret Try.prog 10 [.slice a1 n1 c1, .slice a2 n2 c2] w (fun v w' => (v = .bool true ∧ xs = ys ∧ St w [] w' []) ∨ (v = .bool false ∧ ¬ xs = ys ∧ St w [] w' [])) := by
  by_cases h : xs = ys
  · exact (equal_t xs ys a1 a2 n1 n2 c1 c2 w h1 h2 l1 l2 h).mono fun v w' hv => .inl ⟨hv.1, h, hv.2⟩
  · exact (equal_f xs ys a1 a2 n1 n2 c1 c2 w h1 h2 l1 l2 h).mono fun v w' hv => .inr ⟨hv.1, h, hv.2⟩

theorem clone_ok (l : List UInt8) (a : Option Addr) (c : Nat) (w : World) (hb : Row w a (l.map b8)) (hn : l.length ≤ 140737488351232) :
    Ret Try.prog 19 [.slice a l.length c] w (fun v w' => ∃ a' c', v = .slice a' (l).length c' ∧ (l).length ≤ c' ∧ St w [] w' [.row (.slice a' (l).length c') 5 1 (l).length ((l).map b8)]) := by
  refine enter Try.func19 rfl Try.ntmps19 rfl ?_
  have hS := St.refl w []
  refine c_seq ?_; refine c_region ?_; refine wl_val (r_assign (v := .slice none 0 0) rfl) rfl ?_; refine wl_nil ?_; refine c_then ?_; refine c_seq ?_; refine c_seq ?_; refine c_region ?_; refine wl_val (r_move (v := .slice _ _ _) rfl) rfl ?_
  refine wl_dec (r_eqlSn ti22.und rfl rfl) rfl (fun h1_1 => ?_) (fun h1_1 => ?_)
  · refine wl_nil ?_
    refine c_then ?_; refine c_true rfl ?_; refine c_seq ?_; refine c_region ?_; refine wl_val (r_assign (v := .slice none 0 0) rfl) rfl ?_; refine wl_nil ?_; refine c_then ?_; refine wp_ret ?_; refine c_thenR ?_; refine ret1 Try.results19 ?_
    first | (obtain rfl := nil_of_none hb (by assumption); exact ⟨none, 0, rfl, Nat.le_refl _, hS.nilRow⟩) | (rw [Nat.zero_add] at *; exact ⟨_, _, rfl, by assumption, hS⟩)
  refine wl_nil ?_; refine c_then ?_; refine c_false rfl ?_; refine wp_skip ?_; refine c_then ?_; refine c_seq ?_; refine c_region ?_; refine wl_exv (x_lit (vs := []) hS ti22.und ti5 rfl rfl rfl one_nil (by decide)) rfl ?_; rintro _ w1 ⟨b5, rfl, hS2⟩
  have hS3 := St.toRow (l1 := []) (sz := 1) (n := 0) (cap := 0) hS2 (Nat.le_refl _) (by decide) rfl
  simp only [List.nil_append, Nat.zero_mul, List.take_zero] at hS3
  refine wl_val (r_move (v := .slice _ _ _) rfl) rfl ?_; refine wl_exv (x_append [] hS3 ti22.und ti5 rfl (by decide) rfl rfl (hb.st hS3) (by first | (simp [*]; done) | (simp [*] <;> omega) | omega) (by first | exact one_b8 _ | exact one_v32 _ | (intro c hc; simp only [List.mem_cons, List.not_mem_nil, or_false] at hc; (first | subst hc | rcases hc with rfl | rfl) <;> rfl)) (by omega) (by omega) _ rfl) rfl ?_; rintro _ w4 ⟨aq6, cq6, rfl, hcq6, hS5⟩; simp only [List.cons_append, List.nil_append] at hS5; refine wl_val (r_assign (v := .slice _ _ _) rfl) rfl ?_; refine wl_nil ?_; refine c_then ?_; refine wp_ret ?_; refine ret1 Try.results19 ?_
  first | (obtain rfl := nil_of_none hb (by assumption); exact ⟨none, 0, rfl, Nat.le_refl _, hS5.nilRow⟩) | (rw [Nat.zero_add] at *; exact ⟨_, _, rfl, by assumption, hS5⟩)

theorem grow_ok (n : Nat) (w : World) (hn : n ≤ 140737488355328) :
    Ret Try.prog 54 [.slice none 0 0, vi n] w (fun v w' => ∃ a' c', v = .slice a' 0 c' ∧ St w [] w' [.row (.slice a' 0 c') 5 1 0 []]) := by
  refine enter Try.func54 rfl Try.ntmps54 rfl ?_
  have hS := St.refl w []
  refine c_seq ?_; refine c_region ?_; refine wl_val (r_assign (v := .slice none 0 0) rfl) rfl ?_; refine wl_nil ?_; refine c_then ?_; refine c_seq ?_; refine c_seq ?_; refine c_region ?_; refine wl_val (r_move (v := .int .i64 _) rfl) rfl ?_; refine wl_dec_f (r_lss rfl rfl) rfl (by omega) ?_; refine wl_nil ?_; refine c_then ?_; refine c_false rfl ?_; refine wp_skip ?_; refine c_then ?_; refine c_seq ?_; refine c_seq ?_; refine c_region ?_; refine wl_val (r_move (v := .int .i64 _) rfl) rfl ?_; refine wl_val (r_move (v := .slice _ _ _) rfl) rfl ?_; refine wl_val (r_cap (T := 22) rfl ti22.und rfl _ rfl) rfl ?_; refine wl_val (r_move (v := .slice _ _ _) rfl) rfl ?_; refine wl_val (r_len (T := 22) rfl ti22.und rfl _ rfl) rfl ?_; refine wl_val (r_subn rfl rfl (by omega) (by omega)) rfl ?_; refine wl_val (r_subn rfl rfl (by omega) (by omega)) rfl ?_; refine wl_val (r_assign (v := .int .i64 _) rfl) rfl ?_; refine wl_nil ?_; refine c_then ?_; refine c_seq ?_; refine c_region ?_; refine wl_val (r_move (v := .int .i64 _) rfl) rfl ?_
  refine wl_dec (r_gtr rfl rfl) rfl (fun h4_1 => ?_) (fun h4_1 => ?_)
  · refine wl_nil ?_
    refine c_then ?_; refine c_true rfl ?_; refine c_region ?_; refine wl_val (r_move (v := .slice _ _ _) rfl) rfl ?_; refine wl_val (r_move (v := .slice _ _ _) rfl) rfl ?_; refine wl_val (r_cap (T := 22) rfl ti22.und rfl _ rfl) rfl ?_; refine wl_val (r_sl_h ti22.und ti5 rfl rfl (by omega)) rfl ?_; refine wl_val (r_move (v := .int .i64 _) rfl) rfl ?_; refine wl_exv (x_growNil hS ti22.und ti5 ti3.und rfl (by decide) rfl rfl (by first | omega | (simp [*]; done) | (simp [*] <;> omega)) (by first | omega | (simp [*]; done) | (simp [*] <;> omega)) (by first | omega | (simp [*]; done) | (simp [*] <;> omega)) _ rfl) rfl ?_; rintro _ w1 ⟨aq3, cq3, xq3, rfl, hcq3, hS2⟩; refine wl_val (r_move (v := .slice _ _ _) rfl) rfl ?_; refine wl_val (r_len (T := 22) rfl ti22.und rfl _ rfl) rfl ?_; refine wl_val (r_sl_h ti22.und ti5 rfl rfl (by omega)) rfl ?_
    have hS4 := hS2.rowCut (l1 := []) (h := 0) (Nat.zero_le _)
    simp only [List.cons_append, List.nil_append, Nat.zero_mul, List.take_zero] at hS4
    refine wl_val (r_assign (v := .slice _ _ _) rfl) rfl ?_; refine wl_nil ?_; refine c_then ?_; refine c_seq ?_; refine c_region ?_; refine wl_val (r_move (v := .slice _ _ _) rfl) rfl ?_; refine wl_val (r_assign (v := .slice _ _ _) rfl) rfl ?_; refine wl_nil ?_; refine c_then ?_; refine wp_ret ?_; refine ret1 Try.results54 ?_
    first | exact ⟨_, _, rfl, hS4⟩ | exact ⟨none, 0, rfl, hS4.nilRow⟩
  refine wl_nil ?_; refine c_then ?_; refine c_false rfl ?_; refine wp_skip ?_; refine c_then ?_; refine c_seq ?_; refine c_region ?_; refine wl_val (r_move (v := .slice _ _ _) rfl) rfl ?_; refine wl_val (r_assign (v := .slice _ _ _) rfl) rfl ?_; refine wl_nil ?_; refine c_then ?_; refine wp_ret ?_; refine ret1 Try.results54 ?_
  first | exact ⟨_, _, rfl, hS⟩ | exact ⟨none, 0, rfl, hS.nilRow⟩

theorem concat_ok (ps : List Piece) (a : Option Addr) (c : Nat) (w : World) (hb : Row w a (ps.map Piece.v)) (hr : ∀ q ∈ ps, Row w q.a (q.xs.map b8)) (hl : ps.length ≤ 4611686018427387904) (hn : total ps ≤ 140737488355328) :
    Ret Try.prog 45 [.slice a ps.length c] w (fun v w' => ∃ a' c', v = .slice a' (total ps) c' ∧ St w [] w' [.row (.slice a' (total ps) c') 5 1 (total ps) ((joined ps).map b8)]) := by
  refine enter Try.func45 rfl Try.ntmps45 rfl ?_
  have hS := St.refl w []
  refine c_seq ?_; refine c_region ?_; refine wl_val (r_assign (v := .slice none 0 0) rfl) rfl ?_; refine wl_nil ?_; refine c_then ?_; refine c_seq ?_; refine c_region ?_; refine wl_val (r_assign (v := .int .i64 0) rfl) rfl ?_; refine wl_nil ?_; refine c_then ?_; refine c_seq ?_; refine c_seq ?_; refine c_region ?_; refine wl_val (r_move (v := .slice _ _ _) rfl) rfl ?_; refine wl_val (r_len (T := 30) rfl ti30.und rfl _ rfl) rfl ?_; refine wl_val (r_move (v := .int .i64 0) rfl) rfl ?_; refine wl_nil ?_; refine c_then ?_; refine c_block ?_; refine c_loopE [0, 2, 9, 10] (fun d e w' => ∃ (k : Nat), Kw.look e 11 = vi k ∧ Kw.look e 3 = vi (total (ps.take k)) ∧ d = ps.length - k ∧ St w [] w' [] ∧ (k ≤ ps.length)) (ps.length - 0) ?_ ?_
  · exact ⟨0, rfl, rfl, rfl, hS, Nat.zero_le _⟩
  · rintro d4 e1 w2 ⟨k, hc0_11, hc0_3, rfl, hS3, hI0_0⟩ -
    refine c_set (d := 11) hc0_11 ?_; refine c_set (d := 3) hc0_3 ?_; refine c_seq ?_; refine c_region ?_
    refine wl_dec (r_lss rfl rfl) rfl (fun h3_0 => ?_) (fun h3_0 => ?_)
    · refine wl_nil ?_
      refine c_then ?_; refine c_seq ?_; refine c_true rfl ?_; refine wp_skip ?_; refine c_then ?_; refine c_seq ?_; refine c_block ?_; refine c_seq ?_; refine c_region ?_; refine wl_val (r_ixS ti30.und ti22 rfl rfl (hb.st hS3) (by first | omega | (simp [*]; done) | (simp [*] <;> omega)) (by first | (simp [*]; done) | (simp [*] <;> omega) | omega)) rfl ?_; refine wl_val (r_loadS1 ti22.und rfl rfl (hb.st hS3) (by rw [Nat.mul_one]; exact map_gt _ _ _ (by first | omega | (simp [*]; done) | (simp [*] <;> omega)))) rfl ?_; refine wl_val (r_assign (v := .slice _ _ _) rfl) rfl ?_; refine wl_nil ?_; refine c_then ?_; refine c_seq ?_
      have ht := total_take ps k (by omega)
      have htl := total_le ps (k + 1)
      refine c_region ?_; refine wl_val (r_move (v := .int .i64 _) rfl) rfl ?_; refine wl_val (r_move (v := .slice _ _ _) rfl) rfl ?_; refine wl_val (r_len (T := 22) rfl ti22.und rfl _ rfl) rfl ?_; refine wl_val (r_addn rfl rfl (by omega)) rfl ?_; refine wl_val (r_assign (v := .int .i64 _) rfl) rfl ?_; refine wl_nil ?_; refine c_then ?_; refine c_seq ?_; refine c_region ?_; refine wl_val (r_move (v := .int .i64 _) rfl) rfl ?_; refine wl_dec_f (r_lss rfl rfl) rfl (by omega) ?_; refine wl_nil ?_; refine c_then ?_; refine c_false rfl ?_; refine wp_skip ?_; refine c_inN ?_; refine c_then ?_; refine c_region ?_; refine wl_val (r_addn (b := 1) rfl rfl (by omega)) rfl ?_; refine wl_val (r_move (v := .int .i64 _) rfl) rfl ?_; refine wl_nil ?_; refine c_then ?_
      exact ⟨ps.length - (k + 1), _, by omega, rfl, ⟨k + 1, rfl, congrArg (fun t => Value.int .i64 ((t : Nat) : Int)) ht.symm, rfl, hS3, by omega⟩, ⟨rfl, rfl, rfl, rfl, trivial⟩⟩
    refine wl_nil ?_; refine c_then ?_; refine c_seq ?_; refine c_false rfl ?_; refine wp_exit ?_; refine c_thenE ?_; refine c_thenE ?_; refine c_inE ?_; refine c_then ?_; refine c_seq ?_
    have htl := total_le ps k
    refine c_region ?_; refine wl_val (r_move (v := .int .i64 _) rfl) rfl ?_; refine wl_call (r_call fn54 rfl rfl) rfl (grow_ok _ _ (by first | omega | (simp [*]; done) | (simp [*] <;> omega))) ?_; rintro _ w5 ⟨a24, c24, rfl, hx6⟩
    have hS7 := hS3.call hx6
    simp only [List.cons_append, List.nil_append] at hS7; refine wl_val (r_assign (v := .slice _ _ _) rfl) rfl ?_; refine wl_nil ?_; refine c_then ?_; refine c_seq ?_; refine c_seq ?_; refine c_region ?_; refine wl_val (r_move (v := .slice _ _ _) rfl) rfl ?_; refine wl_val (r_len (T := 30) rfl ti30.und rfl _ rfl) rfl ?_; refine wl_val (r_move (v := .int .i64 0) rfl) rfl ?_; refine wl_nil ?_; refine c_then ?_; refine c_block ?_; refine c_loopE [2, 25, 26] (fun d e w' => ∃ (k : Nat) (a6 : Option Addr) (c6 : Nat), Kw.look e 27 = vi k ∧ Kw.look e 6 = .slice a6 (total (ps.take k)) c6 ∧ d = ps.length - k ∧ St w [] w' [.row (.slice a6 (total (ps.take k)) c6) 5 1 (total (ps.take k)) ((joined (ps.take k)).map b8)] ∧ (k ≤ ps.length)) (ps.length - 0) ?_ ?_
    · exact ⟨0, _, _, rfl, rfl, rfl, hS7, Nat.zero_le _⟩
    · rintro d11 e8 w9 ⟨k, a6, c6, hc1_27, hc1_6, rfl, hS10, hI1_0⟩ -
      refine c_set (d := 27) hc1_27 ?_; refine c_set (d := 6) hc1_6 ?_; refine c_seq ?_; refine c_region ?_
      refine wl_dec (r_lss rfl rfl) rfl (fun h11_0 => ?_) (fun h11_0 => ?_)
      · refine wl_nil ?_
        refine c_then ?_; refine c_seq ?_; refine c_true rfl ?_; refine wp_skip ?_; refine c_then ?_; refine c_seq ?_; refine c_block ?_; refine c_seq ?_; refine c_region ?_; refine wl_val (r_ixS ti30.und ti22 rfl rfl (hb.st hS10) (by first | omega | (simp [*]; done) | (simp [*] <;> omega)) (by first | (simp [*]; done) | (simp [*] <;> omega) | omega)) rfl ?_; refine wl_val (r_loadS1 ti22.und rfl rfl (hb.st hS10) (by rw [Nat.mul_one]; exact map_gt _ _ _ (by first | omega | (simp [*]; done) | (simp [*] <;> omega)))) rfl ?_; refine wl_val (r_assign (v := .slice _ _ _) rfl) rfl ?_; refine wl_nil ?_; refine c_then ?_
        have ht := total_take ps k (by omega)
        have htl := total_le ps (k + 1)
        have hrk := hr (gt ps k) (gt_mem ps k (by omega))
        refine c_region ?_; refine wl_val (r_move (v := .slice _ _ _) rfl) rfl ?_; refine wl_val (r_move (v := .slice _ _ _) rfl) rfl ?_; refine wl_exv (x_append [] hS10 ti22.und ti5 rfl (by decide) rfl rfl (hrk.st hS10) (by first | (simp [*]; done) | (simp [*] <;> omega) | omega) (by first | exact one_b8 _ | exact one_v32 _ | (intro c hc; simp only [List.mem_cons, List.not_mem_nil, or_false] at hc; (first | subst hc | rcases hc with rfl | rfl) <;> rfl)) (by first | omega | (simp [*]; done) | (simp [*] <;> omega)) (by first | omega | (simp [*]; done) | (simp [*] <;> omega)) _ rfl) rfl ?_; rintro _ w12 ⟨aq14, cq14, rfl, hcq14, hS13⟩; simp only [List.cons_append, List.nil_append] at hS13; refine wl_val (r_assign (v := .slice _ _ _) rfl) rfl ?_; refine wl_nil ?_; refine c_inN ?_; refine c_then ?_; refine c_region ?_; refine wl_val (r_addn (b := 1) rfl rfl (by omega)) rfl ?_; refine wl_val (r_move (v := .int .i64 _) rfl) rfl ?_; refine wl_nil ?_; refine c_then ?_
        refine ⟨ps.length - (k + 1), _, by omega, rfl, ⟨k + 1, _, _, rfl, (by rw [ht]; rfl), rfl, ?_, by omega⟩, ⟨rfl, rfl, rfl, trivial⟩⟩
        rw [ht, joined_take ps k (by omega), List.map_append]
        exact hS13
      refine wl_nil ?_; refine c_then ?_; refine c_seq ?_; refine c_false rfl ?_; refine wp_exit ?_; refine c_thenE ?_; refine c_thenE ?_; refine c_inE ?_; refine c_then ?_; refine c_seq ?_; refine c_region ?_; refine wl_val (r_move (v := .slice _ _ _) rfl) rfl ?_; refine wl_val (r_assign (v := .slice _ _ _) rfl) rfl ?_; refine wl_nil ?_; refine c_then ?_; refine wp_ret ?_; refine ret1 Try.results45 ?_
      obtain rfl : k = ps.length := by omega
      simp only [List.take_length] at *
      exact ⟨_, _, rfl, hS10⟩

theorem concat2_ok (x y : List UInt8) (a1 a2 a : Option Addr) (c1 c2 c : Nat) (w : World) (hb : Row w a [.slice a1 x.length c1, .slice a2 y.length c2]) (h1 : Row w a1 (x.map b8)) (h2 : Row w a2 (y.map b8)) (hn : x.length + y.length ≤ 140737488355328) :
    Ret Try.prog 45 [.slice a 2 c] w (fun v w' => ∃ a' c', v = .slice a' (x ++ y).length c' ∧ (x ++ y).length ≤ c' ∧ St w [] w' [.row (.slice a' (x ++ y).length c') 5 1 (x ++ y).length ((x ++ y).map b8)]) := by
  have e : total [⟨a1, c1, x⟩, ⟨a2, c2, y⟩] = (x ++ y).length := by simp [total]
  have e2 : joined [⟨a1, c1, x⟩, ⟨a2, c2, y⟩] = x ++ y := by simp [joined]
  have h := concat_ok [⟨a1, c1, x⟩, ⟨a2, c2, y⟩] a c w hb (by intro q hq; simp only [List.mem_cons, List.not_mem_nil, or_false] at hq; rcases hq with rfl | rfl <;> first | exact h1 | exact h2) (by simp) (by rw [e]; simpa using hn)
  refine h.mono ?_
  rw [e, e2]
  rintro v w' ⟨a', c', hv, hS⟩
  exact ⟨a', c', hv, (St.rowLen hS (.head _)).1, hS⟩

end Go.Proofs.Ytflfocmfdlmjiaa
