/- Texts that are framed, and their sums. No condition. -/
import Derived.Test.YtfohfnpehfcaaaaFacts
import Derived.Test.YtfohfnpehfcaaaaPrintB
import Derived.Test.YtfohfnpehfcaaaaFrame
namespace Go.Proofs.Ytfohfnpehfcaaaa
open Go.Kw
set_option linter.unusedVariables false
set_option linter.unusedSimpArgs false
set_option maxRecDepth 100000
theorem rframed_ok (ps : List Piece) (a : Option Addr) (n c : Nat) (w : World) (hb : Row w a (ps.map Piece.v)) (hl : ps.length = n) (hr : ∀ q ∈ ps, Row w q.a (q.xs.map b8) ∧ q.xs.length ≤ q.c ∧ q.xs.length ≤ 140737488351232) (hps : ps.length ≤ 1048576) (hpt : total ps ≤ 1048576) :
    Ret Try.prog 45 [.slice a n c] w (fun v w' => ∃ a' n' c', v = .slice a' n' c' ∧ n' = (framedL ps).length ∧ n' ≤ c' ∧ St w [] w' [.row (.slice a' n' c') 5 1 n' ((framedL ps).map b8)]) := by
  subst hl
  refine enter Try.func45 rfl Try.ntmps45 rfl ?_
  have hS := St.refl w []
  refine c_seq ?_
  refine c_region ?_
  refine wl_val (r_assign (v := .slice none 0 0) rfl) rfl ?_
  refine wl_nil ?_
  refine c_then ?_
  refine c_seq ?_
  refine c_region ?_
  refine wl_val (r_assign (v := .slice none 0 0) rfl) rfl ?_
  refine wl_nil ?_
  refine c_then ?_
  refine c_seq ?_
  refine c_seq ?_
  refine c_region ?_
  refine wl_val (r_move (v := .slice _ _ _) rfl) rfl ?_
  refine wl_val (r_len (T := 43) rfl ti43.und rfl _ rfl) rfl ?_
  refine wl_val (r_move (v := .int .i64 0) rfl) rfl ?_
  refine wl_nil ?_
  refine c_then ?_
  refine c_block ?_
  refine c_loopE [2, 6, 7] (fun d e w' => ∃ (k : Nat) (a5 : Option Addr) (n5 : Nat) (c5 : Nat), Kw.look e 8 = vi k ∧ Kw.look e 3 = .slice a5 n5 c5 ∧ d = ps.length - k ∧ St w [] w' [.row (.slice a5 n5 c5) 5 1 n5 ((framedL (ps.take k)).map b8)] ∧ (k ≤ ps.length) ∧ (n5 = (framedL (ps.take k)).length) ∧ (n5 ≤ c5)) (ps.length - 0) ?_ ?_
  have hS5 := St.nilRow (E := 5) (sz := 1) hS
  · exact ⟨0, none, 0, 0, rfl, rfl, rfl, by rw [framed_zero]; exact hS5, Nat.zero_le _, by rw [framed_zero]; rfl, Nat.le_refl _⟩
  · rintro d4 e1 w2 ⟨k, a5, n5, c5, hc0_8, hc0_3, rfl, hS3, hk, hn5, hc5⟩ -
    refine c_set (d := 8) hc0_8 ?_
    refine c_set (d := 3) hc0_3 ?_
    refine c_seq ?_
    refine c_region ?_
    refine wl_dec (r_lss rfl rfl) rfl (fun h3_0 => ?_) (fun h3_0 => ?_)
    · refine wl_nil ?_
      refine c_then ?_
      refine c_seq ?_
      refine c_true rfl ?_
      refine wp_skip ?_
      refine c_then ?_
      refine c_seq ?_
      refine c_block ?_
      refine c_seq ?_
      have hg := hr (gt ps k) (gt_mem ps k (by omega))
      have hgt := gt_total ps k (by omega)
      have hrk := hg.1
      have hfl := framed_len (ps.take k)
      have htl := total_le ps k
      rw [List.length_take] at hfl
      refine c_region ?_
      refine wl_val (r_ixS ti43.und ti22 rfl rfl (hb.st hS3) (by first | omega | (simp [*]; done) | (simp [*] <;> omega)) (by first | (simp [*]; done) | (simp [*] <;> omega) | omega)) rfl ?_
      refine wl_val (r_loadS1 ti22.und rfl rfl (hb.st hS3) (by rw [Nat.mul_one]; exact map_gt _ _ _ (by first | omega | (simp [*]; done) | (simp [*] <;> omega)))) rfl ?_
      refine wl_val (r_assign (v := .slice _ _ _) rfl) rfl ?_
      refine wl_nil ?_
      refine c_then ?_
      refine c_region ?_
      refine wl_val (r_move (v := .slice _ _ _) rfl) rfl ?_
      refine wl_val (r_move (v := .slice _ _ _) rfl) rfl ?_
      refine wl_val (r_len (T := 22) rfl ti22.und rfl _ rfl) rfl ?_
      refine wl_call (r_call fn118 rfl rfl) rfl (rshort_ok (gt ps k).xs.length _ (by omega)) ?_
      rintro _ w6 ⟨b15, rfl, hx7⟩
      have hS8 := hS3.call hx7
      simp only [List.cons_append, List.nil_append] at hS8
      refine wl_exv (x_append [_] hS8 ti22.und ti5 rfl (by decide) rfl rfl (Row.of_at (short_at (hS8.heap (.head _)))) (by rw [List.length_map, octs_len]) (by first | exact one_b8 _ | exact one_v32 _ | (intro c hc; simp only [List.mem_cons, List.not_mem_nil, or_false] at hc; (first | subst hc | rcases hc with rfl | rfl) <;> rfl)) (by omega) (by omega) _ rfl) rfl ?_
      rintro _ w9 ⟨aq11, cq11, rfl, hcq11, hS10⟩
      simp only [List.cons_append, List.nil_append] at hS10
      refine wl_val (r_move (v := .slice _ _ _) rfl) rfl ?_
      refine wl_exv (x_append [_] hS10 ti22.und ti5 rfl (by decide) rfl rfl (hrk.st hS10) (by rw [List.length_map, Nat.mul_one]) (by first | exact one_b8 _ | exact one_v32 _ | (intro c hc; simp only [List.mem_cons, List.not_mem_nil, or_false] at hc; (first | subst hc | rcases hc with rfl | rfl) <;> rfl)) (by omega) (by omega) _ rfl) rfl ?_
      rintro _ w12 ⟨aq14, cq14, rfl, hcq14, hS13⟩
      simp only [List.cons_append, List.nil_append] at hS13
      refine wl_val (r_assign (v := .slice _ _ _) rfl) rfl ?_
      refine wl_nil ?_
      refine c_inN ?_
      refine c_then ?_
      refine c_region ?_
      refine wl_val (r_addn (b := 1) rfl rfl (by omega)) rfl ?_
      refine wl_val (r_move (v := .int .i64 _) rfl) rfl ?_
      refine wl_nil ?_
      refine c_then ?_
      rw [← List.map_append, ← List.map_append, List.append_assoc, ← framed_take ps k (by omega)] at hS13
      exact ⟨ps.length - (k + 1), _, by omega, rfl, ⟨k + 1, _, _, _, rfl, rfl, rfl, hS13.drop1, by omega, by rw [framed_take ps k (by omega), List.length_append, List.length_append, octs_len]; omega, by assumption⟩, ⟨rfl, rfl, rfl, trivial⟩⟩
    · refine wl_nil ?_
      refine c_then ?_
      refine c_seq ?_
      refine c_false rfl ?_
      refine wp_exit ?_
      refine c_thenE ?_
      refine c_thenE ?_
      refine c_inE ?_
      refine c_then ?_
      refine c_seq ?_
      refine c_region ?_
      refine wl_val (r_move (v := .slice _ _ _) rfl) rfl ?_
      refine wl_val (r_assign (v := .slice _ _ _) rfl) rfl ?_
      refine wl_nil ?_
      refine c_then ?_
      refine wp_ret ?_
      refine ret1 Try.results45 ?_
      obtain rfl : k = ps.length := by omega
      rw [List.take_length] at hS3 hn5
      exact ⟨_, _, _, rfl, hn5, hc5, hS3⟩

theorem sums_ok (p : Int) (ps : List Piece) (a : Option Addr) (n c : Nat) (w : World) (hp1 : -9223372036854775808 ≤ p) (hp2 : p ≤ 9223372036854775807) (hb : Row w a (ps.map Piece.v)) (hl : ps.length = n) (hr : ∀ q ∈ ps, Row w q.a (q.xs.map b8) ∧ q.xs.length ≤ q.c ∧ q.xs.length ≤ 140737488351232) (hps : ps.length ≤ 1048576) (hpt : total ps ≤ 1048576) :
    Ret Try.prog 46 [.int .i64 p, .slice a n c] w (fun v w' => ((p < 0 ∨ 255 < p) ∧ v = .tuple #[.agg ((List.replicate 32 (0 : UInt8)).map b8).toArray, vi 3] ∧ St w [] w' []) ∨ ((0 ≤ p ∧ p ≤ 255 ∧ 1048576 < (framedL ps).length) ∧ v = .tuple #[.agg ((List.replicate 32 (0 : UInt8)).map b8).toArray, vi 5] ∧ St w [] w' []) ∨ ((0 ≤ p ∧ p ≤ 255 ∧ (framedL ps).length ≤ 1048576) ∧ v = .tuple #[.agg ((sumL (UInt8.ofNat p.toNat) (framedL ps)).map b8).toArray, vi 0] ∧ St w [] w' [])) := by
  subst hl
  refine enter Try.func46 rfl Try.ntmps46 rfl ?_
  have hS := St.refl w []
  refine c_seq ?_
  refine c_region ?_
  refine wl_exv (x_alloc (C := ((List.replicate 32 (0 : UInt8)).map b8)) hS ti49 rfl) rfl ?_
  rintro _ w1 ⟨b4, rfl, hS2⟩
  refine wl_val (r_assign (v := .int .i64 0) rfl) rfl ?_
  refine wl_nil ?_
  refine c_then ?_
  refine c_seq ?_
  refine c_region ?_
  refine wl_val (r_move (v := .int .i64 _) rfl) rfl ?_
  refine wl_call (r_call fn29 rfl rfl) rfl (new_ok p _ hp1 hp2) ?_
  rintro _ w3 (⟨hbad, rfl, hx4⟩ | ⟨hgood, bs, rfl, hx4⟩)
  · have hS5 := hS2.ext hx4
    refine wl_val (r_move (v := .tuple _) rfl) rfl ?_
    refine wl_val (r_extract (v := .pointer _) rfl rfl) rfl ?_
    refine wl_val (r_extract (v := .int .i64 _) rfl rfl) rfl ?_
    refine wl_val (r_assign (v := .pointer _) rfl) rfl ?_
    refine wl_val (r_assign (v := .int .i64 _) rfl) rfl ?_
    refine wl_nil ?_
    refine c_then ?_
    refine c_seq ?_
    refine c_seq ?_
    refine c_region ?_
    refine wl_val (r_move (v := .int .i64 _) rfl) rfl ?_
    refine wl_dec_t (r_neq rfl rfl) rfl (by decide) ?_
    refine wl_nil ?_
    refine c_then ?_
    refine c_true rfl ?_
    refine c_seq ?_
    refine c_region ?_
    refine wl_val (r_build0 (cs := ((List.replicate 32 (0 : UInt8)).map b8)) ti49.und ti49 ti5) rfl ?_
    refine wl_val (r_move (v := .int .i64 _) rfl) rfl ?_
    refine wl_exs (x_storeW [] hS5 ti49 rfl rfl (by first | (simp [*]; done) | (simp [*] <;> omega) | omega) (by first | (simp [*]; done) | (simp [*] <;> omega) | omega) (by repeat' first | exact one_nil | exact one_b8 _ | exact one_v32 _ | exact one_all rfl | refine one_cons rfl ?_ | refine one_app ?_ ?_)) rfl ?_
    intro w6 hS7
    simp only [List.cons_append, List.nil_append] at hS7
    refine wl_val (r_assign (v := .int .i64 _) rfl) rfl ?_
    refine wl_nil ?_
    refine c_then ?_
    refine wp_ret ?_
    refine c_thenR ?_
    refine ret2 Try.results46 ⟨_, rfl, run_loadVar_blk ti49 rfl (hS7.heap (.head _)) (by first | (simp [*]; done) | (simp [*] <;> omega) | omega)⟩ rfl ?_
    first | exact .inl ⟨hbad, rfl, hS7.fin⟩ | ((try simp only [List.length_append, octs_len] at *); exact .inr (.inl ⟨by omega, rfl, hS7.fin⟩)) | (obtain rfl : k = ps.length := (by omega); rw [List.take_length] at *; exact .inr (.inr ⟨by omega, rfl, hS7.fin⟩))
  · have hS5 := hS2.call hx4
    simp only [List.cons_append, List.nil_append] at hS5
    refine wl_val (r_move (v := .tuple _) rfl) rfl ?_
    refine wl_val (r_extract (v := .pointer _) rfl rfl) rfl ?_
    refine wl_val (r_extract (v := .int .i64 _) rfl rfl) rfl ?_
    refine wl_val (r_assign (v := .pointer _) rfl) rfl ?_
    refine wl_val (r_assign (v := .int .i64 _) rfl) rfl ?_
    refine wl_nil ?_
    refine c_then ?_
    refine c_seq ?_
    refine c_seq ?_
    refine c_region ?_
    refine wl_val (r_move (v := .int .i64 _) rfl) rfl ?_
    refine wl_dec_f (r_neq rfl rfl) rfl (by decide) ?_
    refine wl_nil ?_
    refine c_then ?_
    refine c_false rfl ?_
    refine wp_skip ?_
    refine c_then ?_
    refine c_seq ?_
    refine c_seq ?_
    refine c_region ?_
    refine wl_val (r_move (v := .slice _ _ _) rfl) rfl ?_
    refine wl_val (r_len (T := 43) rfl ti43.und rfl _ rfl) rfl ?_
    refine wl_val (r_move (v := .int .i64 0) rfl) rfl ?_
    refine wl_nil ?_
    refine c_then ?_
    refine c_block ?_
    obtain ⟨LT8, hLT8, hS9⟩ := St.frame [_] [_] hS5
    simp only [List.cons_append, List.nil_append] at hS9
    have hm8_b4 := inL hLT8 (.head _)
    refine c_loopE [4, 6, 20, 21] (fun d e w' => ∃ (k : Nat) (rest : List UInt8), Kw.look e 22 = vi k ∧ d = ps.length - k ∧ St w [] w' (.blk bs (cl (sumC (soak (ini (UInt8.ofNat p.toNat)) (framedL (ps.take k))) rest (left (framedL (ps.take k))).length (framedL (ps.take k)).length) 148) :: LT8) ∧ (k ≤ ps.length) ∧ ((framedL (ps.take k)).length ≤ 1048576) ∧ (rest.length = 32) ∧ (rest.take (left (framedL (ps.take k))).length = left (framedL (ps.take k)))) (ps.length - 0) ?_ ?_
    · refine ⟨0, List.replicate 32 0, rfl, rfl, ?_, Nat.zero_le _, by rw [framed_zero]; decide, by simp, by rw [framed_zero]; rfl⟩
      rw [framed_zero]; exact hS9
    · rintro d13 e10 w11 ⟨k, rest, hc0_22, rfl, hS12, hk, hkt, hr1, hr2⟩ -
      refine c_set (d := 22) hc0_22 ?_
      refine c_seq ?_
      refine c_region ?_
      refine wl_dec (r_lss rfl rfl) rfl (fun h5_0 => ?_) (fun h5_0 => ?_)
      · refine wl_nil ?_
        refine c_then ?_
        refine c_seq ?_
        refine c_true rfl ?_
        refine wp_skip ?_
        refine c_then ?_
        refine c_seq ?_
        refine c_block ?_
        refine c_seq ?_
        have hg := hr (gt ps k) (gt_mem ps k (by omega))
        have hgt := gt_total ps k (by omega)
        have hrk := hg.1
        have hft := framed_take ps k (by omega)
        have hft2 := framed_le ps (k + 1) (by omega)
        rw [hft] at hft2
        simp only [List.length_append, octs_len] at hft2
        refine c_region ?_
        refine wl_val (r_ixS ti43.und ti22 rfl rfl (hb.st hS12) (by first | omega | (simp [*]; done) | (simp [*] <;> omega)) (by first | (simp [*]; done) | (simp [*] <;> omega) | omega)) rfl ?_
        refine wl_val (r_loadS1 ti22.und rfl rfl (hb.st hS12) (by rw [Nat.mul_one]; exact map_gt _ _ _ (by first | omega | (simp [*]; done) | (simp [*] <;> omega)))) rfl ?_
        refine wl_val (r_assign (v := .slice _ _ _) rfl) rfl ?_
        refine wl_nil ?_
        refine c_then ?_
        refine c_seq ?_
        refine c_region ?_
        refine wl_val (r_move (v := .slice _ _ _) rfl) rfl ?_
        refine wl_val (r_len (T := 22) rfl ti22.und rfl _ rfl) rfl ?_
        refine wl_val (c_i64_u32 ti155.und ⟨_, ti3.und⟩ rfl (by omega)) rfl ?_
        refine wl_call (r_call fn125 rfl rfl) rfl (octets_ok _ _) ?_
        rintro _ w14 ⟨rfl, hx15⟩
        have hS16 := hS12.ext hx15
        refine wl_exv (x_alloc (C := ((List.replicate 4 (0 : UInt8)).map b8)) hS16 ti164 rfl) rfl ?_
        rintro _ w17 ⟨b10, rfl, hS18⟩
        refine wl_exs (x_storeW [] hS18 ti164 rfl rfl (by first | (simp [*]; done) | (simp [*] <;> omega) | omega) (by first | (simp [*]; done) | (simp [*] <;> omega) | omega) (by repeat' first | exact one_nil | exact one_b8 _ | exact one_v32 _ | exact one_all rfl | refine one_cons rfl ?_ | refine one_app ?_ ?_)) rfl ?_
        intro w19 hS20
        simp only [List.cons_append, List.nil_append] at hS20
        refine wl_nil ?_
        refine c_then ?_
        refine c_seq ?_
        refine c_region ?_
        refine wl_val (r_move (v := .pointer _) rfl) rfl ?_
        refine wl_val (r_sa1_0 ti164.und ti5 rfl ) rfl ?_
        refine wl_call (r_call fn31 rfl rfl) rfl (write_ok (ini (UInt8.ofNat p.toNat)) (framedL (ps.take k)) rest bs (octs (UInt32.ofNat (gt ps k).xs.length)) _ _ _ _ (ini_len _) hr1 (hS20.heap (.tail _ (.head _))) hr2 (by simp) (by decide) (Row.of_at (at_all (hS20.heap (.head _)))) (Sep.ofNe (St.ne2 (St.front [_, _] hS20))) (by decide) (by omega)) ?_
        rintro _ w21 (⟨hfit, rfl, rest2, hr1b, hr2b, hx22⟩ | ⟨hover, rfl, hx22⟩)
        · have hS23 := St.callM (X := [_]) (L := (_ :: _)) (hS20.perm ((List.Perm.cons _ (List.Perm.refl _)).trans (List.perm_middle (l₁ := [_])).symm)) hx22 (by simp [Item.id])
          simp only [List.cons_append, List.nil_append] at hS23
          refine wl_dec_f (r_neq rfl rfl) rfl (by decide) ?_
          refine wl_val (r_move (v := .bool _) rfl) rfl ?_
          refine wl_val (r_move (v := .pointer _) rfl) rfl ?_
          refine wl_val (r_move (v := .slice _ _ _) rfl) rfl ?_
          refine wl_call (r_call fn31 rfl rfl) rfl (write_ok (ini (UInt8.ofNat p.toNat)) (framedL (ps.take k) ++ (octs (UInt32.ofNat (gt ps k).xs.length))) rest2 bs (gt ps k).xs _ _ _ _ (ini_len _) hr1b (hS23.heap (.head _)) hr2b rfl hg.2.1 (hrk.st hS23) (Sep.old hS23 (.head _) hrk) (by omega) (by simp only [List.length_append, octs_len] at *; omega)) ?_
          rintro _ w24 (⟨hfit2, rfl, rest3, hr1c, hr2c, hx25⟩ | ⟨hover2, rfl, hx25⟩)
          · have hS26 := St.callM (X := [_]) (L := (_ :: _)) hS23 hx25 (by simp [Item.id])
            simp only [List.cons_append, List.nil_append] at hS26
            refine wl_dec_f (r_neq rfl rfl) rfl (by decide) ?_
            refine wl_val (r_pick_f rfl (v := .bool _) rfl) rfl ?_
            refine wl_nil ?_
            refine c_then ?_
            refine c_false rfl ?_
            refine wp_skip ?_
            refine c_inN ?_
            refine c_then ?_
            refine c_region ?_
            refine wl_val (r_addn (b := 1) rfl rfl (by omega)) rfl ?_
            refine wl_val (r_move (v := .int .i64 _) rfl) rfl ?_
            refine wl_nil ?_
            refine c_then ?_
            rw [List.append_assoc, ← hft] at hS26 hr2c
            refine ⟨ps.length - (k + 1), _, by omega, rfl, ⟨k + 1, rest3, rfl, rfl, (hS26.perm ((List.Perm.cons _ (List.Perm.refl _)).trans (List.perm_middle (l₁ := [_])).symm)).drop1, by omega, ?_, hr1c, hr2c⟩, ⟨rfl, rfl, rfl, rfl, trivial⟩⟩
            rw [hft]; simp only [List.length_append, octs_len] at *; omega
          · have hS26 := St.callM (X := [_]) (L := (_ :: _)) hS23 hx25 (by simp [Item.id])
            simp only [List.cons_append, List.nil_append] at hS26
            refine wl_dec_t (r_neq rfl rfl) rfl (by decide) ?_
            refine wl_val (r_pick_f rfl (v := .bool _) rfl) rfl ?_
            refine wl_nil ?_
            refine c_then ?_
            refine c_true rfl ?_
            refine c_seq ?_
            refine c_region ?_
            refine wl_val (r_build0 (cs := ((List.replicate 32 (0 : UInt8)).map b8)) ti49.und ti49 ti5) rfl ?_
            subst hLT8
            refine wl_exs (x_storeW [_, _] hS26 ti49 rfl rfl (by first | (simp [*]; done) | (simp [*] <;> omega) | omega) (by first | (simp [*]; done) | (simp [*] <;> omega) | omega) (by repeat' first | exact one_nil | exact one_b8 _ | exact one_v32 _ | exact one_all rfl | refine one_cons rfl ?_ | refine one_app ?_ ?_)) rfl ?_
            intro w27 hS28
            simp only [List.cons_append, List.nil_append] at hS28
            refine wl_val (r_assign (v := .int .i64 5) rfl) rfl ?_
            refine wl_nil ?_
            refine c_then ?_
            refine wp_ret ?_
            refine c_inR ?_
            refine c_thenR ?_
            refine c_thenR ?_
            refine c_inR ?_
            refine c_thenR ?_
            refine ret2 Try.results46 ⟨_, rfl, run_loadVar_blk ti49 rfl (hS28.heap (.tail _ (.tail _ (.head _)))) (by first | (simp [*]; done) | (simp [*] <;> omega) | omega)⟩ rfl ?_
            first | exact .inl ⟨hbad, rfl, hS28.fin⟩ | ((try simp only [List.length_append, octs_len] at *); exact .inr (.inl ⟨by omega, rfl, hS28.fin⟩)) | (obtain rfl : k = ps.length := (by omega); rw [List.take_length] at *; exact .inr (.inr ⟨by omega, rfl, hS28.fin⟩))
        · have hS23 := St.callM (X := [_]) (L := (_ :: _)) (hS20.perm ((List.Perm.cons _ (List.Perm.refl _)).trans (List.perm_middle (l₁ := [_])).symm)) hx22 (by simp [Item.id])
          simp only [List.cons_append, List.nil_append] at hS23
          refine wl_dec_t (r_neq rfl rfl) rfl (by decide) ?_
          refine wl_val (r_move (v := .bool _) rfl) rfl ?_
          refine wl_not rfl ?_
          refine wl_not rfl ?_
          refine wl_not rfl ?_
          refine wl_not rfl ?_
          refine wl_val (r_pick_t rfl (v := .bool true) rfl) rfl ?_
          refine wl_nil ?_
          refine c_then ?_
          refine c_true rfl ?_
          refine c_seq ?_
          refine c_region ?_
          refine wl_val (r_build0 (cs := ((List.replicate 32 (0 : UInt8)).map b8)) ti49.und ti49 ti5) rfl ?_
          subst hLT8
          refine wl_exs (x_storeW [_, _] hS23 ti49 rfl rfl (by first | (simp [*]; done) | (simp [*] <;> omega) | omega) (by first | (simp [*]; done) | (simp [*] <;> omega) | omega) (by repeat' first | exact one_nil | exact one_b8 _ | exact one_v32 _ | exact one_all rfl | refine one_cons rfl ?_ | refine one_app ?_ ?_)) rfl ?_
          intro w29 hS30
          simp only [List.cons_append, List.nil_append] at hS30
          refine wl_val (r_assign (v := .int .i64 5) rfl) rfl ?_
          refine wl_nil ?_
          refine c_then ?_
          refine wp_ret ?_
          refine c_inR ?_
          refine c_thenR ?_
          refine c_thenR ?_
          refine c_inR ?_
          refine c_thenR ?_
          refine ret2 Try.results46 ⟨_, rfl, run_loadVar_blk ti49 rfl (hS30.heap (.tail _ (.tail _ (.head _)))) (by first | (simp [*]; done) | (simp [*] <;> omega) | omega)⟩ rfl ?_
          first | exact .inl ⟨hbad, rfl, hS30.fin⟩ | ((try simp only [List.length_append, octs_len] at *); exact .inr (.inl ⟨by omega, rfl, hS30.fin⟩)) | (obtain rfl : k = ps.length := (by omega); rw [List.take_length] at *; exact .inr (.inr ⟨by omega, rfl, hS30.fin⟩))
      · refine wl_nil ?_
        refine c_then ?_
        refine c_seq ?_
        refine c_false rfl ?_
        refine wp_exit ?_
        refine c_thenE ?_
        refine c_thenE ?_
        refine c_inE ?_
        refine c_then ?_
        refine c_seq ?_
        refine c_region ?_
        refine wl_val (r_move (v := .pointer _) rfl) rfl ?_
        refine wl_call (r_call fn32 rfl rfl) rfl (sum_ok _ _ _ _ _ (ini_len _) hr1 (hS12.heap (.head _)) hr2 (by omega)) ?_
        rintro _ w31 ⟨rfl, hx32⟩
        have hS33 := hS12.ext hx32
        subst hLT8
        refine wl_exs (x_storeW [_] hS33 ti49 rfl rfl (by first | (simp [*]; done) | (simp [*] <;> omega) | omega) (by first | (simp [*]; done) | (simp [*] <;> omega) | omega) (by repeat' first | exact one_nil | exact one_b8 _ | exact one_v32 _ | exact one_all rfl | refine one_cons rfl ?_ | refine one_app ?_ ?_)) rfl ?_
        intro w34 hS35
        simp only [List.cons_append, List.nil_append] at hS35
        refine wl_val (r_assign (v := .int .i64 0) rfl) rfl ?_
        refine wl_nil ?_
        refine c_then ?_
        refine wp_ret ?_
        refine ret2 Try.results46 ⟨_, rfl, run_loadVar_blk ti49 rfl (hS35.heap (.tail _ (.head _))) (by first | (simp [*]; done) | (simp [*] <;> omega) | omega)⟩ rfl ?_
        first | exact .inl ⟨hbad, rfl, hS35.fin⟩ | ((try simp only [List.length_append, octs_len] at *); exact .inr (.inl ⟨by omega, rfl, hS35.fin⟩)) | (obtain rfl : k = ps.length := (by omega); rw [List.take_length] at *; exact .inr (.inr ⟨by omega, rfl, hS35.fin⟩))

end Go.Proofs.Ytfohfnpehfcaaaa
