/- Sums, tags and seals of texts. No condition. -/
import Derived.Test.YtfohfnpehfcaaaaFacts
import Derived.Test.YtfohfnpehfcaaaaMixE
import Derived.Test.YtfohfnpehfcaaaaData
namespace Go.Proofs.Ytfohfnpehfcaaaa
open Go.Kw
set_option linter.unusedVariables false
set_option linter.unusedSimpArgs false
set_option maxRecDepth 100000
theorem summed_ok (p : Int) (ps : List Piece) (a : Option Addr) (c : Nat) (w : World) (hp1 : -9223372036854775808 ≤ p) (hp2 : p ≤ 9223372036854775807) (hb : Row w a (ps.map Piece.v)) (hr : ∀ q ∈ ps, Row w q.a (q.xs.map b8) ∧ q.xs.length ≤ q.c ∧ q.xs.length ≤ 140737488351232) (hl : ps.length ≤ 4611686018427387904) :
    Ret Try.prog 122 [.int .i64 p, .slice a ps.length c] w (fun v w' => ((p < 0 ∨ 255 < p) ∧ v = .tuple #[.pointer none, vi 3] ∧ St w [] w' []) ∨ ((0 ≤ p ∧ p ≤ 255 ∧ 1048576 < total ps) ∧ v = .tuple #[.pointer none, vi 5] ∧ St w [] w' []) ∨ ((0 ≤ p ∧ p ≤ 255 ∧ total ps ≤ 1048576) ∧ ∃ b rest, v = .tuple #[pt b 0, vi 0] ∧ rest.length = 32 ∧ rest.take (left (joined ps)).length = left (joined ps) ∧ St w [] w' [.blk b (cl (sumC (soak (ini (UInt8.ofNat p.toNat)) (joined ps)) rest (left (joined ps)).length (joined ps).length) 148)])) := by
  refine enter Try.func122 rfl Try.ntmps122 rfl ?_
  have hS := St.refl w []
  refine c_seq ?_
  refine c_region ?_
  refine wl_val (r_assign (v := .pointer none) rfl) rfl ?_
  refine wl_val (r_assign (v := .int .i64 0) rfl) rfl ?_
  refine wl_nil ?_
  refine c_then ?_
  refine c_seq ?_
  refine c_region ?_
  refine wl_val (r_move (v := .int .i64 _) rfl) rfl ?_
  refine wl_call (r_call fn29 rfl rfl) rfl (new_ok p _ hp1 hp2) ?_
  rintro _ w1 (⟨hbad, rfl, hx2⟩ | ⟨hgood, bs, rfl, hx2⟩)
  · have hS3 := hS.ext hx2
    refine wl_val (r_move (v := .tuple _) rfl) rfl ?_
    refine wl_val (r_extract (v := .pointer _) rfl rfl) rfl ?_
    refine wl_val (r_extract (v := .int .i64 _) rfl rfl) rfl ?_
    refine wl_val (r_assign (v := .pointer _) rfl) rfl ?_
    refine wl_val (r_assign (v := .int .i64 _) rfl) rfl ?_
    refine wl_nil ?_
    refine c_then ?_
    refine c_seq ?_
    refine c_seq ?_
    refine c_region ?_
    refine wl_val (r_move (v := .int .i64 _) rfl) rfl ?_
    refine wl_dec_t (r_neq rfl rfl) rfl (by decide) ?_
    refine wl_nil ?_
    refine c_then ?_
    refine c_true rfl ?_
    refine c_seq ?_
    refine c_region ?_
    refine wl_val (r_move (v := .int .i64 _) rfl) rfl ?_
    refine wl_val (r_assign (v := .pointer none) rfl) rfl ?_
    refine wl_val (r_assign (v := .int .i64 _) rfl) rfl ?_
    refine wl_nil ?_
    refine c_then ?_
    refine wp_ret ?_
    refine c_thenR ?_
    refine ret2 Try.results122 rfl rfl ?_
    first | exact .inl ⟨by omega, rfl, hS3.fin⟩ | (rw [joined_len] at hover; exact .inr (.inl ⟨by omega, rfl, hS3.fin⟩)) | (obtain rfl : k = ps.length := (by omega); rw [List.take_length] at hS3 hkt hr2; exact .inr (.inr ⟨by omega, _, rest, rfl, hr1, hr2, hS3⟩))
  · have hS3 := hS.call hx2
    simp only [List.cons_append, List.nil_append] at hS3
    refine wl_val (r_move (v := .tuple _) rfl) rfl ?_
    refine wl_val (r_extract (v := .pointer _) rfl rfl) rfl ?_
    refine wl_val (r_extract (v := .int .i64 _) rfl rfl) rfl ?_
    refine wl_val (r_assign (v := .pointer _) rfl) rfl ?_
    refine wl_val (r_assign (v := .int .i64 _) rfl) rfl ?_
    refine wl_nil ?_
    refine c_then ?_
    refine c_seq ?_
    refine c_seq ?_
    refine c_region ?_
    refine wl_val (r_move (v := .int .i64 _) rfl) rfl ?_
    refine wl_dec_f (r_neq rfl rfl) rfl (by decide) ?_
    refine wl_nil ?_
    refine c_then ?_
    refine c_false rfl ?_
    refine wp_skip ?_
    refine c_then ?_
    refine c_seq ?_
    refine c_seq ?_
    refine c_region ?_
    refine wl_val (r_move (v := .slice _ _ _) rfl) rfl ?_
    refine wl_val (r_len (T := 43) rfl ti43.und rfl _ rfl) rfl ?_
    refine wl_val (r_move (v := .int .i64 0) rfl) rfl ?_
    refine wl_nil ?_
    refine c_then ?_
    refine c_block ?_
    refine c_loopE [6, 19, 20] (fun d e w' => ∃ (k : Nat) (rest : List UInt8), Kw.look e 21 = vi k ∧ d = ps.length - k ∧ St w [] w' [.blk bs (cl (sumC (soak (ini (UInt8.ofNat p.toNat)) (joined (ps.take k))) rest (left (joined (ps.take k))).length (joined (ps.take k)).length) 148)] ∧ (k ≤ ps.length) ∧ (total (ps.take k) ≤ 1048576) ∧ (rest.length = 32) ∧ (rest.take (left (joined (ps.take k))).length = left (joined (ps.take k)))) (ps.length - 0) ?_ ?_
    · refine ⟨0, List.replicate 32 0, rfl, rfl, ?_, Nat.zero_le _, Nat.zero_le _, by simp, by rw [joined_zero]; rfl⟩
      rw [joined_zero]; exact hS3
    · rintro d7 e4 w5 ⟨k, rest, hc0_21, rfl, hS6, hk, hkt, hr1, hr2⟩ -
      refine c_set (d := 21) hc0_21 ?_
      refine c_seq ?_
      refine c_region ?_
      refine wl_dec (r_lss rfl rfl) rfl (fun h5_0 => ?_) (fun h5_0 => ?_)
      · refine wl_nil ?_
        refine c_then ?_
        refine c_seq ?_
        refine c_true rfl ?_
        refine wp_skip ?_
        refine c_then ?_
        refine c_seq ?_
        refine c_block ?_
        refine c_seq ?_
        have hrk := hr (gt ps k) (gt_mem ps k (by omega))
        have htt := total_take ps k (by omega)
        have htl := total_le ps (k + 1)
        refine c_region ?_
        refine wl_val (r_ixS ti43.und ti22 rfl rfl (hb.st hS6) (by first | omega | (simp [*]; done) | (simp [*] <;> omega)) (by first | (simp [*]; done) | (simp [*] <;> omega) | omega)) rfl ?_
        refine wl_val (r_loadS1 ti22.und rfl rfl (hb.st hS6) (by rw [Nat.mul_one]; exact map_gt _ _ _ (by first | omega | (simp [*]; done) | (simp [*] <;> omega)))) rfl ?_
        refine wl_val (r_assign (v := .slice _ _ _) rfl) rfl ?_
        refine wl_nil ?_
        refine c_then ?_
        refine c_seq ?_
        refine c_region ?_
        refine wl_val (r_move (v := .pointer _) rfl) rfl ?_
        refine wl_val (r_move (v := .slice _ _ _) rfl) rfl ?_
        refine wl_call (r_call fn31 rfl rfl) rfl (write_ok (ini (UInt8.ofNat p.toNat)) (joined (ps.take k)) rest bs (gt ps k).xs _ _ _ _ (ini_len _) hr1 (hS6.heap (.head _)) hr2 rfl hrk.2.1 (hrk.1.st hS6) (Sep.old hS6 (.head _) hrk.1) (by omega) (by rw [joined_len]; omega)) ?_
        rintro _ w8 (⟨hfit, rfl, rest2, hr1b, hr2b, hx9⟩ | ⟨hover, rfl, hx9⟩)
        · have hS10 := St.callM (X := [_]) (L := []) hS6 hx9 (by simp [Item.id])
          simp only [List.cons_append, List.nil_append] at hS10
          refine wl_val (r_assign (v := .int .i64 _) rfl) rfl ?_
          refine wl_nil ?_
          refine c_then ?_
          refine c_seq ?_
          refine c_region ?_
          refine wl_val (r_move (v := .int .i64 _) rfl) rfl ?_
          refine wl_dec_f (r_neq rfl rfl) rfl (by decide) ?_
          refine wl_nil ?_
          refine c_then ?_
          refine c_false rfl ?_
          refine wp_skip ?_
          refine c_inN ?_
          refine c_then ?_
          refine c_region ?_
          refine wl_val (r_addn (b := 1) rfl rfl (by omega)) rfl ?_
          refine wl_val (r_move (v := .int .i64 _) rfl) rfl ?_
          refine wl_nil ?_
          refine c_then ?_
          rw [← joined_take ps k (by omega)] at hS10 hr2b
          refine ⟨ps.length - (k + 1), _, by omega, rfl, ⟨k + 1, rest2, rfl, rfl, hS10, by omega, ?_, hr1b, hr2b⟩, ⟨rfl, rfl, rfl, trivial⟩⟩
          rw [total_take ps k (by omega)]; rw [joined_len] at hfit; omega
        · have hS10 := St.callM (X := [_]) (L := []) hS6 hx9 (by simp [Item.id])
          simp only [List.cons_append, List.nil_append] at hS10
          refine wl_val (r_assign (v := .int .i64 _) rfl) rfl ?_
          refine wl_nil ?_
          refine c_then ?_
          refine c_seq ?_
          refine c_region ?_
          refine wl_val (r_move (v := .int .i64 _) rfl) rfl ?_
          refine wl_dec_t (r_neq rfl rfl) rfl (by decide) ?_
          refine wl_nil ?_
          refine c_then ?_
          refine c_true rfl ?_
          refine c_seq ?_
          refine c_region ?_
          refine wl_val (r_move (v := .int .i64 _) rfl) rfl ?_
          refine wl_val (r_assign (v := .pointer none) rfl) rfl ?_
          refine wl_val (r_assign (v := .int .i64 _) rfl) rfl ?_
          refine wl_nil ?_
          refine c_then ?_
          refine wp_ret ?_
          refine c_inR ?_
          refine c_thenR ?_
          refine c_thenR ?_
          refine c_inR ?_
          refine c_thenR ?_
          refine ret2 Try.results122 rfl rfl ?_
          first | exact .inl ⟨by omega, rfl, hS10.fin⟩ | (rw [joined_len] at hover; exact .inr (.inl ⟨by omega, rfl, hS10.fin⟩)) | (obtain rfl : k = ps.length := (by omega); rw [List.take_length] at hS10 hkt hr2; exact .inr (.inr ⟨by omega, _, rest, rfl, hr1, hr2, hS10⟩))
      · refine wl_nil ?_
        refine c_then ?_
        refine c_seq ?_
        refine c_false rfl ?_
        refine wp_exit ?_
        refine c_thenE ?_
        refine c_thenE ?_
        refine c_inE ?_
        refine c_then ?_
        refine c_seq ?_
        refine c_region ?_
        refine wl_val (r_move (v := .pointer _) rfl) rfl ?_
        refine wl_val (r_assign (v := .pointer _) rfl) rfl ?_
        refine wl_val (r_assign (v := .int .i64 0) rfl) rfl ?_
        refine wl_nil ?_
        refine c_then ?_
        refine wp_ret ?_
        refine ret2 Try.results122 rfl rfl ?_
        first | exact .inl ⟨by omega, rfl, hS6.fin⟩ | (rw [joined_len] at hover; exact .inr (.inl ⟨by omega, rfl, hS6.fin⟩)) | (obtain rfl : k = ps.length := (by omega); rw [List.take_length] at hS6 hkt hr2; exact .inr (.inr ⟨by omega, _, rest, rfl, hr1, hr2, hS6⟩))

theorem sumOf_ok (p : Int) (t : List UInt8) (a : Option Addr) (c : Nat) (w : World) (hp1 : -9223372036854775808 ≤ p) (hp2 : p ≤ 9223372036854775807) (hb : Row w a (t.map b8)) (hc : t.length ≤ c) (hn : t.length ≤ 140737488351232) :
    Ret Try.prog 44 [.int .i64 p, .slice a t.length c] w (fun v w' => ((p < 0 ∨ 255 < p) ∧ v = .tuple #[.agg ((List.replicate 32 (0 : UInt8)).map b8).toArray, vi 3] ∧ St w [] w' []) ∨ ((0 ≤ p ∧ p ≤ 255 ∧ 1048576 < t.length) ∧ v = .tuple #[.agg ((List.replicate 32 (0 : UInt8)).map b8).toArray, vi 5] ∧ St w [] w' []) ∨ ((0 ≤ p ∧ p ≤ 255 ∧ t.length ≤ 1048576) ∧ v = .tuple #[.agg ((sumL (UInt8.ofNat p.toNat) t).map b8).toArray, vi 0] ∧ St w [] w' [])) := by
  refine enter Try.func44 rfl Try.ntmps44 rfl ?_
  have hS := St.refl w []
  refine c_seq ?_
  refine c_region ?_
  refine wl_exv (x_alloc (C := ((List.replicate 32 (0 : UInt8)).map b8)) hS ti49 rfl) rfl ?_
  rintro _ w1 ⟨b4, rfl, hS2⟩
  refine wl_val (r_assign (v := .int .i64 0) rfl) rfl ?_
  refine wl_nil ?_
  refine c_then ?_
  refine c_seq ?_
  refine c_region ?_
  refine wl_val (r_move (v := .int .i64 _) rfl) rfl ?_
  refine wl_val (r_move (v := .slice _ _ _) rfl) rfl ?_
  refine wl_exv (x_lit (vs := [.slice _ _ _]) hS2 ti43.und ti22 rfl rfl rfl (by intro c hc; simp only [List.mem_cons, List.not_mem_nil, or_false] at hc; rcases hc with rfl <;> rfl) (by decide)) rfl ?_
  rintro _ w3 ⟨b11, rfl, hS4⟩
  refine wl_call (r_call fn122 rfl rfl) rfl (summed_ok p [⟨_, _, t⟩] _ _ _ hp1 hp2 (Row.of_at (at_all (hS4.heap (.head _)))) (by intro q hq; obtain rfl := List.mem_singleton.1 hq; exact ⟨hb.st hS4, hc, hn⟩) (by simp)) ?_
  rintro _ w5 (⟨hbad, rfl, hx6⟩ | ⟨hbig, rfl, hx6⟩ | ⟨hin, bS, rest, rfl, hs1, hs2, hx6⟩)
  · have hS7 := hS4.ext hx6
    refine wl_val (r_move (v := .tuple _) rfl) rfl ?_
    refine wl_val (r_extract (v := .pointer _) rfl rfl) rfl ?_
    refine wl_val (r_extract (v := .int .i64 _) rfl rfl) rfl ?_
    refine wl_val (r_assign (v := .pointer _) rfl) rfl ?_
    refine wl_val (r_assign (v := .int .i64 _) rfl) rfl ?_
    refine wl_nil ?_
    refine c_then ?_
    refine c_seq ?_
    refine c_seq ?_
    refine c_region ?_
    refine wl_val (r_move (v := .int .i64 _) rfl) rfl ?_
    refine wl_dec_t (r_neq rfl rfl) rfl (by decide) ?_
    refine wl_nil ?_
    refine c_then ?_
    refine c_true rfl ?_
    refine c_seq ?_
    refine c_region ?_
    refine wl_val (r_build0 (cs := ((List.replicate 32 (0 : UInt8)).map b8)) ti49.und ti49 ti5) rfl ?_
    refine wl_val (r_move (v := .int .i64 _) rfl) rfl ?_
    refine wl_exs (x_storeW [_] hS7 ti49 rfl rfl (by first | (simp [*]; done) | (simp [*] <;> omega) | omega) (by first | (simp [*]; done) | (simp [*] <;> omega) | omega) (by repeat' first | exact one_nil | exact one_b8 _ | exact one_v32 _ | exact one_all rfl | refine one_cons rfl ?_ | refine one_app ?_ ?_)) rfl ?_
    intro w8 hS9
    simp only [List.cons_append, List.nil_append] at hS9
    refine wl_val (r_assign (v := .int .i64 _) rfl) rfl ?_
    refine wl_nil ?_
    refine c_then ?_
    refine wp_ret ?_
    refine c_thenR ?_
    refine ret2 Try.results44 ⟨_, rfl, run_loadVar_blk ti49 rfl (hS9.heap (.tail _ (.head _))) (by first | (simp [*]; done) | (simp [*] <;> omega) | omega)⟩ rfl ?_
    first | exact .inl ⟨hbad, rfl, hS9.fin⟩ | (rw [total_one] at hbig; exact .inr (.inl ⟨hbig, rfl, hS9.fin⟩)) | (rw [total_one] at hin; simp only [joined_one] at *; exact .inr (.inr ⟨hin, rfl, hS9.fin⟩))
  · have hS7 := hS4.ext hx6
    refine wl_val (r_move (v := .tuple _) rfl) rfl ?_
    refine wl_val (r_extract (v := .pointer _) rfl rfl) rfl ?_
    refine wl_val (r_extract (v := .int .i64 _) rfl rfl) rfl ?_
    refine wl_val (r_assign (v := .pointer _) rfl) rfl ?_
    refine wl_val (r_assign (v := .int .i64 _) rfl) rfl ?_
    refine wl_nil ?_
    refine c_then ?_
    refine c_seq ?_
    refine c_seq ?_
    refine c_region ?_
    refine wl_val (r_move (v := .int .i64 _) rfl) rfl ?_
    refine wl_dec_t (r_neq rfl rfl) rfl (by decide) ?_
    refine wl_nil ?_
    refine c_then ?_
    refine c_true rfl ?_
    refine c_seq ?_
    refine c_region ?_
    refine wl_val (r_build0 (cs := ((List.replicate 32 (0 : UInt8)).map b8)) ti49.und ti49 ti5) rfl ?_
    refine wl_val (r_move (v := .int .i64 _) rfl) rfl ?_
    refine wl_exs (x_storeW [_] hS7 ti49 rfl rfl (by first | (simp [*]; done) | (simp [*] <;> omega) | omega) (by first | (simp [*]; done) | (simp [*] <;> omega) | omega) (by repeat' first | exact one_nil | exact one_b8 _ | exact one_v32 _ | exact one_all rfl | refine one_cons rfl ?_ | refine one_app ?_ ?_)) rfl ?_
    intro w10 hS11
    simp only [List.cons_append, List.nil_append] at hS11
    refine wl_val (r_assign (v := .int .i64 _) rfl) rfl ?_
    refine wl_nil ?_
    refine c_then ?_
    refine wp_ret ?_
    refine c_thenR ?_
    refine ret2 Try.results44 ⟨_, rfl, run_loadVar_blk ti49 rfl (hS11.heap (.tail _ (.head _))) (by first | (simp [*]; done) | (simp [*] <;> omega) | omega)⟩ rfl ?_
    first | exact .inl ⟨hbad, rfl, hS11.fin⟩ | (rw [total_one] at hbig; exact .inr (.inl ⟨hbig, rfl, hS11.fin⟩)) | (rw [total_one] at hin; simp only [joined_one] at *; exact .inr (.inr ⟨hin, rfl, hS11.fin⟩))
  · have hS7 := hS4.call hx6
    simp only [List.cons_append, List.nil_append] at hS7
    refine wl_val (r_move (v := .tuple _) rfl) rfl ?_
    refine wl_val (r_extract (v := .pointer _) rfl rfl) rfl ?_
    refine wl_val (r_extract (v := .int .i64 _) rfl rfl) rfl ?_
    refine wl_val (r_assign (v := .pointer _) rfl) rfl ?_
    refine wl_val (r_assign (v := .int .i64 _) rfl) rfl ?_
    refine wl_nil ?_
    refine c_then ?_
    refine c_seq ?_
    refine c_seq ?_
    refine c_region ?_
    refine wl_val (r_move (v := .int .i64 _) rfl) rfl ?_
    refine wl_dec_f (r_neq rfl rfl) rfl (by decide) ?_
    refine wl_nil ?_
    refine c_then ?_
    refine c_false rfl ?_
    refine wp_skip ?_
    refine c_then ?_
    refine c_seq ?_
    refine c_region ?_
    refine wl_val (r_move (v := .pointer _) rfl) rfl ?_
    refine wl_call (r_call fn32 rfl rfl) rfl (sum_ok _ _ _ _ _ (ini_len _) hs1 (hS7.heap (.head _)) hs2 (by rw [joined_len]; omega)) ?_
    rintro _ w12 ⟨rfl, hx13⟩
    have hS14 := hS7.ext hx13
    refine wl_exs (x_storeW [_, _] hS14 ti49 rfl rfl (by first | (simp [*]; done) | (simp [*] <;> omega) | omega) (by first | (simp [*]; done) | (simp [*] <;> omega) | omega) (by repeat' first | exact one_nil | exact one_b8 _ | exact one_v32 _ | exact one_all rfl | refine one_cons rfl ?_ | refine one_app ?_ ?_)) rfl ?_
    intro w15 hS16
    simp only [List.cons_append, List.nil_append] at hS16
    refine wl_val (r_assign (v := .int .i64 0) rfl) rfl ?_
    refine wl_nil ?_
    refine c_then ?_
    refine wp_ret ?_
    refine ret2 Try.results44 ⟨_, rfl, run_loadVar_blk ti49 rfl (hS16.heap (.tail _ (.tail _ (.head _)))) (by first | (simp [*]; done) | (simp [*] <;> omega) | omega)⟩ rfl ?_
    first | exact .inl ⟨hbad, rfl, hS16.fin⟩ | (rw [total_one] at hbig; exact .inr (.inl ⟨hbig, rfl, hS16.fin⟩)) | (rw [total_one] at hin; simp only [joined_one] at *; exact .inr (.inr ⟨hin, rfl, hS16.fin⟩))

theorem write_fit (s0 t rest : List UInt8) (bs : Nat) (l : List UInt8) (n1 : Nat) (a : Option Addr) (c : Nat) (w : World) (h0 : s0.length = 64) (h2 : rest.length = 32) (hb : w.heap[bs]? = some (cl (sumC (soak s0 t) rest (left t).length t.length) 148)) (hrt : rest.take (left t).length = left t) (hl : l.length = n1) (hc' : n1 ≤ c) (hr : Row w a (l.map b8)) (hs : Sep a l bs) (hfit : t.length + n1 ≤ 1048576) :
    Ret Try.prog 31 [pt bs 0, .slice a n1 c] w (fun v w' => v = vi 0 ∧ ∃ rest', rest'.length = 32 ∧ rest'.take (left (t ++ l)).length = left (t ++ l) ∧ St w [bs] w' [.blk bs (cl (sumC (soak s0 (t ++ l)) rest' (left (t ++ l)).length (t ++ l).length) 148)]) := by
  refine (write_ok s0 t rest bs l n1 a c w h0 h2 hb hrt hl hc' hr hs (by omega) (by omega)).mono fun v w' h => ?_
  rcases h with ⟨_, h⟩ | ⟨h, _⟩
  · exact h
  · omega

theorem sumOf_in (p : Nat) (t : List UInt8) (a : Option Addr) (n c : Nat) (w : World) (hp : p ≤ 255) (hb : Row w a (t.map b8)) (hl : t.length = n) (hc : n ≤ c) (ht : n ≤ 1048576) :
    Ret Try.prog 44 [vi p, .slice a n c] w (fun v w' => v = .tuple #[.agg ((sumL (UInt8.ofNat p) t).map b8).toArray, vi 0] ∧ St w [] w' []) := by
  subst hl
  refine (sumOf_ok (p : Int) t a c w (by omega) (by omega) hb hc (by omega)).mono fun v w' h => ?_
  rcases h with ⟨h, _⟩ | ⟨h, _⟩ | ⟨_, h⟩
  · omega
  · omega
  · rwa [Int.toNat_natCast] at h

theorem tagOf_ok (k t : List UInt8) (a : Option Addr) (c : Nat) (w : World) (hk : k.length = 32) (hb : Row w a (t.map b8)) (hc : t.length ≤ c) (hn : t.length ≤ 140737488351232) :
    Ret Try.prog 40 [.agg (k.map b8).toArray, .slice a t.length c] w (fun v w' => (1048544 < t.length ∧ v = .tuple #[.agg ((List.replicate 16 (0 : UInt8)).map b8).toArray, vi 5] ∧ St w [] w' []) ∨ (t.length ≤ 1048544 ∧ v = .tuple #[.agg ((tagL k t).map b8).toArray, vi 0] ∧ St w [] w' [])) := by
  refine enter Try.func40 rfl Try.ntmps40 rfl ?_
  have hS := St.refl w []
  refine c_seq ?_
  refine c_region ?_
  refine wl_exv (x_box hS (v := .agg _) rfl rfl) rfl ?_
  rintro _ w1 ⟨b2, rfl, hS2⟩
  refine wl_exv (x_alloc (C := ((List.replicate 16 (0 : UInt8)).map b8)) hS2 ti62 rfl) rfl ?_
  rintro _ w3 ⟨b4, rfl, hS4⟩
  refine wl_val (r_assign (v := .int .i64 0) rfl) rfl ?_
  refine wl_nil ?_
  refine c_then ?_
  refine c_seq ?_
  refine c_region ?_
  refine wl_val (r_sa1_0 ti61.und ti5 rfl ) rfl ?_
  refine wl_val (r_move (v := .slice _ _ _) rfl) rfl ?_
  refine wl_exv (x_lit (vs := [.slice _ _ _, .slice _ _ _]) hS4 ti43.und ti22 rfl rfl rfl (by intro c hc; simp only [List.mem_cons, List.not_mem_nil, or_false] at hc; rcases hc with rfl | rfl <;> rfl) (by decide)) rfl ?_
  rintro _ w5 ⟨b12, rfl, hS6⟩
  refine wl_call (r_call fn122 rfl rfl) rfl (summed_ok 8 [⟨some ⟨b2, 0, none⟩, 32, k⟩, ⟨a, c, t⟩] _ _ _ (by decide) (by decide) (by have hh := (Row.of_at (at_all (hS6.heap (.head _)))); simpa [Sl.v, hk] using hh) (by intro q hq; simp only [List.mem_cons, List.not_mem_nil, or_false] at hq; rcases hq with rfl | rfl; exact ⟨Row.of_at (at_all (hS6.heap (.tail _ (.tail _ (.head _))))), by simp [hk], by simp [hk]⟩; exact ⟨hb.st hS6, hc, hn⟩) (by simp)) ?_
  rintro _ w7 (⟨hbad, rfl, hx8⟩ | ⟨hbig, rfl, hx8⟩ | ⟨hin, bS, rest, rfl, hs1, hs2, hx8⟩)
  · exfalso; omega
  · have hS9 := hS6.ext hx8
    refine wl_val (r_move (v := .tuple _) rfl) rfl ?_
    refine wl_val (r_extract (v := .pointer _) rfl rfl) rfl ?_
    refine wl_val (r_extract (v := .int .i64 _) rfl rfl) rfl ?_
    refine wl_val (r_assign (v := .pointer _) rfl) rfl ?_
    refine wl_val (r_assign (v := .int .i64 _) rfl) rfl ?_
    refine wl_nil ?_
    refine c_then ?_
    refine c_seq ?_
    refine c_seq ?_
    refine c_region ?_
    refine wl_val (r_move (v := .int .i64 _) rfl) rfl ?_
    refine wl_dec_t (r_neq rfl rfl) rfl (by decide) ?_
    refine wl_nil ?_
    refine c_then ?_
    refine c_true rfl ?_
    refine c_seq ?_
    refine c_region ?_
    refine wl_val (r_build0 (cs := ((List.replicate 16 (0 : UInt8)).map b8)) ti62.und ti62 ti5) rfl ?_
    refine wl_val (r_move (v := .int .i64 _) rfl) rfl ?_
    refine wl_exs (x_storeW [_] hS9 ti62 rfl rfl (by first | (simp [*]; done) | (simp [*] <;> omega) | omega) (by first | (simp [*]; done) | (simp [*] <;> omega) | omega) (by repeat' first | exact one_nil | exact one_b8 _ | exact one_v32 _ | exact one_all rfl | refine one_cons rfl ?_ | refine one_app ?_ ?_)) rfl ?_
    intro w10 hS11
    simp only [List.cons_append, List.nil_append] at hS11
    refine wl_val (r_assign (v := .int .i64 _) rfl) rfl ?_
    refine wl_nil ?_
    refine c_then ?_
    refine wp_ret ?_
    refine c_thenR ?_
    refine ret2 Try.results40 ⟨_, rfl, run_loadVar_blk ti62 rfl (hS11.heap (.tail _ (.head _))) (by first | (simp [*]; done) | (simp [*] <;> omega) | omega)⟩ rfl ?_
    first | (rw [total_two, hk] at hbig; exact .inl ⟨by omega, rfl, hS11.fin⟩) | (rw [total_two, hk] at hin; simp only [joined_two] at *; exact .inr ⟨by omega, rfl, hS11.fin⟩)
  · have hS9 := hS6.call hx8
    simp only [List.cons_append, List.nil_append] at hS9
    refine wl_val (r_move (v := .tuple _) rfl) rfl ?_
    refine wl_val (r_extract (v := .pointer _) rfl rfl) rfl ?_
    refine wl_val (r_extract (v := .int .i64 _) rfl rfl) rfl ?_
    refine wl_val (r_assign (v := .pointer _) rfl) rfl ?_
    refine wl_val (r_assign (v := .int .i64 _) rfl) rfl ?_
    refine wl_nil ?_
    refine c_then ?_
    refine c_seq ?_
    refine c_seq ?_
    refine c_region ?_
    refine wl_val (r_move (v := .int .i64 _) rfl) rfl ?_
    refine wl_dec_f (r_neq rfl rfl) rfl (by decide) ?_
    refine wl_nil ?_
    refine c_then ?_
    refine c_false rfl ?_
    refine wp_skip ?_
    refine c_then ?_
    refine c_seq ?_
    refine c_region ?_
    refine wl_val (r_move (v := .pointer _) rfl) rfl ?_
    refine wl_call (r_call fn32 rfl rfl) rfl (sum_ok _ _ _ _ _ (ini_len _) hs1 (hS9.heap (.head _)) hs2 (by rw [joined_len]; omega)) ?_
    rintro _ w12 ⟨rfl, hx13⟩
    have hS14 := hS9.ext hx13
    refine wl_exv (x_alloc (C := ((List.replicate 32 (0 : UInt8)).map b8)) hS14 ti49 rfl) rfl ?_
    rintro _ w15 ⟨bb8, rfl, hS16⟩
    refine wl_exs (x_storeW [] hS16 ti49 rfl rfl (by first | (simp [*]; done) | (simp [*] <;> omega) | omega) (by first | (simp [*]; done) | (simp [*] <;> omega) | omega) (by repeat' first | exact one_nil | exact one_b8 _ | exact one_v32 _ | exact one_all rfl | refine one_cons rfl ?_ | refine one_app ?_ ?_)) rfl ?_
    intro w17 hS18
    simp only [List.cons_append, List.nil_append] at hS18
    refine wl_nil ?_
    refine c_then ?_
    refine c_seq ?_
    refine c_region ?_
    refine wl_val (r_sa1_h (h := 16) ti49.und ti5 rfl rfl (by omega)) rfl ?_
    refine wl_val (r_s2a ti62.und rfl (by decide)) rfl ?_
    refine wl_val (r_loadBPm ti62 rfl rfl (hS18.heap (.head _)) (by first | (simp [*]; done) | (simp [*] <;> omega) | omega)) rfl ?_
    refine wl_exs (x_storeW [_, _, _] hS18 ti62 rfl rfl (by first | (simp [*]; done) | (simp [*] <;> omega) | omega) (by first | (simp [*]; done) | (simp [*] <;> omega) | omega) (by repeat' first | exact one_nil | exact one_b8 _ | exact one_v32 _ | exact one_all rfl | refine one_cons rfl ?_ | refine one_app ?_ ?_)) rfl ?_
    intro w19 hS20
    simp only [List.cons_append, List.nil_append] at hS20
    refine wl_val (r_assign (v := .int .i64 0) rfl) rfl ?_
    refine wl_nil ?_
    refine c_then ?_
    refine wp_ret ?_
    refine ret2 Try.results40 ⟨_, rfl, run_loadVar_blk ti62 rfl (hS20.heap (.tail _ (.tail _ (.tail _ (.head _))))) (by first | (simp [*]; done) | (simp [*] <;> omega) | omega)⟩ rfl ?_
    first | (rw [total_two, hk] at hbig; exact .inl ⟨by omega, rfl, hS20.fin⟩) | (rw [total_two, hk] at hin; simp only [joined_two] at *; exact .inr ⟨by omega, rfl, hS20.fin⟩)

theorem sealOf_ok (k t : List UInt8) (a : Option Addr) (c : Nat) (w : World) (hk : k.length = 32) (hb : Row w a (t.map b8)) (hc : t.length ≤ c) (hn : t.length ≤ 140737488351232) :
    Ret Try.prog 41 [.agg (k.map b8).toArray, .slice a t.length c] w (fun v w' => (1048544 < t.length ∧ v = .tuple #[.agg ((List.replicate 64 (0 : UInt8)).map b8).toArray, vi 5] ∧ St w [] w' []) ∨ (t.length ≤ 1048544 ∧ v = .tuple #[.agg ((sealL k t).map b8).toArray, vi 0] ∧ St w [] w' [])) := by
  refine enter Try.func41 rfl Try.ntmps41 rfl ?_
  have hS := St.refl w []
  refine c_seq ?_
  refine c_region ?_
  refine wl_exv (x_box hS (v := .agg _) rfl rfl) rfl ?_
  rintro _ w1 ⟨b2, rfl, hS2⟩
  refine wl_exv (x_alloc (C := ((List.replicate 64 (0 : UInt8)).map b8)) hS2 ti65 rfl) rfl ?_
  rintro _ w3 ⟨b4, rfl, hS4⟩
  refine wl_val (r_assign (v := .int .i64 0) rfl) rfl ?_
  refine wl_nil ?_
  refine c_then ?_
  refine c_seq ?_
  refine c_region ?_
  refine wl_val (r_sa1_0 ti61.und ti5 rfl ) rfl ?_
  refine wl_val (r_move (v := .slice _ _ _) rfl) rfl ?_
  refine wl_exv (x_lit (vs := [.slice _ _ _, .slice _ _ _]) hS4 ti43.und ti22 rfl rfl rfl (by intro c hc; simp only [List.mem_cons, List.not_mem_nil, or_false] at hc; rcases hc with rfl | rfl <;> rfl) (by decide)) rfl ?_
  rintro _ w5 ⟨b11, rfl, hS6⟩
  refine wl_call (r_call fn122 rfl rfl) rfl (summed_ok 9 [⟨some ⟨b2, 0, none⟩, 32, k⟩, ⟨a, c, t⟩] _ _ _ (by decide) (by decide) (by have hh := (Row.of_at (at_all (hS6.heap (.head _)))); simpa [Sl.v, hk] using hh) (by intro q hq; simp only [List.mem_cons, List.not_mem_nil, or_false] at hq; rcases hq with rfl | rfl; exact ⟨Row.of_at (at_all (hS6.heap (.tail _ (.tail _ (.head _))))), by simp [hk], by simp [hk]⟩; exact ⟨hb.st hS6, hc, hn⟩) (by simp)) ?_
  rintro _ w7 (⟨hbad, rfl, hx8⟩ | ⟨hbig, rfl, hx8⟩ | ⟨hin, bS, rest, rfl, hs1, hs2, hx8⟩)
  · exfalso; omega
  · have hS9 := hS6.ext hx8
    refine wl_val (r_move (v := .tuple _) rfl) rfl ?_
    refine wl_val (r_extract (v := .pointer _) rfl rfl) rfl ?_
    refine wl_val (r_extract (v := .int .i64 _) rfl rfl) rfl ?_
    refine wl_val (r_assign (v := .pointer _) rfl) rfl ?_
    refine wl_val (r_assign (v := .int .i64 _) rfl) rfl ?_
    refine wl_nil ?_
    refine c_then ?_
    refine c_seq ?_
    refine c_seq ?_
    refine c_region ?_
    refine wl_val (r_move (v := .int .i64 _) rfl) rfl ?_
    refine wl_dec_t (r_neq rfl rfl) rfl (by decide) ?_
    refine wl_nil ?_
    refine c_then ?_
    refine c_true rfl ?_
    refine c_seq ?_
    refine c_region ?_
    refine wl_val (r_build0 (cs := ((List.replicate 64 (0 : UInt8)).map b8)) ti65.und ti65 ti5) rfl ?_
    refine wl_val (r_move (v := .int .i64 _) rfl) rfl ?_
    refine wl_exs (x_storeW [_] hS9 ti65 rfl rfl (by first | (simp [*]; done) | (simp [*] <;> omega) | omega) (by first | (simp [*]; done) | (simp [*] <;> omega) | omega) (by repeat' first | exact one_nil | exact one_b8 _ | exact one_v32 _ | exact one_all rfl | refine one_cons rfl ?_ | refine one_app ?_ ?_)) rfl ?_
    intro w10 hS11
    simp only [List.cons_append, List.nil_append] at hS11
    refine wl_val (r_assign (v := .int .i64 _) rfl) rfl ?_
    refine wl_nil ?_
    refine c_then ?_
    refine wp_ret ?_
    refine c_thenR ?_
    refine ret2 Try.results41 ⟨_, rfl, run_loadVar_blk ti65 rfl (hS11.heap (.tail _ (.head _))) (by first | (simp [*]; done) | (simp [*] <;> omega) | omega)⟩ rfl ?_
    first | (rw [total_two, hk] at hbig; exact .inl ⟨by omega, rfl, hS11.fin⟩) | (rw [total_two, hk] at hin; simp only [joined_two] at *; exact .inr ⟨by omega, rfl, hS11.fin⟩)
  · have hS9 := hS6.call hx8
    simp only [List.cons_append, List.nil_append] at hS9
    refine wl_val (r_move (v := .tuple _) rfl) rfl ?_
    refine wl_val (r_extract (v := .pointer _) rfl rfl) rfl ?_
    refine wl_val (r_extract (v := .int .i64 _) rfl rfl) rfl ?_
    refine wl_val (r_assign (v := .pointer _) rfl) rfl ?_
    refine wl_val (r_assign (v := .int .i64 _) rfl) rfl ?_
    refine wl_nil ?_
    refine c_then ?_
    refine c_seq ?_
    refine c_seq ?_
    refine c_region ?_
    refine wl_val (r_move (v := .int .i64 _) rfl) rfl ?_
    refine wl_dec_f (r_neq rfl rfl) rfl (by decide) ?_
    refine wl_nil ?_
    refine c_then ?_
    refine c_false rfl ?_
    refine wp_skip ?_
    refine c_then ?_
    refine c_seq ?_
    refine c_region ?_
    refine wl_val (r_move (v := .pointer _) rfl) rfl ?_
    refine wl_call (r_call fn112 rfl rfl) rfl (end_ok _ _ _ _ _ (ini_len _) hs1 (hS9.heap (.head _)) hs2 (by rw [joined_len]; omega)) ?_
    rintro _ w12 ⟨rfl, hx13⟩
    have hS14 := hS9.ext hx13
    refine wl_call (r_call fn123 rfl rfl) rfl (stir_ok _ _ (endL_len _ _)) ?_
    rintro _ w15 ⟨rfl, hx16⟩
    have hS17 := hS14.ext hx16
    refine wl_exs (x_storeW [_, _] hS17 ti65 rfl rfl (by first | (simp [*]; done) | (simp [*] <;> omega) | omega) (by first | (simp [*]; done) | (simp [*] <;> omega) | omega) (by repeat' first | exact one_nil | exact one_b8 _ | exact one_v32 _ | exact one_all rfl | refine one_cons rfl ?_ | refine one_app ?_ ?_)) rfl ?_
    intro w18 hS19
    simp only [List.cons_append, List.nil_append] at hS19
    refine wl_val (r_assign (v := .int .i64 0) rfl) rfl ?_
    refine wl_nil ?_
    refine c_then ?_
    refine wp_ret ?_
    refine ret2 Try.results41 ⟨_, rfl, run_loadVar_blk ti65 rfl (hS19.heap (.tail _ (.tail _ (.head _)))) (by first | (simp [*]; done) | (simp [*] <;> omega) | omega)⟩ rfl ?_
    first | (rw [total_two, hk] at hbig; exact .inl ⟨by omega, rfl, hS19.fin⟩) | (rw [total_two, hk] at hin; simp only [joined_two] at *; exact .inr ⟨by omega, rfl, hS19.fin⟩)

theorem rstate_n (dn : Nat) (t : List UInt8) (a : Option Addr) (n c : Nat) (w : World) (hl : t.length = n) (hb : Row w a (t.map b8)) (hn : n ≤ 70368744177664) :
    Ret Try.prog 113 [vi dn, .slice a n c] w (fun v w' => v = .agg ((endL (ini (UInt8.ofNat dn)) t).map b8).toArray ∧ St w [] w' []) := by
  subst hl
  exact rstate_ok dn t a c w hb hn

theorem rsum_ok (dn : Nat) (t : List UInt8) (a : Option Addr) (n c : Nat) (w : World) (hb : Row w a (t.map b8)) (hl : t.length = n) (hn : n ≤ 70368744177664) :
    Ret Try.prog 33 [vi dn, .slice a n c] w (fun v w' => v = .agg ((sumL (UInt8.ofNat dn) t).map b8).toArray ∧ St w [] w' []) := by
  subst hl
  refine enter Try.func33 rfl Try.ntmps33 rfl ?_
  have hS := St.refl w []
  refine c_seq ?_
  refine c_region ?_
  refine wl_exv (x_alloc (C := ((List.replicate 32 (0 : UInt8)).map b8)) hS ti49 rfl) rfl ?_
  rintro _ w1 ⟨b4, rfl, hS2⟩
  refine wl_nil ?_
  refine c_then ?_
  refine c_seq ?_
  refine c_region ?_
  refine wl_val (r_move (v := .int .i64 _) rfl) rfl ?_
  refine wl_val (r_move (v := .slice _ _ _) rfl) rfl ?_
  refine wl_call (r_call fn113 rfl rfl) rfl (rstate_ok dn t _ _ _ (hb.st hS2) hn) ?_
  rintro _ w3 ⟨rfl, hx4⟩
  have hS5 := hS2.ext hx4
  refine wl_exv (x_alloc (C := ((List.replicate 64 (0 : UInt8)).map b8)) hS5 ti34 rfl) rfl ?_
  rintro _ w6 ⟨b5, rfl, hS7⟩
  refine wl_exs (x_storeW [] hS7 ti34 rfl rfl (by first | (simp [*]; done) | (simp [*] <;> omega) | omega) (by first | (simp [*]; done) | (simp [*] <;> omega) | omega) (by repeat' first | exact one_nil | exact one_b8 _ | exact one_v32 _ | exact one_all rfl | refine one_cons rfl ?_ | refine one_app ?_ ?_)) rfl ?_
  intro w8 hS9
  simp only [List.cons_append, List.nil_append] at hS9
  refine wl_nil ?_
  refine c_then ?_
  refine c_seq ?_
  refine c_drawS 2 hMixed hS9 ?_
  intro w10 hS11
  refine g_take 0 rfl (by decide +kernel) rfl (fun _ _ _ h => h) hS11 (fun wF hF => r_sa1_0 ti49.und ti5 rfl ) ?_
  refine g_take 1 rfl (by decide +kernel) rfl (fun _ _ _ h => h) hS11 (fun wF hF => r_sa1_h (h := 32) ti34.und ti5 rfl rfl (by omega)) ?_
  refine g_tail (by decide +kernel) rfl (by decide +kernel) ?_
  refine wl_exv (x_copym [_] hS11 ti22.und ti5 rfl rfl (Row.of_at (at_takem (n := 32) (hS11.heap (.head _)))) (by first | (simp [*]; done) | (simp [*] <;> omega) | omega) (by first | omega | (simp [*]; done) | (simp [*] <;> omega)) (by first | (simp [*]; done) | (simp [*] <;> omega) | omega) (fun _ => rfl) _ rfl) rfl ?_
  rintro _ w12 ⟨rfl, hS13⟩
  simp only [List.cons_append, List.nil_append] at hS13
  rw [splice0 _ _ (by simp)] at hS13
  refine wl_nil ?_
  refine c_then ?_
  refine c_seq ?_
  refine c_region ?_
  refine wl_val (r_loadB ti49 rfl rfl (hS13.heap (.tail _ (.head _))) (by first | (simp [*]; done) | (simp [*] <;> omega) | omega)) rfl ?_
  refine wl_exs (x_storeW [_] hS13 ti49 rfl rfl (by first | (simp [*]; done) | (simp [*] <;> omega) | omega) (by first | (simp [*]; done) | (simp [*] <;> omega) | omega) (by repeat' first | exact one_nil | exact one_b8 _ | exact one_v32 _ | exact one_all rfl | refine one_cons rfl ?_ | refine one_app ?_ ?_)) rfl ?_
  intro w14 hS15
  simp only [List.cons_append, List.nil_append] at hS15
  refine wl_nil ?_
  refine c_then ?_
  refine wp_ret ?_
  refine retc Try.results33 ⟨_, rfl, run_loadVar_blk ti49 rfl (hS15.heap (.tail _ (.head _))) (by first | (simp [*]; done) | (simp [*] <;> omega) | omega)⟩ ?_
  exact ⟨rfl, hS15.fin⟩

theorem clone_n (l : List UInt8) (a : Option Addr) (n c : Nat) (w : World) (hb : Row w a (l.map b8)) (hl : l.length = n) (hn : n ≤ 140737488351232) :
    Ret Try.prog 21 [.slice a n c] w (fun v w' => ∃ a' c', v = .slice a' n c' ∧ n ≤ c' ∧ St w [] w' [.row (.slice a' n c') 5 1 n (l.map b8)]) := by
  subst hl
  exact clone_ok l a c w hb hn

theorem rtag_ok (k t : List UInt8) (a : Option Addr) (c : Nat) (w : World) (hk : k.length = 32) (hb : Row w a (t.map b8)) (hn : t.length ≤ 1048544) :
    Ret Try.prog 42 [.agg (k.map b8).toArray, .slice a t.length c] w (fun v w' => v = .agg ((tagL k t).map b8).toArray ∧ St w [] w' []) := by
  refine enter Try.func42 rfl Try.ntmps42 rfl ?_
  have hS := St.refl w []
  refine c_seq ?_
  refine c_region ?_
  refine wl_exv (x_box hS (v := .agg _) rfl rfl) rfl ?_
  rintro _ w1 ⟨b2, rfl, hS2⟩
  refine wl_exv (x_alloc (C := ((List.replicate 16 (0 : UInt8)).map b8)) hS2 ti62 rfl) rfl ?_
  rintro _ w3 ⟨b4, rfl, hS4⟩
  refine wl_nil ?_
  refine c_then ?_
  refine c_seq ?_
  refine c_region ?_
  refine wl_val (r_sa1_0 ti61.und ti5 rfl ) rfl ?_
  refine wl_call (r_call fn21 rfl rfl) rfl (clone_n _ _ _ _ _ (Row.of_at (at_all (hS4.heap (.tail _ (.head _))))) (by first | (simp [*]; done) | (simp [*] <;> omega) | omega) (by first | (simp [*]; done) | (simp [*] <;> omega) | omega)) ?_
  rintro _ w5 ⟨a7, c7, rfl, hc7, hx6⟩
  have hS7 := hS4.call hx6
  simp only [List.cons_append, List.nil_append] at hS7
  refine wl_val (r_move (v := .slice _ _ _) rfl) rfl ?_
  refine wl_exv (x_append [] hS7 ti22.und ti5 rfl (by decide) rfl rfl (hb.st hS7) (by first | (simp [*]; done) | (simp [*] <;> omega) | omega) (by first | exact one_b8 _ | exact one_v32 _ | (intro c hc; simp only [List.mem_cons, List.not_mem_nil, or_false] at hc; (first | subst hc | rcases hc with rfl | rfl) <;> rfl)) (by first | omega | (simp [*]; done) | (simp [*] <;> omega)) (by first | omega | (simp [*]; done) | (simp [*] <;> omega)) _ rfl) rfl ?_
  rintro _ w8 ⟨aq10, cq10, rfl, hcq10, hS9⟩
  simp only [List.cons_append, List.nil_append] at hS9
  refine wl_call (r_call fn33 rfl rfl) rfl (rsum_ok 8 (k ++ t) _ _ _ _ (by rw [List.map_append]; exact (St.rowAt hS9 (.head _))) (by simp [hk]) (by omega)) ?_
  rintro _ w11 ⟨rfl, hx12⟩
  have hS13 := hS9.ext hx12
  refine wl_exv (x_alloc (C := ((List.replicate 32 (0 : UInt8)).map b8)) hS13 ti49 rfl) rfl ?_
  rintro _ w14 ⟨b5, rfl, hS15⟩
  refine wl_exs (x_storeW [] hS15 ti49 rfl rfl (by first | (simp [*]; done) | (simp [*] <;> omega) | omega) (by first | (simp [*]; done) | (simp [*] <;> omega) | omega) (by repeat' first | exact one_nil | exact one_b8 _ | exact one_v32 _ | exact one_all rfl | refine one_cons rfl ?_ | refine one_app ?_ ?_)) rfl ?_
  intro w16 hS17
  simp only [List.cons_append, List.nil_append] at hS17
  refine wl_nil ?_
  refine c_then ?_
  refine c_seq ?_
  refine c_drawS 2 hMixed hS17 ?_
  intro w18 hS19
  refine g_take 0 rfl (by decide +kernel) rfl (fun _ _ _ h => h) hS19 (fun wF hF => r_sa1_0 ti62.und ti5 rfl ) ?_
  refine g_take 1 rfl (by decide +kernel) rfl (fun _ _ _ h => h) hS19 (fun wF hF => r_sa1_0 ti49.und ti5 rfl ) ?_
  refine g_tail (by decide +kernel) rfl (by decide +kernel) ?_
  refine wl_exv (x_copymt [_, _] hS19 ti22.und ti5 rfl rfl (Row.of_at (at_all (hS19.heap (.head _)))) (by first | (simp [*]; done) | (simp [*] <;> omega) | omega) (by first | (simp [*]; done) | (simp [*] <;> omega) | omega) (fun _ => rfl) _ rfl) rfl ?_
  rintro _ w20 ⟨rfl, hS21⟩
  simp only [List.cons_append, List.nil_append] at hS21
  rw [splice0 _ _ (by simp)] at hS21
  refine wl_nil ?_
  refine c_then ?_
  refine c_seq ?_
  refine c_region ?_
  refine wl_val (r_loadB ti62 rfl rfl (hS21.heap (.tail _ (.tail _ (.head _)))) (by first | (simp [*]; done) | (simp [*] <;> omega) | omega)) rfl ?_
  refine wl_exs (x_storeW [_, _] hS21 ti62 rfl rfl (by first | (simp [*]; done) | (simp [*] <;> omega) | omega) (by first | (simp [*]; done) | (simp [*] <;> omega) | omega) (by repeat' first | exact one_nil | exact one_b8 _ | exact one_v32 _ | exact one_all rfl | refine one_cons rfl ?_ | refine one_app ?_ ?_)) rfl ?_
  intro w22 hS23
  simp only [List.cons_append, List.nil_append] at hS23
  refine wl_nil ?_
  refine c_then ?_
  refine wp_ret ?_
  refine retc Try.results42 ⟨_, rfl, run_loadVar_blk ti62 rfl (hS23.heap (.tail _ (.tail _ (.head _)))) (by first | (simp [*]; done) | (simp [*] <;> omega) | omega)⟩ ?_
  exact ⟨rfl, hS23.fin⟩

theorem rseal_ok (k t : List UInt8) (a : Option Addr) (c : Nat) (w : World) (hk : k.length = 32) (hb : Row w a (t.map b8)) (hn : t.length ≤ 1048544) :
    Ret Try.prog 43 [.agg (k.map b8).toArray, .slice a t.length c] w (fun v w' => v = .agg ((sealL k t).map b8).toArray ∧ St w [] w' []) := by
  refine enter Try.func43 rfl Try.ntmps43 rfl ?_
  have hS := St.refl w []
  refine c_seq ?_
  refine c_region ?_
  refine wl_exv (x_box hS (v := .agg _) rfl rfl) rfl ?_
  rintro _ w1 ⟨b2, rfl, hS2⟩
  refine wl_exv (x_alloc (C := ((List.replicate 64 (0 : UInt8)).map b8)) hS2 ti65 rfl) rfl ?_
  rintro _ w3 ⟨b4, rfl, hS4⟩
  refine wl_nil ?_
  refine c_then ?_
  refine c_seq ?_
  refine c_region ?_
  refine wl_val (r_sa1_0 ti61.und ti5 rfl ) rfl ?_
  refine wl_call (r_call fn21 rfl rfl) rfl (clone_n _ _ _ _ _ (Row.of_at (at_all (hS4.heap (.tail _ (.head _))))) (by first | (simp [*]; done) | (simp [*] <;> omega) | omega) (by first | (simp [*]; done) | (simp [*] <;> omega) | omega)) ?_
  rintro _ w5 ⟨a6, c6, rfl, hc6, hx6⟩
  have hS7 := hS4.call hx6
  simp only [List.cons_append, List.nil_append] at hS7
  refine wl_val (r_move (v := .slice _ _ _) rfl) rfl ?_
  refine wl_exv (x_append [] hS7 ti22.und ti5 rfl (by decide) rfl rfl (hb.st hS7) (by first | (simp [*]; done) | (simp [*] <;> omega) | omega) (by first | exact one_b8 _ | exact one_v32 _ | (intro c hc; simp only [List.mem_cons, List.not_mem_nil, or_false] at hc; (first | subst hc | rcases hc with rfl | rfl) <;> rfl)) (by first | omega | (simp [*]; done) | (simp [*] <;> omega)) (by first | omega | (simp [*]; done) | (simp [*] <;> omega)) _ rfl) rfl ?_
  rintro _ w8 ⟨aq10, cq10, rfl, hcq10, hS9⟩
  simp only [List.cons_append, List.nil_append] at hS9
  refine wl_call (r_call fn113 rfl rfl) rfl (rstate_n 9 (k ++ t) _ _ _ _ (by simp [hk]) (by rw [List.map_append]; exact (St.rowAt hS9 (.head _))) (by omega)) ?_
  rintro _ w11 ⟨rfl, hx12⟩
  have hS13 := hS9.ext hx12
  refine wl_call (r_call fn124 rfl rfl) rfl (rstir_ok _ _ (endL_len _ _)) ?_
  rintro _ w14 ⟨rfl, hx15⟩
  have hS16 := hS13.ext hx15
  refine wl_exs (x_storeW [_] hS16 ti65 rfl rfl (by first | (simp [*]; done) | (simp [*] <;> omega) | omega) (by first | (simp [*]; done) | (simp [*] <;> omega) | omega) (by repeat' first | exact one_nil | exact one_b8 _ | exact one_v32 _ | exact one_all rfl | refine one_cons rfl ?_ | refine one_app ?_ ?_)) rfl ?_
  intro w17 hS18
  simp only [List.cons_append, List.nil_append] at hS18
  refine wl_nil ?_
  refine c_then ?_
  refine wp_ret ?_
  refine retc Try.results43 ⟨_, rfl, run_loadVar_blk ti65 rfl (hS18.heap (.tail _ (.head _))) (by first | (simp [*]; done) | (simp [*] <;> omega) | omega)⟩ ?_
  exact ⟨rfl, hS18.fin⟩

end Go.Proofs.Ytfohfnpehfcaaaa
