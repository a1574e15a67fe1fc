/- Sums, tags and seals of texts. No condition. -/
import Derived.Test.YtafdmlpfgpaicaaFacts
import Derived.Test.YtafdmlpfgpaicaaMixE
import Derived.Test.YtafdmlpfgpaicaaData
namespace Go.Proofs.Ytafdmlpfgpaicaa
open Go.Kw
set_option linter.unusedVariables false
set_option linter.unusedSimpArgs false
set_option maxRecDepth 100000
theorem summed_ok (p : Int) (ps : List Piece) (a : Option Addr) (c : Nat) (w : World) (hp1 : -9223372036854775808 ≤ p) (hp2 : p ≤ 9223372036854775807) (hb : Row w a (ps.map Piece.v)) (hr : ∀ q ∈ ps, Row w q.a (q.xs.map b8) ∧ q.xs.length ≤ q.c ∧ q.xs.length ≤ 140737488351232) (hl : ps.length ≤ 4611686018427387904) :
    Ret Try.prog 73 [.int .i64 p, .slice a ps.length c] w (fun v w' => ((p < 0 ∨ 255 < p) ∧ v = .tuple #[.pointer none, vi 3] ∧ St w [] w' []) ∨ ((0 ≤ p ∧ p ≤ 255 ∧ 1048576 < total ps) ∧ v = .tuple #[.pointer none, vi 5] ∧ St w [] w' []) ∨ ((0 ≤ p ∧ p ≤ 255 ∧ total ps ≤ 1048576) ∧ ∃ b rest, v = .tuple #[pt b 0, vi 0] ∧ rest.length = 32 ∧ rest.take (left (joined ps)).length = left (joined ps) ∧ St w [] w' [.blk b (cl (sumC (soak (ini (UInt8.ofNat p.toNat)) (joined ps)) rest (left (joined ps)).length (joined ps).length) 117)])) := by
  refine enter Try.func73 rfl Try.ntmps73 rfl ?_
  have hS := St.refl w []
  refine c_seq ?_
  refine c_region ?_
  refine wl_val (r_assign (v := .pointer none) rfl) rfl ?_
  refine wl_val (r_assign (v := .int .i64 0) rfl) rfl ?_
  refine wl_nil ?_
  refine c_then ?_
  refine c_seq ?_
  refine c_region ?_
  refine wl_val (r_move (v := .int .i64 _) rfl) rfl ?_
  refine wl_call (r_call fn94 rfl rfl) rfl (new_ok p _ hp1 hp2) ?_
  rintro _ w1 (⟨hbad, rfl, hx2⟩ | ⟨hgood, bs, rfl, hx2⟩)
  · have hS3 := hS.ext hx2
    refine wl_val (r_move (v := .tuple _) rfl) rfl ?_
    refine wl_val (r_extract (v := .pointer _) rfl rfl) rfl ?_
    refine wl_val (r_extract (v := .int .i64 _) rfl rfl) rfl ?_
    refine wl_val (r_assign (v := .pointer _) rfl) rfl ?_
    refine wl_val (r_assign (v := .int .i64 _) rfl) rfl ?_
    refine wl_nil ?_
    refine c_then ?_
    refine c_seq ?_
    refine c_seq ?_
    refine c_region ?_
    refine wl_val (r_move (v := .int .i64 _) rfl) rfl ?_
    refine wl_dec_t (r_neq rfl rfl) rfl (by decide) ?_
    refine wl_nil ?_
    refine c_then ?_
    refine c_true rfl ?_
    refine c_seq ?_
    refine c_region ?_
    refine wl_val (r_move (v := .int .i64 _) rfl) rfl ?_
    refine wl_val (r_assign (v := .pointer none) rfl) rfl ?_
    refine wl_val (r_assign (v := .int .i64 _) rfl) rfl ?_
    refine wl_nil ?_
    refine c_then ?_
    refine wp_ret ?_
    refine c_thenR ?_
    refine ret2 Try.results73 rfl rfl ?_
    first | exact .inl ⟨by omega, rfl, hS3.fin⟩ | (rw [joined_len] at hover; exact .inr (.inl ⟨by omega, rfl, hS3.fin⟩)) | (obtain rfl : k = ps.length := (by omega); rw [List.take_length] at hS3 hkt hr2; exact .inr (.inr ⟨by omega, _, rest, rfl, hr1, hr2, hS3⟩))
  have hS3 := hS.call hx2
  simp only [List.cons_append, List.nil_append] at hS3
  refine wl_val (r_move (v := .tuple _) rfl) rfl ?_
  refine wl_val (r_extract (v := .pointer _) rfl rfl) rfl ?_
  refine wl_val (r_extract (v := .int .i64 _) rfl rfl) rfl ?_
  refine wl_val (r_assign (v := .pointer _) rfl) rfl ?_
  refine wl_val (r_assign (v := .int .i64 _) rfl) rfl ?_
  refine wl_nil ?_
  refine c_then ?_
  refine c_seq ?_
  refine c_seq ?_
  refine c_region ?_
  refine wl_val (r_move (v := .int .i64 _) rfl) rfl ?_
  refine wl_dec_f (r_neq rfl rfl) rfl (by decide) ?_
  refine wl_nil ?_
  refine c_then ?_
  refine c_false rfl ?_
  refine wp_skip ?_
  refine c_then ?_
  refine c_seq ?_
  refine c_seq ?_
  refine c_region ?_
  refine wl_val (r_move (v := .slice _ _ _) rfl) rfl ?_
  refine wl_val (r_len (T := 100) rfl ti100.und rfl _ rfl) rfl ?_
  refine wl_val (r_move (v := .int .i64 0) rfl) rfl ?_
  refine wl_nil ?_
  refine c_then ?_
  refine c_block ?_
  refine c_loopE [6, 19, 20] (fun d e w' => ∃ (k : Nat) (rest : List UInt8), Kw.look e 21 = vi k ∧ d = ps.length - k ∧ St w [] w' [.blk bs (cl (sumC (soak (ini (UInt8.ofNat p.toNat)) (joined (ps.take k))) rest (left (joined (ps.take k))).length (joined (ps.take k)).length) 117)] ∧ (k ≤ ps.length) ∧ (total (ps.take k) ≤ 1048576) ∧ (rest.length = 32) ∧ (rest.take (left (joined (ps.take k))).length = left (joined (ps.take k)))) (ps.length - 0) ?_ ?_
  · refine ⟨0, List.replicate 32 0, rfl, rfl, ?_, Nat.zero_le _, Nat.zero_le _, by simp, by rw [joined_zero]; rfl⟩
    rw [joined_zero]; exact hS3
  · rintro d7 e4 w5 ⟨k, rest, hc0_21, rfl, hS6, hk, hkt, hr1, hr2⟩ -
    refine c_set (d := 21) hc0_21 ?_
    refine c_seq ?_
    refine c_region ?_
    refine wl_dec (r_lss rfl rfl) rfl (fun h5_0 => ?_) (fun h5_0 => ?_)
    · refine wl_nil ?_
      refine c_then ?_
      refine c_seq ?_
      refine c_true rfl ?_
      refine wp_skip ?_
      refine c_then ?_
      refine c_seq ?_
      refine c_block ?_
      refine c_seq ?_
      have hrk := hr (gt ps k) (gt_mem ps k (by omega))
      have htt := total_take ps k (by omega)
      have htl := total_le ps (k + 1)
      refine c_region ?_
      refine wl_val (r_ixS ti100.und ti65 rfl rfl (hb.st hS6) (by first | omega | (simp [*]; done) | (simp [*] <;> omega)) (by first | (simp [*]; done) | (simp [*] <;> omega) | omega)) rfl ?_
      refine wl_val (r_loadS1 ti65.und rfl rfl (hb.st hS6) (by rw [Nat.mul_one]; exact map_gt _ _ _ (by first | omega | (simp [*]; done) | (simp [*] <;> omega)))) rfl ?_
      refine wl_val (r_assign (v := .slice _ _ _) rfl) rfl ?_
      refine wl_nil ?_
      refine c_then ?_
      refine c_seq ?_
      refine c_region ?_
      refine wl_val (r_move (v := .pointer _) rfl) rfl ?_
      refine wl_val (r_move (v := .slice _ _ _) rfl) rfl ?_
      refine wl_call (r_call fn95 rfl rfl) rfl (write_ok (ini (UInt8.ofNat p.toNat)) (joined (ps.take k)) rest bs (gt ps k).xs _ _ _ _ (ini_len _) hr1 (hS6.heap (.head _)) hr2 rfl hrk.2.1 (hrk.1.st hS6) (Sep.old hS6 (.head _) hrk.1) (by omega) (by rw [joined_len]; omega)) ?_
      rintro _ w8 (⟨hfit, rfl, rest2, hr1b, hr2b, hx9⟩ | ⟨hover, rfl, hx9⟩)
      · have hS10 := St.callM (X := [_]) (L := []) hS6 hx9 (by simp [Item.id])
        simp only [List.cons_append, List.nil_append] at hS10
        refine wl_val (r_assign (v := .int .i64 _) rfl) rfl ?_
        refine wl_nil ?_
        refine c_then ?_
        refine c_seq ?_
        refine c_region ?_
        refine wl_val (r_move (v := .int .i64 _) rfl) rfl ?_
        refine wl_dec_f (r_neq rfl rfl) rfl (by decide) ?_
        refine wl_nil ?_
        refine c_then ?_
        refine c_false rfl ?_
        refine wp_skip ?_
        refine c_inN ?_
        refine c_then ?_
        refine c_region ?_
        refine wl_val (r_addn (b := 1) rfl rfl (by omega)) rfl ?_
        refine wl_val (r_move (v := .int .i64 _) rfl) rfl ?_
        refine wl_nil ?_
        refine c_then ?_
        rw [← joined_take ps k (by omega)] at hS10 hr2b
        refine ⟨ps.length - (k + 1), _, by omega, rfl, ⟨k + 1, rest2, rfl, rfl, hS10, by omega, ?_, hr1b, hr2b⟩, ⟨rfl, rfl, rfl, trivial⟩⟩
        rw [total_take ps k (by omega)]; rw [joined_len] at hfit; omega
      · have hS10 := St.callM (X := [_]) (L := []) hS6 hx9 (by simp [Item.id])
        simp only [List.cons_append, List.nil_append] at hS10
        refine wl_val (r_assign (v := .int .i64 _) rfl) rfl ?_
        refine wl_nil ?_
        refine c_then ?_
        refine c_seq ?_
        refine c_region ?_
        refine wl_val (r_move (v := .int .i64 _) rfl) rfl ?_
        refine wl_dec_t (r_neq rfl rfl) rfl (by decide) ?_
        refine wl_nil ?_
        refine c_then ?_
        refine c_true rfl ?_
        refine c_seq ?_
        refine c_region ?_
        refine wl_val (r_move (v := .int .i64 _) rfl) rfl ?_
        refine wl_val (r_assign (v := .pointer none) rfl) rfl ?_
        refine wl_val (r_assign (v := .int .i64 _) rfl) rfl ?_
        refine wl_nil ?_
        refine c_then ?_
        refine wp_ret ?_
        refine c_inR ?_
        refine c_thenR ?_
        refine c_thenR ?_
        refine c_inR ?_
        refine c_thenR ?_
        refine ret2 Try.results73 rfl rfl ?_
        first | exact .inl ⟨by omega, rfl, hS10.fin⟩ | (rw [joined_len] at hover; exact .inr (.inl ⟨by omega, rfl, hS10.fin⟩)) | (obtain rfl : k = ps.length := (by omega); rw [List.take_length] at hS10 hkt hr2; exact .inr (.inr ⟨by omega, _, rest, rfl, hr1, hr2, hS10⟩))
    refine wl_nil ?_
    refine c_then ?_
    refine c_seq ?_
    refine c_false rfl ?_
    refine wp_exit ?_
    refine c_thenE ?_
    refine c_thenE ?_
    refine c_inE ?_
    refine c_then ?_
    refine c_seq ?_
    refine c_region ?_
    refine wl_val (r_move (v := .pointer _) rfl) rfl ?_
    refine wl_val (r_assign (v := .pointer _) rfl) rfl ?_
    refine wl_val (r_assign (v := .int .i64 0) rfl) rfl ?_
    refine wl_nil ?_
    refine c_then ?_
    refine wp_ret ?_
    refine ret2 Try.results73 rfl rfl ?_
    first | exact .inl ⟨by omega, rfl, hS6.fin⟩ | (rw [joined_len] at hover; exact .inr (.inl ⟨by omega, rfl, hS6.fin⟩)) | (obtain rfl : k = ps.length := (by omega); rw [List.take_length] at hS6 hkt hr2; exact .inr (.inr ⟨by omega, _, rest, rfl, hr1, hr2, hS6⟩))

theorem sumOf_ok (p : Int) (t : List UInt8) (a : Option Addr) (c : Nat) (w : World) (hp1 : -9223372036854775808 ≤ p) (hp2 : p ≤ 9223372036854775807) (hb : Row w a (t.map b8)) (hc : t.length ≤ c) (hn : t.length ≤ 140737488351232) :
    Ret Try.prog 40 [.int .i64 p, .slice a t.length c] w (fun v w' => ((p < 0 ∨ 255 < p) ∧ v = .tuple #[.agg ((List.replicate 32 (0 : UInt8)).map b8).toArray, vi 3] ∧ St w [] w' []) ∨ ((0 ≤ p ∧ p ≤ 255 ∧ 1048576 < t.length) ∧ v = .tuple #[.agg ((List.replicate 32 (0 : UInt8)).map b8).toArray, vi 5] ∧ St w [] w' []) ∨ ((0 ≤ p ∧ p ≤ 255 ∧ t.length ≤ 1048576) ∧ v = .tuple #[.agg ((sumL (UInt8.ofNat p.toNat) t).map b8).toArray, vi 0] ∧ St w [] w' [])) := by
  refine enter Try.func40 rfl Try.ntmps40 rfl ?_
  have hS := St.refl w []
  refine c_seq ?_
  refine c_region ?_
  refine wl_exv (x_alloc (C := ((List.replicate 32 (0 : UInt8)).map b8)) hS ti32 rfl) rfl ?_
  rintro _ w1 ⟨b4, rfl, hS2⟩
  refine wl_val (r_assign (v := .int .i64 0) rfl) rfl ?_
  refine wl_nil ?_
  refine c_then ?_
  refine c_seq ?_
  refine c_region ?_
  refine wl_val (r_move (v := .int .i64 _) rfl) rfl ?_
  refine wl_val (r_move (v := .slice _ _ _) rfl) rfl ?_
  refine wl_exv (x_lit (vs := [.slice _ _ _]) hS2 ti100.und ti65 rfl rfl rfl (by intro c hc; simp only [List.mem_cons, List.not_mem_nil, or_false] at hc; rcases hc with rfl <;> rfl) (by decide)) rfl ?_
  rintro _ w3 ⟨b11, rfl, hS4⟩
  refine wl_call (r_call fn73 rfl rfl) rfl (summed_ok p [⟨_, _, t⟩] _ _ _ hp1 hp2 (Row.of_at (at_all (hS4.heap (.head _)))) (by intro q hq; obtain rfl := List.mem_singleton.1 hq; exact ⟨hb.st hS4, hc, hn⟩) (by simp)) ?_
  rintro _ w5 (⟨hbad, rfl, hx6⟩ | ⟨hbig, rfl, hx6⟩ | ⟨hin, bS, rest, rfl, hs1, hs2, hx6⟩)
  · have hS7 := hS4.ext hx6
    refine wl_val (r_move (v := .tuple _) rfl) rfl ?_
    refine wl_val (r_extract (v := .pointer _) rfl rfl) rfl ?_
    refine wl_val (r_extract (v := .int .i64 _) rfl rfl) rfl ?_
    refine wl_val (r_assign (v := .pointer _) rfl) rfl ?_
    refine wl_val (r_assign (v := .int .i64 _) rfl) rfl ?_
    refine wl_nil ?_
    refine c_then ?_
    refine c_seq ?_
    refine c_seq ?_
    refine c_region ?_
    refine wl_val (r_move (v := .int .i64 _) rfl) rfl ?_
    refine wl_dec_t (r_neq rfl rfl) rfl (by decide) ?_
    refine wl_nil ?_
    refine c_then ?_
    refine c_true rfl ?_
    refine c_seq ?_
    refine c_region ?_
    refine wl_val (r_build0 (cs := ((List.replicate 32 (0 : UInt8)).map b8)) ti32.und ti32 ti5) rfl ?_
    refine wl_val (r_move (v := .int .i64 _) rfl) rfl ?_
    refine wl_exs (x_storeW [_] hS7 ti32 rfl rfl (by first | (simp [*]; done) | (simp [*] <;> omega) | omega) (by first | (simp [*]; done) | (simp [*] <;> omega) | omega) (by repeat' first | exact one_nil | exact one_b8 _ | exact one_v32 _ | exact one_all rfl | refine one_cons rfl ?_ | refine one_app ?_ ?_)) rfl ?_
    intro w8 hS9
    simp only [List.cons_append, List.nil_append] at hS9
    refine wl_val (r_assign (v := .int .i64 _) rfl) rfl ?_
    refine wl_nil ?_
    refine c_then ?_
    refine wp_ret ?_
    refine c_thenR ?_
    refine ret2 Try.results40 ⟨_, rfl, run_loadVar_blk ti32 rfl (hS9.heap (.tail _ (.head _))) (by first | (simp [*]; done) | (simp [*] <;> omega) | omega)⟩ rfl ?_
    first | exact .inl ⟨hbad, rfl, hS9.fin⟩ | (rw [total_one] at hbig; exact .inr (.inl ⟨hbig, rfl, hS9.fin⟩)) | (rw [total_one] at hin; simp only [joined_one] at *; exact .inr (.inr ⟨hin, rfl, hS9.fin⟩))
  · have hS7 := hS4.ext hx6
    refine wl_val (r_move (v := .tuple _) rfl) rfl ?_
    refine wl_val (r_extract (v := .pointer _) rfl rfl) rfl ?_
    refine wl_val (r_extract (v := .int .i64 _) rfl rfl) rfl ?_
    refine wl_val (r_assign (v := .pointer _) rfl) rfl ?_
    refine wl_val (r_assign (v := .int .i64 _) rfl) rfl ?_
    refine wl_nil ?_
    refine c_then ?_
    refine c_seq ?_
    refine c_seq ?_
    refine c_region ?_
    refine wl_val (r_move (v := .int .i64 _) rfl) rfl ?_
    refine wl_dec_t (r_neq rfl rfl) rfl (by decide) ?_
    refine wl_nil ?_
    refine c_then ?_
    refine c_true rfl ?_
    refine c_seq ?_
    refine c_region ?_
    refine wl_val (r_build0 (cs := ((List.replicate 32 (0 : UInt8)).map b8)) ti32.und ti32 ti5) rfl ?_
    refine wl_val (r_move (v := .int .i64 _) rfl) rfl ?_
    refine wl_exs (x_storeW [_] hS7 ti32 rfl rfl (by first | (simp [*]; done) | (simp [*] <;> omega) | omega) (by first | (simp [*]; done) | (simp [*] <;> omega) | omega) (by repeat' first | exact one_nil | exact one_b8 _ | exact one_v32 _ | exact one_all rfl | refine one_cons rfl ?_ | refine one_app ?_ ?_)) rfl ?_
    intro w10 hS11
    simp only [List.cons_append, List.nil_append] at hS11
    refine wl_val (r_assign (v := .int .i64 _) rfl) rfl ?_
    refine wl_nil ?_
    refine c_then ?_
    refine wp_ret ?_
    refine c_thenR ?_
    refine ret2 Try.results40 ⟨_, rfl, run_loadVar_blk ti32 rfl (hS11.heap (.tail _ (.head _))) (by first | (simp [*]; done) | (simp [*] <;> omega) | omega)⟩ rfl ?_
    first | exact .inl ⟨hbad, rfl, hS11.fin⟩ | (rw [total_one] at hbig; exact .inr (.inl ⟨hbig, rfl, hS11.fin⟩)) | (rw [total_one] at hin; simp only [joined_one] at *; exact .inr (.inr ⟨hin, rfl, hS11.fin⟩))
  have hS7 := hS4.call hx6
  simp only [List.cons_append, List.nil_append] at hS7
  refine wl_val (r_move (v := .tuple _) rfl) rfl ?_
  refine wl_val (r_extract (v := .pointer _) rfl rfl) rfl ?_
  refine wl_val (r_extract (v := .int .i64 _) rfl rfl) rfl ?_
  refine wl_val (r_assign (v := .pointer _) rfl) rfl ?_
  refine wl_val (r_assign (v := .int .i64 _) rfl) rfl ?_
  refine wl_nil ?_
  refine c_then ?_
  refine c_seq ?_
  refine c_seq ?_
  refine c_region ?_
  refine wl_val (r_move (v := .int .i64 _) rfl) rfl ?_
  refine wl_dec_f (r_neq rfl rfl) rfl (by decide) ?_
  refine wl_nil ?_
  refine c_then ?_
  refine c_false rfl ?_
  refine wp_skip ?_
  refine c_then ?_
  refine c_seq ?_
  refine c_region ?_
  refine wl_val (r_move (v := .pointer _) rfl) rfl ?_
  refine wl_call (r_call fn74 rfl rfl) rfl (sum_ok _ _ _ _ _ (ini_len _) hs1 (hS7.heap (.head _)) hs2 (by rw [joined_len]; omega)) ?_
  rintro _ w12 ⟨rfl, hx13⟩
  have hS14 := hS7.ext hx13
  refine wl_exs (x_storeW [_, _] hS14 ti32 rfl rfl (by first | (simp [*]; done) | (simp [*] <;> omega) | omega) (by first | (simp [*]; done) | (simp [*] <;> omega) | omega) (by repeat' first | exact one_nil | exact one_b8 _ | exact one_v32 _ | exact one_all rfl | refine one_cons rfl ?_ | refine one_app ?_ ?_)) rfl ?_
  intro w15 hS16
  simp only [List.cons_append, List.nil_append] at hS16
  refine wl_val (r_assign (v := .int .i64 0) rfl) rfl ?_
  refine wl_nil ?_
  refine c_then ?_
  refine wp_ret ?_
  refine ret2 Try.results40 ⟨_, rfl, run_loadVar_blk ti32 rfl (hS16.heap (.tail _ (.tail _ (.head _)))) (by first | (simp [*]; done) | (simp [*] <;> omega) | omega)⟩ rfl ?_
  first | exact .inl ⟨hbad, rfl, hS16.fin⟩ | (rw [total_one] at hbig; exact .inr (.inl ⟨hbig, rfl, hS16.fin⟩)) | (rw [total_one] at hin; simp only [joined_one] at *; exact .inr (.inr ⟨hin, rfl, hS16.fin⟩))

theorem write_fit (s0 t rest : List UInt8) (bs : Nat) (l : List UInt8) (n1 : Nat) (a : Option Addr) (c : Nat) (w : World) (h0 : s0.length = 64) (h2 : rest.length = 32) (hb : w.heap[bs]? = some (cl (sumC (soak s0 t) rest (left t).length t.length) 117)) (hrt : rest.take (left t).length = left t) (hl : l.length = n1) (hc' : n1 ≤ c) (hr : Row w a (l.map b8)) (hs : Sep a l bs) (hfit : t.length + n1 ≤ 1048576) :
    Ret Try.prog 95 [pt bs 0, .slice a n1 c] w (fun v w' => v = vi 0 ∧ ∃ rest', rest'.length = 32 ∧ rest'.take (left (t ++ l)).length = left (t ++ l) ∧ St w [bs] w' [.blk bs (cl (sumC (soak s0 (t ++ l)) rest' (left (t ++ l)).length (t ++ l).length) 117)]) := by
  refine (write_ok s0 t rest bs l n1 a c w h0 h2 hb hrt hl hc' hr hs (by omega) (by omega)).mono fun v w' h => ?_
  rcases h with ⟨_, h⟩ | ⟨h, _⟩
  · exact h
  · omega

theorem sumOf_in (p : Nat) (t : List UInt8) (a : Option Addr) (n c : Nat) (w : World) (hp : p ≤ 255) (hb : Row w a (t.map b8)) (hl : t.length = n) (hc : n ≤ c) (ht : n ≤ 1048576) :
    Ret Try.prog 40 [vi p, .slice a n c] w (fun v w' => v = .tuple #[.agg ((sumL (UInt8.ofNat p) t).map b8).toArray, vi 0] ∧ St w [] w' []) := by
  subst hl
  refine (sumOf_ok (p : Int) t a c w (by omega) (by omega) hb hc (by omega)).mono fun v w' h => ?_
  rcases h with ⟨h, _⟩ | ⟨h, _⟩ | ⟨_, h⟩
  · omega
  · omega
  · rwa [Int.toNat_natCast] at h

theorem rstate_n (dn : Nat) (t : List UInt8) (a : Option Addr) (n c : Nat) (w : World) (hl : t.length = n) (hb : Row w a (t.map b8)) (hn : n ≤ 70368744177664) :
    Ret Try.prog 75 [vi dn, .slice a n c] w (fun v w' => v = .agg ((endL (ini (UInt8.ofNat dn)) t).map b8).toArray ∧ St w [] w' []) := by
  subst hl
  exact rstate_ok dn t a c w hb hn

theorem rsum_ok (dn : Nat) (t : List UInt8) (a : Option Addr) (n c : Nat) (w : World) (hb : Row w a (t.map b8)) (hl : t.length = n) (hn : n ≤ 70368744177664) :
    Ret Try.prog 44 [vi dn, .slice a n c] w (fun v w' => v = .agg ((sumL (UInt8.ofNat dn) t).map b8).toArray ∧ St w [] w' []) := by
  subst hl
  refine enter Try.func44 rfl Try.ntmps44 rfl ?_
  have hS := St.refl w []
  refine c_seq ?_
  refine c_region ?_
  refine wl_exv (x_alloc (C := ((List.replicate 32 (0 : UInt8)).map b8)) hS ti32 rfl) rfl ?_
  rintro _ w1 ⟨b4, rfl, hS2⟩
  refine wl_nil ?_
  refine c_then ?_
  refine c_seq ?_
  refine c_region ?_
  refine wl_val (r_move (v := .int .i64 _) rfl) rfl ?_
  refine wl_val (r_move (v := .slice _ _ _) rfl) rfl ?_
  refine wl_call (r_call fn75 rfl rfl) rfl (rstate_ok dn t _ _ _ (hb.st hS2) hn) ?_
  rintro _ w3 ⟨rfl, hx4⟩
  have hS5 := hS2.ext hx4
  refine wl_exv (x_alloc (C := ((List.replicate 64 (0 : UInt8)).map b8)) hS5 ti98 rfl) rfl ?_
  rintro _ w6 ⟨b5, rfl, hS7⟩
  refine wl_exs (x_storeW [] hS7 ti98 rfl rfl (by first | (simp [*]; done) | (simp [*] <;> omega) | omega) (by first | (simp [*]; done) | (simp [*] <;> omega) | omega) (by repeat' first | exact one_nil | exact one_b8 _ | exact one_v32 _ | exact one_all rfl | refine one_cons rfl ?_ | refine one_app ?_ ?_)) rfl ?_
  intro w8 hS9
  simp only [List.cons_append, List.nil_append] at hS9
  refine wl_nil ?_
  refine c_then ?_
  refine c_seq ?_
  refine c_drawS 2 hMixed hS9 ?_
  intro w10 hS11
  refine g_take 0 rfl (by decide +kernel) rfl (fun _ _ _ h => h) hS11 (fun wF hF => r_sa1_0 ti32.und ti5 rfl ) ?_
  refine g_take 1 rfl (by decide +kernel) rfl (fun _ _ _ h => h) hS11 (fun wF hF => r_sa1_h (h := 32) ti98.und ti5 rfl rfl (by omega)) ?_
  refine g_tail (by decide +kernel) rfl (by decide +kernel) ?_
  refine wl_exv (x_copym [_] hS11 ti65.und ti5 rfl rfl (Row.of_at (at_takem (n := 32) (hS11.heap (.head _)))) (by first | (simp [*]; done) | (simp [*] <;> omega) | omega) (by first | omega | (simp [*]; done) | (simp [*] <;> omega)) (by first | (simp [*]; done) | (simp [*] <;> omega) | omega) (fun _ => rfl) _ rfl) rfl ?_
  rintro _ w12 ⟨rfl, hS13⟩
  simp only [List.cons_append, List.nil_append] at hS13
  rw [splice0 _ _ (by simp)] at hS13
  refine wl_nil ?_
  refine c_then ?_
  refine c_seq ?_
  refine c_region ?_
  refine wl_val (r_loadB ti32 rfl rfl (hS13.heap (.tail _ (.head _))) (by first | (simp [*]; done) | (simp [*] <;> omega) | omega)) rfl ?_
  refine wl_exs (x_storeW [_] hS13 ti32 rfl rfl (by first | (simp [*]; done) | (simp [*] <;> omega) | omega) (by first | (simp [*]; done) | (simp [*] <;> omega) | omega) (by repeat' first | exact one_nil | exact one_b8 _ | exact one_v32 _ | exact one_all rfl | refine one_cons rfl ?_ | refine one_app ?_ ?_)) rfl ?_
  intro w14 hS15
  simp only [List.cons_append, List.nil_append] at hS15
  refine wl_nil ?_
  refine c_then ?_
  refine wp_ret ?_
  refine retc Try.results44 ⟨_, rfl, run_loadVar_blk ti32 rfl (hS15.heap (.tail _ (.head _))) (by first | (simp [*]; done) | (simp [*] <;> omega) | omega)⟩ ?_
  exact ⟨rfl, hS15.fin⟩

theorem clone_n (l : List UInt8) (a : Option Addr) (n c : Nat) (w : World) (hb : Row w a (l.map b8)) (hl : l.length = n) (hn : n ≤ 140737488351232) :
    Ret Try.prog 97 [.slice a n c] w (fun v w' => ∃ a' c', v = .slice a' n c' ∧ n ≤ c' ∧ St w [] w' [.row (.slice a' n c') 5 1 n (l.map b8)]) := by
  subst hl
  exact clone_ok l a c w hb hn

end Go.Proofs.Ytafdmlpfgpaicaa
