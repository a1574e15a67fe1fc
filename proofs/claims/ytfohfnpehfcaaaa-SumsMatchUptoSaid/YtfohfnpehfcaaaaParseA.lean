/- Proofs, parsed. No condition. -/
import Derived.Test.YtfohfnpehfcaaaaFacts
import Derived.Test.YtfohfnpehfcaaaaPrintA
import Derived.Test.YtfohfnpehfcaaaaNum
namespace Go.Proofs.Ytfohfnpehfcaaaa
open Go.Kw
set_option linter.unusedVariables false
set_option linter.unusedSimpArgs false
set_option maxRecDepth 100000
theorem rnumber_ok (l : List UInt8) (a : Option Addr) (n c : Nat) (w : World) (hb : Row w a (l.map b8)) (hl : l.length = n) (hn : n ≤ 140737488355328) :
    Ret Try.prog 121 [.slice a n c] w (fun v w' => v = .int .i64 (sgN (natN l)) ∧ St w [] w' []) := by
  refine enter Try.func121 rfl Try.ntmps121 rfl ?_
  have hS := St.refl w []
  refine c_seq ?_
  refine c_region ?_
  refine wl_val (r_assign (v := .int .i64 0) rfl) rfl ?_
  refine wl_nil ?_
  refine c_then ?_
  refine c_seq ?_
  refine c_region ?_
  refine wl_val (r_assign (v := .int .i64 0) rfl) rfl ?_
  refine wl_nil ?_
  refine c_then ?_
  refine c_seq ?_
  refine c_seq ?_
  refine c_region ?_
  refine wl_val (r_move (v := .slice _ _ _) rfl) rfl ?_
  refine wl_val (r_len (T := 22) rfl ti22.und rfl _ rfl) rfl ?_
  refine wl_val (r_move (v := .int .i64 0) rfl) rfl ?_
  refine wl_nil ?_
  refine c_then ?_
  refine c_block ?_
  refine c_loopE [2, 6, 7] (fun d e w' => ∃ (k : Nat), Kw.look e 8 = vi k ∧ Kw.look e 3 = .int .i64 (sgN (natN (l.take k))) ∧ d = n - k ∧ St w [] w' [] ∧ (k ≤ n)) (n - 0) ?_ ?_
  · exact ⟨0, rfl, rfl, rfl, hS, Nat.zero_le _⟩
  · rintro d4 e1 w2 ⟨k, hc0_8, hc0_3, rfl, hS3, hk⟩ -
    refine c_set (d := 8) hc0_8 ?_
    refine c_set (d := 3) hc0_3 ?_
    refine c_seq ?_
    refine c_region ?_
    refine wl_dec (r_lss rfl rfl) rfl (fun h3_0 => ?_) (fun h3_0 => ?_)
    · refine wl_nil ?_
      refine c_then ?_
      refine c_seq ?_
      refine c_true rfl ?_
      refine wp_skip ?_
      refine c_then ?_
      refine c_seq ?_
      refine c_block ?_
      refine c_seq ?_
      refine c_region ?_
      refine wl_val (r_ixS ti22.und ti5 rfl rfl (hb.st hS3) (by first | omega | (simp [*]; done) | (simp [*] <;> omega)) (by first | (simp [*]; done) | (simp [*] <;> omega) | omega)) rfl ?_
      refine wl_val (r_loadS1 ti5.und rfl rfl (hb.st hS3) (by rw [Nat.mul_one]; exact map_gt _ _ _ (by first | omega | (simp [*]; done) | (simp [*] <;> omega)))) rfl ?_
      refine wl_val (r_assign (v := .int .u8 _) rfl) rfl ?_
      refine wl_nil ?_
      refine c_then ?_
      refine c_region ?_
      refine wl_val (r_move (v := .int .i64 _) rfl) rfl ?_
      refine wl_val (r_shlN rfl rfl) rfl ?_
      refine wl_val (r_move (v := .int .u8 _) rfl) rfl ?_
      refine wl_val (c_u8_i64 ti3.und ⟨_, ti5.und⟩ rfl) rfl ?_
      refine wl_val (r_orN rfl rfl) rfl ?_
      refine wl_val (r_assign (v := .int .i64 _) rfl) rfl ?_
      refine wl_nil ?_
      refine c_inN ?_
      refine c_then ?_
      refine c_region ?_
      refine wl_val (r_addn (b := 1) rfl rfl (by omega)) rfl ?_
      refine wl_val (r_move (v := .int .i64 _) rfl) rfl ?_
      refine wl_nil ?_
      refine c_then ?_
      exact ⟨n - (k + 1), _, by omega, rfl, ⟨k + 1, rfl, congrArg (fun z => Value.int .i64 (sgN z)) (natN_step (by omega)).symm, rfl, hS3, by omega⟩, ⟨rfl, rfl, rfl, trivial⟩⟩
    · refine wl_nil ?_
      refine c_then ?_
      refine c_seq ?_
      refine c_false rfl ?_
      refine wp_exit ?_
      refine c_thenE ?_
      refine c_thenE ?_
      refine c_inE ?_
      refine c_then ?_
      refine c_seq ?_
      refine c_region ?_
      refine wl_val (r_move (v := .int .i64 _) rfl) rfl ?_
      refine wl_val (r_assign (v := .int .i64 _) rfl) rfl ?_
      refine wl_nil ?_
      refine c_then ?_
      refine wp_ret ?_
      refine ret1 Try.results121 ?_
      obtain rfl : k = l.length := by omega
      rw [List.take_length]
      exact ⟨rfl, hS3.fin⟩

theorem number_br (l : List UInt8) (a : Option Addr) (n c : Nat) (w : World) (hb : Row w a (l.map b8)) (hl : l.length = n) (hc : n ≤ c) (hn : n ≤ 140737488351232) (M : UInt32) (hM : word4 ((l.drop 16).take 4) = M) :
    Ret Try.prog 119 [.slice a n c, vi 16] w (fun v w' => (n < 20 ∧ ∃ x, v = .tuple #[v32 x, vi 1] ∧ St w [] w' []) ∨ (20 ≤ n ∧ v = .tuple #[v32 M, vi 0] ∧ St w [] w' [])) := by
  subst hl; subst hM
  refine (number_ok l a c 16 w hb hc (by omega) (by omega) (by omega)).mono fun v w' h => ?_
  rcases Nat.lt_or_ge l.length 20 with h20 | h20
  · rw [room_out (k := 4) (by decide) (by omega)] at h
    exact .inl ⟨h20, _, h⟩
  · have hz : roomI l.length 16 4 = 0 := room_in (k := 4) (by decide) (by omega)
    rw [takeL_in hz, hz] at h
    exact .inr ⟨h20, h⟩
theorem long_br (l : List UInt8) (a : Option Addr) (n c p : Nat) (w : World) (hb : Row w a (l.map b8)) (hl : l.length = n) (hc : n ≤ c) (hn : n ≤ 140737488351232) (hp : p + 8 ≤ n) (X : Nat) (hX : natN ((l.drop p).take 8) = X) :
    Ret Try.prog 120 [.slice a n c, vi p] w (fun v w' => (X ≤ 4611686018427387904 ∧ v = .tuple #[vi X, vi 0] ∧ St w [] w' []) ∨ (4611686018427387904 < X ∧ v = .tuple #[vi 0, vi 4] ∧ St w [] w' [])) := by
  subst hl
  refine (long_ok l a c p w hb hc (by omega) (by omega) (by omega)).mono fun v w' h => ?_
  have hz : roomI l.length p 8 = 0 := room_in (k := 8) (by omega) (by omega)
  have ht : takeL l p 8 = (l.drop p).take 8 := by rw [takeL_in hz, Int.toNat_natCast]
  have hX2 : (long8 (takeL l p 8)).toNat = X := by rw [ht, ← hX, natN_8 (by rw [List.length_take, List.length_drop]; omega)]
  by_cases hbig : 4611686018427387904 < X
  · have h2 := long_big hz (by rw [hX2]; omega)
    rw [h2.1, h2.2] at h
    exact .inr ⟨hbig, h⟩
  · have h2 := long_in hz (by rw [hX2]; omega)
    rw [h2.1, h2.2, hX2] at h
    exact .inl ⟨by omega, h⟩

theorem parse_ok (l : List UInt8) (a : Option Addr) (n c : Nat) (X1 X2 : Nat) (M : UInt32) (w : World) (hb : Row w a (l.map b8)) (hl : l.length = n) (hc : n ≤ c) (hn : n ≤ 140737488351232) (hx1 : natN ((l.drop 0).take 8) = X1) (hx2 : natN ((l.drop 8).take 8) = X2) (hM : word4 ((l.drop 16).take 4) = M) (hX1 : X1 < 18446744073709551616) (hX2 : X2 < 18446744073709551616) :
    Ret Try.prog 37 [.slice a n c] w (fun v w' => (n < 20 + 32 * M.toNat ∧ v = .tuple #[.agg #[.int .i64 0, .int .i64 0, .slice none 0 0], vi 0, vi 1] ∧ St w [] w' []) ∨ (20 + 32 * M.toNat ≤ n ∧ (sgN X1 < 0 ∨ 65536 < sgN X1 ∨ sgN X2 < 0 ∨ 65536 < sgN X2) ∧ v = .tuple #[.agg #[.int .i64 0, .int .i64 0, .slice none 0 0], vi 0, vi 4] ∧ St w [] w' []) ∨ (20 + 32 * M.toNat ≤ n ∧ (X1 ≤ 65536 ∧ X2 ≤ 65536) ∧ 64 < M.toNat ∧ v = .tuple #[.agg #[.int .i64 0, .int .i64 0, .slice none 0 0], vi 0, vi 5] ∧ St w [] w' []) ∨ (20 + 32 * M.toNat ≤ n ∧ (X1 ≤ 65536 ∧ X2 ≤ 65536) ∧ M.toNat ≤ 64 ∧ ∃ a' c', v = .tuple #[.agg #[vi X1, vi X2, .slice a' M.toNat c'], vi (20 + 32 * M.toNat), vi 0] ∧ M.toNat ≤ c' ∧ St w [] w' [.row (.slice a' M.toNat c') 49 32 M.toNat ((chunksL l M.toNat).flatten.map b8)])) := by
  refine enter Try.func37 rfl Try.ntmps37 rfl ?_
  have hS := St.refl w []
  refine c_seq ?_
  refine c_region ?_
  refine wl_exv (x_alloc (C := [.int .i64 0, .int .i64 0, .slice none 0 0]) hS ti55 rfl) rfl ?_
  rintro _ w1 ⟨b2, rfl, hS2⟩
  refine wl_val (r_assign (v := .int .i64 0) rfl) rfl ?_
  refine wl_val (r_assign (v := .int .i64 0) rfl) rfl ?_
  refine wl_nil ?_
  refine c_then ?_
  refine c_seq ?_
  refine c_region ?_
  refine wl_val (r_move (v := .slice _ _ _) rfl) rfl ?_
  refine wl_call (r_call fn119 rfl rfl) rfl (number_br l a n c _ (hb.st hS2) hl hc hn M hM) ?_
  rintro _ w3 (⟨h20, xq, rfl, hx4⟩ | ⟨h20, rfl, hx4⟩)
  · have hS5 := hS2.ext hx4
    refine wl_val (r_move (v := .tuple _) rfl) rfl ?_
    refine wl_val (r_extract (v := .int .u32 _) rfl rfl) rfl ?_
    refine wl_val (r_extract (v := .int .i64 _) rfl rfl) rfl ?_
    refine wl_val (r_assign (v := .int .u32 _) rfl) rfl ?_
    refine wl_val (r_assign (v := .int .i64 _) rfl) rfl ?_
    refine wl_nil ?_
    refine c_then ?_
    refine c_seq ?_
    refine c_seq ?_
    refine c_region ?_
    refine wl_val (r_move (v := .int .i64 _) rfl) rfl ?_
    refine wl_dec_t (r_neq rfl rfl) rfl (by decide) ?_
    refine wl_nil ?_
    refine c_then ?_
    refine c_true rfl ?_
    refine c_seq ?_
    refine c_region ?_
    refine wl_val (r_buildZ pl55 ti55) rfl ?_
    refine wl_val (r_move (v := .int .i64 _) rfl) rfl ?_
    refine wl_exs (x_storeW [] hS5 ti55 rfl rfl (by first | (simp [*]; done) | (simp [*] <;> omega) | omega) (by first | (simp [*]; done) | (simp [*] <;> omega) | omega) (by repeat' first | exact one_nil | exact one_b8 _ | exact one_v32 _ | exact one_all rfl | refine one_cons rfl ?_ | refine one_app ?_ ?_)) rfl ?_
    intro w6 hS7
    simp only [List.cons_append, List.nil_append] at hS7
    refine wl_val (r_assign (v := .int .i64 0) rfl) rfl ?_
    refine wl_val (r_assign (v := .int .i64 _) rfl) rfl ?_
    refine wl_nil ?_
    refine c_then ?_
    refine wp_ret ?_
    refine c_thenR ?_
    refine ret3 Try.results37 ⟨_, rfl, run_loadVar_blk ti55 ag55 (hS7.heap (.head _)) (by first | (simp [*]; done) | (simp [*] <;> omega) | omega)⟩ rfl rfl ?_
    first | exact .inl ⟨by omega, rfl, hS7.fin⟩ | exact .inr (.inl ⟨by omega, by first | omega | (rw [sgN_small (n := X1) (by omega), sgN_small (n := X2) (by omega)]; omega) | exact .inr (.inr (sgN_out (by omega) hX2)) | (rcases sgN_out (n := X1) (by omega) hX1 with h | h <;> omega) | (rcases sgN_out (n := X2) (by omega) hX2 with h | h <;> omega), rfl, hS7.fin⟩) | exact .inr (.inr (.inl ⟨by omega, by omega, by omega, rfl, hS7.fin⟩))
  · have hS5 := hS2.ext hx4
    refine wl_val (r_move (v := .tuple _) rfl) rfl ?_
    refine wl_val (r_extract (v := .int .u32 _) rfl rfl) rfl ?_
    refine wl_val (r_extract (v := .int .i64 _) rfl rfl) rfl ?_
    refine wl_val (r_assign (v := .int .u32 _) rfl) rfl ?_
    refine wl_val (r_assign (v := .int .i64 _) rfl) rfl ?_
    refine wl_nil ?_
    refine c_then ?_
    refine c_seq ?_
    refine c_seq ?_
    refine c_region ?_
    refine wl_val (r_move (v := .int .i64 _) rfl) rfl ?_
    refine wl_dec_f (r_neq rfl rfl) rfl (by decide) ?_
    refine wl_nil ?_
    refine c_then ?_
    refine c_false rfl ?_
    refine wp_skip ?_
    refine c_then ?_
    refine c_seq ?_
    have hML := M.toNat_lt
    refine c_region ?_
    refine wl_val (r_move (v := .int .u32 _) rfl) rfl ?_
    refine wl_val (c_u32_i64 ti3.und ⟨_, ti155.und⟩ rfl) rfl ?_
    refine wl_val (r_muln (a := 32) rfl rfl (by omega)) rfl ?_
    refine wl_val (r_addn (a := 20) rfl rfl (by omega)) rfl ?_
    refine wl_val (r_assign (v := .int .i64 _) rfl) rfl ?_
    refine wl_nil ?_
    refine c_then ?_
    refine c_seq ?_
    refine c_seq ?_
    refine c_region ?_
    refine wl_val (r_move (v := .slice _ _ _) rfl) rfl ?_
    refine wl_val (r_len (T := 22) rfl ti22.und rfl _ rfl) rfl ?_
    refine wl_val (r_move (v := .int .i64 _) rfl) rfl ?_
    refine wl_dec (r_lss rfl rfl) rfl (fun h5_3 => ?_) (fun h5_3 => ?_)
    · refine wl_nil ?_
      refine c_then ?_
      refine c_true rfl ?_
      refine c_seq ?_
      refine c_region ?_
      refine wl_val (r_buildZ pl55 ti55) rfl ?_
      refine wl_exs (x_storeW [] hS5 ti55 rfl rfl (by first | (simp [*]; done) | (simp [*] <;> omega) | omega) (by first | (simp [*]; done) | (simp [*] <;> omega) | omega) (by repeat' first | exact one_nil | exact one_b8 _ | exact one_v32 _ | exact one_all rfl | refine one_cons rfl ?_ | refine one_app ?_ ?_)) rfl ?_
      intro w8 hS9
      simp only [List.cons_append, List.nil_append] at hS9
      refine wl_val (r_assign (v := .int .i64 0) rfl) rfl ?_
      refine wl_val (r_assign (v := .int .i64 1) rfl) rfl ?_
      refine wl_nil ?_
      refine c_then ?_
      refine wp_ret ?_
      refine c_thenR ?_
      refine ret3 Try.results37 ⟨_, rfl, run_loadVar_blk ti55 ag55 (hS9.heap (.head _)) (by first | (simp [*]; done) | (simp [*] <;> omega) | omega)⟩ rfl rfl ?_
      first | exact .inl ⟨by omega, rfl, hS9.fin⟩ | exact .inr (.inl ⟨by omega, by first | omega | (rw [sgN_small (n := X1) (by omega), sgN_small (n := X2) (by omega)]; omega) | exact .inr (.inr (sgN_out (by omega) hX2)) | (rcases sgN_out (n := X1) (by omega) hX1 with h | h <;> omega) | (rcases sgN_out (n := X2) (by omega) hX2 with h | h <;> omega), rfl, hS9.fin⟩) | exact .inr (.inr (.inl ⟨by omega, by omega, by omega, rfl, hS9.fin⟩))
    · refine wl_nil ?_
      refine c_then ?_
      refine c_false rfl ?_
      refine wp_skip ?_
      refine c_then ?_
      refine c_seq ?_
      refine c_region ?_
      refine wl_val (r_move (v := .slice _ _ _) rfl) rfl ?_
      refine wl_call (r_call fn120 rfl rfl) rfl (long_br l a n c 0 _ (hb.st hS5) hl hc hn (by omega) X1 hx1) ?_
      rintro _ w10 (⟨hqDST, rfl, hx11⟩ | ⟨hqDST, rfl, hx11⟩)
      · have hS12 := hS5.ext hx11
        refine wl_val (r_move (v := .tuple _) rfl) rfl ?_
        refine wl_val (r_extract (v := .int .i64 _) rfl rfl) rfl ?_
        refine wl_val (r_extract (v := .int .i64 _) rfl rfl) rfl ?_
        refine wl_val (r_assign (v := .int .i64 _) rfl) rfl ?_
        refine wl_val (r_assign (v := .int .i64 _) rfl) rfl ?_
        refine wl_nil ?_
        refine c_then ?_
        refine c_seq ?_
        refine c_region ?_
        refine wl_val (r_move (v := .slice _ _ _) rfl) rfl ?_
        refine wl_call (r_call fn120 rfl rfl) rfl (long_br l a n c 8 _ (hb.st hS12) hl hc hn (by omega) X2 hx2) ?_
        rintro _ w13 (⟨hqDST, rfl, hx14⟩ | ⟨hqDST, rfl, hx14⟩)
        · have hS15 := hS12.ext hx14
          refine wl_val (r_move (v := .tuple _) rfl) rfl ?_
          refine wl_val (r_extract (v := .int .i64 _) rfl rfl) rfl ?_
          refine wl_val (r_extract (v := .int .i64 _) rfl rfl) rfl ?_
          refine wl_val (r_assign (v := .int .i64 _) rfl) rfl ?_
          refine wl_val (r_assign (v := .int .i64 _) rfl) rfl ?_
          refine wl_nil ?_
          refine c_then ?_
          refine c_seq ?_
          refine c_seq ?_
          refine c_region ?_
          refine wl_val (r_move (v := .int .i64 _) rfl) rfl ?_
          refine wl_dec_f (r_neq rfl rfl) rfl (by decide) ?_
          refine wl_val (r_move (v := .bool _) rfl) rfl ?_
          refine wl_val (r_move (v := .int .i64 _) rfl) rfl ?_
          refine wl_dec_f (r_neq rfl rfl) rfl (by decide) ?_
          refine wl_val (r_pick_f rfl (v := .bool _) rfl) rfl ?_
          refine wl_nil ?_
          refine c_then ?_
          refine c_false rfl ?_
          refine wp_skip ?_
          refine c_then ?_
          refine c_seq ?_
          refine c_region ?_
          refine wl_val (r_move (v := .int .i64 _) rfl) rfl ?_
          refine wl_val (r_move (v := .int .i64 _) rfl) rfl ?_
          refine wl_val (r_buildP (ps := [(0, .int .i64 _), (1, .int .i64 _)]) (out := [.int .i64 _, .int .i64 _, .slice none 0 0]) pl55 ti55 rfl rfl) rfl ?_
          refine wl_exv (x_alloc (C := [.int .i64 0, .int .i64 0, .slice none 0 0]) hS15 ti55 rfl) rfl ?_
          rintro _ w16 ⟨b12, rfl, hS17⟩
          refine wl_exs (x_storeW [] hS17 ti55 rfl rfl (by first | (simp [*]; done) | (simp [*] <;> omega) | omega) (by first | (simp [*]; done) | (simp [*] <;> omega) | omega) (by repeat' first | exact one_nil | exact one_b8 _ | exact one_v32 _ | exact one_all rfl | refine one_cons rfl ?_ | refine one_app ?_ ?_)) rfl ?_
          intro w18 hS19
          simp only [List.cons_append, List.nil_append] at hS19
          refine wl_nil ?_
          refine c_then ?_
          refine c_seq ?_
          refine c_seq ?_
          refine c_region ?_
          refine wl_val (r_loadB ti55 ag55 rfl (hS19.heap (.head _)) (by first | (simp [*]; done) | (simp [*] <;> omega) | omega)) rfl ?_
          refine wl_call (r_call fn114 rfl rfl) rfl (proofFault_ok X1 X2 none 0 0 _) ?_
          rintro _ w20 (⟨hf, rfl, hx21⟩ | ⟨hf, rfl, hx21⟩ | ⟨hf, rfl, hx21⟩)
          · have hS22 := hS19.ext hx21
            refine wl_val (r_assign (v := .int .i64 _) rfl) rfl ?_
            refine wl_nil ?_
            refine c_then ?_
            refine c_seq ?_
            refine c_region ?_
            refine wl_val (r_move (v := .int .i64 _) rfl) rfl ?_
            refine wl_dec_t (r_neq rfl rfl) rfl (by decide) ?_
            refine wl_nil ?_
            refine c_then ?_
            refine c_true rfl ?_
            refine c_seq ?_
            refine c_region ?_
            refine wl_val (r_buildZ pl55 ti55) rfl ?_
            refine wl_val (r_move (v := .int .i64 _) rfl) rfl ?_
            refine wl_exs (x_storeW [_] hS22 ti55 rfl rfl (by first | (simp [*]; done) | (simp [*] <;> omega) | omega) (by first | (simp [*]; done) | (simp [*] <;> omega) | omega) (by repeat' first | exact one_nil | exact one_b8 _ | exact one_v32 _ | exact one_all rfl | refine one_cons rfl ?_ | refine one_app ?_ ?_)) rfl ?_
            intro w23 hS24
            simp only [List.cons_append, List.nil_append] at hS24
            refine wl_val (r_assign (v := .int .i64 0) rfl) rfl ?_
            refine wl_val (r_assign (v := .int .i64 _) rfl) rfl ?_
            refine wl_nil ?_
            refine c_then ?_
            refine wp_ret ?_
            refine c_thenR ?_
            refine ret3 Try.results37 ⟨_, rfl, run_loadVar_blk ti55 ag55 (hS24.heap (.tail _ (.head _))) (by first | (simp [*]; done) | (simp [*] <;> omega) | omega)⟩ rfl rfl ?_
            first | exact .inl ⟨by omega, rfl, hS24.fin⟩ | exact .inr (.inl ⟨by omega, by first | omega | (rw [sgN_small (n := X1) (by omega), sgN_small (n := X2) (by omega)]; omega) | exact .inr (.inr (sgN_out (by omega) hX2)) | (rcases sgN_out (n := X1) (by omega) hX1 with h | h <;> omega) | (rcases sgN_out (n := X2) (by omega) hX2 with h | h <;> omega), rfl, hS24.fin⟩) | exact .inr (.inr (.inl ⟨by omega, by omega, by omega, rfl, hS24.fin⟩))
          · exfalso; omega
          · have hS22 := hS19.ext hx21
            refine wl_val (r_assign (v := .int .i64 _) rfl) rfl ?_
            refine wl_nil ?_
            refine c_then ?_
            refine c_seq ?_
            refine c_region ?_
            refine wl_val (r_move (v := .int .i64 _) rfl) rfl ?_
            refine wl_dec_f (r_neq rfl rfl) rfl (by decide) ?_
            refine wl_nil ?_
            refine c_then ?_
            refine c_false rfl ?_
            refine wp_skip ?_
            refine c_then ?_
            refine c_seq ?_
            refine c_seq ?_
            refine c_region ?_
            refine wl_val (r_move (v := .int .u32 _) rfl) rfl ?_
            refine wl_dec (r_gtr rfl rfl) rfl (fun h15_1 => ?_) (fun h15_1 => ?_)
            · refine wl_nil ?_
              refine c_then ?_
              refine c_true rfl ?_
              refine c_seq ?_
              refine c_region ?_
              refine wl_val (r_buildZ pl55 ti55) rfl ?_
              refine wl_exs (x_storeW [_] hS22 ti55 rfl rfl (by first | (simp [*]; done) | (simp [*] <;> omega) | omega) (by first | (simp [*]; done) | (simp [*] <;> omega) | omega) (by repeat' first | exact one_nil | exact one_b8 _ | exact one_v32 _ | exact one_all rfl | refine one_cons rfl ?_ | refine one_app ?_ ?_)) rfl ?_
              intro w25 hS26
              simp only [List.cons_append, List.nil_append] at hS26
              refine wl_val (r_assign (v := .int .i64 0) rfl) rfl ?_
              refine wl_val (r_assign (v := .int .i64 5) rfl) rfl ?_
              refine wl_nil ?_
              refine c_then ?_
              refine wp_ret ?_
              refine c_thenR ?_
              refine ret3 Try.results37 ⟨_, rfl, run_loadVar_blk ti55 ag55 (hS26.heap (.tail _ (.head _))) (by first | (simp [*]; done) | (simp [*] <;> omega) | omega)⟩ rfl rfl ?_
              first | exact .inl ⟨by omega, rfl, hS26.fin⟩ | exact .inr (.inl ⟨by omega, by first | omega | (rw [sgN_small (n := X1) (by omega), sgN_small (n := X2) (by omega)]; omega) | exact .inr (.inr (sgN_out (by omega) hX2)) | (rcases sgN_out (n := X1) (by omega) hX1 with h | h <;> omega) | (rcases sgN_out (n := X2) (by omega) hX2 with h | h <;> omega), rfl, hS26.fin⟩) | exact .inr (.inr (.inl ⟨by omega, by omega, by omega, rfl, hS26.fin⟩))
            · refine wl_nil ?_
              refine c_then ?_
              refine c_false rfl ?_
              refine wp_skip ?_
              refine c_then ?_
              refine c_seq ?_
              refine c_seq ?_
              refine c_region ?_
              refine wl_val (r_assign (v := .int .i64 20) rfl) rfl ?_
              refine wl_nil ?_
              refine c_then ?_
              refine c_block ?_
              obtain ⟨LT27, hLT27, hS28⟩ := St.frame [_] [_] hS22
              simp only [List.cons_append, List.nil_append] at hS28
              have hm27_b2 := inL hLT27 (.head _)
              refine c_loopE [0, 2, 3, 4, 7, 12] (fun d e w' => ∃ (k : Nat) (a5 : Option Addr) (c5 : Nat), Kw.look e 14 = vi (20 + 32 * k) ∧ d = 0 + (M.toNat - k) ∧ St w [] w' (.blk b12 (cl [vi X1, vi X2, .slice a5 k c5] 55) :: .row (.slice a5 k c5) 49 32 k ((chunksL l k).flatten.map b8) :: LT27) ∧ (k ≤ M.toNat) ∧ (k ≤ c5)) (0 + (M.toNat - 0)) ?_ ?_
              have hS33 := St.nilRow (E := 49) (sz := 32) hS28
              · exact ⟨0, none, 0, rfl, rfl, (hS33.perm ((List.Perm.cons _ (List.Perm.refl _)).trans (List.perm_middle (l₁ := [_])).symm)), Nat.zero_le _, Nat.le_refl _⟩
              · rintro d32 e29 w30 ⟨k, a5, c5, hc0_14, rfl, hS31, hk, hk5⟩ -
                refine c_set (d := 14) hc0_14 ?_
                refine c_seq ?_
                refine c_seq ?_
                refine c_region ?_
                refine wl_val (r_move (v := .int .i64 _) rfl) rfl ?_
                refine wl_val (r_move (v := .int .i64 _) rfl) rfl ?_
                refine wl_dec (r_lss rfl rfl) rfl (fun h18_2 => ?_) (fun h18_2 => ?_)
                · refine wl_nil ?_
                  refine c_then ?_
                  refine c_true rfl ?_
                  refine wp_skip ?_
                  refine c_then ?_
                  refine c_seq ?_
                  refine c_block ?_
                  refine c_drawS 10 hMixed hS31 ?_
                  intro w34 hS35
                  refine g_take 0 rfl (by decide +kernel) rfl (fun _ _ _ h => h) hS35 (fun wF hF => r_field fa55_2 rfl) ?_
                  refine g_take 1 rfl (by decide +kernel) rfl (fun _ _ _ h => h) hS35 (fun wF hF => r_loadB1 ti53.und rfl rfl (hF.heap (.head _)) rfl) ?_
                  refine g_take 2 rfl (by decide +kernel) rfl (fun _ _ _ h => h) hS35 (fun wF hF => r_move (v := .slice _ _ _) rfl) ?_
                  refine g_take 3 rfl (by decide +kernel) rfl (fun _ _ _ h => h) hS35 (fun wF hF => r_move (v := .int .i64 _) rfl) ?_
                  refine g_take 4 rfl (by decide +kernel) rfl (fun _ _ _ h => h) hS35 (fun wF hF => r_move (v := .int .i64 _) rfl) ?_
                  refine g_take 5 rfl (by decide +kernel) rfl (fun _ _ _ h => h) hS35 (fun wF hF => r_addn (b := 32) rfl rfl (by omega)) ?_
                  refine g_take 6 rfl (by decide +kernel) rfl (fun _ _ _ h => h) hS35 (fun wF hF => r_sl_lh ti22.und ti5 rfl rfl rfl (by omega) (by omega)) ?_
                  have hrs : Row w (Kw.sub a c (20 + 32 * k) 1) (((l.drop (20 + 32 * k)).take 32).map b8) := hb.mid (by omega) _ _
                  refine g_take 7 rfl (by decide +kernel) rfl (fun _ _ _ h => h) hS35 (fun wF hF => r_s2a ti49.und rfl (by omega)) ?_
                  refine g_take 8 rfl (by decide +kernel) rfl (fun _ _ _ h => h) hS35 (fun wF hF => r_loadPA ti49 rfl rfl (hrs.st hF) (by omega) (by first | (simp [*]; done) | (simp [*] <;> omega) | omega)) ?_
                  refine g_one 9 (by decide +kernel) (by decide +kernel) ?_
                  refine o_exv rfl (x_litA1 hS35 ti53.und ti49 rfl (by rw [List.length_take, List.length_map, List.length_take, List.length_drop]; omega) rfl (by decide) (by decide)) rfl ?_
                  rintro _ w36 ⟨b76, rfl, hS37⟩
                  refine ⟨hS37.drop1, ?_⟩
                  refine g_tail (by decide +kernel) rfl (by decide +kernel) ?_
                  refine wl_exv (x_append [_, _] hS37 ti53.und ti49 rfl (by decide) rfl rfl (Row.of_at (at_all (hS37.heap (.head _)))) (by rw [List.length_take, List.length_map, List.length_take, List.length_drop]; omega) (one_take (one_b8 _)) (by omega) (by omega) _ rfl) rfl ?_
                  rintro _ w38 ⟨aq40, cq40, rfl, hcq40, hS39⟩
                  simp only [List.cons_append, List.nil_append] at hS39
                  refine wl_val (r_field fa55_2 rfl) rfl ?_
                  refine wl_exs (x_store1 [_] hS39 ti53 rfl rfl rfl (by simp)) rfl ?_
                  intro w41 hS42
                  simp only [List.cons_append, List.nil_append] at hS42
                  refine wl_nil ?_
                  refine c_inN ?_
                  refine c_then ?_
                  refine c_region ?_
                  refine wl_val (r_move (v := .int .i64 _) rfl) rfl ?_
                  refine wl_val (r_addn (b := 32) rfl rfl (by omega)) rfl ?_
                  refine wl_val (r_assign (v := .int .i64 _) rfl) rfl ?_
                  refine wl_nil ?_
                  refine c_then ?_
                  have ec : (chunksL l k).flatten.map b8 ++ ((l.drop (20 + 32 * k)).take 32).map b8 = (chunksL l (k + 1)).flatten.map b8 := by rw [chunks_step, List.map_append]
                  have et : (((l.drop (20 + 32 * k)).take 32).map b8).take 32 = ((l.drop (20 + 32 * k)).take 32).map b8 := List.take_of_length_le (by rw [List.length_map, List.length_take]; omega)
                  rw [et, ec] at hS42
                  exact ⟨0 + (M.toNat - (k + 1)), _, by omega, rfl, ⟨k + 1, _, _, congrArg (fun n : Nat => vi n) (by omega), rfl, hS42.drop1, by omega, hcq40⟩, ⟨rfl, rfl, rfl, rfl, rfl, rfl, trivial⟩⟩
                · refine wl_nil ?_
                  refine c_then ?_
                  refine c_false rfl ?_
                  refine wp_exit ?_
                  refine c_thenE ?_
                  refine c_thenE ?_
                  refine c_inE ?_
                  refine c_then ?_
                  refine c_seq ?_
                  refine c_region ?_
                  refine wl_val (r_loadB ti55 ag55 rfl (hS31.heap (.head _)) (by first | (simp [*]; done) | (simp [*] <;> omega) | omega)) rfl ?_
                  refine wl_val (r_move (v := .int .i64 _) rfl) rfl ?_
                  subst hLT27
                  refine wl_exs (x_storeW [_, _] hS31 ti55 rfl rfl (by first | (simp [*]; done) | (simp [*] <;> omega) | omega) (by first | (simp [*]; done) | (simp [*] <;> omega) | omega) (by repeat' first | exact one_nil | exact one_b8 _ | exact one_v32 _ | exact one_all rfl | refine one_cons rfl ?_ | refine one_app ?_ ?_)) rfl ?_
                  intro w43 hS44
                  simp only [List.cons_append, List.nil_append] at hS44
                  refine wl_val (r_assign (v := .int .i64 _) rfl) rfl ?_
                  refine wl_val (r_assign (v := .int .i64 0) rfl) rfl ?_
                  refine wl_nil ?_
                  refine c_then ?_
                  refine wp_ret ?_
                  refine ret3 Try.results37 ⟨_, rfl, run_loadVar_blk ti55 ag55 (hS44.heap (.tail _ (.tail _ (.head _)))) (by first | (simp [*]; done) | (simp [*] <;> omega) | omega)⟩ rfl rfl ?_
                  obtain rfl : k = M.toNat := by omega
                  exact .inr (.inr (.inr ⟨by omega, by omega, by omega, _, _, rfl, hk5, (hS44.perm (List.Perm.cons _ ((List.Perm.cons _ (List.Perm.refl _)).trans (List.perm_middle (l₁ := [_])).symm))).drop1.drop1⟩))
        · have hS15 := hS12.ext hx14
          refine wl_val (r_move (v := .tuple _) rfl) rfl ?_
          refine wl_val (r_extract (v := .int .i64 _) rfl rfl) rfl ?_
          refine wl_val (r_extract (v := .int .i64 _) rfl rfl) rfl ?_
          refine wl_val (r_assign (v := .int .i64 _) rfl) rfl ?_
          refine wl_val (r_assign (v := .int .i64 _) rfl) rfl ?_
          refine wl_nil ?_
          refine c_then ?_
          refine c_seq ?_
          refine c_seq ?_
          refine c_region ?_
          refine wl_val (r_move (v := .int .i64 _) rfl) rfl ?_
          refine wl_dec_f (r_neq rfl rfl) rfl (by decide) ?_
          refine wl_val (r_move (v := .bool _) rfl) rfl ?_
          refine wl_val (r_move (v := .int .i64 _) rfl) rfl ?_
          refine wl_dec_t (r_neq rfl rfl) rfl (by decide) ?_
          refine wl_val (r_pick_f rfl (v := .bool _) rfl) rfl ?_
          refine wl_nil ?_
          refine c_then ?_
          refine c_true rfl ?_
          refine c_seq ?_
          refine c_region ?_
          refine wl_val (r_buildZ pl55 ti55) rfl ?_
          refine wl_exs (x_storeW [] hS15 ti55 rfl rfl (by first | (simp [*]; done) | (simp [*] <;> omega) | omega) (by first | (simp [*]; done) | (simp [*] <;> omega) | omega) (by repeat' first | exact one_nil | exact one_b8 _ | exact one_v32 _ | exact one_all rfl | refine one_cons rfl ?_ | refine one_app ?_ ?_)) rfl ?_
          intro w45 hS46
          simp only [List.cons_append, List.nil_append] at hS46
          refine wl_val (r_assign (v := .int .i64 0) rfl) rfl ?_
          refine wl_val (r_assign (v := .int .i64 4) rfl) rfl ?_
          refine wl_nil ?_
          refine c_then ?_
          refine wp_ret ?_
          refine c_thenR ?_
          refine ret3 Try.results37 ⟨_, rfl, run_loadVar_blk ti55 ag55 (hS46.heap (.head _)) (by first | (simp [*]; done) | (simp [*] <;> omega) | omega)⟩ rfl rfl ?_
          first | exact .inl ⟨by omega, rfl, hS46.fin⟩ | exact .inr (.inl ⟨by omega, by first | omega | (rw [sgN_small (n := X1) (by omega), sgN_small (n := X2) (by omega)]; omega) | exact .inr (.inr (sgN_out (by omega) hX2)) | (rcases sgN_out (n := X1) (by omega) hX1 with h | h <;> omega) | (rcases sgN_out (n := X2) (by omega) hX2 with h | h <;> omega), rfl, hS46.fin⟩) | exact .inr (.inr (.inl ⟨by omega, by omega, by omega, rfl, hS46.fin⟩))
      · have hS12 := hS5.ext hx11
        refine wl_val (r_move (v := .tuple _) rfl) rfl ?_
        refine wl_val (r_extract (v := .int .i64 _) rfl rfl) rfl ?_
        refine wl_val (r_extract (v := .int .i64 _) rfl rfl) rfl ?_
        refine wl_val (r_assign (v := .int .i64 _) rfl) rfl ?_
        refine wl_val (r_assign (v := .int .i64 _) rfl) rfl ?_
        refine wl_nil ?_
        refine c_then ?_
        refine c_seq ?_
        refine c_region ?_
        refine wl_val (r_move (v := .slice _ _ _) rfl) rfl ?_
        refine wl_call (r_call fn120 rfl rfl) rfl (long_br l a n c 8 _ (hb.st hS12) hl hc hn (by omega) X2 hx2) ?_
        rintro _ w47 (⟨hqDST, rfl, hx48⟩ | ⟨hqDST, rfl, hx48⟩)
        · have hS49 := hS12.ext hx48
          refine wl_val (r_move (v := .tuple _) rfl) rfl ?_
          refine wl_val (r_extract (v := .int .i64 _) rfl rfl) rfl ?_
          refine wl_val (r_extract (v := .int .i64 _) rfl rfl) rfl ?_
          refine wl_val (r_assign (v := .int .i64 _) rfl) rfl ?_
          refine wl_val (r_assign (v := .int .i64 _) rfl) rfl ?_
          refine wl_nil ?_
          refine c_then ?_
          refine c_seq ?_
          refine c_seq ?_
          refine c_region ?_
          refine wl_val (r_move (v := .int .i64 _) rfl) rfl ?_
          refine wl_dec_t (r_neq rfl rfl) rfl (by decide) ?_
          refine wl_val (r_move (v := .bool _) rfl) rfl ?_
          refine wl_not rfl ?_
          refine wl_not rfl ?_
          refine wl_val (r_pick_t rfl (v := .bool true) rfl) rfl ?_
          refine wl_nil ?_
          refine c_then ?_
          refine c_true rfl ?_
          refine c_seq ?_
          refine c_region ?_
          refine wl_val (r_buildZ pl55 ti55) rfl ?_
          refine wl_exs (x_storeW [] hS49 ti55 rfl rfl (by first | (simp [*]; done) | (simp [*] <;> omega) | omega) (by first | (simp [*]; done) | (simp [*] <;> omega) | omega) (by repeat' first | exact one_nil | exact one_b8 _ | exact one_v32 _ | exact one_all rfl | refine one_cons rfl ?_ | refine one_app ?_ ?_)) rfl ?_
          intro w50 hS51
          simp only [List.cons_append, List.nil_append] at hS51
          refine wl_val (r_assign (v := .int .i64 0) rfl) rfl ?_
          refine wl_val (r_assign (v := .int .i64 4) rfl) rfl ?_
          refine wl_nil ?_
          refine c_then ?_
          refine wp_ret ?_
          refine c_thenR ?_
          refine ret3 Try.results37 ⟨_, rfl, run_loadVar_blk ti55 ag55 (hS51.heap (.head _)) (by first | (simp [*]; done) | (simp [*] <;> omega) | omega)⟩ rfl rfl ?_
          first | exact .inl ⟨by omega, rfl, hS51.fin⟩ | exact .inr (.inl ⟨by omega, by first | omega | (rw [sgN_small (n := X1) (by omega), sgN_small (n := X2) (by omega)]; omega) | exact .inr (.inr (sgN_out (by omega) hX2)) | (rcases sgN_out (n := X1) (by omega) hX1 with h | h <;> omega) | (rcases sgN_out (n := X2) (by omega) hX2 with h | h <;> omega), rfl, hS51.fin⟩) | exact .inr (.inr (.inl ⟨by omega, by omega, by omega, rfl, hS51.fin⟩))
        · have hS49 := hS12.ext hx48
          refine wl_val (r_move (v := .tuple _) rfl) rfl ?_
          refine wl_val (r_extract (v := .int .i64 _) rfl rfl) rfl ?_
          refine wl_val (r_extract (v := .int .i64 _) rfl rfl) rfl ?_
          refine wl_val (r_assign (v := .int .i64 _) rfl) rfl ?_
          refine wl_val (r_assign (v := .int .i64 _) rfl) rfl ?_
          refine wl_nil ?_
          refine c_then ?_
          refine c_seq ?_
          refine c_seq ?_
          refine c_region ?_
          refine wl_val (r_move (v := .int .i64 _) rfl) rfl ?_
          refine wl_dec_t (r_neq rfl rfl) rfl (by decide) ?_
          refine wl_val (r_move (v := .bool _) rfl) rfl ?_
          refine wl_not rfl ?_
          refine wl_not rfl ?_
          refine wl_val (r_pick_t rfl (v := .bool true) rfl) rfl ?_
          refine wl_nil ?_
          refine c_then ?_
          refine c_true rfl ?_
          refine c_seq ?_
          refine c_region ?_
          refine wl_val (r_buildZ pl55 ti55) rfl ?_
          refine wl_exs (x_storeW [] hS49 ti55 rfl rfl (by first | (simp [*]; done) | (simp [*] <;> omega) | omega) (by first | (simp [*]; done) | (simp [*] <;> omega) | omega) (by repeat' first | exact one_nil | exact one_b8 _ | exact one_v32 _ | exact one_all rfl | refine one_cons rfl ?_ | refine one_app ?_ ?_)) rfl ?_
          intro w52 hS53
          simp only [List.cons_append, List.nil_append] at hS53
          refine wl_val (r_assign (v := .int .i64 0) rfl) rfl ?_
          refine wl_val (r_assign (v := .int .i64 4) rfl) rfl ?_
          refine wl_nil ?_
          refine c_then ?_
          refine wp_ret ?_
          refine c_thenR ?_
          refine ret3 Try.results37 ⟨_, rfl, run_loadVar_blk ti55 ag55 (hS53.heap (.head _)) (by first | (simp [*]; done) | (simp [*] <;> omega) | omega)⟩ rfl rfl ?_
          first | exact .inl ⟨by omega, rfl, hS53.fin⟩ | exact .inr (.inl ⟨by omega, by first | omega | (rw [sgN_small (n := X1) (by omega), sgN_small (n := X2) (by omega)]; omega) | exact .inr (.inr (sgN_out (by omega) hX2)) | (rcases sgN_out (n := X1) (by omega) hX1 with h | h <;> omega) | (rcases sgN_out (n := X2) (by omega) hX2 with h | h <;> omega), rfl, hS53.fin⟩) | exact .inr (.inr (.inl ⟨by omega, by omega, by omega, rfl, hS53.fin⟩))

theorem sgN_in {n : Nat} (h0 : 0 ≤ sgN n) (h1 : sgN n ≤ 65536) (h2 : n < 18446744073709551616) : n ≤ 65536 ∧ sgN n = n := by
  rcases Nat.lt_or_ge 65536 n with h | h
  · rcases sgN_out h h2 with h3 | h3 <;> omega
  · exact ⟨h, sgN_small (by omega)⟩
theorem rnumber_x (l : List UInt8) (a : Option Addr) (n c : Nat) (w : World) (hb : Row w a (l.map b8)) (hl : l.length = n) (hn : n ≤ 140737488355328) (X : Nat) (hX : natN l = X) :
    Ret Try.prog 121 [.slice a n c] w (fun v w' => v = .int .i64 (sgN X) ∧ St w [] w' []) := hX ▸ rnumber_ok l a n c w hb hl hn
theorem rnumber_m (l : List UInt8) (a : Option Addr) (c : Nat) (w : World) (hb : Row w a (l.map b8)) (hl : l.length = 4) (M : UInt32) (hM : word4 l = M) :
    Ret Try.prog 121 [.slice a 4 c] w (fun v w' => v = vi M.toNat ∧ St w [] w' []) := by
  refine (rnumber_ok l a 4 c w hb hl (by decide)).mono fun v w' h => ?_
  have hML := M.toNat_lt
  rw [natN_4 hl, hM, sgN_small (by omega)] at h
  exact h
theorem rprint_n (ix sz : Int) (pa : Option Addr) (pn pc : Nat) (pl : List (List UInt8)) (w : World) (hp : Row w pa (pl.flatten.map b8)) (h32 : S32 pl) (hpl : pl.length = pn) (hpc : pn ≤ pc) (hpm : pn ≤ 4398046511104) (hi1 : -9223372036854775808 ≤ ix) (hi2 : ix ≤ 9223372036854775807) (hs1 : -9223372036854775808 ≤ sz) (hs2 : sz ≤ 9223372036854775807) :
    Ret Try.prog 35 [.agg #[.int .i64 ix, .int .i64 sz, .slice pa pn pc]] w (fun v w' => ((ix < 0 ∨ 65536 < ix ∨ sz < 0 ∨ 65536 < sz) ∧ v = .tuple #[.slice none 0 0, vi 4] ∧ St w [] w' []) ∨ ((0 ≤ ix ∧ ix ≤ 65536 ∧ 0 ≤ sz ∧ sz ≤ 65536 ∧ 64 < pn) ∧ v = .tuple #[.slice none 0 0, vi 5] ∧ St w [] w' []) ∨ ((0 ≤ ix ∧ ix ≤ 65536 ∧ 0 ≤ sz ∧ sz ≤ 65536 ∧ pn ≤ 64) ∧ ∃ a' c', v = .tuple #[.slice a' (20 + 32 * pn) c', vi 0] ∧ (20 + 32 * pn) ≤ c' ∧ St w [] w' [.row (.slice a' (20 + 32 * pn) c') 5 1 (20 + 32 * pn) ((printL ix sz pl).map b8)])) := by
  subst hpl
  exact rprintProof_ok ix sz pa pc pl w hp h32 hpc

theorem rparse_ok (l : List UInt8) (a : Option Addr) (n c : Nat) (X1 X2 : Nat) (M : UInt32) (w : World) (hb : Row w a (l.map b8)) (hl : l.length = n) (hc : n ≤ c) (hn : n ≤ 140737488351232) (hx1 : natN ((l.drop 0).take 8) = X1) (hx2 : natN ((l.drop 8).take 8) = X2) (hM : word4 ((l.drop 16).take 4) = M) (hX1 : X1 < 18446744073709551616) (hX2 : X2 < 18446744073709551616) :
    Ret Try.prog 39 [.slice a n c] w (fun v w' => (n < 20 + 32 * M.toNat ∧ v = .tuple #[.agg #[.int .i64 0, .int .i64 0, .slice none 0 0], vi 0, vi 1] ∧ St w [] w' []) ∨ (20 + 32 * M.toNat ≤ n ∧ (sgN X1 < 0 ∨ 65536 < sgN X1 ∨ sgN X2 < 0 ∨ 65536 < sgN X2) ∧ v = .tuple #[.agg #[.int .i64 0, .int .i64 0, .slice none 0 0], vi 0, vi 4] ∧ St w [] w' []) ∨ (20 + 32 * M.toNat ≤ n ∧ (X1 ≤ 65536 ∧ X2 ≤ 65536) ∧ 64 < M.toNat ∧ v = .tuple #[.agg #[.int .i64 0, .int .i64 0, .slice none 0 0], vi 0, vi 5] ∧ St w [] w' []) ∨ (20 + 32 * M.toNat ≤ n ∧ (X1 ≤ 65536 ∧ X2 ≤ 65536) ∧ M.toNat ≤ 64 ∧ ∃ a' c', v = .tuple #[.agg #[vi X1, vi X2, .slice a' M.toNat c'], vi (20 + 32 * M.toNat), vi 0] ∧ M.toNat ≤ c' ∧ St w [] w' [.row (.slice a' M.toNat c') 49 32 M.toNat ((chunksL l M.toNat).flatten.map b8)])) := by
  refine enter Try.func39 rfl Try.ntmps39 rfl ?_
  have hS := St.refl w []
  refine c_seq ?_
  refine c_region ?_
  refine wl_exv (x_alloc (C := [.int .i64 0, .int .i64 0, .slice none 0 0]) hS ti55 rfl) rfl ?_
  rintro _ w1 ⟨b2, rfl, hS2⟩
  refine wl_val (r_assign (v := .int .i64 0) rfl) rfl ?_
  refine wl_val (r_assign (v := .int .i64 0) rfl) rfl ?_
  refine wl_nil ?_
  refine c_then ?_
  refine c_seq ?_
  refine c_seq ?_
  refine c_region ?_
  refine wl_val (r_move (v := .slice _ _ _) rfl) rfl ?_
  refine wl_val (r_len (T := 22) rfl ti22.und rfl _ rfl) rfl ?_
  refine wl_dec (r_lss rfl rfl) rfl (fun h1_2 => ?_) (fun h1_2 => ?_)
  · refine wl_nil ?_
    refine c_then ?_
    refine c_true rfl ?_
    refine c_seq ?_
    refine c_region ?_
    refine wl_val (r_buildZ pl55 ti55) rfl ?_
    refine wl_exs (x_storeW [] hS2 ti55 rfl rfl (by first | (simp [*]; done) | (simp [*] <;> omega) | omega) (by first | (simp [*]; done) | (simp [*] <;> omega) | omega) (by repeat' first | exact one_nil | exact one_b8 _ | exact one_v32 _ | exact one_all rfl | refine one_cons rfl ?_ | refine one_app ?_ ?_)) rfl ?_
    intro w3 hS4
    simp only [List.cons_append, List.nil_append] at hS4
    refine wl_val (r_assign (v := .int .i64 0) rfl) rfl ?_
    refine wl_val (r_assign (v := .int .i64 1) rfl) rfl ?_
    refine wl_nil ?_
    refine c_then ?_
    refine wp_ret ?_
    refine c_thenR ?_
    refine ret3 Try.results39 ⟨_, rfl, run_loadVar_blk ti55 ag55 (hS4.heap (.head _)) (by first | (simp [*]; done) | (simp [*] <;> omega) | omega)⟩ rfl rfl ?_
    first | exact .inl ⟨by omega, rfl, hS4.fin⟩ | exact .inr (.inl ⟨by omega, hf, rfl, hS4.fin⟩) | exact .inr (.inr (.inl ⟨by omega, ⟨(sgN_in hf.1 hf.2.1 hX1).1, (sgN_in hf.2.2.1 hf.2.2.2.1 hX2).1⟩, hf.2.2.2.2, rfl, hS4.fin⟩))
  · refine wl_nil ?_
    refine c_then ?_
    refine c_false rfl ?_
    refine wp_skip ?_
    refine c_then ?_
    refine c_seq ?_
    refine c_drawS 8 hMixed hS2 ?_
    intro w5 hS6
    refine g_take 0 rfl (by decide +kernel) rfl (fun _ _ _ h => h) hS6 (fun wF hF => r_move (v := .slice _ _ _) rfl) ?_
    refine g_take 1 rfl (by decide +kernel) rfl (fun _ _ _ h => h) hS6 (fun wF hF => r_sl_h (h := 8) ti22.und ti5 rfl rfl (by omega)) ?_
    refine g_take 3 rfl (by decide +kernel) rfl (fun _ _ _ h => h) hS6 (fun wF hF => r_move (v := .slice _ _ _) rfl) ?_
    refine g_take 4 rfl (by decide +kernel) rfl (fun _ _ _ h => h) hS6 (fun wF hF => r_sl_lh (l := 8) (h := 16) ti22.und ti5 rfl rfl rfl (by omega) (by omega)) ?_
    refine g_all (rs := [2, 7]) (by decide +kernel) (by decide +kernel) rfl ?_
    simp only [List.forall_mem_cons, List.not_mem_nil, false_imp_iff, implies_true, and_true]
    refine ⟨?_, ?_⟩
    · refine o_call rfl (r_call fn121 rfl rfl) rfl (rnumber_x ((l.drop 0).take 8) _ 8 _ _ (by rw [List.drop_zero, List.map_take]; exact (hb.st hS6).take) (by rw [List.drop_zero, List.length_take]; omega) (by decide) X1 hx1) ?_
      rintro _ w7 ⟨rfl, hx8⟩
      have hS9 := hS6.ext hx8
      refine ⟨hS9, ?_⟩
      refine g_all (rs := [5, 7]) (by decide +kernel) (by decide +kernel) rfl ?_
      simp only [List.forall_mem_cons, List.not_mem_nil, false_imp_iff, implies_true, and_true]
      refine ⟨?_, ?_⟩
      · refine o_call rfl (r_call fn121 rfl rfl) rfl (rnumber_x ((l.drop 8).take 8) _ _ _ _ ((hb.st hS9).mid (by omega) _ _) (by rw [List.length_take, List.length_drop]; omega) (by decide) X2 hx2) ?_
        rintro _ w10 ⟨rfl, hx11⟩
        have hS12 := hS9.ext hx11
        refine ⟨hS12, ?_⟩
        refine g_take 6 rfl (by decide +kernel) rfl (fun _ _ _ h => h) hS12 (fun wF hF => r_buildP (ps := [(0, .int .i64 _), (1, .int .i64 _)]) (out := [.int .i64 _, .int .i64 _, .slice none 0 0]) pl55 ti55 rfl rfl) ?_
        refine g_one 7 (by decide +kernel) (by decide +kernel) ?_
        refine o_exv rfl (x_alloc (C := [.int .i64 0, .int .i64 0, .slice none 0 0]) hS12 ti55 rfl) rfl ?_
        rintro _ w13 ⟨b5, rfl, hS14⟩
        refine ⟨hS14.drop1, ?_⟩
        refine g_tail (by decide +kernel) rfl (by decide +kernel) ?_
        refine wl_exs (x_storeW [] hS14 ti55 rfl rfl (by first | (simp [*]; done) | (simp [*] <;> omega) | omega) (by first | (simp [*]; done) | (simp [*] <;> omega) | omega) (by repeat' first | exact one_nil | exact one_b8 _ | exact one_v32 _ | exact one_all rfl | refine one_cons rfl ?_ | refine one_app ?_ ?_)) rfl ?_
        intro w15 hS16
        simp only [List.cons_append, List.nil_append] at hS16
        refine wl_nil ?_
        refine c_then ?_
        refine c_seq ?_
        have hML := M.toNat_lt
        refine c_region ?_
        refine wl_val (r_move (v := .slice _ _ _) rfl) rfl ?_
        refine wl_val (r_sl_lh (l := 16) (h := 20) ti22.und ti5 rfl rfl rfl (by omega) (by omega)) rfl ?_
        refine wl_call (r_call fn121 rfl rfl) rfl (rnumber_m ((l.drop 16).take 4) _ _ _ ((hb.st hS16).mid (by omega) _ _) (by rw [List.length_take, List.length_drop]; omega) M hM) ?_
        rintro _ w17 ⟨rfl, hx18⟩
        have hS19 := hS16.ext hx18
        refine wl_val (r_assign (v := .int .i64 _) rfl) rfl ?_
        refine wl_nil ?_
        refine c_then ?_
        refine c_seq ?_
        refine c_seq ?_
        refine c_region ?_
        refine wl_val (r_move (v := .slice _ _ _) rfl) rfl ?_
        refine wl_val (r_len (T := 22) rfl ti22.und rfl _ rfl) rfl ?_
        refine wl_val (r_move (v := .int .i64 _) rfl) rfl ?_
        refine wl_val (r_muln (a := 32) rfl rfl (by omega)) rfl ?_
        refine wl_val (r_addn (a := 20) rfl rfl (by omega)) rfl ?_
        refine wl_dec (r_lss rfl rfl) rfl (fun h5_5 => ?_) (fun h5_5 => ?_)
        · refine wl_nil ?_
          refine c_then ?_
          refine c_true rfl ?_
          refine c_seq ?_
          refine c_region ?_
          refine wl_val (r_buildZ pl55 ti55) rfl ?_
          refine wl_exs (x_storeW [_] hS19 ti55 rfl rfl (by first | (simp [*]; done) | (simp [*] <;> omega) | omega) (by first | (simp [*]; done) | (simp [*] <;> omega) | omega) (by repeat' first | exact one_nil | exact one_b8 _ | exact one_v32 _ | exact one_all rfl | refine one_cons rfl ?_ | refine one_app ?_ ?_)) rfl ?_
          intro w20 hS21
          simp only [List.cons_append, List.nil_append] at hS21
          refine wl_val (r_assign (v := .int .i64 0) rfl) rfl ?_
          refine wl_val (r_assign (v := .int .i64 1) rfl) rfl ?_
          refine wl_nil ?_
          refine c_then ?_
          refine wp_ret ?_
          refine c_thenR ?_
          refine ret3 Try.results39 ⟨_, rfl, run_loadVar_blk ti55 ag55 (hS21.heap (.tail _ (.head _))) (by first | (simp [*]; done) | (simp [*] <;> omega) | omega)⟩ rfl rfl ?_
          first | exact .inl ⟨by omega, rfl, hS21.fin⟩ | exact .inr (.inl ⟨by omega, hf, rfl, hS21.fin⟩) | exact .inr (.inr (.inl ⟨by omega, ⟨(sgN_in hf.1 hf.2.1 hX1).1, (sgN_in hf.2.2.1 hf.2.2.2.1 hX2).1⟩, hf.2.2.2.2, rfl, hS21.fin⟩))
        · refine wl_nil ?_
          refine c_then ?_
          refine c_false rfl ?_
          refine wp_skip ?_
          refine c_then ?_
          refine c_seq ?_
          refine c_seq ?_
          refine c_region ?_
          refine wl_val (r_move (v := .int .i64 _) rfl) rfl ?_
          refine wl_val (r_move (v := .int .i64 0) rfl) rfl ?_
          refine wl_nil ?_
          refine c_then ?_
          refine c_block ?_
          obtain ⟨LT22, hLT22, hS23⟩ := St.frame [_] [_] hS19
          simp only [List.cons_append, List.nil_append] at hS23
          have hm22_b2 := inL hLT22 (.head _)
          refine c_loopE [0, 2, 3, 4, 5, 6, 31] (fun d e w' => ∃ (k : Nat) (a5 : Option Addr) (c5 : Nat), Kw.look e 32 = vi k ∧ d = 0 + (M.toNat - k) ∧ St w [] w' (.blk b5 (cl [.int .i64 (sgN X1), .int .i64 (sgN X2), .slice a5 k c5] 55) :: .row (.slice a5 k c5) 49 32 k ((chunksL l k).flatten.map b8) :: LT22) ∧ (k ≤ M.toNat) ∧ (k ≤ c5)) (0 + (M.toNat - 0)) ?_ ?_
          have hS28 := St.nilRow (E := 49) (sz := 32) hS23
          · exact ⟨0, none, 0, rfl, rfl, (hS28.perm ((List.Perm.cons _ (List.Perm.refl _)).trans (List.perm_middle (l₁ := [_])).symm)), Nat.zero_le _, Nat.le_refl _⟩
          · rintro d27 e24 w25 ⟨k, a5, c5, hc0_32, rfl, hS26, hk, hk5⟩ -
            refine c_set (d := 32) hc0_32 ?_
            refine c_seq ?_
            refine c_region ?_
            refine wl_dec (r_lss rfl rfl) rfl (fun h8_0 => ?_) (fun h8_0 => ?_)
            · refine wl_nil ?_
              refine c_then ?_
              refine c_seq ?_
              refine c_true rfl ?_
              refine wp_skip ?_
              refine c_then ?_
              refine c_seq ?_
              refine c_block ?_
              refine c_seq ?_
              refine c_region ?_
              refine wl_val (r_move (v := .int .i64 _) rfl) rfl ?_
              refine wl_val (r_assign (v := .int .i64 _) rfl) rfl ?_
              refine wl_nil ?_
              refine c_then ?_
              refine c_drawS 13 hMixed hS26 ?_
              intro w29 hS30
              refine g_take 0 rfl (by decide +kernel) rfl (fun _ _ _ h => h) hS30 (fun wF hF => r_field fa55_2 rfl) ?_
              refine g_take 1 rfl (by decide +kernel) rfl (fun _ _ _ h => h) hS30 (fun wF hF => r_loadB1 ti53.und rfl rfl (hF.heap (.head _)) rfl) ?_
              refine g_take 2 rfl (by decide +kernel) rfl (fun _ _ _ h => h) hS30 (fun wF hF => r_move (v := .slice _ _ _) rfl) ?_
              refine g_take 3 rfl (by decide +kernel) rfl (fun _ _ _ h => h) hS30 (fun wF hF => r_move (v := .int .i64 _) rfl) ?_
              refine g_take 4 rfl (by decide +kernel) rfl (fun _ _ _ h => h) hS30 (fun wF hF => r_muln (a := 32) rfl rfl (by omega)) ?_
              refine g_take 5 rfl (by decide +kernel) rfl (fun _ _ _ h => h) hS30 (fun wF hF => r_addn (a := 20) rfl rfl (by omega)) ?_
              refine g_take 6 rfl (by decide +kernel) rfl (fun _ _ _ h => h) hS30 (fun wF hF => r_move (v := .int .i64 _) rfl) ?_
              refine g_take 7 rfl (by decide +kernel) rfl (fun _ _ _ h => h) hS30 (fun wF hF => r_muln (a := 32) rfl rfl (by omega)) ?_
              refine g_take 8 rfl (by decide +kernel) rfl (fun _ _ _ h => h) hS30 (fun wF hF => r_addn (a := 52) rfl rfl (by omega)) ?_
              refine g_take 9 rfl (by decide +kernel) rfl (fun _ _ _ h => h) hS30 (fun wF hF => r_sl_lh ti22.und ti5 rfl rfl rfl (by omega) (by omega)) ?_
              have hrs : Row w (Kw.sub a c (20 + 32 * k) 1) (((l.drop (20 + 32 * k)).take 32).map b8) := hb.mid (by omega) _ _
              refine g_take 10 rfl (by decide +kernel) rfl (fun _ _ _ h => h) hS30 (fun wF hF => r_s2a ti49.und rfl (by omega)) ?_
              refine g_take 11 rfl (by decide +kernel) rfl (fun _ _ _ h => h) hS30 (fun wF hF => r_loadPA ti49 rfl rfl (hrs.st hF) (by omega) (by first | (simp [*]; done) | (simp [*] <;> omega) | omega)) ?_
              refine g_one 12 (by decide +kernel) (by decide +kernel) ?_
              refine o_exv rfl (x_litA1 hS30 ti53.und ti49 rfl (by rw [List.length_take, List.length_map, List.length_take, List.length_drop]; omega) rfl (by decide) (by decide)) rfl ?_
              rintro _ w31 ⟨b47, rfl, hS32⟩
              refine ⟨hS32.drop1, ?_⟩
              refine g_tail (by decide +kernel) rfl (by decide +kernel) ?_
              refine wl_exv (x_append [_, _] hS32 ti53.und ti49 rfl (by decide) rfl rfl (Row.of_at (at_all (hS32.heap (.head _)))) (by rw [List.length_take, List.length_map, List.length_take, List.length_drop]; omega) (one_take (one_b8 _)) (by omega) (by omega) _ rfl) rfl ?_
              rintro _ w33 ⟨aq35, cq35, rfl, hcq35, hS34⟩
              simp only [List.cons_append, List.nil_append] at hS34
              refine wl_val (r_field fa55_2 rfl) rfl ?_
              refine wl_exs (x_store1 [_] hS34 ti53 rfl rfl rfl (by simp)) rfl ?_
              intro w36 hS37
              simp only [List.cons_append, List.nil_append] at hS37
              refine wl_nil ?_
              refine c_inN ?_
              refine c_then ?_
              refine c_region ?_
              refine wl_val (r_addn (b := 1) rfl rfl (by omega)) rfl ?_
              refine wl_val (r_move (v := .int .i64 _) rfl) rfl ?_
              refine wl_nil ?_
              refine c_then ?_
              have ec : (chunksL l k).flatten.map b8 ++ ((l.drop (20 + 32 * k)).take 32).map b8 = (chunksL l (k + 1)).flatten.map b8 := by rw [chunks_step, List.map_append]
              have et : (((l.drop (20 + 32 * k)).take 32).map b8).take 32 = ((l.drop (20 + 32 * k)).take 32).map b8 := List.take_of_length_le (by rw [List.length_map, List.length_take]; omega)
              rw [et, ec] at hS37
              exact ⟨0 + (M.toNat - (k + 1)), _, by omega, rfl, ⟨k + 1, _, _, rfl, rfl, hS37.drop1, by omega, hcq35⟩, ⟨rfl, rfl, rfl, rfl, rfl, rfl, rfl, trivial⟩⟩
            · refine wl_nil ?_
              refine c_then ?_
              refine c_seq ?_
              refine c_false rfl ?_
              refine wp_exit ?_
              refine c_thenE ?_
              refine c_thenE ?_
              refine c_inE ?_
              refine c_then ?_
              refine c_seq ?_
              refine c_seq ?_
              obtain rfl : k = M.toNat := by omega
              refine c_region ?_
              refine wl_val (r_loadB ti55 ag55 rfl (hS26.heap (.head _)) (by first | (simp [*]; done) | (simp [*] <;> omega) | omega)) rfl ?_
              refine wl_call (r_call fn35 rfl rfl) rfl (rprint_n (sgN X1) (sgN X2) a5 M.toNat c5 (chunksL l M.toNat) _ (St.rowAt hS26 (.tail _ (.head _))) (chunks_32 (by omega)) (chunks_len _ _) hk5 (by omega) (sgN_lo _).1 (sgN_lo _).2 (sgN_lo _).1 (sgN_lo _).2) ?_
              rintro _ w38 (⟨hf, rfl, hx39⟩ | ⟨hf, rfl, hx39⟩ | ⟨hf, aDST, cDST, rfl, hcDST, hx39⟩)
              · have hS40 := hS26.ext hx39
                refine wl_val (r_move (v := .tuple _) rfl) rfl ?_
                refine wl_val (r_extract (v := .slice _ _ _) rfl rfl) rfl ?_
                refine wl_val (r_extract (v := .int .i64 _) rfl rfl) rfl ?_
                refine wl_val (r_assign (v := .slice _ _ _) rfl) rfl ?_
                refine wl_val (r_assign (v := .int .i64 _) rfl) rfl ?_
                refine wl_nil ?_
                refine c_then ?_
                refine c_seq ?_
                refine c_region ?_
                refine wl_val (r_move (v := .int .i64 _) rfl) rfl ?_
                refine wl_dec_t (r_neq rfl rfl) rfl (by decide) ?_
                refine wl_nil ?_
                refine c_then ?_
                refine c_true rfl ?_
                refine c_seq ?_
                refine c_region ?_
                refine wl_val (r_buildZ pl55 ti55) rfl ?_
                refine wl_val (r_move (v := .int .i64 _) rfl) rfl ?_
                subst hLT22
                refine wl_exs (x_storeW [_, _] hS40 ti55 rfl rfl (by first | (simp [*]; done) | (simp [*] <;> omega) | omega) (by first | (simp [*]; done) | (simp [*] <;> omega) | omega) (by repeat' first | exact one_nil | exact one_b8 _ | exact one_v32 _ | exact one_all rfl | refine one_cons rfl ?_ | refine one_app ?_ ?_)) rfl ?_
                intro w41 hS42
                simp only [List.cons_append, List.nil_append] at hS42
                refine wl_val (r_assign (v := .int .i64 0) rfl) rfl ?_
                refine wl_val (r_assign (v := .int .i64 _) rfl) rfl ?_
                refine wl_nil ?_
                refine c_then ?_
                refine wp_ret ?_
                refine c_thenR ?_
                refine ret3 Try.results39 ⟨_, rfl, run_loadVar_blk ti55 ag55 (hS42.heap (.tail _ (.tail _ (.head _)))) (by first | (simp [*]; done) | (simp [*] <;> omega) | omega)⟩ rfl rfl ?_
                first | exact .inl ⟨by omega, rfl, hS42.fin⟩ | exact .inr (.inl ⟨by omega, hf, rfl, hS42.fin⟩) | exact .inr (.inr (.inl ⟨by omega, ⟨(sgN_in hf.1 hf.2.1 hX1).1, (sgN_in hf.2.2.1 hf.2.2.2.1 hX2).1⟩, hf.2.2.2.2, rfl, hS42.fin⟩))
              · have hS40 := hS26.ext hx39
                refine wl_val (r_move (v := .tuple _) rfl) rfl ?_
                refine wl_val (r_extract (v := .slice _ _ _) rfl rfl) rfl ?_
                refine wl_val (r_extract (v := .int .i64 _) rfl rfl) rfl ?_
                refine wl_val (r_assign (v := .slice _ _ _) rfl) rfl ?_
                refine wl_val (r_assign (v := .int .i64 _) rfl) rfl ?_
                refine wl_nil ?_
                refine c_then ?_
                refine c_seq ?_
                refine c_region ?_
                refine wl_val (r_move (v := .int .i64 _) rfl) rfl ?_
                refine wl_dec_t (r_neq rfl rfl) rfl (by decide) ?_
                refine wl_nil ?_
                refine c_then ?_
                refine c_true rfl ?_
                refine c_seq ?_
                refine c_region ?_
                refine wl_val (r_buildZ pl55 ti55) rfl ?_
                refine wl_val (r_move (v := .int .i64 _) rfl) rfl ?_
                subst hLT22
                refine wl_exs (x_storeW [_, _] hS40 ti55 rfl rfl (by first | (simp [*]; done) | (simp [*] <;> omega) | omega) (by first | (simp [*]; done) | (simp [*] <;> omega) | omega) (by repeat' first | exact one_nil | exact one_b8 _ | exact one_v32 _ | exact one_all rfl | refine one_cons rfl ?_ | refine one_app ?_ ?_)) rfl ?_
                intro w43 hS44
                simp only [List.cons_append, List.nil_append] at hS44
                refine wl_val (r_assign (v := .int .i64 0) rfl) rfl ?_
                refine wl_val (r_assign (v := .int .i64 _) rfl) rfl ?_
                refine wl_nil ?_
                refine c_then ?_
                refine wp_ret ?_
                refine c_thenR ?_
                refine ret3 Try.results39 ⟨_, rfl, run_loadVar_blk ti55 ag55 (hS44.heap (.tail _ (.tail _ (.head _)))) (by first | (simp [*]; done) | (simp [*] <;> omega) | omega)⟩ rfl rfl ?_
                first | exact .inl ⟨by omega, rfl, hS44.fin⟩ | exact .inr (.inl ⟨by omega, hf, rfl, hS44.fin⟩) | exact .inr (.inr (.inl ⟨by omega, ⟨(sgN_in hf.1 hf.2.1 hX1).1, (sgN_in hf.2.2.1 hf.2.2.2.1 hX2).1⟩, hf.2.2.2.2, rfl, hS44.fin⟩))
              · have hS40 := hS26.call hx39
                simp only [List.cons_append, List.nil_append] at hS40
                refine wl_val (r_move (v := .tuple _) rfl) rfl ?_
                refine wl_val (r_extract (v := .slice _ _ _) rfl rfl) rfl ?_
                refine wl_val (r_extract (v := .int .i64 _) rfl rfl) rfl ?_
                refine wl_val (r_assign (v := .slice _ _ _) rfl) rfl ?_
                refine wl_val (r_assign (v := .int .i64 _) rfl) rfl ?_
                refine wl_nil ?_
                refine c_then ?_
                refine c_seq ?_
                refine c_region ?_
                refine wl_val (r_move (v := .int .i64 _) rfl) rfl ?_
                refine wl_dec_f (r_neq rfl rfl) rfl (by decide) ?_
                refine wl_nil ?_
                refine c_then ?_
                refine c_false rfl ?_
                refine wp_skip ?_
                refine c_then ?_
                refine c_seq ?_
                refine c_region ?_
                refine wl_val (r_loadB ti55 ag55 rfl (hS40.heap (.tail _ (.head _))) (by first | (simp [*]; done) | (simp [*] <;> omega) | omega)) rfl ?_
                refine wl_val (r_move (v := .int .i64 _) rfl) rfl ?_
                refine wl_val (r_muln (a := 32) rfl rfl (by omega)) rfl ?_
                refine wl_val (r_addn (a := 20) rfl rfl (by omega)) rfl ?_
                subst hLT22
                refine wl_exs (x_storeW [_, _, _] hS40 ti55 rfl rfl (by first | (simp [*]; done) | (simp [*] <;> omega) | omega) (by first | (simp [*]; done) | (simp [*] <;> omega) | omega) (by repeat' first | exact one_nil | exact one_b8 _ | exact one_v32 _ | exact one_all rfl | refine one_cons rfl ?_ | refine one_app ?_ ?_)) rfl ?_
                intro w45 hS46
                simp only [List.cons_append, List.nil_append] at hS46
                refine wl_val (r_assign (v := .int .i64 _) rfl) rfl ?_
                refine wl_val (r_assign (v := .int .i64 0) rfl) rfl ?_
                refine wl_nil ?_
                refine c_then ?_
                refine wp_ret ?_
                refine ret3 Try.results39 ⟨_, rfl, run_loadVar_blk ti55 ag55 (hS46.heap (.tail _ (.tail _ (.tail _ (.head _))))) (by first | (simp [*]; done) | (simp [*] <;> omega) | omega)⟩ rfl rfl ?_
                have e1 := sgN_in hf.1 hf.2.1 hX1
                have e2 := sgN_in hf.2.2.1 hf.2.2.2.1 hX2
                rw [e1.2, e2.2]
                exact .inr (.inr (.inr ⟨by omega, ⟨e1.1, e2.1⟩, hf.2.2.2.2, _, _, rfl, hk5, (hS46.perm (List.Perm.cons _ (List.Perm.cons _ ((List.Perm.cons _ (List.Perm.refl _)).trans (List.perm_middle (l₁ := [_])).symm)))).drop1.drop1.drop1⟩))
      · refine o_exv rfl (x_alloc (C := [.int .i64 0, .int .i64 0, .slice none 0 0]) hS9 ti55 rfl) rfl ?_
        rintro _ w47 ⟨b5, rfl, hS48⟩
        refine ⟨hS48.drop1, ?_⟩
        refine g_one 5 (by decide +kernel) (by decide +kernel) ?_
        refine o_call rfl (r_call fn121 rfl rfl) rfl (rnumber_x ((l.drop 8).take 8) _ _ _ _ ((hb.st hS48).mid (by omega) _ _) (by rw [List.length_take, List.length_drop]; omega) (by decide) X2 hx2) ?_
        rintro _ w49 ⟨rfl, hx50⟩
        have hS51 := hS48.ext hx50
        refine ⟨hS51.drop1, ?_⟩
        refine g_take 6 rfl (by decide +kernel) rfl (fun _ _ _ h => h) hS51.drop1 (fun wF hF => r_buildP (ps := [(0, .int .i64 _), (1, .int .i64 _)]) (out := [.int .i64 _, .int .i64 _, .slice none 0 0]) pl55 ti55 rfl rfl) ?_
        refine g_tail (by decide +kernel) rfl (by decide +kernel) ?_
        refine wl_exs (x_storeW [] hS51 ti55 rfl rfl (by first | (simp [*]; done) | (simp [*] <;> omega) | omega) (by first | (simp [*]; done) | (simp [*] <;> omega) | omega) (by repeat' first | exact one_nil | exact one_b8 _ | exact one_v32 _ | exact one_all rfl | refine one_cons rfl ?_ | refine one_app ?_ ?_)) rfl ?_
        intro w52 hS53
        simp only [List.cons_append, List.nil_append] at hS53
        refine wl_nil ?_
        refine c_then ?_
        refine c_seq ?_
        have hML := M.toNat_lt
        refine c_region ?_
        refine wl_val (r_move (v := .slice _ _ _) rfl) rfl ?_
        refine wl_val (r_sl_lh (l := 16) (h := 20) ti22.und ti5 rfl rfl rfl (by omega) (by omega)) rfl ?_
        refine wl_call (r_call fn121 rfl rfl) rfl (rnumber_m ((l.drop 16).take 4) _ _ _ ((hb.st hS53).mid (by omega) _ _) (by rw [List.length_take, List.length_drop]; omega) M hM) ?_
        rintro _ w54 ⟨rfl, hx55⟩
        have hS56 := hS53.ext hx55
        refine wl_val (r_assign (v := .int .i64 _) rfl) rfl ?_
        refine wl_nil ?_
        refine c_then ?_
        refine c_seq ?_
        refine c_seq ?_
        refine c_region ?_
        refine wl_val (r_move (v := .slice _ _ _) rfl) rfl ?_
        refine wl_val (r_len (T := 22) rfl ti22.und rfl _ rfl) rfl ?_
        refine wl_val (r_move (v := .int .i64 _) rfl) rfl ?_
        refine wl_val (r_muln (a := 32) rfl rfl (by omega)) rfl ?_
        refine wl_val (r_addn (a := 20) rfl rfl (by omega)) rfl ?_
        refine wl_dec (r_lss rfl rfl) rfl (fun h5_5 => ?_) (fun h5_5 => ?_)
        · refine wl_nil ?_
          refine c_then ?_
          refine c_true rfl ?_
          refine c_seq ?_
          refine c_region ?_
          refine wl_val (r_buildZ pl55 ti55) rfl ?_
          refine wl_exs (x_storeW [_] hS56 ti55 rfl rfl (by first | (simp [*]; done) | (simp [*] <;> omega) | omega) (by first | (simp [*]; done) | (simp [*] <;> omega) | omega) (by repeat' first | exact one_nil | exact one_b8 _ | exact one_v32 _ | exact one_all rfl | refine one_cons rfl ?_ | refine one_app ?_ ?_)) rfl ?_
          intro w57 hS58
          simp only [List.cons_append, List.nil_append] at hS58
          refine wl_val (r_assign (v := .int .i64 0) rfl) rfl ?_
          refine wl_val (r_assign (v := .int .i64 1) rfl) rfl ?_
          refine wl_nil ?_
          refine c_then ?_
          refine wp_ret ?_
          refine c_thenR ?_
          refine ret3 Try.results39 ⟨_, rfl, run_loadVar_blk ti55 ag55 (hS58.heap (.tail _ (.head _))) (by first | (simp [*]; done) | (simp [*] <;> omega) | omega)⟩ rfl rfl ?_
          first | exact .inl ⟨by omega, rfl, hS58.fin⟩ | exact .inr (.inl ⟨by omega, hf, rfl, hS58.fin⟩) | exact .inr (.inr (.inl ⟨by omega, ⟨(sgN_in hf.1 hf.2.1 hX1).1, (sgN_in hf.2.2.1 hf.2.2.2.1 hX2).1⟩, hf.2.2.2.2, rfl, hS58.fin⟩))
        · refine wl_nil ?_
          refine c_then ?_
          refine c_false rfl ?_
          refine wp_skip ?_
          refine c_then ?_
          refine c_seq ?_
          refine c_seq ?_
          refine c_region ?_
          refine wl_val (r_move (v := .int .i64 _) rfl) rfl ?_
          refine wl_val (r_move (v := .int .i64 0) rfl) rfl ?_
          refine wl_nil ?_
          refine c_then ?_
          refine c_block ?_
          obtain ⟨LT59, hLT59, hS60⟩ := St.frame [_] [_] hS56
          simp only [List.cons_append, List.nil_append] at hS60
          have hm59_b2 := inL hLT59 (.head _)
          refine c_loopE [0, 2, 3, 4, 5, 6, 31] (fun d e w' => ∃ (k : Nat) (a5 : Option Addr) (c5 : Nat), Kw.look e 32 = vi k ∧ d = 0 + (M.toNat - k) ∧ St w [] w' (.blk b5 (cl [.int .i64 (sgN X1), .int .i64 (sgN X2), .slice a5 k c5] 55) :: .row (.slice a5 k c5) 49 32 k ((chunksL l k).flatten.map b8) :: LT59) ∧ (k ≤ M.toNat) ∧ (k ≤ c5)) (0 + (M.toNat - 0)) ?_ ?_
          have hS65 := St.nilRow (E := 49) (sz := 32) hS60
          · exact ⟨0, none, 0, rfl, rfl, (hS65.perm ((List.Perm.cons _ (List.Perm.refl _)).trans (List.perm_middle (l₁ := [_])).symm)), Nat.zero_le _, Nat.le_refl _⟩
          · rintro d64 e61 w62 ⟨k, a5, c5, hc1_32, rfl, hS63, hk, hk5⟩ -
            refine c_set (d := 32) hc1_32 ?_
            refine c_seq ?_
            refine c_region ?_
            refine wl_dec (r_lss rfl rfl) rfl (fun h8_0 => ?_) (fun h8_0 => ?_)
            · refine wl_nil ?_
              refine c_then ?_
              refine c_seq ?_
              refine c_true rfl ?_
              refine wp_skip ?_
              refine c_then ?_
              refine c_seq ?_
              refine c_block ?_
              refine c_seq ?_
              refine c_region ?_
              refine wl_val (r_move (v := .int .i64 _) rfl) rfl ?_
              refine wl_val (r_assign (v := .int .i64 _) rfl) rfl ?_
              refine wl_nil ?_
              refine c_then ?_
              refine c_drawS 13 hMixed hS63 ?_
              intro w66 hS67
              refine g_take 0 rfl (by decide +kernel) rfl (fun _ _ _ h => h) hS67 (fun wF hF => r_field fa55_2 rfl) ?_
              refine g_take 1 rfl (by decide +kernel) rfl (fun _ _ _ h => h) hS67 (fun wF hF => r_loadB1 ti53.und rfl rfl (hF.heap (.head _)) rfl) ?_
              refine g_take 2 rfl (by decide +kernel) rfl (fun _ _ _ h => h) hS67 (fun wF hF => r_move (v := .slice _ _ _) rfl) ?_
              refine g_take 3 rfl (by decide +kernel) rfl (fun _ _ _ h => h) hS67 (fun wF hF => r_move (v := .int .i64 _) rfl) ?_
              refine g_take 4 rfl (by decide +kernel) rfl (fun _ _ _ h => h) hS67 (fun wF hF => r_muln (a := 32) rfl rfl (by omega)) ?_
              refine g_take 5 rfl (by decide +kernel) rfl (fun _ _ _ h => h) hS67 (fun wF hF => r_addn (a := 20) rfl rfl (by omega)) ?_
              refine g_take 6 rfl (by decide +kernel) rfl (fun _ _ _ h => h) hS67 (fun wF hF => r_move (v := .int .i64 _) rfl) ?_
              refine g_take 7 rfl (by decide +kernel) rfl (fun _ _ _ h => h) hS67 (fun wF hF => r_muln (a := 32) rfl rfl (by omega)) ?_
              refine g_take 8 rfl (by decide +kernel) rfl (fun _ _ _ h => h) hS67 (fun wF hF => r_addn (a := 52) rfl rfl (by omega)) ?_
              refine g_take 9 rfl (by decide +kernel) rfl (fun _ _ _ h => h) hS67 (fun wF hF => r_sl_lh ti22.und ti5 rfl rfl rfl (by omega) (by omega)) ?_
              have hrs : Row w (Kw.sub a c (20 + 32 * k) 1) (((l.drop (20 + 32 * k)).take 32).map b8) := hb.mid (by omega) _ _
              refine g_take 10 rfl (by decide +kernel) rfl (fun _ _ _ h => h) hS67 (fun wF hF => r_s2a ti49.und rfl (by omega)) ?_
              refine g_take 11 rfl (by decide +kernel) rfl (fun _ _ _ h => h) hS67 (fun wF hF => r_loadPA ti49 rfl rfl (hrs.st hF) (by omega) (by first | (simp [*]; done) | (simp [*] <;> omega) | omega)) ?_
              refine g_one 12 (by decide +kernel) (by decide +kernel) ?_
              refine o_exv rfl (x_litA1 hS67 ti53.und ti49 rfl (by rw [List.length_take, List.length_map, List.length_take, List.length_drop]; omega) rfl (by decide) (by decide)) rfl ?_
              rintro _ w68 ⟨b47, rfl, hS69⟩
              refine ⟨hS69.drop1, ?_⟩
              refine g_tail (by decide +kernel) rfl (by decide +kernel) ?_
              refine wl_exv (x_append [_, _] hS69 ti53.und ti49 rfl (by decide) rfl rfl (Row.of_at (at_all (hS69.heap (.head _)))) (by rw [List.length_take, List.length_map, List.length_take, List.length_drop]; omega) (one_take (one_b8 _)) (by omega) (by omega) _ rfl) rfl ?_
              rintro _ w70 ⟨aq72, cq72, rfl, hcq72, hS71⟩
              simp only [List.cons_append, List.nil_append] at hS71
              refine wl_val (r_field fa55_2 rfl) rfl ?_
              refine wl_exs (x_store1 [_] hS71 ti53 rfl rfl rfl (by simp)) rfl ?_
              intro w73 hS74
              simp only [List.cons_append, List.nil_append] at hS74
              refine wl_nil ?_
              refine c_inN ?_
              refine c_then ?_
              refine c_region ?_
              refine wl_val (r_addn (b := 1) rfl rfl (by omega)) rfl ?_
              refine wl_val (r_move (v := .int .i64 _) rfl) rfl ?_
              refine wl_nil ?_
              refine c_then ?_
              have ec : (chunksL l k).flatten.map b8 ++ ((l.drop (20 + 32 * k)).take 32).map b8 = (chunksL l (k + 1)).flatten.map b8 := by rw [chunks_step, List.map_append]
              have et : (((l.drop (20 + 32 * k)).take 32).map b8).take 32 = ((l.drop (20 + 32 * k)).take 32).map b8 := List.take_of_length_le (by rw [List.length_map, List.length_take]; omega)
              rw [et, ec] at hS74
              exact ⟨0 + (M.toNat - (k + 1)), _, by omega, rfl, ⟨k + 1, _, _, rfl, rfl, hS74.drop1, by omega, hcq72⟩, ⟨rfl, rfl, rfl, rfl, rfl, rfl, rfl, trivial⟩⟩
            · refine wl_nil ?_
              refine c_then ?_
              refine c_seq ?_
              refine c_false rfl ?_
              refine wp_exit ?_
              refine c_thenE ?_
              refine c_thenE ?_
              refine c_inE ?_
              refine c_then ?_
              refine c_seq ?_
              refine c_seq ?_
              obtain rfl : k = M.toNat := by omega
              refine c_region ?_
              refine wl_val (r_loadB ti55 ag55 rfl (hS63.heap (.head _)) (by first | (simp [*]; done) | (simp [*] <;> omega) | omega)) rfl ?_
              refine wl_call (r_call fn35 rfl rfl) rfl (rprint_n (sgN X1) (sgN X2) a5 M.toNat c5 (chunksL l M.toNat) _ (St.rowAt hS63 (.tail _ (.head _))) (chunks_32 (by omega)) (chunks_len _ _) hk5 (by omega) (sgN_lo _).1 (sgN_lo _).2 (sgN_lo _).1 (sgN_lo _).2) ?_
              rintro _ w75 (⟨hf, rfl, hx76⟩ | ⟨hf, rfl, hx76⟩ | ⟨hf, aDST, cDST, rfl, hcDST, hx76⟩)
              · have hS77 := hS63.ext hx76
                refine wl_val (r_move (v := .tuple _) rfl) rfl ?_
                refine wl_val (r_extract (v := .slice _ _ _) rfl rfl) rfl ?_
                refine wl_val (r_extract (v := .int .i64 _) rfl rfl) rfl ?_
                refine wl_val (r_assign (v := .slice _ _ _) rfl) rfl ?_
                refine wl_val (r_assign (v := .int .i64 _) rfl) rfl ?_
                refine wl_nil ?_
                refine c_then ?_
                refine c_seq ?_
                refine c_region ?_
                refine wl_val (r_move (v := .int .i64 _) rfl) rfl ?_
                refine wl_dec_t (r_neq rfl rfl) rfl (by decide) ?_
                refine wl_nil ?_
                refine c_then ?_
                refine c_true rfl ?_
                refine c_seq ?_
                refine c_region ?_
                refine wl_val (r_buildZ pl55 ti55) rfl ?_
                refine wl_val (r_move (v := .int .i64 _) rfl) rfl ?_
                subst hLT59
                refine wl_exs (x_storeW [_, _] hS77 ti55 rfl rfl (by first | (simp [*]; done) | (simp [*] <;> omega) | omega) (by first | (simp [*]; done) | (simp [*] <;> omega) | omega) (by repeat' first | exact one_nil | exact one_b8 _ | exact one_v32 _ | exact one_all rfl | refine one_cons rfl ?_ | refine one_app ?_ ?_)) rfl ?_
                intro w78 hS79
                simp only [List.cons_append, List.nil_append] at hS79
                refine wl_val (r_assign (v := .int .i64 0) rfl) rfl ?_
                refine wl_val (r_assign (v := .int .i64 _) rfl) rfl ?_
                refine wl_nil ?_
                refine c_then ?_
                refine wp_ret ?_
                refine c_thenR ?_
                refine ret3 Try.results39 ⟨_, rfl, run_loadVar_blk ti55 ag55 (hS79.heap (.tail _ (.tail _ (.head _)))) (by first | (simp [*]; done) | (simp [*] <;> omega) | omega)⟩ rfl rfl ?_
                first | exact .inl ⟨by omega, rfl, hS79.fin⟩ | exact .inr (.inl ⟨by omega, hf, rfl, hS79.fin⟩) | exact .inr (.inr (.inl ⟨by omega, ⟨(sgN_in hf.1 hf.2.1 hX1).1, (sgN_in hf.2.2.1 hf.2.2.2.1 hX2).1⟩, hf.2.2.2.2, rfl, hS79.fin⟩))
              · have hS77 := hS63.ext hx76
                refine wl_val (r_move (v := .tuple _) rfl) rfl ?_
                refine wl_val (r_extract (v := .slice _ _ _) rfl rfl) rfl ?_
                refine wl_val (r_extract (v := .int .i64 _) rfl rfl) rfl ?_
                refine wl_val (r_assign (v := .slice _ _ _) rfl) rfl ?_
                refine wl_val (r_assign (v := .int .i64 _) rfl) rfl ?_
                refine wl_nil ?_
                refine c_then ?_
                refine c_seq ?_
                refine c_region ?_
                refine wl_val (r_move (v := .int .i64 _) rfl) rfl ?_
                refine wl_dec_t (r_neq rfl rfl) rfl (by decide) ?_
                refine wl_nil ?_
                refine c_then ?_
                refine c_true rfl ?_
                refine c_seq ?_
                refine c_region ?_
                refine wl_val (r_buildZ pl55 ti55) rfl ?_
                refine wl_val (r_move (v := .int .i64 _) rfl) rfl ?_
                subst hLT59
                refine wl_exs (x_storeW [_, _] hS77 ti55 rfl rfl (by first | (simp [*]; done) | (simp [*] <;> omega) | omega) (by first | (simp [*]; done) | (simp [*] <;> omega) | omega) (by repeat' first | exact one_nil | exact one_b8 _ | exact one_v32 _ | exact one_all rfl | refine one_cons rfl ?_ | refine one_app ?_ ?_)) rfl ?_
                intro w80 hS81
                simp only [List.cons_append, List.nil_append] at hS81
                refine wl_val (r_assign (v := .int .i64 0) rfl) rfl ?_
                refine wl_val (r_assign (v := .int .i64 _) rfl) rfl ?_
                refine wl_nil ?_
                refine c_then ?_
                refine wp_ret ?_
                refine c_thenR ?_
                refine ret3 Try.results39 ⟨_, rfl, run_loadVar_blk ti55 ag55 (hS81.heap (.tail _ (.tail _ (.head _)))) (by first | (simp [*]; done) | (simp [*] <;> omega) | omega)⟩ rfl rfl ?_
                first | exact .inl ⟨by omega, rfl, hS81.fin⟩ | exact .inr (.inl ⟨by omega, hf, rfl, hS81.fin⟩) | exact .inr (.inr (.inl ⟨by omega, ⟨(sgN_in hf.1 hf.2.1 hX1).1, (sgN_in hf.2.2.1 hf.2.2.2.1 hX2).1⟩, hf.2.2.2.2, rfl, hS81.fin⟩))
              · have hS77 := hS63.call hx76
                simp only [List.cons_append, List.nil_append] at hS77
                refine wl_val (r_move (v := .tuple _) rfl) rfl ?_
                refine wl_val (r_extract (v := .slice _ _ _) rfl rfl) rfl ?_
                refine wl_val (r_extract (v := .int .i64 _) rfl rfl) rfl ?_
                refine wl_val (r_assign (v := .slice _ _ _) rfl) rfl ?_
                refine wl_val (r_assign (v := .int .i64 _) rfl) rfl ?_
                refine wl_nil ?_
                refine c_then ?_
                refine c_seq ?_
                refine c_region ?_
                refine wl_val (r_move (v := .int .i64 _) rfl) rfl ?_
                refine wl_dec_f (r_neq rfl rfl) rfl (by decide) ?_
                refine wl_nil ?_
                refine c_then ?_
                refine c_false rfl ?_
                refine wp_skip ?_
                refine c_then ?_
                refine c_seq ?_
                refine c_region ?_
                refine wl_val (r_loadB ti55 ag55 rfl (hS77.heap (.tail _ (.head _))) (by first | (simp [*]; done) | (simp [*] <;> omega) | omega)) rfl ?_
                refine wl_val (r_move (v := .int .i64 _) rfl) rfl ?_
                refine wl_val (r_muln (a := 32) rfl rfl (by omega)) rfl ?_
                refine wl_val (r_addn (a := 20) rfl rfl (by omega)) rfl ?_
                subst hLT59
                refine wl_exs (x_storeW [_, _, _] hS77 ti55 rfl rfl (by first | (simp [*]; done) | (simp [*] <;> omega) | omega) (by first | (simp [*]; done) | (simp [*] <;> omega) | omega) (by repeat' first | exact one_nil | exact one_b8 _ | exact one_v32 _ | exact one_all rfl | refine one_cons rfl ?_ | refine one_app ?_ ?_)) rfl ?_
                intro w82 hS83
                simp only [List.cons_append, List.nil_append] at hS83
                refine wl_val (r_assign (v := .int .i64 _) rfl) rfl ?_
                refine wl_val (r_assign (v := .int .i64 0) rfl) rfl ?_
                refine wl_nil ?_
                refine c_then ?_
                refine wp_ret ?_
                refine ret3 Try.results39 ⟨_, rfl, run_loadVar_blk ti55 ag55 (hS83.heap (.tail _ (.tail _ (.tail _ (.head _))))) (by first | (simp [*]; done) | (simp [*] <;> omega) | omega)⟩ rfl rfl ?_
                have e1 := sgN_in hf.1 hf.2.1 hX1
                have e2 := sgN_in hf.2.2.1 hf.2.2.2.1 hX2
                rw [e1.2, e2.2]
                exact .inr (.inr (.inr ⟨by omega, ⟨e1.1, e2.1⟩, hf.2.2.2.2, _, _, rfl, hk5, (hS83.perm (List.Perm.cons _ (List.Perm.cons _ ((List.Perm.cons _ (List.Perm.refl _)).trans (List.perm_middle (l₁ := [_])).symm)))).drop1.drop1.drop1⟩))
    · refine o_exv rfl (x_alloc (C := [.int .i64 0, .int .i64 0, .slice none 0 0]) hS6 ti55 rfl) rfl ?_
      rintro _ w84 ⟨b5, rfl, hS85⟩
      refine ⟨hS85.drop1, ?_⟩
      refine g_one 2 (by decide +kernel) (by decide +kernel) ?_
      refine o_call rfl (r_call fn121 rfl rfl) rfl (rnumber_x ((l.drop 0).take 8) _ 8 _ _ (by rw [List.drop_zero, List.map_take]; exact (hb.st hS85).take) (by rw [List.drop_zero, List.length_take]; omega) (by decide) X1 hx1) ?_
      rintro _ w86 ⟨rfl, hx87⟩
      have hS88 := hS85.ext hx87
      refine ⟨hS88.drop1, ?_⟩
      refine g_one 5 (by decide +kernel) (by decide +kernel) ?_
      refine o_call rfl (r_call fn121 rfl rfl) rfl (rnumber_x ((l.drop 8).take 8) _ _ _ _ ((hb.st hS88).mid (by omega) _ _) (by rw [List.length_take, List.length_drop]; omega) (by decide) X2 hx2) ?_
      rintro _ w89 ⟨rfl, hx90⟩
      have hS91 := hS88.ext hx90
      refine ⟨hS91.drop1, ?_⟩
      refine g_take 6 rfl (by decide +kernel) rfl (fun _ _ _ h => h) hS91.drop1 (fun wF hF => r_buildP (ps := [(0, .int .i64 _), (1, .int .i64 _)]) (out := [.int .i64 _, .int .i64 _, .slice none 0 0]) pl55 ti55 rfl rfl) ?_
      refine g_tail (by decide +kernel) rfl (by decide +kernel) ?_
      refine wl_exs (x_storeW [] hS91 ti55 rfl rfl (by first | (simp [*]; done) | (simp [*] <;> omega) | omega) (by first | (simp [*]; done) | (simp [*] <;> omega) | omega) (by repeat' first | exact one_nil | exact one_b8 _ | exact one_v32 _ | exact one_all rfl | refine one_cons rfl ?_ | refine one_app ?_ ?_)) rfl ?_
      intro w92 hS93
      simp only [List.cons_append, List.nil_append] at hS93
      refine wl_nil ?_
      refine c_then ?_
      refine c_seq ?_
      have hML := M.toNat_lt
      refine c_region ?_
      refine wl_val (r_move (v := .slice _ _ _) rfl) rfl ?_
      refine wl_val (r_sl_lh (l := 16) (h := 20) ti22.und ti5 rfl rfl rfl (by omega) (by omega)) rfl ?_
      refine wl_call (r_call fn121 rfl rfl) rfl (rnumber_m ((l.drop 16).take 4) _ _ _ ((hb.st hS93).mid (by omega) _ _) (by rw [List.length_take, List.length_drop]; omega) M hM) ?_
      rintro _ w94 ⟨rfl, hx95⟩
      have hS96 := hS93.ext hx95
      refine wl_val (r_assign (v := .int .i64 _) rfl) rfl ?_
      refine wl_nil ?_
      refine c_then ?_
      refine c_seq ?_
      refine c_seq ?_
      refine c_region ?_
      refine wl_val (r_move (v := .slice _ _ _) rfl) rfl ?_
      refine wl_val (r_len (T := 22) rfl ti22.und rfl _ rfl) rfl ?_
      refine wl_val (r_move (v := .int .i64 _) rfl) rfl ?_
      refine wl_val (r_muln (a := 32) rfl rfl (by omega)) rfl ?_
      refine wl_val (r_addn (a := 20) rfl rfl (by omega)) rfl ?_
      refine wl_dec (r_lss rfl rfl) rfl (fun h5_5 => ?_) (fun h5_5 => ?_)
      · refine wl_nil ?_
        refine c_then ?_
        refine c_true rfl ?_
        refine c_seq ?_
        refine c_region ?_
        refine wl_val (r_buildZ pl55 ti55) rfl ?_
        refine wl_exs (x_storeW [_] hS96 ti55 rfl rfl (by first | (simp [*]; done) | (simp [*] <;> omega) | omega) (by first | (simp [*]; done) | (simp [*] <;> omega) | omega) (by repeat' first | exact one_nil | exact one_b8 _ | exact one_v32 _ | exact one_all rfl | refine one_cons rfl ?_ | refine one_app ?_ ?_)) rfl ?_
        intro w97 hS98
        simp only [List.cons_append, List.nil_append] at hS98
        refine wl_val (r_assign (v := .int .i64 0) rfl) rfl ?_
        refine wl_val (r_assign (v := .int .i64 1) rfl) rfl ?_
        refine wl_nil ?_
        refine c_then ?_
        refine wp_ret ?_
        refine c_thenR ?_
        refine ret3 Try.results39 ⟨_, rfl, run_loadVar_blk ti55 ag55 (hS98.heap (.tail _ (.head _))) (by first | (simp [*]; done) | (simp [*] <;> omega) | omega)⟩ rfl rfl ?_
        first | exact .inl ⟨by omega, rfl, hS98.fin⟩ | exact .inr (.inl ⟨by omega, hf, rfl, hS98.fin⟩) | exact .inr (.inr (.inl ⟨by omega, ⟨(sgN_in hf.1 hf.2.1 hX1).1, (sgN_in hf.2.2.1 hf.2.2.2.1 hX2).1⟩, hf.2.2.2.2, rfl, hS98.fin⟩))
      · refine wl_nil ?_
        refine c_then ?_
        refine c_false rfl ?_
        refine wp_skip ?_
        refine c_then ?_
        refine c_seq ?_
        refine c_seq ?_
        refine c_region ?_
        refine wl_val (r_move (v := .int .i64 _) rfl) rfl ?_
        refine wl_val (r_move (v := .int .i64 0) rfl) rfl ?_
        refine wl_nil ?_
        refine c_then ?_
        refine c_block ?_
        obtain ⟨LT99, hLT99, hS100⟩ := St.frame [_] [_] hS96
        simp only [List.cons_append, List.nil_append] at hS100
        have hm99_b2 := inL hLT99 (.head _)
        refine c_loopE [0, 2, 3, 4, 5, 6, 31] (fun d e w' => ∃ (k : Nat) (a5 : Option Addr) (c5 : Nat), Kw.look e 32 = vi k ∧ d = 0 + (M.toNat - k) ∧ St w [] w' (.blk b5 (cl [.int .i64 (sgN X1), .int .i64 (sgN X2), .slice a5 k c5] 55) :: .row (.slice a5 k c5) 49 32 k ((chunksL l k).flatten.map b8) :: LT99) ∧ (k ≤ M.toNat) ∧ (k ≤ c5)) (0 + (M.toNat - 0)) ?_ ?_
        have hS105 := St.nilRow (E := 49) (sz := 32) hS100
        · exact ⟨0, none, 0, rfl, rfl, (hS105.perm ((List.Perm.cons _ (List.Perm.refl _)).trans (List.perm_middle (l₁ := [_])).symm)), Nat.zero_le _, Nat.le_refl _⟩
        · rintro d104 e101 w102 ⟨k, a5, c5, hc2_32, rfl, hS103, hk, hk5⟩ -
          refine c_set (d := 32) hc2_32 ?_
          refine c_seq ?_
          refine c_region ?_
          refine wl_dec (r_lss rfl rfl) rfl (fun h8_0 => ?_) (fun h8_0 => ?_)
          · refine wl_nil ?_
            refine c_then ?_
            refine c_seq ?_
            refine c_true rfl ?_
            refine wp_skip ?_
            refine c_then ?_
            refine c_seq ?_
            refine c_block ?_
            refine c_seq ?_
            refine c_region ?_
            refine wl_val (r_move (v := .int .i64 _) rfl) rfl ?_
            refine wl_val (r_assign (v := .int .i64 _) rfl) rfl ?_
            refine wl_nil ?_
            refine c_then ?_
            refine c_drawS 13 hMixed hS103 ?_
            intro w106 hS107
            refine g_take 0 rfl (by decide +kernel) rfl (fun _ _ _ h => h) hS107 (fun wF hF => r_field fa55_2 rfl) ?_
            refine g_take 1 rfl (by decide +kernel) rfl (fun _ _ _ h => h) hS107 (fun wF hF => r_loadB1 ti53.und rfl rfl (hF.heap (.head _)) rfl) ?_
            refine g_take 2 rfl (by decide +kernel) rfl (fun _ _ _ h => h) hS107 (fun wF hF => r_move (v := .slice _ _ _) rfl) ?_
            refine g_take 3 rfl (by decide +kernel) rfl (fun _ _ _ h => h) hS107 (fun wF hF => r_move (v := .int .i64 _) rfl) ?_
            refine g_take 4 rfl (by decide +kernel) rfl (fun _ _ _ h => h) hS107 (fun wF hF => r_muln (a := 32) rfl rfl (by omega)) ?_
            refine g_take 5 rfl (by decide +kernel) rfl (fun _ _ _ h => h) hS107 (fun wF hF => r_addn (a := 20) rfl rfl (by omega)) ?_
            refine g_take 6 rfl (by decide +kernel) rfl (fun _ _ _ h => h) hS107 (fun wF hF => r_move (v := .int .i64 _) rfl) ?_
            refine g_take 7 rfl (by decide +kernel) rfl (fun _ _ _ h => h) hS107 (fun wF hF => r_muln (a := 32) rfl rfl (by omega)) ?_
            refine g_take 8 rfl (by decide +kernel) rfl (fun _ _ _ h => h) hS107 (fun wF hF => r_addn (a := 52) rfl rfl (by omega)) ?_
            refine g_take 9 rfl (by decide +kernel) rfl (fun _ _ _ h => h) hS107 (fun wF hF => r_sl_lh ti22.und ti5 rfl rfl rfl (by omega) (by omega)) ?_
            have hrs : Row w (Kw.sub a c (20 + 32 * k) 1) (((l.drop (20 + 32 * k)).take 32).map b8) := hb.mid (by omega) _ _
            refine g_take 10 rfl (by decide +kernel) rfl (fun _ _ _ h => h) hS107 (fun wF hF => r_s2a ti49.und rfl (by omega)) ?_
            refine g_take 11 rfl (by decide +kernel) rfl (fun _ _ _ h => h) hS107 (fun wF hF => r_loadPA ti49 rfl rfl (hrs.st hF) (by omega) (by first | (simp [*]; done) | (simp [*] <;> omega) | omega)) ?_
            refine g_one 12 (by decide +kernel) (by decide +kernel) ?_
            refine o_exv rfl (x_litA1 hS107 ti53.und ti49 rfl (by rw [List.length_take, List.length_map, List.length_take, List.length_drop]; omega) rfl (by decide) (by decide)) rfl ?_
            rintro _ w108 ⟨b47, rfl, hS109⟩
            refine ⟨hS109.drop1, ?_⟩
            refine g_tail (by decide +kernel) rfl (by decide +kernel) ?_
            refine wl_exv (x_append [_, _] hS109 ti53.und ti49 rfl (by decide) rfl rfl (Row.of_at (at_all (hS109.heap (.head _)))) (by rw [List.length_take, List.length_map, List.length_take, List.length_drop]; omega) (one_take (one_b8 _)) (by omega) (by omega) _ rfl) rfl ?_
            rintro _ w110 ⟨aq112, cq112, rfl, hcq112, hS111⟩
            simp only [List.cons_append, List.nil_append] at hS111
            refine wl_val (r_field fa55_2 rfl) rfl ?_
            refine wl_exs (x_store1 [_] hS111 ti53 rfl rfl rfl (by simp)) rfl ?_
            intro w113 hS114
            simp only [List.cons_append, List.nil_append] at hS114
            refine wl_nil ?_
            refine c_inN ?_
            refine c_then ?_
            refine c_region ?_
            refine wl_val (r_addn (b := 1) rfl rfl (by omega)) rfl ?_
            refine wl_val (r_move (v := .int .i64 _) rfl) rfl ?_
            refine wl_nil ?_
            refine c_then ?_
            have ec : (chunksL l k).flatten.map b8 ++ ((l.drop (20 + 32 * k)).take 32).map b8 = (chunksL l (k + 1)).flatten.map b8 := by rw [chunks_step, List.map_append]
            have et : (((l.drop (20 + 32 * k)).take 32).map b8).take 32 = ((l.drop (20 + 32 * k)).take 32).map b8 := List.take_of_length_le (by rw [List.length_map, List.length_take]; omega)
            rw [et, ec] at hS114
            exact ⟨0 + (M.toNat - (k + 1)), _, by omega, rfl, ⟨k + 1, _, _, rfl, rfl, hS114.drop1, by omega, hcq112⟩, ⟨rfl, rfl, rfl, rfl, rfl, rfl, rfl, trivial⟩⟩
          · refine wl_nil ?_
            refine c_then ?_
            refine c_seq ?_
            refine c_false rfl ?_
            refine wp_exit ?_
            refine c_thenE ?_
            refine c_thenE ?_
            refine c_inE ?_
            refine c_then ?_
            refine c_seq ?_
            refine c_seq ?_
            obtain rfl : k = M.toNat := by omega
            refine c_region ?_
            refine wl_val (r_loadB ti55 ag55 rfl (hS103.heap (.head _)) (by first | (simp [*]; done) | (simp [*] <;> omega) | omega)) rfl ?_
            refine wl_call (r_call fn35 rfl rfl) rfl (rprint_n (sgN X1) (sgN X2) a5 M.toNat c5 (chunksL l M.toNat) _ (St.rowAt hS103 (.tail _ (.head _))) (chunks_32 (by omega)) (chunks_len _ _) hk5 (by omega) (sgN_lo _).1 (sgN_lo _).2 (sgN_lo _).1 (sgN_lo _).2) ?_
            rintro _ w115 (⟨hf, rfl, hx116⟩ | ⟨hf, rfl, hx116⟩ | ⟨hf, aDST, cDST, rfl, hcDST, hx116⟩)
            · have hS117 := hS103.ext hx116
              refine wl_val (r_move (v := .tuple _) rfl) rfl ?_
              refine wl_val (r_extract (v := .slice _ _ _) rfl rfl) rfl ?_
              refine wl_val (r_extract (v := .int .i64 _) rfl rfl) rfl ?_
              refine wl_val (r_assign (v := .slice _ _ _) rfl) rfl ?_
              refine wl_val (r_assign (v := .int .i64 _) rfl) rfl ?_
              refine wl_nil ?_
              refine c_then ?_
              refine c_seq ?_
              refine c_region ?_
              refine wl_val (r_move (v := .int .i64 _) rfl) rfl ?_
              refine wl_dec_t (r_neq rfl rfl) rfl (by decide) ?_
              refine wl_nil ?_
              refine c_then ?_
              refine c_true rfl ?_
              refine c_seq ?_
              refine c_region ?_
              refine wl_val (r_buildZ pl55 ti55) rfl ?_
              refine wl_val (r_move (v := .int .i64 _) rfl) rfl ?_
              subst hLT99
              refine wl_exs (x_storeW [_, _] hS117 ti55 rfl rfl (by first | (simp [*]; done) | (simp [*] <;> omega) | omega) (by first | (simp [*]; done) | (simp [*] <;> omega) | omega) (by repeat' first | exact one_nil | exact one_b8 _ | exact one_v32 _ | exact one_all rfl | refine one_cons rfl ?_ | refine one_app ?_ ?_)) rfl ?_
              intro w118 hS119
              simp only [List.cons_append, List.nil_append] at hS119
              refine wl_val (r_assign (v := .int .i64 0) rfl) rfl ?_
              refine wl_val (r_assign (v := .int .i64 _) rfl) rfl ?_
              refine wl_nil ?_
              refine c_then ?_
              refine wp_ret ?_
              refine c_thenR ?_
              refine ret3 Try.results39 ⟨_, rfl, run_loadVar_blk ti55 ag55 (hS119.heap (.tail _ (.tail _ (.head _)))) (by first | (simp [*]; done) | (simp [*] <;> omega) | omega)⟩ rfl rfl ?_
              first | exact .inl ⟨by omega, rfl, hS119.fin⟩ | exact .inr (.inl ⟨by omega, hf, rfl, hS119.fin⟩) | exact .inr (.inr (.inl ⟨by omega, ⟨(sgN_in hf.1 hf.2.1 hX1).1, (sgN_in hf.2.2.1 hf.2.2.2.1 hX2).1⟩, hf.2.2.2.2, rfl, hS119.fin⟩))
            · have hS117 := hS103.ext hx116
              refine wl_val (r_move (v := .tuple _) rfl) rfl ?_
              refine wl_val (r_extract (v := .slice _ _ _) rfl rfl) rfl ?_
              refine wl_val (r_extract (v := .int .i64 _) rfl rfl) rfl ?_
              refine wl_val (r_assign (v := .slice _ _ _) rfl) rfl ?_
              refine wl_val (r_assign (v := .int .i64 _) rfl) rfl ?_
              refine wl_nil ?_
              refine c_then ?_
              refine c_seq ?_
              refine c_region ?_
              refine wl_val (r_move (v := .int .i64 _) rfl) rfl ?_
              refine wl_dec_t (r_neq rfl rfl) rfl (by decide) ?_
              refine wl_nil ?_
              refine c_then ?_
              refine c_true rfl ?_
              refine c_seq ?_
              refine c_region ?_
              refine wl_val (r_buildZ pl55 ti55) rfl ?_
              refine wl_val (r_move (v := .int .i64 _) rfl) rfl ?_
              subst hLT99
              refine wl_exs (x_storeW [_, _] hS117 ti55 rfl rfl (by first | (simp [*]; done) | (simp [*] <;> omega) | omega) (by first | (simp [*]; done) | (simp [*] <;> omega) | omega) (by repeat' first | exact one_nil | exact one_b8 _ | exact one_v32 _ | exact one_all rfl | refine one_cons rfl ?_ | refine one_app ?_ ?_)) rfl ?_
              intro w120 hS121
              simp only [List.cons_append, List.nil_append] at hS121
              refine wl_val (r_assign (v := .int .i64 0) rfl) rfl ?_
              refine wl_val (r_assign (v := .int .i64 _) rfl) rfl ?_
              refine wl_nil ?_
              refine c_then ?_
              refine wp_ret ?_
              refine c_thenR ?_
              refine ret3 Try.results39 ⟨_, rfl, run_loadVar_blk ti55 ag55 (hS121.heap (.tail _ (.tail _ (.head _)))) (by first | (simp [*]; done) | (simp [*] <;> omega) | omega)⟩ rfl rfl ?_
              first | exact .inl ⟨by omega, rfl, hS121.fin⟩ | exact .inr (.inl ⟨by omega, hf, rfl, hS121.fin⟩) | exact .inr (.inr (.inl ⟨by omega, ⟨(sgN_in hf.1 hf.2.1 hX1).1, (sgN_in hf.2.2.1 hf.2.2.2.1 hX2).1⟩, hf.2.2.2.2, rfl, hS121.fin⟩))
            · have hS117 := hS103.call hx116
              simp only [List.cons_append, List.nil_append] at hS117
              refine wl_val (r_move (v := .tuple _) rfl) rfl ?_
              refine wl_val (r_extract (v := .slice _ _ _) rfl rfl) rfl ?_
              refine wl_val (r_extract (v := .int .i64 _) rfl rfl) rfl ?_
              refine wl_val (r_assign (v := .slice _ _ _) rfl) rfl ?_
              refine wl_val (r_assign (v := .int .i64 _) rfl) rfl ?_
              refine wl_nil ?_
              refine c_then ?_
              refine c_seq ?_
              refine c_region ?_
              refine wl_val (r_move (v := .int .i64 _) rfl) rfl ?_
              refine wl_dec_f (r_neq rfl rfl) rfl (by decide) ?_
              refine wl_nil ?_
              refine c_then ?_
              refine c_false rfl ?_
              refine wp_skip ?_
              refine c_then ?_
              refine c_seq ?_
              refine c_region ?_
              refine wl_val (r_loadB ti55 ag55 rfl (hS117.heap (.tail _ (.head _))) (by first | (simp [*]; done) | (simp [*] <;> omega) | omega)) rfl ?_
              refine wl_val (r_move (v := .int .i64 _) rfl) rfl ?_
              refine wl_val (r_muln (a := 32) rfl rfl (by omega)) rfl ?_
              refine wl_val (r_addn (a := 20) rfl rfl (by omega)) rfl ?_
              subst hLT99
              refine wl_exs (x_storeW [_, _, _] hS117 ti55 rfl rfl (by first | (simp [*]; done) | (simp [*] <;> omega) | omega) (by first | (simp [*]; done) | (simp [*] <;> omega) | omega) (by repeat' first | exact one_nil | exact one_b8 _ | exact one_v32 _ | exact one_all rfl | refine one_cons rfl ?_ | refine one_app ?_ ?_)) rfl ?_
              intro w122 hS123
              simp only [List.cons_append, List.nil_append] at hS123
              refine wl_val (r_assign (v := .int .i64 _) rfl) rfl ?_
              refine wl_val (r_assign (v := .int .i64 0) rfl) rfl ?_
              refine wl_nil ?_
              refine c_then ?_
              refine wp_ret ?_
              refine ret3 Try.results39 ⟨_, rfl, run_loadVar_blk ti55 ag55 (hS123.heap (.tail _ (.tail _ (.tail _ (.head _))))) (by first | (simp [*]; done) | (simp [*] <;> omega) | omega)⟩ rfl rfl ?_
              have e1 := sgN_in hf.1 hf.2.1 hX1
              have e2 := sgN_in hf.2.2.1 hf.2.2.2.1 hX2
              rw [e1.2, e2.2]
              exact .inr (.inr (.inr ⟨by omega, ⟨e1.1, e2.1⟩, hf.2.2.2.2, _, _, rfl, hk5, (hS123.perm (List.Perm.cons _ (List.Perm.cons _ ((List.Perm.cons _ (List.Perm.refl _)).trans (List.perm_middle (l₁ := [_])).symm)))).drop1.drop1.drop1⟩))

end Go.Proofs.Ytfohfnpehfcaaaa
