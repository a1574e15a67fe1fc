/- What the law's proof leans on. No condition. -/
import Derived.Test.YtbanoknkplcedaaPEMAH
import Derived.Test.YtbanoknkplcedaaPEMAJ
import Derived.Test.YtbanoknkplcedaaPEMAV
namespace Go.Proofs.Ytbanoknkplcedaa
open Go.Kw
set_option linter.unusedVariables false
set_option linter.unusedSimpArgs false
set_option maxRecDepth 100000
theorem room_ok (a : Option Addr) (n c k : Nat) (p : Int) (w : World) (hn : n ≤ 140737488355328) (hk : k ≤ 2147483648) (hp1 : -9223372036854775808 ≤ p) (hp2 : p ≤ 9223372036854775807) :
    Ret Try.prog 75 [.slice a n c, .int .i64 p, vi k] w (fun v w' => v = .int .i64 (roomI n p k) ∧ St w [] w' []) := by
  refine enter Try.func75 rfl Try.ntmps75 rfl ?_
  have hS := St.refl w []
  refine c_seq ?_; refine c_region ?_; refine wl_val (r_assign (v := .int .i64 0) rfl) rfl ?_; refine wl_nil ?_; refine c_then ?_; refine c_seq ?_; refine c_block ?_; refine c_seq ?_; refine c_region ?_; refine wl_val (r_move (v := .int .i64 _) rfl) rfl ?_
  refine wl_dec (r_lss rfl rfl) rfl (fun h1_1 => ?_) (fun h1_1 => ?_)
  · refine wl_val (r_assign (v := .bool _) rfl) rfl ?_
    refine wl_nil ?_; refine c_then ?_; refine c_true rfl ?_; refine c_seq ?_; refine c_region ?_; refine wl_val (r_assign (v := .int .i64 4) rfl) rfl ?_; refine wl_nil ?_; refine c_then ?_; refine wp_ret ?_; refine c_inR ?_; refine c_thenR ?_; refine ret1 Try.results75 ?_
    exact ⟨congrArg (Value.int .i64) (by first | exact (room_neg (by omega)).symm | exact (room_out (by omega) (by omega)).symm | exact (room_in (by omega) (by omega)).symm), hS.fin⟩
  refine wl_val (r_assign (v := .bool _) rfl) rfl ?_; refine wl_nil ?_; refine c_then ?_; refine c_false rfl ?_; refine c_seq ?_; refine c_region ?_; refine wl_val (r_move (v := .slice _ _ _) rfl) rfl ?_; refine wl_val (r_len (T := 30) rfl ti30.und rfl _ rfl) rfl ?_; refine wl_val (r_move (v := .int .i64 _) rfl) rfl ?_
  refine wl_dec (r_lss rfl rfl) rfl (fun h3_3 => ?_) (fun h3_3 => ?_)
  · refine wl_val (r_move (v := .bool _) rfl) rfl ?_
    refine wl_not rfl ?_; refine wl_not rfl ?_; refine wl_not rfl ?_; refine wl_not rfl ?_; refine wl_not rfl ?_; refine wl_not rfl ?_; refine wl_val (r_pick_t rfl (v := .bool true) rfl) rfl ?_; refine wl_val (r_assign (v := .bool _) rfl) rfl ?_; refine wl_nil ?_; refine c_then ?_; refine c_true rfl ?_; refine c_seq ?_; refine c_region ?_; refine wl_val (r_assign (v := .int .i64 1) rfl) rfl ?_; refine wl_nil ?_; refine c_then ?_; refine wp_ret ?_; refine c_inR ?_; refine c_thenR ?_; refine ret1 Try.results75 ?_
    exact ⟨congrArg (Value.int .i64) (by first | exact (room_neg (by omega)).symm | exact (room_out (by omega) (by omega)).symm | exact (room_in (by omega) (by omega)).symm), hS.fin⟩
  refine wl_val (r_move (v := .bool _) rfl) rfl ?_; refine wl_val (r_move (v := .int .i64 _) rfl) rfl ?_; refine wl_val (r_move (v := .slice _ _ _) rfl) rfl ?_; refine wl_val (r_len (T := 30) rfl ti30.und rfl _ rfl) rfl ?_; refine wl_val (r_move (v := .int .i64 _) rfl) rfl ?_; refine wl_val (r_subi rfl rfl (by omega) (by omega)) rfl ?_
  refine wl_dec (r_gtr rfl rfl) rfl (fun h3_10 => ?_) (fun h3_10 => ?_)
  · refine wl_val (r_pick_f rfl (v := .bool _) rfl) rfl ?_
    refine wl_val (r_assign (v := .bool _) rfl) rfl ?_; refine wl_nil ?_; refine c_then ?_; refine c_true rfl ?_; refine c_seq ?_; refine c_region ?_; refine wl_val (r_assign (v := .int .i64 1) rfl) rfl ?_; refine wl_nil ?_; refine c_then ?_; refine wp_ret ?_; refine c_inR ?_; refine c_thenR ?_; refine ret1 Try.results75 ?_
    exact ⟨congrArg (Value.int .i64) (by first | exact (room_neg (by omega)).symm | exact (room_out (by omega) (by omega)).symm | exact (room_in (by omega) (by omega)).symm), hS.fin⟩
  refine wl_val (r_pick_f rfl (v := .bool _) rfl) rfl ?_; refine wl_val (r_assign (v := .bool _) rfl) rfl ?_; refine wl_nil ?_; refine c_then ?_; refine c_false rfl ?_; refine wp_skip ?_; refine c_inN ?_; refine c_then ?_; refine c_seq ?_; refine c_region ?_; refine wl_val (r_assign (v := .int .i64 0) rfl) rfl ?_; refine wl_nil ?_; refine c_then ?_; refine wp_ret ?_; refine ret1 Try.results75 ?_
  exact ⟨congrArg (Value.int .i64) (by first | exact (room_neg (by omega)).symm | exact (room_out (by omega) (by omega)).symm | exact (room_in (by omega) (by omega)).symm), hS.fin⟩

theorem number_ok (l : List UInt8) (a : Option Addr) (c : Nat) (p : Int) (w : World) (hb : Row w a (l.map b8)) (hc : l.length ≤ c) (hn : l.length ≤ 140737488355328) (hp1 : -9223372036854775808 ≤ p) (hp2 : p ≤ 9223372036854775807) :
    Ret Try.prog 70 [.slice a l.length c, .int .i64 p] w (fun v w' => v = .tuple #[v32 (word4 (takeL l p 4)), .int .i64 (roomI l.length p 4)] ∧ St w [] w' []) := by
  refine enter Try.func70 rfl Try.ntmps70 rfl ?_
  have hS := St.refl w []
  refine c_seq ?_; refine c_region ?_; refine wl_val (r_assign (v := .int .u32 0) rfl) rfl ?_; refine wl_val (r_assign (v := .int .i64 0) rfl) rfl ?_; refine wl_nil ?_; refine c_then ?_; refine c_seq ?_; refine c_seq ?_; refine c_region ?_; refine wl_val (r_move (v := .slice _ _ _) rfl) rfl ?_; refine wl_val (r_move (v := .int .i64 _) rfl) rfl ?_; refine wl_call (r_call fn75 rfl rfl) rfl (room_ok _ _ _ 4 _ _ (by first | omega | (simp [*]; done) | (simp [*] <;> omega)) (by first | omega | (simp [*]; done) | (simp [*] <;> omega)) (by first | omega | (simp [*]; done) | (simp [*] <;> omega)) (by first | omega | (simp [*]; done) | (simp [*] <;> omega))) ?_; rintro _ w1 ⟨rfl, hx2⟩
  have hS3 := hS.ext hx2
  refine wl_val (r_assign (v := .int .i64 _) rfl) rfl ?_; refine wl_nil ?_; refine c_then ?_; refine c_seq ?_; refine c_region ?_; refine wl_val (r_move (v := .int .i64 _) rfl) rfl ?_
  refine wl_dec (r_neq rfl rfl) rfl (fun h2_1 => ?_) (fun h2_1 => ?_)
  · refine wl_nil ?_
    refine c_then ?_; refine c_true rfl ?_; refine c_seq ?_; refine c_region ?_; refine wl_val (r_move (v := .int .i64 _) rfl) rfl ?_; refine wl_val (r_assign (v := .int .u32 0) rfl) rfl ?_; refine wl_val (r_assign (v := .int .i64 _) rfl) rfl ?_; refine wl_nil ?_; refine c_then ?_; refine wp_ret ?_; refine c_thenR ?_; refine ret2 Try.results70 rfl rfl ?_
    first | (rw [takeL_out (by assumption)]; exact ⟨rfl, hS3.fin⟩) | (rw [takeL_in hz0, hz0]; rw [Nat.mul_one]; exact ⟨rfl, hS3.fin⟩)
  refine wl_nil ?_; refine c_then ?_; refine c_false rfl ?_; refine wp_skip ?_; refine c_then ?_; refine c_seq ?_
  have hz0 : roomI l.length p 4 = 0 := by simpa using h2_1
  obtain ⟨hm0, hm1⟩ := room_zero hz0
  have hmc := toNat_cast hm0
  refine c_set (d := 1) (v := vi p.toNat) (congrArg (Value.int .i64) hmc.symm) ?_; refine c_region ?_; refine wl_val (r_move (v := .slice _ _ _) rfl) rfl ?_; refine wl_val (r_move (v := .int .i64 _) rfl) rfl ?_; refine wl_val (r_move (v := .int .i64 _) rfl) rfl ?_; refine wl_val (r_addn (b := 4) rfl rfl (by omega)) rfl ?_; refine wl_val (r_sl_lh ti30.und ti5 rfl rfl rfl (by omega) (by omega)) rfl ?_
  have hr : Row w (sub a c p.toNat 1) ((l.map b8).drop (p.toNat * 1)) := hb.sub (by simp; omega)
  refine wl_val (r_s2a ti97.und rfl (by omega)) rfl ?_; refine wl_val (r_loadPA ti97 rfl rfl (hr.st hS3) (by omega) (by simp; omega)) rfl ?_
  rw [← List.map_drop, ← List.map_take]
  refine wl_call (r_call fn76 rfl rfl) rfl (word_ok (((l.drop (p.toNat * 1)).take 4)) _ (by simp; omega)) ?_; rintro _ w4 ⟨rfl, hx5⟩
  have hS6 := hS3.ext hx5
  refine wl_val (r_assign (v := .int .u32 _) rfl) rfl ?_; refine wl_val (r_assign (v := .int .i64 0) rfl) rfl ?_; refine wl_nil ?_; refine c_then ?_; refine wp_ret ?_; refine ret2 Try.results70 rfl rfl ?_
  first | (rw [takeL_out (by assumption)]; exact ⟨rfl, hS6.fin⟩) | (rw [takeL_in hz0, hz0]; rw [Nat.mul_one]; exact ⟨rfl, hS6.fin⟩)

theorem long_ok (l : List UInt8) (a : Option Addr) (c : Nat) (p : Int) (w : World) (hb : Row w a (l.map b8)) (hc : l.length ≤ c) (hn : l.length ≤ 140737488355328) (hp1 : -9223372036854775808 ≤ p) (hp2 : p ≤ 9223372036854775807) :
    Ret Try.prog 46 [.slice a l.length c, .int .i64 p] w (fun v w' => v = .tuple #[vi (longV l p), .int .i64 (longE l p)] ∧ St w [] w' []) := by
  refine enter Try.func46 rfl Try.ntmps46 rfl ?_
  have hS := St.refl w []
  refine c_seq ?_; refine c_region ?_; refine wl_val (r_assign (v := .int .i64 0) rfl) rfl ?_; refine wl_val (r_assign (v := .int .i64 0) rfl) rfl ?_; refine wl_nil ?_; refine c_then ?_; refine c_seq ?_; refine c_seq ?_; refine c_region ?_; refine wl_val (r_move (v := .slice _ _ _) rfl) rfl ?_; refine wl_val (r_move (v := .int .i64 _) rfl) rfl ?_; refine wl_call (r_call fn75 rfl rfl) rfl (room_ok _ _ _ 8 _ _ (by first | omega | (simp [*]; done) | (simp [*] <;> omega)) (by first | omega | (simp [*]; done) | (simp [*] <;> omega)) (by first | omega | (simp [*]; done) | (simp [*] <;> omega)) (by first | omega | (simp [*]; done) | (simp [*] <;> omega))) ?_; rintro _ w1 ⟨rfl, hx2⟩
  have hS3 := hS.ext hx2
  refine wl_val (r_assign (v := .int .i64 _) rfl) rfl ?_; refine wl_nil ?_; refine c_then ?_; refine c_seq ?_; refine c_region ?_; refine wl_val (r_move (v := .int .i64 _) rfl) rfl ?_
  refine wl_dec (r_neq rfl rfl) rfl (fun h2_1 => ?_) (fun h2_1 => ?_)
  · refine wl_nil ?_
    refine c_then ?_; refine c_true rfl ?_; refine c_seq ?_; refine c_region ?_; refine wl_val (r_move (v := .int .i64 _) rfl) rfl ?_; refine wl_val (r_assign (v := .int .i64 0) rfl) rfl ?_; refine wl_val (r_assign (v := .int .i64 _) rfl) rfl ?_; refine wl_nil ?_; refine c_then ?_; refine wp_ret ?_; refine c_thenR ?_; refine ret2 Try.results46 rfl rfl ?_
    first | (rw [(long_out (by assumption)).1, (long_out (by assumption)).2]; exact ⟨rfl, hS3.fin⟩) | (rw [(long_big hz0 (by assumption)).1, (long_big hz0 (by assumption)).2]; exact ⟨rfl, hS3.fin⟩) | (rw [(long_in hz0 (by assumption)).1, (long_in hz0 (by assumption)).2]; exact ⟨rfl, hS3.fin⟩)
  refine wl_nil ?_; refine c_then ?_; refine c_false rfl ?_; refine wp_skip ?_; refine c_then ?_; refine c_seq ?_
  have hz0 : roomI l.length p 8 = 0 := by simpa using h2_1
  obtain ⟨hm0, hm1⟩ := room_zero hz0
  have hmc := toNat_cast hm0
  refine c_set (d := 1) (v := vi p.toNat) (congrArg (Value.int .i64) hmc.symm) ?_; refine c_drawS 20 hMixed hS3 ?_; intro w4 hS5; refine g_take 0 rfl (by decide +kernel) rfl (fun _ _ _ h => h) hS5 (fun wF hF => r_move (v := .slice _ _ _) rfl) ?_; refine g_take 1 rfl (by decide +kernel) rfl (fun _ _ _ h => h) hS5 (fun wF hF => r_move (v := .int .i64 _) rfl) ?_; refine g_take 2 rfl (by decide +kernel) rfl (fun _ _ _ h => h) hS5 (fun wF hF => r_move (v := .int .i64 _) rfl) ?_; refine g_take 3 rfl (by decide +kernel) rfl (fun _ _ _ h => h) hS5 (fun wF hF => r_addn (b := 4) rfl rfl (by omega)) ?_; refine g_take 4 rfl (by decide +kernel) rfl (fun _ _ _ h => h) hS5 (fun wF hF => r_sl_lh ti30.und ti5 rfl rfl rfl (by omega) (by omega)) ?_
  have hr : Row w (sub a c p.toNat 1) ((l.map b8).drop (p.toNat * 1)) := hb.sub (by simp; omega)
  refine g_take 5 rfl (by decide +kernel) rfl (fun _ _ _ h => h) hS5 (fun wF hF => r_s2a ti97.und rfl (by omega)) ?_; refine g_take 6 rfl (by decide +kernel) rfl (fun _ _ _ h => h) hS5 (fun wF hF => r_loadPA ti97 rfl rfl (hr.st hF) (by omega) (by simp; omega)) ?_; refine g_take 10 rfl (by decide +kernel) rfl (fun _ _ _ h => h) hS5 (fun wF hF => r_move (v := .slice _ _ _) rfl) ?_; refine g_take 11 rfl (by decide +kernel) rfl (fun _ _ _ h => h) hS5 (fun wF hF => r_move (v := .int .i64 _) rfl) ?_; refine g_take 12 rfl (by decide +kernel) rfl (fun _ _ _ h => h) hS5 (fun wF hF => r_addn (b := 4) rfl rfl (by omega)) ?_; refine g_take 13 rfl (by decide +kernel) rfl (fun _ _ _ h => h) hS5 (fun wF hF => r_move (v := .int .i64 _) rfl) ?_; refine g_take 14 rfl (by decide +kernel) rfl (fun _ _ _ h => h) hS5 (fun wF hF => r_addn (b := 8) rfl rfl (by omega)) ?_; refine g_take 15 rfl (by decide +kernel) rfl (fun _ _ _ h => h) hS5 (fun wF hF => r_sl_lh ti30.und ti5 rfl rfl rfl (by omega) (by omega)) ?_
  have hr2 : Row w (sub a c (p.toNat + 4) 1) ((l.map b8).drop ((p.toNat + 4) * 1)) := hb.sub (by simp; omega)
  refine g_take 16 rfl (by decide +kernel) rfl (fun _ _ _ h => h) hS5 (fun wF hF => r_s2a ti97.und rfl (by omega)) ?_; refine g_take 17 rfl (by decide +kernel) rfl (fun _ _ _ h => h) hS5 (fun wF hF => r_loadPA ti97 rfl rfl (hr2.st hF) (by omega) (by simp; omega)) ?_; refine g_one 7 (by decide +kernel) (by decide +kernel) ?_
  simp only [← List.map_drop, ← List.map_take]
  refine o_call rfl (r_call fn76 rfl rfl) rfl (word_ok (((l.drop (p.toNat * 1)).take 4)) _ (by simp; omega)) ?_; rintro _ w6 ⟨rfl, hx7⟩
  have hS8 := hS5.ext hx7
  refine ⟨hS8, ?_⟩
  refine g_take 8 rfl (by decide +kernel) rfl (fun _ _ _ h => h) hS8 (fun wF hF => c_u32_u64 ti101.und ⟨_, ti62.und⟩ rfl) ?_; refine g_take 9 rfl (by decide +kernel) rfl (fun _ _ _ h => h) hS8 (fun wF hF => r_shl64 (s := 32) rfl rfl (by first | omega | (simp [*]; done) | (simp [*] <;> omega))) ?_; refine g_one 18 (by decide +kernel) (by decide +kernel) ?_; refine o_call rfl (r_call fn76 rfl rfl) rfl (word_ok (((l.drop ((p.toNat + 4) * 1)).take 4)) _ (by simp; omega)) ?_; rintro _ w9 ⟨rfl, hx10⟩
  have hS11 := hS8.ext hx10
  refine ⟨hS11, ?_⟩
  refine g_take 19 rfl (by decide +kernel) rfl (fun _ _ _ h => h) hS11 (fun wF hF => c_u32_u64 ti101.und ⟨_, ti62.und⟩ rfl) ?_; refine g_tail (by decide +kernel) rfl (by decide +kernel) ?_; refine wl_val (r_or64 rfl rfl) rfl ?_; refine wl_val (r_assign (v := .int .u64 _) rfl) rfl ?_; refine wl_nil ?_; refine c_then ?_; refine c_seq ?_; refine c_seq ?_; refine c_region ?_; refine wl_val (r_move (v := .int .u64 _) rfl) rfl ?_
  rw [← long8_take hz0]
  refine wl_dec (r_gtr rfl rfl) rfl (fun h5_1 => ?_) (fun h5_1 => ?_)
  · refine wl_nil ?_
    refine c_then ?_; refine c_true rfl ?_; refine c_seq ?_; refine c_region ?_; refine wl_val (r_assign (v := .int .i64 0) rfl) rfl ?_; refine wl_val (r_assign (v := .int .i64 4) rfl) rfl ?_; refine wl_nil ?_; refine c_then ?_; refine wp_ret ?_; refine c_thenR ?_; refine ret2 Try.results46 rfl rfl ?_
    first | (rw [(long_out (by assumption)).1, (long_out (by assumption)).2]; exact ⟨rfl, hS11.fin⟩) | (rw [(long_big hz0 (by assumption)).1, (long_big hz0 (by assumption)).2]; exact ⟨rfl, hS11.fin⟩) | (rw [(long_in hz0 (by assumption)).1, (long_in hz0 (by assumption)).2]; exact ⟨rfl, hS11.fin⟩)
  refine wl_nil ?_; refine c_then ?_; refine c_false rfl ?_; refine wp_skip ?_; refine c_then ?_; refine c_seq ?_; refine c_region ?_; refine wl_val (r_move (v := .int .u64 _) rfl) rfl ?_; refine wl_val (c_u64_i64 ti3.und ⟨_, ti101.und⟩ rfl (by omega)) rfl ?_; refine wl_val (r_assign (v := .int .i64 _) rfl) rfl ?_; refine wl_val (r_assign (v := .int .i64 0) rfl) rfl ?_; refine wl_nil ?_; refine c_then ?_; refine wp_ret ?_; refine ret2 Try.results46 rfl rfl ?_
  first | (rw [(long_out (by assumption)).1, (long_out (by assumption)).2]; exact ⟨rfl, hS11.fin⟩) | (rw [(long_big hz0 (by assumption)).1, (long_big hz0 (by assumption)).2]; exact ⟨rfl, hS11.fin⟩) | (rw [(long_in hz0 (by assumption)).1, (long_in hz0 (by assumption)).2]; exact ⟨rfl, hS11.fin⟩)

theorem clone_ok (l : List UInt8) (a : Option Addr) (c : Nat) (w : World) (hb : Row w a (l.map b8)) (hn : l.length ≤ 140737488351232) :
    Ret Try.prog 47 [.slice a l.length c] w (fun v w' => ∃ a' c', v = .slice a' (l).length c' ∧ (l).length ≤ c' ∧ St w [] w' [.row (.slice a' (l).length c') 5 1 (l).length ((l).map b8)]) := by
  refine enter Try.func47 rfl Try.ntmps47 rfl ?_
  have hS := St.refl w []
  refine c_seq ?_; refine c_region ?_; refine wl_val (r_assign (v := .slice none 0 0) rfl) rfl ?_; refine wl_nil ?_; refine c_then ?_; refine c_seq ?_; refine c_seq ?_; refine c_region ?_; refine wl_val (r_move (v := .slice _ _ _) rfl) rfl ?_
  refine wl_dec (r_eqlSn ti30.und rfl rfl) rfl (fun h1_1 => ?_) (fun h1_1 => ?_)
  · refine wl_nil ?_
    refine c_then ?_; refine c_true rfl ?_; refine c_seq ?_; refine c_region ?_; refine wl_val (r_assign (v := .slice none 0 0) rfl) rfl ?_; refine wl_nil ?_; refine c_then ?_; refine wp_ret ?_; refine c_thenR ?_; refine ret1 Try.results47 ?_
    first | (obtain rfl := nil_of_none hb (by assumption); exact ⟨none, 0, rfl, Nat.le_refl _, hS.nilRow⟩) | (rw [Nat.zero_add] at *; exact ⟨_, _, rfl, by assumption, hS⟩)
  refine wl_nil ?_; refine c_then ?_; refine c_false rfl ?_; refine wp_skip ?_; refine c_then ?_; refine c_seq ?_; refine c_region ?_; refine wl_exv (x_lit (vs := []) hS ti30.und ti5 rfl rfl rfl one_nil (by decide)) rfl ?_; rintro _ w1 ⟨b5, rfl, hS2⟩
  have hS3 := St.toRow (l1 := []) (sz := 1) (n := 0) (cap := 0) hS2 (Nat.le_refl _) (by decide) rfl
  simp only [List.nil_append, Nat.zero_mul, List.take_zero] at hS3
  refine wl_val (r_move (v := .slice _ _ _) rfl) rfl ?_; refine wl_exv (x_append [] hS3 ti30.und ti5 rfl (by decide) rfl rfl (hb.st hS3) (by first | (simp [*]; done) | (simp [*] <;> omega) | omega) (by first | exact one_b8 _ | exact one_v32 _ | (intro c hc; simp only [List.mem_cons, List.not_mem_nil, or_false] at hc; (first | subst hc | rcases hc with rfl | rfl) <;> rfl)) (by omega) (by omega) _ rfl) rfl ?_; rintro _ w4 ⟨aq6, cq6, rfl, hcq6, hS5⟩; simp only [List.cons_append, List.nil_append] at hS5; refine wl_val (r_assign (v := .slice _ _ _) rfl) rfl ?_; refine wl_nil ?_; refine c_then ?_; refine wp_ret ?_; refine ret1 Try.results47 ?_
  first | (obtain rfl := nil_of_none hb (by assumption); exact ⟨none, 0, rfl, Nat.le_refl _, hS5.nilRow⟩) | (rw [Nat.zero_add] at *; exact ⟨_, _, rfl, by assumption, hS5⟩)

theorem grow_ok (n : Nat) (w : World) (hn : n ≤ 140737488355328) :
    Ret Try.prog 52 [.slice none 0 0, vi n] w (fun v w' => ∃ a' c', v = .slice a' 0 c' ∧ St w [] w' [.row (.slice a' 0 c') 5 1 0 []]) := by
  refine enter Try.func52 rfl Try.ntmps52 rfl ?_
  have hS := St.refl w []
  refine c_seq ?_; refine c_region ?_; refine wl_val (r_assign (v := .slice none 0 0) rfl) rfl ?_; refine wl_nil ?_; refine c_then ?_; refine c_seq ?_; refine c_seq ?_; refine c_region ?_; refine wl_val (r_move (v := .int .i64 _) rfl) rfl ?_; refine wl_dec_f (r_lss rfl rfl) rfl (by omega) ?_; refine wl_nil ?_; refine c_then ?_; refine c_false rfl ?_; refine wp_skip ?_; refine c_then ?_; refine c_seq ?_; refine c_seq ?_; refine c_region ?_; refine wl_val (r_move (v := .int .i64 _) rfl) rfl ?_; refine wl_val (r_move (v := .slice _ _ _) rfl) rfl ?_; refine wl_val (r_cap (T := 30) rfl ti30.und rfl _ rfl) rfl ?_; refine wl_val (r_move (v := .slice _ _ _) rfl) rfl ?_; refine wl_val (r_len (T := 30) rfl ti30.und rfl _ rfl) rfl ?_; refine wl_val (r_subn rfl rfl (by omega) (by omega)) rfl ?_; refine wl_val (r_subn rfl rfl (by omega) (by omega)) rfl ?_; refine wl_val (r_assign (v := .int .i64 _) rfl) rfl ?_; refine wl_nil ?_; refine c_then ?_; refine c_seq ?_; refine c_region ?_; refine wl_val (r_move (v := .int .i64 _) rfl) rfl ?_
  refine wl_dec (r_gtr rfl rfl) rfl (fun h4_1 => ?_) (fun h4_1 => ?_)
  · refine wl_nil ?_
    refine c_then ?_; refine c_true rfl ?_; refine c_region ?_; refine wl_val (r_move (v := .slice _ _ _) rfl) rfl ?_; refine wl_val (r_move (v := .slice _ _ _) rfl) rfl ?_; refine wl_val (r_cap (T := 30) rfl ti30.und rfl _ rfl) rfl ?_; refine wl_val (r_sl_h ti30.und ti5 rfl rfl (by omega)) rfl ?_; refine wl_val (r_move (v := .int .i64 _) rfl) rfl ?_; refine wl_exv (x_growNil hS ti30.und ti5 ti3.und rfl (by decide) rfl rfl (by first | omega | (simp [*]; done) | (simp [*] <;> omega)) (by first | omega | (simp [*]; done) | (simp [*] <;> omega)) (by first | omega | (simp [*]; done) | (simp [*] <;> omega)) _ rfl) rfl ?_; rintro _ w1 ⟨aq3, cq3, xq3, rfl, hcq3, hS2⟩; refine wl_val (r_move (v := .slice _ _ _) rfl) rfl ?_; refine wl_val (r_len (T := 30) rfl ti30.und rfl _ rfl) rfl ?_; refine wl_val (r_sl_h ti30.und ti5 rfl rfl (by omega)) rfl ?_
    have hS4 := hS2.rowCut (l1 := []) (h := 0) (Nat.zero_le _)
    simp only [List.cons_append, List.nil_append, Nat.zero_mul, List.take_zero] at hS4
    refine wl_val (r_assign (v := .slice _ _ _) rfl) rfl ?_; refine wl_nil ?_; refine c_then ?_; refine c_seq ?_; refine c_region ?_; refine wl_val (r_move (v := .slice _ _ _) rfl) rfl ?_; refine wl_val (r_assign (v := .slice _ _ _) rfl) rfl ?_; refine wl_nil ?_; refine c_then ?_; refine wp_ret ?_; refine ret1 Try.results52 ?_
    first | exact ⟨_, _, rfl, hS4⟩ | exact ⟨none, 0, rfl, hS4.nilRow⟩
  refine wl_nil ?_; refine c_then ?_; refine c_false rfl ?_; refine wp_skip ?_; refine c_then ?_; refine c_seq ?_; refine c_region ?_; refine wl_val (r_move (v := .slice _ _ _) rfl) rfl ?_; refine wl_val (r_assign (v := .slice _ _ _) rfl) rfl ?_; refine wl_nil ?_; refine c_then ?_; refine wp_ret ?_; refine ret1 Try.results52 ?_
  first | exact ⟨_, _, rfl, hS⟩ | exact ⟨none, 0, rfl, hS.nilRow⟩

theorem concat_ok (ps : List Piece) (a : Option Addr) (c : Nat) (w : World) (hb : Row w a (ps.map Piece.v)) (hr : ∀ q ∈ ps, Row w q.a (q.xs.map b8)) (hl : ps.length ≤ 4611686018427387904) (hn : total ps ≤ 140737488355328) :
    Ret Try.prog 21 [.slice a ps.length c] w (fun v w' => ∃ a' c', v = .slice a' (total ps) c' ∧ St w [] w' [.row (.slice a' (total ps) c') 5 1 (total ps) ((joined ps).map b8)]) := by
  refine enter Try.func21 rfl Try.ntmps21 rfl ?_
  have hS := St.refl w []
  refine c_seq ?_; refine c_region ?_; refine wl_val (r_assign (v := .slice none 0 0) rfl) rfl ?_; refine wl_nil ?_; refine c_then ?_; refine c_seq ?_; refine c_region ?_; refine wl_val (r_assign (v := .int .i64 0) rfl) rfl ?_; refine wl_nil ?_; refine c_then ?_; refine c_seq ?_; refine c_seq ?_; refine c_region ?_; refine wl_val (r_move (v := .slice _ _ _) rfl) rfl ?_; refine wl_val (r_len (T := 90) rfl ti90.und rfl _ rfl) rfl ?_; refine wl_val (r_move (v := .int .i64 0) rfl) rfl ?_; refine wl_nil ?_; refine c_then ?_; refine c_block ?_; refine c_loopE [0, 2, 9, 10] (fun d e w' => ∃ (k : Nat), Kw.look e 11 = vi k ∧ Kw.look e 3 = vi (total (ps.take k)) ∧ d = ps.length - k ∧ St w [] w' [] ∧ (k ≤ ps.length)) (ps.length - 0) ?_ ?_
  · exact ⟨0, rfl, rfl, rfl, hS, Nat.zero_le _⟩
  · rintro d4 e1 w2 ⟨k, hc0_11, hc0_3, rfl, hS3, hI0_0⟩ -
    refine c_set (d := 11) hc0_11 ?_; refine c_set (d := 3) hc0_3 ?_; refine c_seq ?_; refine c_region ?_
    refine wl_dec (r_lss rfl rfl) rfl (fun h3_0 => ?_) (fun h3_0 => ?_)
    · refine wl_nil ?_
      refine c_then ?_; refine c_seq ?_; refine c_true rfl ?_; refine wp_skip ?_; refine c_then ?_; refine c_seq ?_; refine c_block ?_; refine c_seq ?_; refine c_region ?_; refine wl_val (r_ixS ti90.und ti30 rfl rfl (hb.st hS3) (by first | omega | (simp [*]; done) | (simp [*] <;> omega)) (by first | (simp [*]; done) | (simp [*] <;> omega) | omega)) rfl ?_; refine wl_val (r_loadS1 ti30.und rfl rfl (hb.st hS3) (by rw [Nat.mul_one]; exact map_gt _ _ _ (by first | omega | (simp [*]; done) | (simp [*] <;> omega)))) rfl ?_; refine wl_val (r_assign (v := .slice _ _ _) rfl) rfl ?_; refine wl_nil ?_; refine c_then ?_; refine c_seq ?_
      have ht := total_take ps k (by omega)
      have htl := total_le ps (k + 1)
      refine c_region ?_; refine wl_val (r_move (v := .int .i64 _) rfl) rfl ?_; refine wl_val (r_move (v := .slice _ _ _) rfl) rfl ?_; refine wl_val (r_len (T := 30) rfl ti30.und rfl _ rfl) rfl ?_; refine wl_val (r_addn rfl rfl (by omega)) rfl ?_; refine wl_val (r_assign (v := .int .i64 _) rfl) rfl ?_; refine wl_nil ?_; refine c_then ?_; refine c_seq ?_; refine c_region ?_; refine wl_val (r_move (v := .int .i64 _) rfl) rfl ?_; refine wl_dec_f (r_lss rfl rfl) rfl (by omega) ?_; refine wl_nil ?_; refine c_then ?_; refine c_false rfl ?_; refine wp_skip ?_; refine c_inN ?_; refine c_then ?_; refine c_region ?_; refine wl_val (r_addn (b := 1) rfl rfl (by omega)) rfl ?_; refine wl_val (r_move (v := .int .i64 _) rfl) rfl ?_; refine wl_nil ?_; refine c_then ?_
      exact ⟨ps.length - (k + 1), _, by omega, rfl, ⟨k + 1, rfl, congrArg (fun t => Value.int .i64 ((t : Nat) : Int)) ht.symm, rfl, hS3, by omega⟩, ⟨rfl, rfl, rfl, rfl, trivial⟩⟩
    refine wl_nil ?_; refine c_then ?_; refine c_seq ?_; refine c_false rfl ?_; refine wp_exit ?_; refine c_thenE ?_; refine c_thenE ?_; refine c_inE ?_; refine c_then ?_; refine c_seq ?_
    have htl := total_le ps k
    refine c_region ?_; refine wl_val (r_move (v := .int .i64 _) rfl) rfl ?_; refine wl_call (r_call fn52 rfl rfl) rfl (grow_ok _ _ (by first | omega | (simp [*]; done) | (simp [*] <;> omega))) ?_; rintro _ w5 ⟨a24, c24, rfl, hx6⟩
    have hS7 := hS3.call hx6
    simp only [List.cons_append, List.nil_append] at hS7; refine wl_val (r_assign (v := .slice _ _ _) rfl) rfl ?_; refine wl_nil ?_; refine c_then ?_; refine c_seq ?_; refine c_seq ?_; refine c_region ?_; refine wl_val (r_move (v := .slice _ _ _) rfl) rfl ?_; refine wl_val (r_len (T := 90) rfl ti90.und rfl _ rfl) rfl ?_; refine wl_val (r_move (v := .int .i64 0) rfl) rfl ?_; refine wl_nil ?_; refine c_then ?_; refine c_block ?_; refine c_loopE [2, 25, 26] (fun d e w' => ∃ (k : Nat) (a6 : Option Addr) (c6 : Nat), Kw.look e 27 = vi k ∧ Kw.look e 6 = .slice a6 (total (ps.take k)) c6 ∧ d = ps.length - k ∧ St w [] w' [.row (.slice a6 (total (ps.take k)) c6) 5 1 (total (ps.take k)) ((joined (ps.take k)).map b8)] ∧ (k ≤ ps.length)) (ps.length - 0) ?_ ?_
    · exact ⟨0, _, _, rfl, rfl, rfl, hS7, Nat.zero_le _⟩
    · rintro d11 e8 w9 ⟨k, a6, c6, hc1_27, hc1_6, rfl, hS10, hI1_0⟩ -
      refine c_set (d := 27) hc1_27 ?_; refine c_set (d := 6) hc1_6 ?_; refine c_seq ?_; refine c_region ?_
      refine wl_dec (r_lss rfl rfl) rfl (fun h11_0 => ?_) (fun h11_0 => ?_)
      · refine wl_nil ?_
        refine c_then ?_; refine c_seq ?_; refine c_true rfl ?_; refine wp_skip ?_; refine c_then ?_; refine c_seq ?_; refine c_block ?_; refine c_seq ?_; refine c_region ?_; refine wl_val (r_ixS ti90.und ti30 rfl rfl (hb.st hS10) (by first | omega | (simp [*]; done) | (simp [*] <;> omega)) (by first | (simp [*]; done) | (simp [*] <;> omega) | omega)) rfl ?_; refine wl_val (r_loadS1 ti30.und rfl rfl (hb.st hS10) (by rw [Nat.mul_one]; exact map_gt _ _ _ (by first | omega | (simp [*]; done) | (simp [*] <;> omega)))) rfl ?_; refine wl_val (r_assign (v := .slice _ _ _) rfl) rfl ?_; refine wl_nil ?_; refine c_then ?_
        have ht := total_take ps k (by omega)
        have htl := total_le ps (k + 1)
        have hrk := hr (gt ps k) (gt_mem ps k (by omega))
        refine c_region ?_; refine wl_val (r_move (v := .slice _ _ _) rfl) rfl ?_; refine wl_val (r_move (v := .slice _ _ _) rfl) rfl ?_; refine wl_exv (x_append [] hS10 ti30.und ti5 rfl (by decide) rfl rfl (hrk.st hS10) (by first | (simp [*]; done) | (simp [*] <;> omega) | omega) (by first | exact one_b8 _ | exact one_v32 _ | (intro c hc; simp only [List.mem_cons, List.not_mem_nil, or_false] at hc; (first | subst hc | rcases hc with rfl | rfl) <;> rfl)) (by first | omega | (simp [*]; done) | (simp [*] <;> omega)) (by first | omega | (simp [*]; done) | (simp [*] <;> omega)) _ rfl) rfl ?_; rintro _ w12 ⟨aq14, cq14, rfl, hcq14, hS13⟩; simp only [List.cons_append, List.nil_append] at hS13; refine wl_val (r_assign (v := .slice _ _ _) rfl) rfl ?_; refine wl_nil ?_; refine c_inN ?_; refine c_then ?_; refine c_region ?_; refine wl_val (r_addn (b := 1) rfl rfl (by omega)) rfl ?_; refine wl_val (r_move (v := .int .i64 _) rfl) rfl ?_; refine wl_nil ?_; refine c_then ?_
        refine ⟨ps.length - (k + 1), _, by omega, rfl, ⟨k + 1, _, _, rfl, (by rw [ht]; rfl), rfl, ?_, by omega⟩, ⟨rfl, rfl, rfl, trivial⟩⟩
        rw [ht, joined_take ps k (by omega), List.map_append]
        exact hS13
      refine wl_nil ?_; refine c_then ?_; refine c_seq ?_; refine c_false rfl ?_; refine wp_exit ?_; refine c_thenE ?_; refine c_thenE ?_; refine c_inE ?_; refine c_then ?_; refine c_seq ?_; refine c_region ?_; refine wl_val (r_move (v := .slice _ _ _) rfl) rfl ?_; refine wl_val (r_assign (v := .slice _ _ _) rfl) rfl ?_; refine wl_nil ?_; refine c_then ?_; refine wp_ret ?_; refine ret1 Try.results21 ?_
      obtain rfl : k = ps.length := by omega
      simp only [List.take_length] at *
      exact ⟨_, _, rfl, hS10⟩

theorem concat2_ok (x y : List UInt8) (a1 a2 a : Option Addr) (c1 c2 c : Nat) (w : World) (hb : Row w a [.slice a1 x.length c1, .slice a2 y.length c2]) (h1 : Row w a1 (x.map b8)) (h2 : Row w a2 (y.map b8)) (hn : x.length + y.length ≤ 140737488355328) :
    Ret Try.prog 21 [.slice a 2 c] w (fun v w' => ∃ a' c', v = .slice a' (x ++ y).length c' ∧ (x ++ y).length ≤ c' ∧ St w [] w' [.row (.slice a' (x ++ y).length c') 5 1 (x ++ y).length ((x ++ y).map b8)]) := by
  have e : total [⟨a1, c1, x⟩, ⟨a2, c2, y⟩] = (x ++ y).length := by simp [total]
  have e2 : joined [⟨a1, c1, x⟩, ⟨a2, c2, y⟩] = x ++ y := by simp [joined]
  have h := concat_ok [⟨a1, c1, x⟩, ⟨a2, c2, y⟩] a c w hb (by intro q hq; simp only [List.mem_cons, List.not_mem_nil, or_false] at hq; rcases hq with rfl | rfl <;> first | exact h1 | exact h2) (by simp) (by rw [e]; simpa using hn)
  refine h.mono ?_
  rw [e, e2]
  rintro v w' ⟨a', c', hv, hS⟩
  exact ⟨a', c', hv, (St.rowLen hS (.head _)).1, hS⟩

theorem putNumber_ok (l : List UInt8) (a : Option Addr) (c : Nat) (x : UInt32) (w : World) (hb : Row w a (l.map b8)) (hn : l.length ≤ 140737488351232) :
    Ret Try.prog 26 [.slice a l.length c, v32 x] w (fun v w' => ∃ a' c', v = .slice a' (l ++ octs x).length c' ∧ (l ++ octs x).length ≤ c' ∧ St w [] w' [.row (.slice a' (l ++ octs x).length c') 5 1 (l ++ octs x).length ((l ++ octs x).map b8)]) := by
  refine enter Try.func26 rfl Try.ntmps26 rfl ?_
  have hS := St.refl w []
  refine c_seq ?_; refine c_region ?_; refine wl_val (r_assign (v := .slice none 0 0) rfl) rfl ?_; refine wl_nil ?_; refine c_then ?_; refine c_seq ?_; refine c_region ?_; refine wl_val (r_move (v := .int .u32 _) rfl) rfl ?_; refine wl_call (r_call fn58 rfl rfl) rfl (octets_ok _ _) ?_; rintro _ w1 ⟨rfl, hx2⟩
  have hS3 := hS.ext hx2
  refine wl_exv (x_alloc (C := ((List.replicate 4 (0 : UInt8)).map b8)) hS3 ti97 rfl) rfl ?_; rintro _ w4 ⟨b5, rfl, hS5⟩; refine wl_exs (x_storeW [] hS5 ti97 rfl rfl (by first | (simp [*]; done) | (simp [*] <;> omega) | omega) (by first | (simp [*]; done) | (simp [*] <;> omega) | omega) (by repeat' first | exact one_nil | exact one_b8 _ | exact one_v32 _ | exact one_all rfl | refine one_cons rfl ?_ | refine one_app ?_ ?_)) rfl ?_; intro w6 hS7; simp only [List.cons_append, List.nil_append] at hS7; refine wl_nil ?_; refine c_then ?_; refine c_seq ?_; refine c_region ?_; refine wl_val (r_move (v := .slice _ _ _) rfl) rfl ?_; refine wl_val (r_sa1_0 ti97.und ti5 rfl ) rfl ?_; refine wl_exv (x_lit (vs := [.slice _ _ _, .slice _ _ _]) hS7 ti90.und ti30 rfl rfl rfl (by intro c hc; simp only [List.mem_cons, List.not_mem_nil, or_false] at hc; rcases hc with rfl | rfl <;> rfl) (by decide)) rfl ?_; rintro _ w8 ⟨b10, rfl, hS9⟩; refine wl_call (r_call fn21 rfl rfl) rfl (concat2_ok l (octs x) _ _ _ _ _ _ _ (Row.of_at (at_all (hS9.heap (.head _)))) (hb.st hS9) (Row.of_at (at_all (hS9.heap (.tail _ (.head _))))) (by simp; omega)) ?_; rintro _ w10 ⟨a11, c11, rfl, hc11, hx11⟩
  have hS12 := hS9.call hx11
  simp only [List.cons_append, List.nil_append] at hS12; refine wl_val (r_assign (v := .slice _ _ _) rfl) rfl ?_; refine wl_nil ?_; refine c_then ?_; refine wp_ret ?_; refine ret1 Try.results26 ?_
  exact ⟨_, _, rfl, hc11, hS12.sub (by simp)⟩

theorem putLong_ok (l : List UInt8) (a : Option Addr) (c : Nat) (x : Int) (w : World) (hb : Row w a (l.map b8)) (hn : l.length ≤ 140737488351232) :
    Ret Try.prog 27 [.slice a l.length c, .int .i64 x] w (fun v w' => ∃ a' c', v = .slice a' (l ++ octs8 (UInt64.ofNat (putN x))).length c' ∧ (l ++ octs8 (UInt64.ofNat (putN x))).length ≤ c' ∧ St w [] w' [.row (.slice a' (l ++ octs8 (UInt64.ofNat (putN x))).length c') 5 1 (l ++ octs8 (UInt64.ofNat (putN x))).length ((l ++ octs8 (UInt64.ofNat (putN x))).map b8)]) := by
  refine enter Try.func27 rfl Try.ntmps27 rfl ?_
  have hS := St.refl w []
  refine c_seq ?_; refine c_region ?_; refine wl_val (r_assign (v := .slice none 0 0) rfl) rfl ?_; refine wl_nil ?_; refine c_then ?_; refine c_seq ?_; refine c_seq ?_; refine c_region ?_; refine wl_val (r_move (v := .int .i64 _) rfl) rfl ?_
  refine wl_dec (r_lss rfl rfl) rfl (fun h1_1 => ?_) (fun h1_1 => ?_)
  · refine wl_val (r_move (v := .bool _) rfl) rfl ?_
    refine wl_not rfl ?_; refine wl_not rfl ?_; refine wl_val (r_pick_t rfl (v := .bool true) rfl) rfl ?_; refine wl_nil ?_; refine c_then ?_; refine c_true rfl ?_; refine c_region ?_; refine wl_val (r_assign (v := .int .i64 0) rfl) rfl ?_; refine wl_nil ?_; refine c_then ?_; refine c_seq ?_
    have hpn : ((putN x : Nat) : Int) = 0 := by rw [putN_out (by omega)]; rfl
    have hpl := putN_le x
    refine c_set (d := 1) (v := vi (putN x)) (congrArg (Value.int .i64) hpn.symm) ?_; refine c_region ?_; refine wl_val (r_move (v := .int .i64 _) rfl) rfl ?_; refine wl_val (c_i64_u64 ti101.und ⟨_, ti3.und⟩ rfl (by omega)) rfl ?_; refine wl_call (r_call fn59 rfl rfl) rfl (longOctets_ok _ _) ?_; rintro _ w1 ⟨rfl, hx2⟩
    have hS3 := hS.ext hx2
    refine wl_exv (x_alloc (C := ((List.replicate 8 (0 : UInt8)).map b8)) hS3 ti99 rfl) rfl ?_; rintro _ w4 ⟨b5, rfl, hS5⟩; refine wl_exs (x_storeW [] hS5 ti99 rfl rfl (by first | (simp [*]; done) | (simp [*] <;> omega) | omega) (by first | (simp [*]; done) | (simp [*] <;> omega) | omega) (by repeat' first | exact one_nil | exact one_b8 _ | exact one_v32 _ | exact one_all rfl | refine one_cons rfl ?_ | refine one_app ?_ ?_)) rfl ?_; intro w6 hS7; simp only [List.cons_append, List.nil_append] at hS7; refine wl_nil ?_; refine c_then ?_; refine c_seq ?_; refine c_region ?_; refine wl_val (r_move (v := .slice _ _ _) rfl) rfl ?_; refine wl_val (r_sa1_0 ti99.und ti5 rfl ) rfl ?_; refine wl_exv (x_lit (vs := [.slice _ _ _, .slice _ _ _]) hS7 ti90.und ti30 rfl rfl rfl (by intro c hc; simp only [List.mem_cons, List.not_mem_nil, or_false] at hc; rcases hc with rfl | rfl <;> rfl) (by decide)) rfl ?_; rintro _ w8 ⟨b17, rfl, hS9⟩; refine wl_call (r_call fn21 rfl rfl) rfl (concat2_ok l (octs8 (UInt64.ofNat (putN x))) _ _ _ _ _ _ _ (Row.of_at (at_all (hS9.heap (.head _)))) (hb.st hS9) (Row.of_at (at_all (hS9.heap (.tail _ (.head _))))) (by simp; omega)) ?_; rintro _ w10 ⟨a18, c18, rfl, hc18, hx11⟩
    have hS12 := hS9.call hx11
    simp only [List.cons_append, List.nil_append] at hS12; refine wl_val (r_assign (v := .slice _ _ _) rfl) rfl ?_; refine wl_nil ?_; refine c_then ?_; refine wp_ret ?_; refine ret1 Try.results27 ?_
    exact ⟨_, _, rfl, hc18, hS12.sub (by simp)⟩
  refine wl_val (r_move (v := .bool _) rfl) rfl ?_; refine wl_val (r_move (v := .int .i64 _) rfl) rfl ?_
  refine wl_dec (r_gtr rfl rfl) rfl (fun h1_4 => ?_) (fun h1_4 => ?_)
  · refine wl_val (r_pick_f rfl (v := .bool _) rfl) rfl ?_
    refine wl_nil ?_; refine c_then ?_; refine c_true rfl ?_; refine c_region ?_; refine wl_val (r_assign (v := .int .i64 0) rfl) rfl ?_; refine wl_nil ?_; refine c_then ?_; refine c_seq ?_
    have hpn : ((putN x : Nat) : Int) = 0 := by rw [putN_out (by omega)]; rfl
    have hpl := putN_le x
    refine c_set (d := 1) (v := vi (putN x)) (congrArg (Value.int .i64) hpn.symm) ?_; refine c_region ?_; refine wl_val (r_move (v := .int .i64 _) rfl) rfl ?_; refine wl_val (c_i64_u64 ti101.und ⟨_, ti3.und⟩ rfl (by omega)) rfl ?_; refine wl_call (r_call fn59 rfl rfl) rfl (longOctets_ok _ _) ?_; rintro _ w13 ⟨rfl, hx14⟩
    have hS15 := hS.ext hx14
    refine wl_exv (x_alloc (C := ((List.replicate 8 (0 : UInt8)).map b8)) hS15 ti99 rfl) rfl ?_; rintro _ w16 ⟨b5, rfl, hS17⟩; refine wl_exs (x_storeW [] hS17 ti99 rfl rfl (by first | (simp [*]; done) | (simp [*] <;> omega) | omega) (by first | (simp [*]; done) | (simp [*] <;> omega) | omega) (by repeat' first | exact one_nil | exact one_b8 _ | exact one_v32 _ | exact one_all rfl | refine one_cons rfl ?_ | refine one_app ?_ ?_)) rfl ?_; intro w18 hS19; simp only [List.cons_append, List.nil_append] at hS19; refine wl_nil ?_; refine c_then ?_; refine c_seq ?_; refine c_region ?_; refine wl_val (r_move (v := .slice _ _ _) rfl) rfl ?_; refine wl_val (r_sa1_0 ti99.und ti5 rfl ) rfl ?_; refine wl_exv (x_lit (vs := [.slice _ _ _, .slice _ _ _]) hS19 ti90.und ti30 rfl rfl rfl (by intro c hc; simp only [List.mem_cons, List.not_mem_nil, or_false] at hc; rcases hc with rfl | rfl <;> rfl) (by decide)) rfl ?_; rintro _ w20 ⟨b17, rfl, hS21⟩; refine wl_call (r_call fn21 rfl rfl) rfl (concat2_ok l (octs8 (UInt64.ofNat (putN x))) _ _ _ _ _ _ _ (Row.of_at (at_all (hS21.heap (.head _)))) (hb.st hS21) (Row.of_at (at_all (hS21.heap (.tail _ (.head _))))) (by simp; omega)) ?_; rintro _ w22 ⟨a18, c18, rfl, hc18, hx23⟩
    have hS24 := hS21.call hx23
    simp only [List.cons_append, List.nil_append] at hS24; refine wl_val (r_assign (v := .slice _ _ _) rfl) rfl ?_; refine wl_nil ?_; refine c_then ?_; refine wp_ret ?_; refine ret1 Try.results27 ?_
    exact ⟨_, _, rfl, hc18, hS24.sub (by simp)⟩
  refine wl_val (r_pick_f rfl (v := .bool _) rfl) rfl ?_; refine wl_nil ?_; refine c_then ?_; refine c_false rfl ?_; refine wp_skip ?_; refine c_then ?_; refine c_seq ?_
  have hpn : ((putN x : Nat) : Int) = x := putN_in (by omega) (by omega)
  have hpl := putN_le x
  refine c_set (d := 1) (v := vi (putN x)) (congrArg (Value.int .i64) hpn.symm) ?_; refine c_region ?_; refine wl_val (r_move (v := .int .i64 _) rfl) rfl ?_; refine wl_val (c_i64_u64 ti101.und ⟨_, ti3.und⟩ rfl (by omega)) rfl ?_; refine wl_call (r_call fn59 rfl rfl) rfl (longOctets_ok _ _) ?_; rintro _ w25 ⟨rfl, hx26⟩
  have hS27 := hS.ext hx26
  refine wl_exv (x_alloc (C := ((List.replicate 8 (0 : UInt8)).map b8)) hS27 ti99 rfl) rfl ?_; rintro _ w28 ⟨b5, rfl, hS29⟩; refine wl_exs (x_storeW [] hS29 ti99 rfl rfl (by first | (simp [*]; done) | (simp [*] <;> omega) | omega) (by first | (simp [*]; done) | (simp [*] <;> omega) | omega) (by repeat' first | exact one_nil | exact one_b8 _ | exact one_v32 _ | exact one_all rfl | refine one_cons rfl ?_ | refine one_app ?_ ?_)) rfl ?_; intro w30 hS31; simp only [List.cons_append, List.nil_append] at hS31; refine wl_nil ?_; refine c_then ?_; refine c_seq ?_; refine c_region ?_; refine wl_val (r_move (v := .slice _ _ _) rfl) rfl ?_; refine wl_val (r_sa1_0 ti99.und ti5 rfl ) rfl ?_; refine wl_exv (x_lit (vs := [.slice _ _ _, .slice _ _ _]) hS31 ti90.und ti30 rfl rfl rfl (by intro c hc; simp only [List.mem_cons, List.not_mem_nil, or_false] at hc; rcases hc with rfl | rfl <;> rfl) (by decide)) rfl ?_; rintro _ w32 ⟨b17, rfl, hS33⟩; refine wl_call (r_call fn21 rfl rfl) rfl (concat2_ok l (octs8 (UInt64.ofNat (putN x))) _ _ _ _ _ _ _ (Row.of_at (at_all (hS33.heap (.head _)))) (hb.st hS33) (Row.of_at (at_all (hS33.heap (.tail _ (.head _))))) (by simp; omega)) ?_; rintro _ w34 ⟨a18, c18, rfl, hc18, hx35⟩
  have hS36 := hS33.call hx35
  simp only [List.cons_append, List.nil_append] at hS36; refine wl_val (r_assign (v := .slice _ _ _) rfl) rfl ?_; refine wl_nil ?_; refine c_then ?_; refine wp_ret ?_; refine ret1 Try.results27 ?_
  exact ⟨_, _, rfl, hc18, hS36.sub (by simp)⟩

end Go.Proofs.Ytbanoknkplcedaa
