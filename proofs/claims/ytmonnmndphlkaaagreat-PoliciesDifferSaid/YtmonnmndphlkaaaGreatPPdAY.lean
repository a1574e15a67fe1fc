/- What the law's proof leans on. No condition. -/
import Derived.Test.YtmonnmndphlkaaaGreatPPdAH
import Derived.Test.YtmonnmndphlkaaaGreatPPdAW
import Derived.Test.YtmonnmndphlkaaaGreatPPdAL
import Derived.Test.YtmonnmndphlkaaaGreatPPdAX
import Derived.Test.YtmonnmndphlkaaaGreatPPdAI
import Derived.Test.YtmonnmndphlkaaaGreatPPdAK
namespace Go.Proofs.YtmonnmndphlkaaaGreat
open Go.Kw
set_option linter.unusedVariables false
set_option linter.unusedSimpArgs false
set_option maxRecDepth 100000
theorem contains_ret (l : List UInt8) (w : World) : Ret Tryz.prog 62 [.string ⟨l.toArray⟩, .func (.func 63) #[] #[]] w (fun v w' => v = .bool (!(l.all nameB)) ∧ St w [] w' []) :=
  Calls.mono (contains_func ⟨l.toArray⟩ w) fun e w' ⟨he, hb⟩ => ⟨_, he, by rw [badIn], St.of_below hb⟩

theorem isName_ok (l : List UInt8) (w : World) (hl : l.length ≤ 9223372036854775807) :
    Ret Tryz.prog 124 [.string ⟨l.toArray⟩] w (fun v w' => v = .bool (nameE l) ∧ St w [] w' []) := by
  refine enter Tryz.func124 rfl Tryz.ntmps124 rfl ?_
  have hS := St.refl w []
  refine c_seq ?_; refine c_region ?_; refine wl_val (r_assign (v := .bool false) rfl) rfl ?_; refine wl_nil ?_; refine c_then ?_; refine c_seq ?_; refine c_seq ?_; refine c_region ?_; refine wl_val (r_assign (v := .int .i64 0) rfl) rfl ?_; refine wl_nil ?_; refine c_then ?_; refine c_block ?_; refine c_loopE [0] (fun d e w' => ∃ (k : Nat), Kw.look e 3 = vi k ∧ d = l.length - k ∧ St w [] w' [] ∧ (k ≤ l.length) ∧ ((l.take k).all nameB = true)) (l.length - 0) ?_ ?_
  · exact ⟨0, rfl, rfl, hS, by omega, rfl⟩
  · rintro d4 e1 w2 ⟨k, hc0_3, rfl, hS3, hk, hall⟩ -
    refine c_set (d := 3) hc0_3 ?_; refine c_seq ?_; refine c_seq ?_; refine c_region ?_; refine wl_val (r_move (v := .int .i64 _) rfl) rfl ?_; refine wl_val (r_move (v := .string _) rfl) rfl ?_; refine wl_val (r_lenStrL (T := 9) rfl ti9.und rfl _ rfl) rfl ?_
    refine wl_dec (r_lss rfl rfl) rfl (fun h2_3 => ?_) (fun h2_3 => ?_)
    · refine wl_nil ?_
      refine c_then ?_; refine c_true rfl ?_; refine wp_skip ?_; refine c_then ?_; refine c_seq ?_; refine c_block ?_; refine c_seq ?_; refine c_region ?_; refine wl_val (r_move (v := .string _) rfl) rfl ?_; refine wl_val (r_move (v := .int .i64 _) rfl) rfl ?_; refine wl_val (r_indexStr (s := ⟨l.toArray⟩) ti9.und rfl rfl (get_gt l _ (by first | omega | (simp [*]; done) | (simp [*] <;> omega)))) rfl ?_; refine wl_val (r_assign (v := .int .u8 _) rfl) rfl ?_; refine wl_nil ?_; refine c_then ?_; refine c_seq ?_; refine c_region ?_; refine wl_val (r_move (v := .int .u8 _) rfl) rfl ?_
      refine wl_dec (r_geq rfl rfl) rfl (fun h5_1 => ?_) (fun h5_1 => ?_)
      · refine wl_val (r_move (v := .bool _) rfl) rfl ?_
        refine wl_val (r_move (v := .int .u8 _) rfl) rfl ?_
        refine wl_dec (r_leq rfl rfl) rfl (fun h5_4 => ?_) (fun h5_4 => ?_)
        · refine wl_val (r_pick_t rfl (v := .bool _) rfl) rfl ?_
          refine wl_val (r_move (v := .bool _) rfl) rfl ?_; refine wl_not rfl ?_; refine wl_not rfl ?_; refine wl_not rfl ?_; refine wl_not rfl ?_; refine wl_not rfl ?_; refine wl_not rfl ?_; refine wl_val (r_pick_t rfl (v := .bool true) rfl) rfl ?_; refine wl_val (r_move (v := .bool _) rfl) rfl ?_; refine wl_not rfl ?_; refine wl_not rfl ?_; refine wl_val (r_pick_t rfl (v := .bool true) rfl) rfl ?_; refine wl_val (r_move (v := .bool _) rfl) rfl ?_; refine wl_not rfl ?_; refine wl_not rfl ?_; refine wl_val (r_pick_t rfl (v := .bool true) rfl) rfl ?_; refine wl_val (r_move (v := .bool _) rfl) rfl ?_; refine wl_not rfl ?_; refine wl_not rfl ?_; refine wl_val (r_pick_t rfl (v := .bool true) rfl) rfl ?_; refine wl_val (r_not rfl) rfl ?_; refine wl_nil ?_; refine c_then ?_; refine c_false rfl ?_; refine wp_skip ?_; refine c_inN ?_; refine c_then ?_; refine c_region ?_; refine wl_val (r_move (v := .int .i64 _) rfl) rfl ?_; refine wl_val (r_addn (b := 1) rfl rfl (by omega)) rfl ?_; refine wl_val (r_assign (v := .int .i64 _) rfl) rfl ?_; refine wl_nil ?_; refine c_then ?_
          exact ⟨l.length - (k + 1), _, by omega, rfl, ⟨k + 1, rfl, rfl, hS3, by omega, take_all_step (by omega) hall (nameB_t (by omega))⟩, ⟨rfl, trivial⟩⟩
        refine wl_val (r_pick_t rfl (v := .bool _) rfl) rfl ?_; refine wl_val (r_move (v := .bool _) rfl) rfl ?_; refine wl_val (r_move (v := .int .u8 _) rfl) rfl ?_
        refine wl_dec (r_geq rfl rfl) rfl (fun h5_8 => ?_) (fun h5_8 => ?_)
        · refine wl_val (r_move (v := .bool _) rfl) rfl ?_
          refine wl_val (r_move (v := .int .u8 _) rfl) rfl ?_
          refine wl_dec (r_leq rfl rfl) rfl (fun h5_11 => ?_) (fun h5_11 => ?_)
          · refine wl_val (r_pick_t rfl (v := .bool _) rfl) rfl ?_
            refine wl_val (r_pick_f rfl (v := .bool _) rfl) rfl ?_; refine wl_val (r_move (v := .bool _) rfl) rfl ?_; refine wl_not rfl ?_; refine wl_not rfl ?_; refine wl_val (r_pick_t rfl (v := .bool true) rfl) rfl ?_; refine wl_val (r_move (v := .bool _) rfl) rfl ?_; refine wl_not rfl ?_; refine wl_not rfl ?_; refine wl_val (r_pick_t rfl (v := .bool true) rfl) rfl ?_; refine wl_val (r_move (v := .bool _) rfl) rfl ?_; refine wl_not rfl ?_; refine wl_not rfl ?_; refine wl_val (r_pick_t rfl (v := .bool true) rfl) rfl ?_; refine wl_val (r_not rfl) rfl ?_; refine wl_nil ?_; refine c_then ?_; refine c_false rfl ?_; refine wp_skip ?_; refine c_inN ?_; refine c_then ?_; refine c_region ?_; refine wl_val (r_move (v := .int .i64 _) rfl) rfl ?_; refine wl_val (r_addn (b := 1) rfl rfl (by omega)) rfl ?_; refine wl_val (r_assign (v := .int .i64 _) rfl) rfl ?_; refine wl_nil ?_; refine c_then ?_
            exact ⟨l.length - (k + 1), _, by omega, rfl, ⟨k + 1, rfl, rfl, hS3, by omega, take_all_step (by omega) hall (nameB_t (by omega))⟩, ⟨rfl, trivial⟩⟩
          refine wl_val (r_pick_t rfl (v := .bool _) rfl) rfl ?_; refine wl_val (r_pick_f rfl (v := .bool _) rfl) rfl ?_; refine wl_val (r_move (v := .bool _) rfl) rfl ?_; refine wl_val (r_move (v := .int .u8 _) rfl) rfl ?_
          refine wl_dec (r_eql rfl rfl) rfl (fun h5_16 => ?_) (fun h5_16 => ?_)
          · refine wl_val (r_pick_f rfl (v := .bool _) rfl) rfl ?_
            refine wl_val (r_move (v := .bool _) rfl) rfl ?_; refine wl_not rfl ?_; refine wl_not rfl ?_; refine wl_val (r_pick_t rfl (v := .bool true) rfl) rfl ?_; refine wl_val (r_move (v := .bool _) rfl) rfl ?_; refine wl_not rfl ?_; refine wl_not rfl ?_; refine wl_val (r_pick_t rfl (v := .bool true) rfl) rfl ?_; refine wl_val (r_not rfl) rfl ?_; refine wl_nil ?_; refine c_then ?_; refine c_false rfl ?_; refine wp_skip ?_; refine c_inN ?_; refine c_then ?_; refine c_region ?_; refine wl_val (r_move (v := .int .i64 _) rfl) rfl ?_; refine wl_val (r_addn (b := 1) rfl rfl (by omega)) rfl ?_; refine wl_val (r_assign (v := .int .i64 _) rfl) rfl ?_; refine wl_nil ?_; refine c_then ?_
            exact ⟨l.length - (k + 1), _, by omega, rfl, ⟨k + 1, rfl, rfl, hS3, by omega, take_all_step (by omega) hall (nameB_t (by omega))⟩, ⟨rfl, trivial⟩⟩
          refine wl_val (r_pick_f rfl (v := .bool _) rfl) rfl ?_; refine wl_val (r_move (v := .bool _) rfl) rfl ?_; refine wl_val (r_move (v := .int .u8 _) rfl) rfl ?_
          refine wl_dec (r_eql rfl rfl) rfl (fun h5_20 => ?_) (fun h5_20 => ?_)
          · refine wl_val (r_pick_f rfl (v := .bool _) rfl) rfl ?_
            refine wl_val (r_move (v := .bool _) rfl) rfl ?_; refine wl_not rfl ?_; refine wl_not rfl ?_; refine wl_val (r_pick_t rfl (v := .bool true) rfl) rfl ?_; refine wl_val (r_not rfl) rfl ?_; refine wl_nil ?_; refine c_then ?_; refine c_false rfl ?_; refine wp_skip ?_; refine c_inN ?_; refine c_then ?_; refine c_region ?_; refine wl_val (r_move (v := .int .i64 _) rfl) rfl ?_; refine wl_val (r_addn (b := 1) rfl rfl (by omega)) rfl ?_; refine wl_val (r_assign (v := .int .i64 _) rfl) rfl ?_; refine wl_nil ?_; refine c_then ?_
            exact ⟨l.length - (k + 1), _, by omega, rfl, ⟨k + 1, rfl, rfl, hS3, by omega, take_all_step (by omega) hall (nameB_t (by omega))⟩, ⟨rfl, trivial⟩⟩
          refine wl_val (r_pick_f rfl (v := .bool _) rfl) rfl ?_; refine wl_val (r_move (v := .bool _) rfl) rfl ?_; refine wl_val (r_move (v := .int .u8 _) rfl) rfl ?_
          refine wl_dec (r_eql rfl rfl) rfl (fun h5_24 => ?_) (fun h5_24 => ?_)
          · refine wl_val (r_pick_f rfl (v := .bool _) rfl) rfl ?_
            refine wl_val (r_not rfl) rfl ?_; refine wl_nil ?_; refine c_then ?_; refine c_false rfl ?_; refine wp_skip ?_; refine c_inN ?_; refine c_then ?_; refine c_region ?_; refine wl_val (r_move (v := .int .i64 _) rfl) rfl ?_; refine wl_val (r_addn (b := 1) rfl rfl (by omega)) rfl ?_; refine wl_val (r_assign (v := .int .i64 _) rfl) rfl ?_; refine wl_nil ?_; refine c_then ?_
            exact ⟨l.length - (k + 1), _, by omega, rfl, ⟨k + 1, rfl, rfl, hS3, by omega, take_all_step (by omega) hall (nameB_t (by omega))⟩, ⟨rfl, trivial⟩⟩
          refine wl_val (r_pick_f rfl (v := .bool _) rfl) rfl ?_; refine wl_val (r_not rfl) rfl ?_; refine wl_nil ?_; refine c_then ?_; refine c_true rfl ?_; refine c_seq ?_; refine c_region ?_; refine wl_val (r_assign (v := .bool false) rfl) rfl ?_; refine wl_nil ?_; refine c_then ?_; refine wp_ret ?_; refine c_inR ?_; refine c_thenR ?_; refine c_thenR ?_; refine c_inR ?_; refine c_thenR ?_; refine ret1 Tryz.results124 ?_
          exact ⟨congrArg Value.bool (nameE_f (n := k) (by omega) (nameB_f (by omega))).symm, hS3.fin⟩
        refine wl_val (r_move (v := .bool _) rfl) rfl ?_; refine wl_not rfl ?_; refine wl_not rfl ?_; refine wl_val (r_pick_f rfl (v := .bool false) rfl) rfl ?_; refine wl_val (r_pick_f rfl (v := .bool _) rfl) rfl ?_; refine wl_val (r_move (v := .bool _) rfl) rfl ?_; refine wl_val (r_move (v := .int .u8 _) rfl) rfl ?_
        refine wl_dec (r_eql rfl rfl) rfl (fun h5_16 => ?_) (fun h5_16 => ?_)
        · refine wl_val (r_pick_f rfl (v := .bool _) rfl) rfl ?_
          refine wl_val (r_move (v := .bool _) rfl) rfl ?_; refine wl_not rfl ?_; refine wl_not rfl ?_; refine wl_val (r_pick_t rfl (v := .bool true) rfl) rfl ?_; refine wl_val (r_move (v := .bool _) rfl) rfl ?_; refine wl_not rfl ?_; refine wl_not rfl ?_; refine wl_val (r_pick_t rfl (v := .bool true) rfl) rfl ?_; refine wl_val (r_not rfl) rfl ?_; refine wl_nil ?_; refine c_then ?_; refine c_false rfl ?_; refine wp_skip ?_; refine c_inN ?_; refine c_then ?_; refine c_region ?_; refine wl_val (r_move (v := .int .i64 _) rfl) rfl ?_; refine wl_val (r_addn (b := 1) rfl rfl (by omega)) rfl ?_; refine wl_val (r_assign (v := .int .i64 _) rfl) rfl ?_; refine wl_nil ?_; refine c_then ?_
          exact ⟨l.length - (k + 1), _, by omega, rfl, ⟨k + 1, rfl, rfl, hS3, by omega, take_all_step (by omega) hall (nameB_t (by omega))⟩, ⟨rfl, trivial⟩⟩
        refine wl_val (r_pick_f rfl (v := .bool _) rfl) rfl ?_; refine wl_val (r_move (v := .bool _) rfl) rfl ?_; refine wl_val (r_move (v := .int .u8 _) rfl) rfl ?_
        refine wl_dec (r_eql rfl rfl) rfl (fun h5_20 => ?_) (fun h5_20 => ?_)
        · refine wl_val (r_pick_f rfl (v := .bool _) rfl) rfl ?_
          refine wl_val (r_move (v := .bool _) rfl) rfl ?_; refine wl_not rfl ?_; refine wl_not rfl ?_; refine wl_val (r_pick_t rfl (v := .bool true) rfl) rfl ?_; refine wl_val (r_not rfl) rfl ?_; refine wl_nil ?_; refine c_then ?_; refine c_false rfl ?_; refine wp_skip ?_; refine c_inN ?_; refine c_then ?_; refine c_region ?_; refine wl_val (r_move (v := .int .i64 _) rfl) rfl ?_; refine wl_val (r_addn (b := 1) rfl rfl (by omega)) rfl ?_; refine wl_val (r_assign (v := .int .i64 _) rfl) rfl ?_; refine wl_nil ?_; refine c_then ?_
          exact ⟨l.length - (k + 1), _, by omega, rfl, ⟨k + 1, rfl, rfl, hS3, by omega, take_all_step (by omega) hall (nameB_t (by omega))⟩, ⟨rfl, trivial⟩⟩
        refine wl_val (r_pick_f rfl (v := .bool _) rfl) rfl ?_; refine wl_val (r_move (v := .bool _) rfl) rfl ?_; refine wl_val (r_move (v := .int .u8 _) rfl) rfl ?_
        refine wl_dec (r_eql rfl rfl) rfl (fun h5_24 => ?_) (fun h5_24 => ?_)
        · refine wl_val (r_pick_f rfl (v := .bool _) rfl) rfl ?_
          refine wl_val (r_not rfl) rfl ?_; refine wl_nil ?_; refine c_then ?_; refine c_false rfl ?_; refine wp_skip ?_; refine c_inN ?_; refine c_then ?_; refine c_region ?_; refine wl_val (r_move (v := .int .i64 _) rfl) rfl ?_; refine wl_val (r_addn (b := 1) rfl rfl (by omega)) rfl ?_; refine wl_val (r_assign (v := .int .i64 _) rfl) rfl ?_; refine wl_nil ?_; refine c_then ?_
          exact ⟨l.length - (k + 1), _, by omega, rfl, ⟨k + 1, rfl, rfl, hS3, by omega, take_all_step (by omega) hall (nameB_t (by omega))⟩, ⟨rfl, trivial⟩⟩
        refine wl_val (r_pick_f rfl (v := .bool _) rfl) rfl ?_; refine wl_val (r_not rfl) rfl ?_; refine wl_nil ?_; refine c_then ?_; refine c_true rfl ?_; refine c_seq ?_; refine c_region ?_; refine wl_val (r_assign (v := .bool false) rfl) rfl ?_; refine wl_nil ?_; refine c_then ?_; refine wp_ret ?_; refine c_inR ?_; refine c_thenR ?_; refine c_thenR ?_; refine c_inR ?_; refine c_thenR ?_; refine ret1 Tryz.results124 ?_
        exact ⟨congrArg Value.bool (nameE_f (n := k) (by omega) (nameB_f (by omega))).symm, hS3.fin⟩
      refine wl_val (r_move (v := .bool _) rfl) rfl ?_; refine wl_not rfl ?_; refine wl_not rfl ?_; refine wl_val (r_pick_f rfl (v := .bool false) rfl) rfl ?_; refine wl_val (r_move (v := .bool _) rfl) rfl ?_; refine wl_val (r_move (v := .int .u8 _) rfl) rfl ?_
      refine wl_dec (r_geq rfl rfl) rfl (fun h5_8 => ?_) (fun h5_8 => ?_)
      · refine wl_val (r_move (v := .bool _) rfl) rfl ?_
        refine wl_val (r_move (v := .int .u8 _) rfl) rfl ?_
        refine wl_dec (r_leq rfl rfl) rfl (fun h5_11 => ?_) (fun h5_11 => ?_)
        · refine wl_val (r_pick_t rfl (v := .bool _) rfl) rfl ?_
          refine wl_val (r_pick_f rfl (v := .bool _) rfl) rfl ?_; refine wl_val (r_move (v := .bool _) rfl) rfl ?_; refine wl_not rfl ?_; refine wl_not rfl ?_; refine wl_val (r_pick_t rfl (v := .bool true) rfl) rfl ?_; refine wl_val (r_move (v := .bool _) rfl) rfl ?_; refine wl_not rfl ?_; refine wl_not rfl ?_; refine wl_val (r_pick_t rfl (v := .bool true) rfl) rfl ?_; refine wl_val (r_move (v := .bool _) rfl) rfl ?_; refine wl_not rfl ?_; refine wl_not rfl ?_; refine wl_val (r_pick_t rfl (v := .bool true) rfl) rfl ?_; refine wl_val (r_not rfl) rfl ?_; refine wl_nil ?_; refine c_then ?_; refine c_false rfl ?_; refine wp_skip ?_; refine c_inN ?_; refine c_then ?_; refine c_region ?_; refine wl_val (r_move (v := .int .i64 _) rfl) rfl ?_; refine wl_val (r_addn (b := 1) rfl rfl (by omega)) rfl ?_; refine wl_val (r_assign (v := .int .i64 _) rfl) rfl ?_; refine wl_nil ?_; refine c_then ?_
          exact ⟨l.length - (k + 1), _, by omega, rfl, ⟨k + 1, rfl, rfl, hS3, by omega, take_all_step (by omega) hall (nameB_t (by omega))⟩, ⟨rfl, trivial⟩⟩
        refine wl_val (r_pick_t rfl (v := .bool _) rfl) rfl ?_; refine wl_val (r_pick_f rfl (v := .bool _) rfl) rfl ?_; refine wl_val (r_move (v := .bool _) rfl) rfl ?_; refine wl_val (r_move (v := .int .u8 _) rfl) rfl ?_
        refine wl_dec (r_eql rfl rfl) rfl (fun h5_16 => ?_) (fun h5_16 => ?_)
        · refine wl_val (r_pick_f rfl (v := .bool _) rfl) rfl ?_
          refine wl_val (r_move (v := .bool _) rfl) rfl ?_; refine wl_not rfl ?_; refine wl_not rfl ?_; refine wl_val (r_pick_t rfl (v := .bool true) rfl) rfl ?_; refine wl_val (r_move (v := .bool _) rfl) rfl ?_; refine wl_not rfl ?_; refine wl_not rfl ?_; refine wl_val (r_pick_t rfl (v := .bool true) rfl) rfl ?_; refine wl_val (r_not rfl) rfl ?_; refine wl_nil ?_; refine c_then ?_; refine c_false rfl ?_; refine wp_skip ?_; refine c_inN ?_; refine c_then ?_; refine c_region ?_; refine wl_val (r_move (v := .int .i64 _) rfl) rfl ?_; refine wl_val (r_addn (b := 1) rfl rfl (by omega)) rfl ?_; refine wl_val (r_assign (v := .int .i64 _) rfl) rfl ?_; refine wl_nil ?_; refine c_then ?_
          exact ⟨l.length - (k + 1), _, by omega, rfl, ⟨k + 1, rfl, rfl, hS3, by omega, take_all_step (by omega) hall (nameB_t (by omega))⟩, ⟨rfl, trivial⟩⟩
        refine wl_val (r_pick_f rfl (v := .bool _) rfl) rfl ?_; refine wl_val (r_move (v := .bool _) rfl) rfl ?_; refine wl_val (r_move (v := .int .u8 _) rfl) rfl ?_
        refine wl_dec (r_eql rfl rfl) rfl (fun h5_20 => ?_) (fun h5_20 => ?_)
        · refine wl_val (r_pick_f rfl (v := .bool _) rfl) rfl ?_
          refine wl_val (r_move (v := .bool _) rfl) rfl ?_; refine wl_not rfl ?_; refine wl_not rfl ?_; refine wl_val (r_pick_t rfl (v := .bool true) rfl) rfl ?_; refine wl_val (r_not rfl) rfl ?_; refine wl_nil ?_; refine c_then ?_; refine c_false rfl ?_; refine wp_skip ?_; refine c_inN ?_; refine c_then ?_; refine c_region ?_; refine wl_val (r_move (v := .int .i64 _) rfl) rfl ?_; refine wl_val (r_addn (b := 1) rfl rfl (by omega)) rfl ?_; refine wl_val (r_assign (v := .int .i64 _) rfl) rfl ?_; refine wl_nil ?_; refine c_then ?_
          exact ⟨l.length - (k + 1), _, by omega, rfl, ⟨k + 1, rfl, rfl, hS3, by omega, take_all_step (by omega) hall (nameB_t (by omega))⟩, ⟨rfl, trivial⟩⟩
        refine wl_val (r_pick_f rfl (v := .bool _) rfl) rfl ?_; refine wl_val (r_move (v := .bool _) rfl) rfl ?_; refine wl_val (r_move (v := .int .u8 _) rfl) rfl ?_
        refine wl_dec (r_eql rfl rfl) rfl (fun h5_24 => ?_) (fun h5_24 => ?_)
        · refine wl_val (r_pick_f rfl (v := .bool _) rfl) rfl ?_
          refine wl_val (r_not rfl) rfl ?_; refine wl_nil ?_; refine c_then ?_; refine c_false rfl ?_; refine wp_skip ?_; refine c_inN ?_; refine c_then ?_; refine c_region ?_; refine wl_val (r_move (v := .int .i64 _) rfl) rfl ?_; refine wl_val (r_addn (b := 1) rfl rfl (by omega)) rfl ?_; refine wl_val (r_assign (v := .int .i64 _) rfl) rfl ?_; refine wl_nil ?_; refine c_then ?_
          exact ⟨l.length - (k + 1), _, by omega, rfl, ⟨k + 1, rfl, rfl, hS3, by omega, take_all_step (by omega) hall (nameB_t (by omega))⟩, ⟨rfl, trivial⟩⟩
        refine wl_val (r_pick_f rfl (v := .bool _) rfl) rfl ?_; refine wl_val (r_not rfl) rfl ?_; refine wl_nil ?_; refine c_then ?_; refine c_true rfl ?_; refine c_seq ?_; refine c_region ?_; refine wl_val (r_assign (v := .bool false) rfl) rfl ?_; refine wl_nil ?_; refine c_then ?_; refine wp_ret ?_; refine c_inR ?_; refine c_thenR ?_; refine c_thenR ?_; refine c_inR ?_; refine c_thenR ?_; refine ret1 Tryz.results124 ?_
        exact ⟨congrArg Value.bool (nameE_f (n := k) (by omega) (nameB_f (by omega))).symm, hS3.fin⟩
      refine wl_val (r_move (v := .bool _) rfl) rfl ?_; refine wl_not rfl ?_; refine wl_not rfl ?_; refine wl_val (r_pick_f rfl (v := .bool false) rfl) rfl ?_; refine wl_val (r_pick_f rfl (v := .bool _) rfl) rfl ?_; refine wl_val (r_move (v := .bool _) rfl) rfl ?_; refine wl_val (r_move (v := .int .u8 _) rfl) rfl ?_
      refine wl_dec (r_eql rfl rfl) rfl (fun h5_16 => ?_) (fun h5_16 => ?_)
      · refine wl_val (r_pick_f rfl (v := .bool _) rfl) rfl ?_
        refine wl_val (r_move (v := .bool _) rfl) rfl ?_; refine wl_not rfl ?_; refine wl_not rfl ?_; refine wl_val (r_pick_t rfl (v := .bool true) rfl) rfl ?_; refine wl_val (r_move (v := .bool _) rfl) rfl ?_; refine wl_not rfl ?_; refine wl_not rfl ?_; refine wl_val (r_pick_t rfl (v := .bool true) rfl) rfl ?_; refine wl_val (r_not rfl) rfl ?_; refine wl_nil ?_; refine c_then ?_; refine c_false rfl ?_; refine wp_skip ?_; refine c_inN ?_; refine c_then ?_; refine c_region ?_; refine wl_val (r_move (v := .int .i64 _) rfl) rfl ?_; refine wl_val (r_addn (b := 1) rfl rfl (by omega)) rfl ?_; refine wl_val (r_assign (v := .int .i64 _) rfl) rfl ?_; refine wl_nil ?_; refine c_then ?_
        exact ⟨l.length - (k + 1), _, by omega, rfl, ⟨k + 1, rfl, rfl, hS3, by omega, take_all_step (by omega) hall (nameB_t (by omega))⟩, ⟨rfl, trivial⟩⟩
      refine wl_val (r_pick_f rfl (v := .bool _) rfl) rfl ?_; refine wl_val (r_move (v := .bool _) rfl) rfl ?_; refine wl_val (r_move (v := .int .u8 _) rfl) rfl ?_
      refine wl_dec (r_eql rfl rfl) rfl (fun h5_20 => ?_) (fun h5_20 => ?_)
      · refine wl_val (r_pick_f rfl (v := .bool _) rfl) rfl ?_
        refine wl_val (r_move (v := .bool _) rfl) rfl ?_; refine wl_not rfl ?_; refine wl_not rfl ?_; refine wl_val (r_pick_t rfl (v := .bool true) rfl) rfl ?_; refine wl_val (r_not rfl) rfl ?_; refine wl_nil ?_; refine c_then ?_; refine c_false rfl ?_; refine wp_skip ?_; refine c_inN ?_; refine c_then ?_; refine c_region ?_; refine wl_val (r_move (v := .int .i64 _) rfl) rfl ?_; refine wl_val (r_addn (b := 1) rfl rfl (by omega)) rfl ?_; refine wl_val (r_assign (v := .int .i64 _) rfl) rfl ?_; refine wl_nil ?_; refine c_then ?_
        exact ⟨l.length - (k + 1), _, by omega, rfl, ⟨k + 1, rfl, rfl, hS3, by omega, take_all_step (by omega) hall (nameB_t (by omega))⟩, ⟨rfl, trivial⟩⟩
      refine wl_val (r_pick_f rfl (v := .bool _) rfl) rfl ?_; refine wl_val (r_move (v := .bool _) rfl) rfl ?_; refine wl_val (r_move (v := .int .u8 _) rfl) rfl ?_
      refine wl_dec (r_eql rfl rfl) rfl (fun h5_24 => ?_) (fun h5_24 => ?_)
      · refine wl_val (r_pick_f rfl (v := .bool _) rfl) rfl ?_
        refine wl_val (r_not rfl) rfl ?_; refine wl_nil ?_; refine c_then ?_; refine c_false rfl ?_; refine wp_skip ?_; refine c_inN ?_; refine c_then ?_; refine c_region ?_; refine wl_val (r_move (v := .int .i64 _) rfl) rfl ?_; refine wl_val (r_addn (b := 1) rfl rfl (by omega)) rfl ?_; refine wl_val (r_assign (v := .int .i64 _) rfl) rfl ?_; refine wl_nil ?_; refine c_then ?_
        exact ⟨l.length - (k + 1), _, by omega, rfl, ⟨k + 1, rfl, rfl, hS3, by omega, take_all_step (by omega) hall (nameB_t (by omega))⟩, ⟨rfl, trivial⟩⟩
      refine wl_val (r_pick_f rfl (v := .bool _) rfl) rfl ?_; refine wl_val (r_not rfl) rfl ?_; refine wl_nil ?_; refine c_then ?_; refine c_true rfl ?_; refine c_seq ?_; refine c_region ?_; refine wl_val (r_assign (v := .bool false) rfl) rfl ?_; refine wl_nil ?_; refine c_then ?_; refine wp_ret ?_; refine c_inR ?_; refine c_thenR ?_; refine c_thenR ?_; refine c_inR ?_; refine c_thenR ?_; refine ret1 Tryz.results124 ?_
      exact ⟨congrArg Value.bool (nameE_f (n := k) (by omega) (nameB_f (by omega))).symm, hS3.fin⟩
    refine wl_nil ?_; refine c_then ?_; refine c_false rfl ?_; refine wp_exit ?_; refine c_thenE ?_; refine c_thenE ?_; refine c_inE ?_; refine c_then ?_; refine c_seq ?_; refine c_region ?_; refine wl_val (r_move (v := .string _) rfl) rfl ?_
    refine wl_dec (r_neqStrL rfl rfl) rfl (fun h7_1 => ?_) (fun h7_1 => ?_)
    · refine wl_val (r_move (v := .bool _) rfl) rfl ?_
      refine wl_val (r_move (v := .string _) rfl) rfl ?_; refine wl_val (r_lenStrL (T := 9) rfl ti9.und rfl _ rfl) rfl ?_; refine wl_val (r_leq rfl rfl) rfl ?_; refine wl_val (r_pick_t rfl (v := .bool _) rfl) rfl ?_; refine wl_val (r_assign (v := .bool _) rfl) rfl ?_; refine wl_nil ?_; refine c_then ?_; refine wp_ret ?_
      obtain rfl : k = l.length := by omega
      rw [List.take_length] at hall
      refine ret1 Tryz.results124 ?_
      have he : decide ((l.length : Int) ≤ 32) = decide (l.length ≤ 32) := decide_eq_decide.2 (by omega)
      exact ⟨congrArg Value.bool (by rw [nameE, hall, decide_eq_true h7_1, he]; rfl), hS3.fin⟩
    refine wl_val (r_move (v := .bool _) rfl) rfl ?_; refine wl_not rfl ?_; refine wl_not rfl ?_; refine wl_not rfl ?_; refine wl_val (r_pick_f rfl (v := .bool false) rfl) rfl ?_; refine wl_val (r_assign (v := .bool _) rfl) rfl ?_; refine wl_nil ?_; refine c_then ?_; refine wp_ret ?_
    obtain rfl : k = l.length := by omega
    rw [List.take_length] at hall
    refine ret1 Tryz.results124 ?_
    exact ⟨congrArg Value.bool (by rw [nameE, decide_eq_false h7_1, Bool.and_false, Bool.false_and]), hS3.fin⟩

theorem risName_ok (l : List UInt8) (w : World) (hl : l.length ≤ 9223372036854775807) :
    Ret Tryz.prog 28 [.string ⟨l.toArray⟩] w (fun v w' => v = .bool (nameE l) ∧ St w [] w' []) := by
  refine enter Tryz.func28 rfl Tryz.ntmps28 rfl ?_
  have hS := St.refl w []
  refine c_seq ?_; refine c_region ?_; refine wl_val (r_assign (v := .bool false) rfl) rfl ?_; refine wl_nil ?_; refine c_then ?_; refine c_seq ?_; refine c_region ?_; refine wl_val (r_move (v := .string _) rfl) rfl ?_
  refine wl_dec (r_neqStrL rfl rfl) rfl (fun h1_1 => ?_) (fun h1_1 => ?_)
  · refine wl_val (r_move (v := .bool _) rfl) rfl ?_
    refine wl_val (r_move (v := .string _) rfl) rfl ?_; refine wl_val (r_lenStrL (T := 9) rfl ti9.und rfl _ rfl) rfl ?_
    refine wl_dec (r_leq rfl rfl) rfl (fun h1_5 => ?_) (fun h1_5 => ?_)
    · refine wl_val (r_pick_t rfl (v := .bool _) rfl) rfl ?_
      refine wl_val (r_move (v := .bool _) rfl) rfl ?_; refine wl_val (r_move (v := .string _) rfl) rfl ?_; refine wl_call (r_call fn62 rfl rfl) rfl (contains_ret l _) ?_; rintro _ w1 ⟨rfl, hx2⟩
      have hS3 := hS.ext hx2
      refine wl_val (r_not rfl) rfl ?_; refine wl_val (r_pick_t rfl (v := .bool _) rfl) rfl ?_; refine wl_val (r_assign (v := .bool _) rfl) rfl ?_; refine wl_nil ?_; refine c_then ?_; refine wp_ret ?_; refine ret1 Tryz.results28 ?_
      exact ⟨congrArg Value.bool (by rw [nameE, decide_eq_true h1_1, decide_eq_true (show l.length ≤ 32 by omega), Bool.not_not, Bool.and_true, Bool.and_true]), hS3.fin⟩
    refine wl_val (r_pick_t rfl (v := .bool _) rfl) rfl ?_; refine wl_val (r_move (v := .bool _) rfl) rfl ?_; refine wl_not rfl ?_; refine wl_not rfl ?_; refine wl_not rfl ?_; refine wl_val (r_pick_f rfl (v := .bool false) rfl) rfl ?_; refine wl_val (r_assign (v := .bool _) rfl) rfl ?_; refine wl_nil ?_; refine c_then ?_; refine wp_ret ?_; refine ret1 Tryz.results28 ?_
    exact ⟨congrArg Value.bool (by rw [nameE, decide_eq_false (show ¬ l.length ≤ 32 by omega), Bool.and_false]), hS.fin⟩
  refine wl_val (r_move (v := .bool _) rfl) rfl ?_; refine wl_not rfl ?_; refine wl_not rfl ?_; refine wl_not rfl ?_; refine wl_val (r_pick_f rfl (v := .bool false) rfl) rfl ?_; refine wl_val (r_move (v := .bool _) rfl) rfl ?_; refine wl_not rfl ?_; refine wl_not rfl ?_; refine wl_not rfl ?_; refine wl_val (r_pick_f rfl (v := .bool false) rfl) rfl ?_; refine wl_val (r_assign (v := .bool _) rfl) rfl ?_; refine wl_nil ?_; refine c_then ?_; refine wp_ret ?_; refine ret1 Tryz.results28 ?_
  exact ⟨congrArg Value.bool (by rw [nameE, decide_eq_false h1_1, Bool.and_false, Bool.false_and]), hS.fin⟩

end Go.Proofs.YtmonnmndphlkaaaGreat
