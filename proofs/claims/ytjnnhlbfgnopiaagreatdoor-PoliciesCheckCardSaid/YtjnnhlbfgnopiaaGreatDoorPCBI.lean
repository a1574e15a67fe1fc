/- What the law's proof leans on. No condition. -/
import Derived.Test.YtjnnhlbfgnopiaaGreatDoorPCAI
import Derived.Test.YtjnnhlbfgnopiaaGreatDoorPCBG
import Derived.Test.YtjnnhlbfgnopiaaGreatDoorPCBH
namespace Go.Proofs.YtjnnhlbfgnopiaaGreatDoor
open Go.Kw
set_option linter.unusedVariables false
set_option linter.unusedSimpArgs false
set_option maxRecDepth 100000
theorem contains_ret (l : List UInt8) (w : World) : Ret Tryz.prog 89 [.string ⟨l.toArray⟩, .func (.func 90) #[] #[]] w (fun v w' => v = .bool (!(l.all nameB)) ∧ St w [] w' []) :=
  Calls.mono (contains_func ⟨l.toArray⟩ w) fun e w' ⟨he, hb⟩ => ⟨_, he, by rw [badIn], St.of_below hb⟩

theorem isName_ok_c0 {p : Prop} (h : p := by exact ⟨l.length - (k + 1), _, by omega, rfl, ⟨k + 1, rfl, rfl, hF, by omega, take_all_step Om hall (nameB_t Om)⟩, ⟨rfl, trivial⟩⟩) : p := h
theorem isName_ok (l : List UInt8) (w : World) (hl : l.length ≤ 9223372036854775807) :
    Ret Tryz.prog 100 [.string ⟨l.toArray⟩] w (fun v w' => v = .bool (nameE l) ∧ St w [] w' []) := by
  refine enter Tryz.func100 rfl Tryz.ntmps100 rfl ?_
  have hS := St.refl w []
  refine zS<|zR<|zq 1 rfl<|zN<|zT<|zS<|zS<|zR<|zq 1 rfl<|zN<|zT<|zI ?_
  refine c_loopE [0] (fun d e w' => ∃ (k : Nat), Kw.look e 3 = vi k ∧ d = l.length - k ∧ St w [] w' [] ∧ (k ≤ l.length) ∧ ((l.take k).all nameB = true)) (l.length - 0) ?_ ?_
  · exact ⟨0, rfl, rfl, hS, by omega, rfl⟩
  · rintro d4 e1 w2 ⟨k, hc0_3, rfl, hS3, hk, hall⟩ -
    refine c_set (d := 3) hc0_3<|zS<|zS<|zR<|zq 2 rfl<|zV (r_lenStrL (T := 9) rfl ti9.und rfl _ rfl) ?_
    refine wl_dec (r_lss rfl rfl) rfl (fun h2_3 => ?_) (fun h2_3 => ?_)
    · refine zN<|zT<|zt rfl<|zK<|zT<|zS<|zI<|zS<|zR<|zq 2 rfl<|zV (r_indexStr (s := ⟨l.toArray⟩) ti9.und rfl rfl (get_gt l _ Sd)) ?_
      refine zq 1 rfl<|zN<|zT<|zS<|zR<|zq 1 rfl ?_
      refine wl_dec (r_geq rfl rfl) rfl (fun h5_1 => ?_) (fun h5_1 => ?_)
      · refine zq 2 rfl ?_
        refine wl_dec (r_leq rfl rfl) rfl (fun h5_4 => ?_) (fun h5_4 => ?_)
        · refine zq 22 rfl<|zN<|zT<|zf rfl<|zK<|zJ<|zT<|zR<|zq 1 rfl<|zV (r_addn (b := 1) rfl rfl Om)<|zq 1 rfl<|zN<|zT ?_
          have hF := hS3; exact isName_ok_c0
        refine zq 3 rfl ?_
        refine wl_dec (r_geq rfl rfl) rfl (fun h5_8 => ?_) (fun h5_8 => ?_)
        · refine zq 2 rfl ?_
          refine wl_dec (r_leq rfl rfl) rfl (fun h5_11 => ?_) (fun h5_11 => ?_)
          · refine zq 15 rfl<|zN<|zT<|zf rfl<|zK<|zJ<|zT<|zR<|zq 1 rfl<|zV (r_addn (b := 1) rfl rfl Om)<|zq 1 rfl<|zN<|zT ?_
            have hF := hS3; exact isName_ok_c0
          refine zq 4 rfl ?_
          refine wl_dec (r_eql rfl rfl) rfl (fun h5_16 => ?_) (fun h5_16 => ?_)
          · refine zq 10 rfl<|zN<|zT<|zf rfl<|zK<|zJ<|zT<|zR<|zq 1 rfl<|zV (r_addn (b := 1) rfl rfl Om)<|zq 1 rfl<|zN<|zT ?_
            have hF := hS3; exact isName_ok_c0
          refine zq 3 rfl ?_
          refine wl_dec (r_eql rfl rfl) rfl (fun h5_20 => ?_) (fun h5_20 => ?_)
          · refine zq 6 rfl<|zN<|zT<|zf rfl<|zK<|zJ<|zT<|zR<|zq 1 rfl<|zV (r_addn (b := 1) rfl rfl Om)<|zq 1 rfl<|zN<|zT ?_
            have hF := hS3; exact isName_ok_c0
          refine zq 3 rfl ?_
          refine wl_dec (r_eql rfl rfl) rfl (fun h5_24 => ?_) (fun h5_24 => ?_)
          · refine zq 2 rfl<|zN<|zT<|zf rfl<|zK<|zJ<|zT<|zR<|zq 1 rfl<|zV (r_addn (b := 1) rfl rfl Om)<|zq 1 rfl<|zN<|zT ?_
            have hF := hS3; exact isName_ok_c0
          refine zq 2 rfl<|zN<|zT<|zt rfl<|zS<|zR<|zq 1 rfl<|zN<|zT<|zU<|zH<|zL<|zL<|zH<|zL<|ret1 Tryz.results100 ?_
          exact ⟨congrArg Value.bool (nameE_f (n := k) Om (nameB_f Om)).symm, hS3.fin⟩
        refine zq 7 rfl ?_
        refine wl_dec (r_eql rfl rfl) rfl (fun h5_16 => ?_) (fun h5_16 => ?_)
        · refine zq 10 rfl<|zN<|zT<|zf rfl<|zK<|zJ<|zT<|zR<|zq 1 rfl<|zV (r_addn (b := 1) rfl rfl Om)<|zq 1 rfl<|zN<|zT ?_
          have hF := hS3; exact isName_ok_c0
        refine zq 3 rfl ?_
        refine wl_dec (r_eql rfl rfl) rfl (fun h5_20 => ?_) (fun h5_20 => ?_)
        · refine zq 6 rfl<|zN<|zT<|zf rfl<|zK<|zJ<|zT<|zR<|zq 1 rfl<|zV (r_addn (b := 1) rfl rfl Om)<|zq 1 rfl<|zN<|zT ?_
          have hF := hS3; exact isName_ok_c0
        refine zq 3 rfl ?_
        refine wl_dec (r_eql rfl rfl) rfl (fun h5_24 => ?_) (fun h5_24 => ?_)
        · refine zq 2 rfl<|zN<|zT<|zf rfl<|zK<|zJ<|zT<|zR<|zq 1 rfl<|zV (r_addn (b := 1) rfl rfl Om)<|zq 1 rfl<|zN<|zT ?_
          have hF := hS3; exact isName_ok_c0
        refine zq 2 rfl<|zN<|zT<|zt rfl<|zS<|zR<|zq 1 rfl<|zN<|zT<|zU<|zH<|zL<|zL<|zH<|zL<|ret1 Tryz.results100 ?_
        exact ⟨congrArg Value.bool (nameE_f (n := k) Om (nameB_f Om)).symm, hS3.fin⟩
      refine zq 6 rfl ?_
      refine wl_dec (r_geq rfl rfl) rfl (fun h5_8 => ?_) (fun h5_8 => ?_)
      · refine zq 2 rfl ?_
        refine wl_dec (r_leq rfl rfl) rfl (fun h5_11 => ?_) (fun h5_11 => ?_)
        · refine zq 15 rfl<|zN<|zT<|zf rfl<|zK<|zJ<|zT<|zR<|zq 1 rfl<|zV (r_addn (b := 1) rfl rfl Om)<|zq 1 rfl<|zN<|zT ?_
          have hF := hS3; exact isName_ok_c0
        refine zq 4 rfl ?_
        refine wl_dec (r_eql rfl rfl) rfl (fun h5_16 => ?_) (fun h5_16 => ?_)
        · refine zq 10 rfl<|zN<|zT<|zf rfl<|zK<|zJ<|zT<|zR<|zq 1 rfl<|zV (r_addn (b := 1) rfl rfl Om)<|zq 1 rfl<|zN<|zT ?_
          have hF := hS3; exact isName_ok_c0
        refine zq 3 rfl ?_
        refine wl_dec (r_eql rfl rfl) rfl (fun h5_20 => ?_) (fun h5_20 => ?_)
        · refine zq 6 rfl<|zN<|zT<|zf rfl<|zK<|zJ<|zT<|zR<|zq 1 rfl<|zV (r_addn (b := 1) rfl rfl Om)<|zq 1 rfl<|zN<|zT ?_
          have hF := hS3; exact isName_ok_c0
        refine zq 3 rfl ?_
        refine wl_dec (r_eql rfl rfl) rfl (fun h5_24 => ?_) (fun h5_24 => ?_)
        · refine zq 2 rfl<|zN<|zT<|zf rfl<|zK<|zJ<|zT<|zR<|zq 1 rfl<|zV (r_addn (b := 1) rfl rfl Om)<|zq 1 rfl<|zN<|zT ?_
          have hF := hS3; exact isName_ok_c0
        refine zq 2 rfl<|zN<|zT<|zt rfl<|zS<|zR<|zq 1 rfl<|zN<|zT<|zU<|zH<|zL<|zL<|zH<|zL<|ret1 Tryz.results100 ?_
        exact ⟨congrArg Value.bool (nameE_f (n := k) Om (nameB_f Om)).symm, hS3.fin⟩
      refine zq 7 rfl ?_
      refine wl_dec (r_eql rfl rfl) rfl (fun h5_16 => ?_) (fun h5_16 => ?_)
      · refine zq 10 rfl<|zN<|zT<|zf rfl<|zK<|zJ<|zT<|zR<|zq 1 rfl<|zV (r_addn (b := 1) rfl rfl Om)<|zq 1 rfl<|zN<|zT ?_
        have hF := hS3; exact isName_ok_c0
      refine zq 3 rfl ?_
      refine wl_dec (r_eql rfl rfl) rfl (fun h5_20 => ?_) (fun h5_20 => ?_)
      · refine zq 6 rfl<|zN<|zT<|zf rfl<|zK<|zJ<|zT<|zR<|zq 1 rfl<|zV (r_addn (b := 1) rfl rfl Om)<|zq 1 rfl<|zN<|zT ?_
        have hF := hS3; exact isName_ok_c0
      refine zq 3 rfl ?_
      refine wl_dec (r_eql rfl rfl) rfl (fun h5_24 => ?_) (fun h5_24 => ?_)
      · refine zq 2 rfl<|zN<|zT<|zf rfl<|zK<|zJ<|zT<|zR<|zq 1 rfl<|zV (r_addn (b := 1) rfl rfl Om)<|zq 1 rfl<|zN<|zT ?_
        have hF := hS3; exact isName_ok_c0
      refine zq 2 rfl<|zN<|zT<|zt rfl<|zS<|zR<|zq 1 rfl<|zN<|zT<|zU<|zH<|zL<|zL<|zH<|zL<|ret1 Tryz.results100 ?_
      exact ⟨congrArg Value.bool (nameE_f (n := k) Om (nameB_f Om)).symm, hS3.fin⟩
    refine zN<|zT<|zf rfl<|zO<|zM<|zM<|c_inE<|zT<|zS<|zR<|zq 1 rfl ?_
    refine wl_dec (r_neqStrL rfl rfl) rfl (fun h7_1 => ?_) (fun h7_1 => ?_)
    · refine zq 2 rfl<|wl_val (r_lenStrL (T := 9) rfl ti9.und rfl _ rfl) rfl<|wl_val (r_leq rfl rfl) rfl<|zq 2 rfl<|zN<|zT<|zU ?_
      obtain rfl : k = l.length := by omega
      rw [List.take_length] at hall
      refine ret1 Tryz.results100 ?_
      have he : decide ((l.length : Int) ≤ 32) = decide (l.length ≤ 32) := decide_eq_decide.2 Om
      exact ⟨congrArg Value.bool (by rw [nameE, hall, decide_eq_true h7_1, he]; rfl), hS3.fin⟩
    refine zq 6 rfl<|zN<|zT<|zU ?_
    obtain rfl : k = l.length := by omega
    rw [List.take_length] at hall
    refine ret1 Tryz.results100 ?_
    exact ⟨congrArg Value.bool (by rw [nameE, decide_eq_false h7_1, Bool.and_false, Bool.false_and]), hS3.fin⟩

theorem risName_ok (l : List UInt8) (w : World) (hl : l.length ≤ 9223372036854775807) :
    Ret Tryz.prog 52 [.string ⟨l.toArray⟩] w (fun v w' => v = .bool (nameE l) ∧ St w [] w' []) := by
  refine enter Tryz.func52 rfl Tryz.ntmps52 rfl ?_
  have hS := St.refl w []
  refine zS<|zR<|zq 1 rfl<|zN<|zT<|zS<|zR<|zq 1 rfl ?_
  refine wl_dec (r_neqStrL rfl rfl) rfl (fun h1_1 => ?_) (fun h1_1 => ?_)
  · refine zq 2 rfl<|wl_val (r_lenStrL (T := 9) rfl ti9.und rfl _ rfl) rfl ?_
    refine wl_dec (r_leq rfl rfl) rfl (fun h1_5 => ?_) (fun h1_5 => ?_)
    · refine zq 3 rfl<|zE fn89 rfl hS (contains_ret l _) fun w1 hS3=>zq 3 rfl<|zN<|zT<|zU<|ret1 Tryz.results52 ?_
      exact ⟨congrArg Value.bool (by rw [nameE, decide_eq_true h1_1, decide_eq_true (show l.length ≤ 32 by omega), Bool.not_not, Bool.and_true, Bool.and_true]), hS3.fin⟩
    refine zq 7 rfl<|zN<|zT<|zU<|ret1 Tryz.results52 ?_
    exact ⟨congrArg Value.bool (by rw [nameE, decide_eq_false (show ¬ l.length ≤ 32 by omega), Bool.and_false]), hS.fin⟩
  refine zq 11 rfl<|zN<|zT<|zU<|ret1 Tryz.results52 ?_
  exact ⟨congrArg Value.bool (by rw [nameE, decide_eq_false h1_1, Bool.and_false, Bool.false_and]), hS.fin⟩

end Go.Proofs.YtjnnhlbfgnopiaaGreatDoor
