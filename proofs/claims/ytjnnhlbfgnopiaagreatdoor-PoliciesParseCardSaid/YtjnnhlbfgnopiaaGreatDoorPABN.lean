/- What the law's proof leans on. No condition. -/
import Derived.Test.YtjnnhlbfgnopiaaGreatDoorPAAH
import Derived.Test.YtjnnhlbfgnopiaaGreatDoorPAAC
namespace Go.Proofs.YtjnnhlbfgnopiaaGreatDoor
open Go.Kw
set_option linter.unusedVariables false
set_option linter.unusedSimpArgs false
set_option maxRecDepth 100000
theorem hex_ok (bs : List UInt8) (a : Option Addr) (c : Nat) (w : World) (hb : Row w a (bs.map b8)) (hl : 2 * bs.length ≤ 140737488355328) :
    Ret Tryz.prog 15 [.slice a bs.length c] w (fun v w' => v = .string ⟨(hexL bs).toArray⟩ ∧ St w [] w' []) := by
  refine enter Tryz.func15 rfl Tryz.ntmps15 rfl ?_
  have hS := St.refl w []
  refine zS<|zR<|zq 1 rfl<|zN<|zT<|zS<|zR<|zq 1 rfl<|zV (r_len (T := 39) rfl ti39.und rfl _ rfl)<|zV (r_muln (a := 2) rfl rfl Om)<|zX (x_make_row hS ti39.und ti5 rfl rfl Sd Sd) ?_; rintro _ w1 ⟨a9, rfl, hS2⟩; refine zq 1 rfl<|zN<|zT<|zS<|zS<|zR<|zq 1 rfl<|zV (r_len (T := 39) rfl ti39.und rfl _ rfl)<|zq 1 rfl<|zN<|zT<|zI ?_
  refine c_loopE [2, 10, 11] (fun d e w' => ∃ (k : Nat) (a3 : Option Addr) (c3 : Nat), Kw.look e 12 = vi k ∧ Kw.look e 3 = .slice a3 (2 * k) c3 ∧ d = bs.length - k ∧ St w [] w' [.row (.slice a3 (2 * k) c3) 5 1 (2 * k) ((hexL (bs.take k)).map b8)] ∧ (k ≤ bs.length)) (bs.length - 0) ?_ ?_
  · exact ⟨0, _, _, rfl, rfl, rfl, by simpa [hexL] using hS2, by omega⟩
  · rintro d6 e3 w4 ⟨k, a3, c3, hc0_12, hc0_3, rfl, hS5, hI0_0⟩ -
    refine c_set (d := 12) hc0_12<|c_set (d := 3) hc0_3<|zS<|zR ?_
    refine wl_dec (r_lss rfl rfl) rfl (fun h3_0 => ?_) (fun h3_0 => ?_)
    · refine zN<|zT<|zS<|zt rfl<|zK<|zT<|zS<|zI<|zS<|zR<|zV (r_ixS ti39.und ti5 rfl rfl (hb.st hS5) Sd Ln) ?_
      refine zV (r_loadS1 ti5.und rfl rfl (hb.st hS5) (by rw [Nat.mul_one]; exact map_gt _ _ _ Sd)) ?_; refine zq 1 rfl<|zN<|zT<|c_drawS 8 hMixed hS5 ?_; intro w7 hS8; refine zG 0 rfl hS8 (fun wF hF => r_move (v := .slice _ _ _) rfl) ?_; refine zG 1 rfl hS8 (fun wF hF => r_move (v := .int .u8 _) rfl) ?_; refine zG 2 rfl hS8 (fun wF hF => r_shr8 (s := 4) rfl rfl Sd) ?_; refine zG 3 rfl hS8 (fun wF hF => r_indexStr (s := ⟨hexDs.toArray⟩) ti9.und rfl rfl (get_gt hexDs _ (shr4_lt _))) ?_; refine zG 4 rfl hS8 (fun wF hF => r_move (v := .int .u8 _) rfl) ?_; refine zG 5 rfl hS8 (fun wF hF => r_and8 (b := 15) rfl rfl) ?_; refine zG 6 rfl hS8 (fun wF hF => r_indexStr (s := ⟨hexDs.toArray⟩) ti9.und rfl rfl (get_gt hexDs _ (and15_lt _))) ?_; refine zG1 7 ?_; refine o_exv rfl (x_lit (vs := ((hexd (gt bs k)).map b8)) hS8 ti39.und ti5 rfl rfl rfl On (by decide)) rfl ?_; rintro _ w9 ⟨b23, rfl, hS10⟩
      refine ⟨hS10.drop1, ?_⟩
      refine zGT rfl ?_; refine zX (x_append [_] hS10 ti39.und ti5 rfl (by decide) rfl rfl (Row.of_at (at_all (hS10.heap Z0))) Ln Oc Sd Sd _ rfl) ?_; rintro _ w11 ⟨aq13, cq13, rfl, hcq13, hS12⟩; simp only [ca, na] at hS12; refine zq 1 rfl<|zN<|zJ<|zT<|zR<|zV (r_addn (b := 1) rfl rfl Om)<|zq 1 rfl<|zN<|zT ?_
      refine ⟨bs.length - (k + 1), _, by omega, rfl, ⟨k + 1, _, _, rfl, rfl, rfl, ?_, by omega⟩, ⟨rfl, rfl, rfl, trivial⟩⟩
      rw [hexL_step _ _ Om, List.map_append]
      exact hS12.drop1
    refine zN<|zT<|zS<|zf rfl<|zO<|zM<|zM<|c_inE<|zT<|zS<|zR<|zq 1 rfl<|zV (r_bytesToStr ti9.und ti39.und ti5.und rfl (St.rowAt hS5 Z0) Ln) ?_; refine zq 1 rfl<|zN<|zT<|zU<|ret1 Tryz.results15 ?_
    obtain rfl : k = bs.length := by omega
    exact ⟨by rw [List.take_length]; rfl, hS5.fin⟩

theorem landed_ok (w : World) :
    Ret Tryz.prog 5 [] w (fun v w' => v = .bool true ∧ St w [] w' []) := by
  refine enter Tryz.func5 rfl Tryz.ntmps5 rfl ?_
  have hS := St.refl w []
  refine zS<|zR<|zq 1 rfl<|zN<|zT<|zS<|zR ?_; refine wl_exv (x_lit (vs := (([1] : List UInt8).map b8)) hS ti39.und ti5 rfl rfl rfl On (by decide)) rfl ?_; rintro _ w1 ⟨b1, rfl, hS2⟩; refine zE fn15 rfl hS2 (hex_ok [1] _ _ _ (Row.of_at (at_all (hS2.heap Z0))) (by decide)) fun w3 hS5=>wl_dec_t (r_eqlStr rfl rfl) rfl (by decide)<|zq 1 rfl<|zN<|zT<|zU<|ret1 Tryz.results5 ?_
  exact ⟨rfl, hS5.fin⟩

end Go.Proofs.YtjnnhlbfgnopiaaGreatDoor
