/- What the law's proof leans on. No condition. -/
import Derived.Test.YtmonnmndphlkaaaGreatPWnAI
import Derived.Test.YtmonnmndphlkaaaGreatPWnBK
import Derived.Test.YtmonnmndphlkaaaGreatPWnAT
namespace Go.Proofs.YtmonnmndphlkaaaGreat
open Go.Kw
set_option linter.unusedVariables false
set_option linter.unusedSimpArgs false
set_option maxRecDepth 100000
theorem compS_small (a : Option Addr) (n c : Nat) (w : World) (hn : n < 2) :
    Ret Tryz.prog 30 [.slice a n c] w (fun v w' => v = .slice a n c ∧ St w [] w' []) := by
  refine enter Tryz.func30 rfl Tryz.ntmps30 rfl ?_
  have hS := St.refl w []
  refine zS<|zR<|zq 1 rfl<|zN<|zT<|zS<|zS<|zR<|zq 1 rfl<|zV (r_len (T := 36) rfl ti36.und rfl _ rfl)<|wl_dec_t (r_lss rfl rfl) rfl Om<|zN<|zT<|zt rfl<|zS<|zR<|zq 2 rfl<|zN<|zT<|zU<|zL<|ret1 Tryz.results30 ?_
  exact ⟨rfl, hS.fin⟩

theorem compS_ok (l : List (List UInt8)) (D : List Value) (g n c : Nat) (w : World) (hb : w.heap[g]? = some (cl (l.map sv ++ D) 9)) (hl : l.length = n) (hn2 : 2 ≤ n) (hc : n ≤ c) (hn : n ≤ 4398046511104) :
    Ret Tryz.prog 30 [.slice (some ⟨g, 0, none⟩) n c] w (fun v w' => ∃ D', v = .slice (some ⟨g, 0, none⟩) (uqL l).length c ∧ ((uqL l).map sv ++ D').length = (l.map sv ++ D).length ∧ St w [g] w' [.blk g (cl ((uqL l).map sv ++ D') 9)]) := by
  subst hl
  refine enter Tryz.func30 rfl Tryz.ntmps30 rfl ?_
  have hS : St w [g] w [.blk g (cl ((l).map sv ++ D) 9)] := St.own hb
  refine zS<|zR<|zq 1 rfl<|zN<|zT<|zS<|zS<|zR<|zq 1 rfl<|zV (r_len (T := 36) rfl ti36.und rfl _ rfl)<|wl_dec_f (r_lss rfl rfl) rfl Om<|zN<|zT<|zf rfl<|zK<|zT<|zS<|zS<|zR<|zq 1 rfl<|zN<|zT<|zI ?_
  refine c_loopE [0] (fun d e w' => ∃ (k : Nat), Kw.look e 3 = vi k ∧ d = l.length - k ∧ St w [g] w' [.blk g (cl ((l).map sv ++ D) 9)] ∧ (1 ≤ k ∧ k ≤ l.length) ∧ (uqTo l k = l.take k)) (l.length - 1) ?_ ?_
  · exact ⟨1, rfl, rfl, hS, by omega, by rw [uqTo_ne (.inl rfl), take_gt l 0 Om]; rfl⟩
  · rintro d4 e1 w2 ⟨k, hc0_3, rfl, hS3, hk, hcm⟩ -
    refine c_set (d := 3) hc0_3<|zS<|zS<|zR<|zq 2 rfl<|zV (r_len (T := 36) rfl ti36.und rfl _ rfl) ?_
    refine wl_dec (r_lss rfl rfl) rfl (fun h4_3 => ?_) (fun h4_3 => ?_)
    · refine zN<|zT<|zt rfl<|zK<|zT<|zS<|zI<|zS<|c_drawS 9 hMixed hS3 ?_
      intro w5 hS6; refine zG 0 rfl hS6 (fun wF hF => r_move (v := .slice _ _ _) rfl) ?_; refine zG 1 rfl hS6 (fun wF hF => r_move (v := .int .i64 _) rfl) ?_; refine zG 2 rfl hS6 (fun wF hF => r_ixW0 ti36.und ti9 rfl rfl Om) ?_; refine zG 3 rfl hS6 (fun wF hF => r_loadW (f := sv) ti9.und rfl rfl (hF.heap Z0) Om) ?_; refine zG 4 rfl hS6 (fun wF hF => r_move (v := .slice _ _ _) rfl) ?_; refine zG 5 rfl hS6 (fun wF hF => r_move (v := .int .i64 _) rfl) ?_; refine zG 6 rfl hS6 (fun wF hF => r_subn (b := 1) rfl rfl Om Om) ?_; refine zG 7 rfl hS6 (fun wF hF => r_ixW0 ti36.und ti9 rfl rfl Om) ?_; refine zG 8 rfl hS6 (fun wF hF => r_loadW (f := sv) ti9.und rfl rfl (hF.heap Z0) Om) ?_; refine zGT rfl ?_
      refine wl_dec (r_eqlStrL rfl rfl) rfl (fun h6_9 => ?_) (fun h6_9 => ?_)
      · refine zN<|zT<|zt rfl<|zS<|zR<|zq 2 rfl<|zV (r_slW ti36.und ti9 rfl rfl Om Om Om)<|zq 1 rfl<|zN<|zT<|zS<|zS<|zR<|zq 1 rfl<|zN<|zT<|zI ?_
        refine c_loopE [0, 2, 4] (fun d e w' => ∃ (j : Nat) (m : Nat) (xs : List (List UInt8)), Kw.look e 5 = vi j ∧ Kw.look e 3 = vi m ∧ d = l.length - k - j ∧ St w [g] w' [.blk g (cl ((xs).map sv ++ D) 9)] ∧ (xs.length = l.length) ∧ (xs.take m = uqTo l (k + j)) ∧ (∀ i, k + j - 1 ≤ i → gt xs i = gt l i) ∧ (1 ≤ j ∧ k + j ≤ l.length ∧ 1 ≤ m ∧ m ≤ k + j - 1)) (l.length - k - 1) ?_ ?_
        · exact ⟨1, k, l, rfl, rfl, rfl, hS6, rfl, by rw [uqTo_eq Om h6_9, hcm], fun _ _ => rfl, by omega⟩
        · rintro d10 e7 w8 ⟨j, m, xs, hc1_5, hc1_3, rfl, hS9, hxl, hxt, hxi, hjm⟩ -
          refine c_set (d := 5) hc1_5<|c_set (d := 3) hc1_3<|zS<|zS<|zR<|zq 2 rfl<|zV (r_len (T := 36) rfl ti36.und rfl _ rfl) ?_
          refine wl_dec (r_lss rfl rfl) rfl (fun h9_3 => ?_) (fun h9_3 => ?_)
          · refine zN<|zT<|zt rfl<|zK<|zT<|zS<|zI<|zS<|c_drawS 9 hMixed hS9 ?_
            intro w11 hS12; refine zG 0 rfl hS12 (fun wF hF => r_move (v := .slice _ _ _) rfl) ?_; refine zG 1 rfl hS12 (fun wF hF => r_move (v := .int .i64 _) rfl) ?_; refine zG 2 rfl hS12 (fun wF hF => r_ixW ti36.und ti9 rfl rfl Om) ?_; refine zG 3 rfl hS12 (fun wF hF => r_loadW (f := sv) ti9.und rfl rfl (hF.heap Z0) Om) ?_; refine zG 4 rfl hS12 (fun wF hF => r_move (v := .slice _ _ _) rfl) ?_; refine zG 5 rfl hS12 (fun wF hF => r_move (v := .int .i64 _) rfl) ?_; refine zG 6 rfl hS12 (fun wF hF => r_subn (b := 1) rfl rfl Om Om) ?_; refine zG 7 rfl hS12 (fun wF hF => r_ixW ti36.und ti9 rfl rfl Om) ?_; refine zG 8 rfl hS12 (fun wF hF => r_loadW (f := sv) ti9.und rfl rfl (hF.heap Z0) Om) ?_; refine zGT rfl ?_
            refine wl_dec (r_neqStrL rfl rfl) rfl (fun h11_9 => ?_) (fun h11_9 => ?_)
            · refine zN<|zT<|zt rfl<|zS<|zR<|zq 4 rfl<|zV (r_ixW ti36.und ti9 rfl rfl Om)<|zV (r_loadW (f := sv) ti9.und rfl rfl (hS12.heap Z0) Om)<|zV (r_ixW0 ti36.und ti9 rfl rfl Om)<|zY (x_storeW1 (f := sv) [] hS12 ti9 rfl rfl rfl Om) ?_
              intro w13 hS14; simp only [ca, na] at hS14; refine zN<|zT<|zR<|zq 1 rfl<|zV (r_addn (b := 1) rfl rfl Om)<|zq 1 rfl<|zN<|zJ<|zT<|zR<|zq 1 rfl<|zV (r_addn (b := 1) rfl rfl Om)<|zq 1 rfl<|zN<|zT ?_
              have e1 : gt xs (k + j) = gt l (k + j) := hxi _ Om
              have e2 : gt xs (k + (j - 1)) = gt l (k + j - 1) := by rw [show k + (j - 1) = k + j - 1 by omega]; exact hxi _ Om
              rw [e1] at hS14
              have h11 : ¬ gt l (k + j) = gt l (k + j - 1) := fun h => h11_9 (by rw [e1]; exact h.trans e2.symm)
              exact ⟨l.length - k - (j + 1), _, by omega, rfl, ⟨j + 1, m + 1, _, rfl, rfl, rfl, hS14, by rw [List.length_set]; exact hxl, uq_step Om hxt Om h11, fun i hi => uq_keep (j := k + j - 1) hxi Om i Om, by omega⟩, ⟨rfl, rfl, rfl, trivial⟩⟩
            refine zN<|zT<|zf rfl<|zK<|zJ<|zT<|zR<|zq 1 rfl<|zV (r_addn (b := 1) rfl rfl Om)<|zq 1 rfl<|zN<|zT ?_
            have e1 : gt xs (k + j) = gt l (k + j) := hxi _ Om
            have e2 : gt xs (k + (j - 1)) = gt l (k + j - 1) := by rw [show k + (j - 1) = k + j - 1 by omega]; exact hxi _ Om
            have h11 : gt l (k + j) = gt l (k + j - 1) := by rw [← e1, ← e2]; exact Classical.not_not.1 h11_9
            exact ⟨l.length - k - (j + 1), _, by omega, rfl, ⟨j + 1, m, xs, rfl, rfl, rfl, hS12, hxl, by rw [hxt]; exact (uqTo_eq (k := k + j) Om h11).symm, fun i hi => hxi i Om, by omega⟩, ⟨rfl, rfl, rfl, trivial⟩⟩
          refine zN<|zT<|zf rfl<|zO<|zM<|zM<|c_inE<|zT<|zS<|zR<|zq 2 rfl<|zV (r_slW ti36.und ti9 rfl rfl Om Om Om) ?_
          rw [splitW xs D m] at hS9
          refine zX (x_clearW (T := 36) (n := l.length - m) (c := c - m) (sz := 1) [] hS9 rfl ti36.und ti9 (by intro q hq; simp [Value.cells] at hq; subst hq; rfl) rfl rfl (by rw [List.length_map, List.length_take, Nat.min_eq_left Om]) (by rw [List.length_append, List.length_map, List.length_drop]; omega) _ rfl) ?_; rintro _ w15 ⟨rfl, D', hD', hS16⟩; simp only [ca, na] at hS16; refine zN<|zT<|zS<|zR<|zq 2 rfl<|zV (r_sl_h ti36.und ti9 rfl rfl Om)<|zq 1 rfl<|zN<|zT<|zU<|zH<|zL<|zL<|zH<|zL<|ret1 Tryz.results30 ?_
          have hxe : xs.take m = uqL l := by rw [hxt, uqL]; congr 1; omega
          rw [hxe] at hS16
          have hml : m = (uqL l).length := by rw [← hxe, List.length_take]; omega
          have hln : ((uqL l).map sv ++ D').length = (l.map sv ++ D).length := by rw [List.length_append, hD', List.length_append, List.length_append, List.length_map, List.length_map, List.length_map, List.length_drop, hxl]; omega
          exact ⟨_, congrArg (fun z => Value.slice (some ⟨g, 0, none⟩) z c) hml, hln, hS16⟩
      refine zN<|zT<|zf rfl<|zK<|zJ<|zT<|zR<|zq 1 rfl<|zV (r_addn (b := 1) rfl rfl Om)<|zq 1 rfl<|zN<|zT ?_
      exact ⟨l.length - (k + 1), _, by omega, rfl, ⟨k + 1, rfl, rfl, hS6, by omega, by rw [uqTo_ne (.inr h6_9), take_gt l k Om, hcm]⟩, ⟨rfl, trivial⟩⟩
    refine zN<|zT<|zf rfl<|zO<|zM<|zM<|c_inE<|zT<|zS<|zR<|zq 2 rfl<|zN<|zT<|zU<|ret1 Tryz.results30 ?_
    obtain rfl : k = l.length := by omega
    rw [List.take_length] at hcm
    have hcl : uqL l = l := hcm
    exact ⟨D, congrArg (fun z : List (List UInt8) => Value.slice (some ⟨g, 0, none⟩) z.length c) hcl.symm, by rw [hcl], by rw [hcl]; exact hS3⟩

theorem compI_small (a : Option Addr) (n c : Nat) (w : World) (hn : n < 2) :
    Ret Tryz.prog 32 [.slice a n c] w (fun v w' => v = .slice a n c ∧ St w [] w' []) := by
  refine enter Tryz.func32 rfl Tryz.ntmps32 rfl ?_
  have hS := St.refl w []
  refine zS<|zR<|zq 1 rfl<|zN<|zT<|zS<|zS<|zR<|zq 1 rfl<|zV (r_len (T := 48) rfl ti48.und rfl _ rfl)<|wl_dec_t (r_lss rfl rfl) rfl Om<|zN<|zT<|zt rfl<|zS<|zR<|zq 2 rfl<|zN<|zT<|zU<|zL<|ret1 Tryz.results32 ?_
  exact ⟨rfl, hS.fin⟩

theorem compI_ok (l : List Int) (D : List Value) (g n c : Nat) (w : World) (hb : w.heap[g]? = some (cl (l.map iv ++ D) 3)) (hl : l.length = n) (hn2 : 2 ≤ n) (hc : n ≤ c) (hn : n ≤ 4398046511104) :
    Ret Tryz.prog 32 [.slice (some ⟨g, 0, none⟩) n c] w (fun v w' => ∃ D', v = .slice (some ⟨g, 0, none⟩) (uqL l).length c ∧ ((uqL l).map iv ++ D').length = (l.map iv ++ D).length ∧ St w [g] w' [.blk g (cl ((uqL l).map iv ++ D') 3)]) := by
  subst hl
  refine enter Tryz.func32 rfl Tryz.ntmps32 rfl ?_
  have hS : St w [g] w [.blk g (cl ((l).map iv ++ D) 3)] := St.own hb
  refine zS<|zR<|zq 1 rfl<|zN<|zT<|zS<|zS<|zR<|zq 1 rfl<|zV (r_len (T := 48) rfl ti48.und rfl _ rfl)<|wl_dec_f (r_lss rfl rfl) rfl Om<|zN<|zT<|zf rfl<|zK<|zT<|zS<|zS<|zR<|zq 1 rfl<|zN<|zT<|zI ?_
  refine c_loopE [0] (fun d e w' => ∃ (k : Nat), Kw.look e 3 = vi k ∧ d = l.length - k ∧ St w [g] w' [.blk g (cl ((l).map iv ++ D) 3)] ∧ (1 ≤ k ∧ k ≤ l.length) ∧ (uqTo l k = l.take k)) (l.length - 1) ?_ ?_
  · exact ⟨1, rfl, rfl, hS, by omega, by rw [uqTo_ne (.inl rfl), take_gt l 0 Om]; rfl⟩
  · rintro d4 e1 w2 ⟨k, hc0_3, rfl, hS3, hk, hcm⟩ -
    refine c_set (d := 3) hc0_3<|zS<|zS<|zR<|zq 2 rfl<|zV (r_len (T := 48) rfl ti48.und rfl _ rfl) ?_
    refine wl_dec (r_lss rfl rfl) rfl (fun h4_3 => ?_) (fun h4_3 => ?_)
    · refine zN<|zT<|zt rfl<|zK<|zT<|zS<|zI<|zS<|c_drawS 9 hMixed hS3 ?_
      intro w5 hS6; refine zG 0 rfl hS6 (fun wF hF => r_move (v := .slice _ _ _) rfl) ?_; refine zG 1 rfl hS6 (fun wF hF => r_move (v := .int .i64 _) rfl) ?_; refine zG 2 rfl hS6 (fun wF hF => r_ixW0 ti48.und ti3 rfl rfl Om) ?_; refine zG 3 rfl hS6 (fun wF hF => r_loadW (f := iv) ti3.und rfl rfl (hF.heap Z0) Om) ?_; refine zG 4 rfl hS6 (fun wF hF => r_move (v := .slice _ _ _) rfl) ?_; refine zG 5 rfl hS6 (fun wF hF => r_move (v := .int .i64 _) rfl) ?_; refine zG 6 rfl hS6 (fun wF hF => r_subn (b := 1) rfl rfl Om Om) ?_; refine zG 7 rfl hS6 (fun wF hF => r_ixW0 ti48.und ti3 rfl rfl Om) ?_; refine zG 8 rfl hS6 (fun wF hF => r_loadW (f := iv) ti3.und rfl rfl (hF.heap Z0) Om) ?_; refine zGT rfl ?_
      refine wl_dec (r_eql rfl rfl) rfl (fun h6_9 => ?_) (fun h6_9 => ?_)
      · refine zN<|zT<|zt rfl<|zS<|zR<|zq 2 rfl<|zV (r_slW ti48.und ti3 rfl rfl Om Om Om)<|zq 1 rfl<|zN<|zT<|zS<|zS<|zR<|zq 1 rfl<|zN<|zT<|zI ?_
        refine c_loopE [0, 2, 4] (fun d e w' => ∃ (j : Nat) (m : Nat) (xs : List Int), Kw.look e 5 = vi j ∧ Kw.look e 3 = vi m ∧ d = l.length - k - j ∧ St w [g] w' [.blk g (cl ((xs).map iv ++ D) 3)] ∧ (xs.length = l.length) ∧ (xs.take m = uqTo l (k + j)) ∧ (∀ i, k + j - 1 ≤ i → gt xs i = gt l i) ∧ (1 ≤ j ∧ k + j ≤ l.length ∧ 1 ≤ m ∧ m ≤ k + j - 1)) (l.length - k - 1) ?_ ?_
        · exact ⟨1, k, l, rfl, rfl, rfl, hS6, rfl, by rw [uqTo_eq Om h6_9, hcm], fun _ _ => rfl, by omega⟩
        · rintro d10 e7 w8 ⟨j, m, xs, hc1_5, hc1_3, rfl, hS9, hxl, hxt, hxi, hjm⟩ -
          refine c_set (d := 5) hc1_5<|c_set (d := 3) hc1_3<|zS<|zS<|zR<|zq 2 rfl<|zV (r_len (T := 48) rfl ti48.und rfl _ rfl) ?_
          refine wl_dec (r_lss rfl rfl) rfl (fun h9_3 => ?_) (fun h9_3 => ?_)
          · refine zN<|zT<|zt rfl<|zK<|zT<|zS<|zI<|zS<|c_drawS 9 hMixed hS9 ?_
            intro w11 hS12; refine zG 0 rfl hS12 (fun wF hF => r_move (v := .slice _ _ _) rfl) ?_; refine zG 1 rfl hS12 (fun wF hF => r_move (v := .int .i64 _) rfl) ?_; refine zG 2 rfl hS12 (fun wF hF => r_ixW ti48.und ti3 rfl rfl Om) ?_; refine zG 3 rfl hS12 (fun wF hF => r_loadW (f := iv) ti3.und rfl rfl (hF.heap Z0) Om) ?_; refine zG 4 rfl hS12 (fun wF hF => r_move (v := .slice _ _ _) rfl) ?_; refine zG 5 rfl hS12 (fun wF hF => r_move (v := .int .i64 _) rfl) ?_; refine zG 6 rfl hS12 (fun wF hF => r_subn (b := 1) rfl rfl Om Om) ?_; refine zG 7 rfl hS12 (fun wF hF => r_ixW ti48.und ti3 rfl rfl Om) ?_; refine zG 8 rfl hS12 (fun wF hF => r_loadW (f := iv) ti3.und rfl rfl (hF.heap Z0) Om) ?_; refine zGT rfl ?_
            refine wl_dec (r_neq rfl rfl) rfl (fun h11_9 => ?_) (fun h11_9 => ?_)
            · refine zN<|zT<|zt rfl<|zS<|zR<|zq 4 rfl<|zV (r_ixW ti48.und ti3 rfl rfl Om)<|zV (r_loadW (f := iv) ti3.und rfl rfl (hS12.heap Z0) Om)<|zV (r_ixW0 ti48.und ti3 rfl rfl Om)<|zY (x_storeW1 (f := iv) [] hS12 ti3 rfl rfl rfl Om) ?_
              intro w13 hS14; simp only [ca, na] at hS14; refine zN<|zT<|zR<|zq 1 rfl<|zV (r_addn (b := 1) rfl rfl Om)<|zq 1 rfl<|zN<|zJ<|zT<|zR<|zq 1 rfl<|zV (r_addn (b := 1) rfl rfl Om)<|zq 1 rfl<|zN<|zT ?_
              have e1 : gt xs (k + j) = gt l (k + j) := hxi _ Om
              have e2 : gt xs (k + (j - 1)) = gt l (k + j - 1) := by rw [show k + (j - 1) = k + j - 1 by omega]; exact hxi _ Om
              rw [e1] at hS14
              have h11 : ¬ gt l (k + j) = gt l (k + j - 1) := fun h => h11_9 (by rw [e1]; exact h.trans e2.symm)
              exact ⟨l.length - k - (j + 1), _, by omega, rfl, ⟨j + 1, m + 1, _, rfl, rfl, rfl, hS14, by rw [List.length_set]; exact hxl, uq_step Om hxt Om h11, fun i hi => uq_keep (j := k + j - 1) hxi Om i Om, by omega⟩, ⟨rfl, rfl, rfl, trivial⟩⟩
            refine zN<|zT<|zf rfl<|zK<|zJ<|zT<|zR<|zq 1 rfl<|zV (r_addn (b := 1) rfl rfl Om)<|zq 1 rfl<|zN<|zT ?_
            have e1 : gt xs (k + j) = gt l (k + j) := hxi _ Om
            have e2 : gt xs (k + (j - 1)) = gt l (k + j - 1) := by rw [show k + (j - 1) = k + j - 1 by omega]; exact hxi _ Om
            have h11 : gt l (k + j) = gt l (k + j - 1) := by rw [← e1, ← e2]; exact Classical.not_not.1 h11_9
            exact ⟨l.length - k - (j + 1), _, by omega, rfl, ⟨j + 1, m, xs, rfl, rfl, rfl, hS12, hxl, by rw [hxt]; exact (uqTo_eq (k := k + j) Om h11).symm, fun i hi => hxi i Om, by omega⟩, ⟨rfl, rfl, rfl, trivial⟩⟩
          refine zN<|zT<|zf rfl<|zO<|zM<|zM<|c_inE<|zT<|zS<|zR<|zq 2 rfl<|zV (r_slW ti48.und ti3 rfl rfl Om Om Om) ?_
          rw [splitW xs D m] at hS9
          refine zX (x_clearW (T := 48) (n := l.length - m) (c := c - m) (sz := 1) [] hS9 rfl ti48.und ti3 (by intro q hq; simp [Value.cells] at hq; subst hq; rfl) rfl rfl (by rw [List.length_map, List.length_take, Nat.min_eq_left Om]) (by rw [List.length_append, List.length_map, List.length_drop]; omega) _ rfl) ?_; rintro _ w15 ⟨rfl, D', hD', hS16⟩; simp only [ca, na] at hS16; refine zN<|zT<|zS<|zR<|zq 2 rfl<|zV (r_sl_h ti48.und ti3 rfl rfl Om)<|zq 1 rfl<|zN<|zT<|zU<|zH<|zL<|zL<|zH<|zL<|ret1 Tryz.results32 ?_
          have hxe : xs.take m = uqL l := by rw [hxt, uqL]; congr 1; omega
          rw [hxe] at hS16
          have hml : m = (uqL l).length := by rw [← hxe, List.length_take]; omega
          have hln : ((uqL l).map iv ++ D').length = (l.map iv ++ D).length := by rw [List.length_append, hD', List.length_append, List.length_append, List.length_map, List.length_map, List.length_map, List.length_drop, hxl]; omega
          exact ⟨_, congrArg (fun z => Value.slice (some ⟨g, 0, none⟩) z c) hml, hln, hS16⟩
      refine zN<|zT<|zf rfl<|zK<|zJ<|zT<|zR<|zq 1 rfl<|zV (r_addn (b := 1) rfl rfl Om)<|zq 1 rfl<|zN<|zT ?_
      exact ⟨l.length - (k + 1), _, by omega, rfl, ⟨k + 1, rfl, rfl, hS6, by omega, by rw [uqTo_ne (.inr h6_9), take_gt l k Om, hcm]⟩, ⟨rfl, trivial⟩⟩
    refine zN<|zT<|zf rfl<|zO<|zM<|zM<|c_inE<|zT<|zS<|zR<|zq 2 rfl<|zN<|zT<|zU<|ret1 Tryz.results32 ?_
    obtain rfl : k = l.length := by omega
    rw [List.take_length] at hcm
    have hcl : uqL l = l := hcm
    exact ⟨D, congrArg (fun z : List Int => Value.slice (some ⟨g, 0, none⟩) z.length c) hcl.symm, by rw [hcl], by rw [hcl]; exact hS3⟩

theorem cloneS_ok (xs : List (List UInt8)) (a : Option Addr) (n c : Nat) (w : World) (hb : Row w a (xs.map sv)) (hl : xs.length = n) (hn : n ≤ 4398046511104) :
    Ret Tryz.prog 25 [.slice a n c] w (fun v w' => ∃ a' c', v = .slice a' n c' ∧ n ≤ c' ∧ St w [] w' [.row (.slice a' n c') 9 1 n ((xs).map sv)]) := by
  refine enter Tryz.func25 rfl Tryz.ntmps25 rfl ?_
  have hS := St.refl w []
  refine zS<|zR<|zq 1 rfl<|zN<|zT<|zS<|zS<|zR<|zq 1 rfl ?_
  refine wl_dec (r_eqlSn ti36.und rfl rfl) rfl (fun h1_1 => ?_) (fun h1_1 => ?_)
  · refine zN<|zT<|zt rfl<|zS<|zR<|zq 1 rfl<|zN<|zT<|zU<|zL<|ret1 Tryz.results25 ?_
    have h0 : xs = [] := by cases xs with | nil => rfl | cons x l => exact absurd (by subst h1_1; exact row_none hb) (by simp)
    subst h0
    obtain rfl : n = 0 := hl.symm
    exact ⟨none, 0, rfl, Nat.le_refl _, hS.nilRow⟩
  refine zN<|zT<|zf rfl<|zK<|zT<|zS<|zR<|zX (x_lit (vs := []) hS ti36.und ti9 rfl rfl rfl one_nil (by decide)) ?_; rintro _ w1 ⟨b5, rfl, hS2⟩
  have hS3 := St.toRow (l1 := []) (sz := 1) (n := 0) (cap := 0) hS2 (Nat.le_refl _) (by decide) rfl
  simp only [List.nil_append, Nat.zero_mul, List.take_zero] at hS3
  refine zq 1 rfl<|zX (x_append [] hS3 ti36.und ti9 rfl (by decide) rfl rfl (hb.st hS3) Ln (one_map xs fun _ => rfl) Om Om _ rfl) ?_; rintro _ w4 ⟨aq6, cq6, rfl, hcq6, hS5⟩; simp only [ca, na] at hS5; refine zq 1 rfl<|zN<|zT<|zU<|ret1 Tryz.results25 ?_
  rw [Nat.zero_add] at *
  exact ⟨_, _, rfl, hcq6, hS5⟩

end Go.Proofs.YtmonnmndphlkaaaGreat
