/- What the law's proof leans on. No condition. -/
import Derived.Test.YtjnnhlbfgnopiaaGreatDoorPCAI
import Derived.Test.YtjnnhlbfgnopiaaGreatDoorPCAN
namespace Go.Proofs.YtjnnhlbfgnopiaaGreatDoor
open Go.Kw
set_option linter.unusedVariables false
set_option linter.unusedSimpArgs false
set_option maxRecDepth 100000
theorem block_out (st rest : List UInt8) (hv tot bs : Nat) (bo o : Nat) (pa : Option Addr) (bl : List UInt8) (w : World) (h1 : st.length = 64) (h2 : rest.length = 32) (hb : w.heap[bs]? = some (cl (sumC st rest hv tot) 148)) (hl : bl.length = 32) (hpa : pa = some ⟨bo, o, none⟩) (hat : At w bo o (bl.map b8)) (hne : bo ∉ [bs]) :
    Ret Tryz.prog 124 [pt bs 0, .pointer pa] w (fun v w' => St w [bs] w' [.blk bs (cl (sumC (chunk st bl) rest hv tot) 148)]) := by
  subst hpa
  refine enter Tryz.func124 rfl Tryz.ntmps124 rfl ?_
  have hS := St.own hb
  refine zS<|zS<|zR<|zq 2 rfl<|zN<|zT<|zI ?_
  refine c_loopE [0, 6] (fun d e w' => ∃ (i : Nat), Kw.look e 7 = vi i ∧ d = 32 - i ∧ St w [bs] w' [.blk bs (cl (sumC (xorTo st bl i) rest hv tot) 148)] ∧ (i ≤ 32)) (32) ?_ ?_
  · exact ⟨0, rfl, rfl, by rw [xorTo_zero _ _ h1]; exact hS, by omega⟩
  · rintro d4 e1 w2 ⟨i, hc0_7, rfl, hS3, hI0_0⟩ -
    refine c_set (d := 7) hc0_7<|zS<|zR ?_
    refine wl_dec (r_lss rfl rfl) rfl (fun h1_0 => ?_) (fun h1_0 => ?_)
    · refine zN<|zT<|zS<|zt rfl<|zK<|zT<|zS<|zI<|zS<|c_drawS 5 hMixed hS3 ?_
      intro w5 hS6; refine zG 0 rfl hS6 (fun wF hF => r_move (v := .int .i64 _) rfl) ?_; refine zG 1 rfl hS6 (fun wF hF => r_nilCheck rfl) ?_; refine zG 2 rfl hS6 (fun wF hF => r_ixA (sz := 1) ti34.und ti5 rfl rfl Sd rfl) ?_; refine zG 3 rfl hS6 (fun wF hF => r_loadAt1 ti5.und rfl rfl (hat.stM hF hne) (by rw [Nat.mul_one]; exact map_gt _ _ _ Sd) rfl) ?_; refine zG 4 rfl hS6 (fun wF hF => r_assign (v := .int .i64 _) rfl) ?_; refine zGT rfl ?_; refine zq 1 rfl<|zN<|zT<|c_drawS 10 hMixed hS6 ?_; intro w7 hS8; refine zG 0 rfl hS8 (fun wF hF => r_move (v := .pointer _) rfl) ?_; refine zG 1 rfl hS8 (fun wF hF => r_move (v := .int .i64 _) rfl) ?_; refine zG 2 rfl hS8 (fun wF hF => r_nilCheck rfl) ?_; refine zG 3 rfl hS8 (fun wF hF => r_field fa148_0 rfl) ?_; refine zG 4 rfl hS8 (fun wF hF => r_ixA (sz := 1) ti64.und ti5 rfl rfl Sd (Nat.zero_add _ |>.trans (Nat.mul_one _))) ?_; refine zG 5 rfl hS8 (fun wF hF => r_loadB1 ti5.und rfl rfl (hF.heap Z0) (sumC_st (xorTo_len _ _ _) h2 Om)) ?_; refine zG 6 rfl hS8 (fun wF hF => r_move (v := .int .u8 _) rfl) ?_; refine zG 7 rfl hS8 (fun wF hF => r_xor8 rfl rfl) ?_; refine zG 8 rfl hS8 (fun wF hF => r_nilCheck rfl) ?_; refine zG 9 rfl hS8 (fun wF hF => r_field fa148_0 rfl) ?_; refine zGT rfl ?_; refine zV (r_ixA (sz := 1) ti64.und ti5 rfl rfl Sd (Nat.zero_add _ |>.trans (Nat.mul_one _))) ?_; refine zY (x_store1 (v := b8 _) [] hS8 ti5 rfl rfl rfl (by rw [sumC_len (xorTo_len _ _ _) h2]; omega)) ?_; intro w9 hS10; simp only [ca, na] at hS10
      rw [sumC_setSt (xorTo_len _ _ _) h2 Om] at hS10
      refine zN<|zJ<|zT<|zR<|zV (r_addn (b := 1) rfl rfl Om)<|zq 1 rfl<|zN<|zT ?_
      refine ⟨32 - (i + 1), _, by omega, rfl, ⟨i + 1, rfl, rfl, ?_, by omega⟩, ⟨rfl, rfl, trivial⟩⟩
      rw [← xorTo_set _ _ _ Om]
      exact hS10
    refine zN<|zT<|zS<|zf rfl<|zO<|zM<|zM<|c_inE<|zT ?_
    obtain rfl : i = 32 := by omega
    refine zR<|zq 2 rfl<|zV (r_nilCheck rfl)<|zV (r_field fa148_0 rfl)<|wl_val (r_loadBP ti64 rfl rfl (hS3.heap Z0) (by rw [sumC_len (xorTo_len _ _ _) h2]; decide)) rfl ?_
    rw [sumC_state (xorTo_len _ _ _) h2]
    refine zE fn143 rfl hS3 (stir_ok _ _ (xorTo_len _ _ _)) fun w11 hS13=>zV (r_nilCheck rfl)<|zV (r_field fa148_0 rfl)<|zY (x_store (v := .agg ((chunk st bl).map b8).toArray) (cs := (chunk st bl).map b8) [] hS13 ti64 rfl rfl rfl (by simp) (one_b8 _) (by rw [sumC_len (xorTo_len _ _ _) h2]; simp) (sumC_putState (xorTo_len _ _ _) h2 (by simp))) ?_; intro w14 hS15; simp only [ca, na] at hS15; refine zN<|ret0n Tryz.results124 ?_
    exact hS15

theorem block_in (st rest : List UInt8) (hv tot bs : Nat) (w : World) (h1 : st.length = 64) (h2 : rest.length = 32) (hb : w.heap[bs]? = some (cl (sumC st rest hv tot) 148)) :
    Ret Tryz.prog 124 [pt bs 0, pt bs 64] w (fun v w' => St w [bs] w' [.blk bs (cl (sumC (chunk st rest) rest hv tot) 148)]) := by
  refine enter Tryz.func124 rfl Tryz.ntmps124 rfl ?_
  have hS := St.own hb
  refine zS<|zS<|zR<|zq 2 rfl<|zN<|zT<|zI ?_
  refine c_loopE [0, 6] (fun d e w' => ∃ (i : Nat), Kw.look e 7 = vi i ∧ d = 32 - i ∧ St w [bs] w' [.blk bs (cl (sumC (xorTo st rest i) rest hv tot) 148)] ∧ (i ≤ 32)) (32) ?_ ?_
  · exact ⟨0, rfl, rfl, by rw [xorTo_zero _ _ h1]; exact hS, by omega⟩
  · rintro d4 e1 w2 ⟨i, hc0_7, rfl, hS3, hI0_0⟩ -
    refine c_set (d := 7) hc0_7<|zS<|zR ?_
    refine wl_dec (r_lss rfl rfl) rfl (fun h1_0 => ?_) (fun h1_0 => ?_)
    · refine zN<|zT<|zS<|zt rfl<|zK<|zT<|zS<|zI<|zS<|c_drawS 5 hMixed hS3 ?_
      intro w5 hS6; refine zG 0 rfl hS6 (fun wF hF => r_move (v := .int .i64 _) rfl) ?_; refine zG 1 rfl hS6 (fun wF hF => r_nilCheck rfl) ?_; refine zG 2 rfl hS6 (fun wF hF => r_ixA (sz := 1) ti34.und ti5 rfl rfl Sd rfl) ?_; refine zG 3 rfl hS6 (fun wF hF => r_loadB1 ti5.und rfl rfl (hF.heap Z0) (sumC_rest (xorTo_len _ _ _) h2 Om)) ?_; refine zG 4 rfl hS6 (fun wF hF => r_assign (v := .int .i64 _) rfl) ?_; refine zGT rfl ?_; refine zq 1 rfl<|zN<|zT<|c_drawS 10 hMixed hS6 ?_; intro w7 hS8; refine zG 0 rfl hS8 (fun wF hF => r_move (v := .pointer _) rfl) ?_; refine zG 1 rfl hS8 (fun wF hF => r_move (v := .int .i64 _) rfl) ?_; refine zG 2 rfl hS8 (fun wF hF => r_nilCheck rfl) ?_; refine zG 3 rfl hS8 (fun wF hF => r_field fa148_0 rfl) ?_; refine zG 4 rfl hS8 (fun wF hF => r_ixA (sz := 1) ti64.und ti5 rfl rfl Sd (Nat.zero_add _ |>.trans (Nat.mul_one _))) ?_; refine zG 5 rfl hS8 (fun wF hF => r_loadB1 ti5.und rfl rfl (hF.heap Z0) (sumC_st (xorTo_len _ _ _) h2 Om)) ?_; refine zG 6 rfl hS8 (fun wF hF => r_move (v := .int .u8 _) rfl) ?_; refine zG 7 rfl hS8 (fun wF hF => r_xor8 rfl rfl) ?_; refine zG 8 rfl hS8 (fun wF hF => r_nilCheck rfl) ?_; refine zG 9 rfl hS8 (fun wF hF => r_field fa148_0 rfl) ?_; refine zGT rfl ?_; refine zV (r_ixA (sz := 1) ti64.und ti5 rfl rfl Sd (Nat.zero_add _ |>.trans (Nat.mul_one _))) ?_; refine zY (x_store1 (v := b8 _) [] hS8 ti5 rfl rfl rfl (by rw [sumC_len (xorTo_len _ _ _) h2]; omega)) ?_; intro w9 hS10; simp only [ca, na] at hS10
      rw [sumC_setSt (xorTo_len _ _ _) h2 Om] at hS10
      refine zN<|zJ<|zT<|zR<|zV (r_addn (b := 1) rfl rfl Om)<|zq 1 rfl<|zN<|zT ?_
      refine ⟨32 - (i + 1), _, by omega, rfl, ⟨i + 1, rfl, rfl, ?_, by omega⟩, ⟨rfl, rfl, trivial⟩⟩
      rw [← xorTo_set _ _ _ Om]
      exact hS10
    refine zN<|zT<|zS<|zf rfl<|zO<|zM<|zM<|c_inE<|zT ?_
    obtain rfl : i = 32 := by omega
    refine zR<|zq 2 rfl<|zV (r_nilCheck rfl)<|zV (r_field fa148_0 rfl)<|wl_val (r_loadBP ti64 rfl rfl (hS3.heap Z0) (by rw [sumC_len (xorTo_len _ _ _) h2]; decide)) rfl ?_
    rw [sumC_state (xorTo_len _ _ _) h2]
    refine zE fn143 rfl hS3 (stir_ok _ _ (xorTo_len _ _ _)) fun w11 hS13=>zV (r_nilCheck rfl)<|zV (r_field fa148_0 rfl)<|zY (x_store (v := .agg ((chunk st rest).map b8).toArray) (cs := (chunk st rest).map b8) [] hS13 ti64 rfl rfl rfl (by simp) (one_b8 _) (by rw [sumC_len (xorTo_len _ _ _) h2]; simp) (sumC_putState (xorTo_len _ _ _) h2 (by simp))) ?_; intro w14 hS15; simp only [ca, na] at hS15; refine zN<|ret0n Tryz.results124 ?_
    exact hS15

theorem take_ok (st rest : List UInt8) (hv tot bs : Nat) (l : List UInt8) (n1 : Nat) (a : Option Addr) (c : Nat) (w : World) (h1 : st.length = 64) (h2 : rest.length = 32) (hb : w.heap[bs]? = some (cl (sumC st rest hv tot) 148)) (hh : hv < 32) (hl : l.length = n1) (hc' : n1 ≤ c) (hr : Row w a (l.map b8)) (hs : Sep a l bs) (hn : n1 ≤ 140737488355328) :
    Ret Tryz.prog 121 [pt bs 0, .slice a n1 c] w (fun v w' => ∃ rest', rest'.length = 32 ∧ rest'.take (left (rest.take hv ++ l)).length = left (rest.take hv ++ l) ∧ St w [bs] w' [.blk bs (cl (sumC (soak st (rest.take hv ++ l)) rest' (left (rest.take hv ++ l)).length tot) 148)]) := by
  have hc : l.length ≤ c := by omega
  refine enter Tryz.func121 rfl Tryz.ntmps121 rfl ?_
  have hS := St.own hb
  refine c_cutE [0] (fun e w' => ∃ (st2 : List UInt8) (rest2 : List UInt8) (l2 : List UInt8) (hv2 : Nat) (n2 : Nat) (a2 : Option Addr) (c2 : Nat), Kw.look e 1 = .slice a2 n2 c2 ∧ St w [bs] w' [.blk bs (cl (sumC st2 rest2 hv2 tot) 148)] ∧ (st2.length = 64) ∧ (rest2.length = 32) ∧ (l2.length = n2) ∧ (n2 ≤ c2) ∧ (Row w a2 (l2.map b8)) ∧ (Sep a2 l2 bs) ∧ (soak st (rest.take hv ++ l) = soak st2 l2) ∧ (left (rest.take hv ++ l) = left l2)) ?_ ?_
  · refine zS<|zR<|zq 1 rfl<|zV (r_nilCheck rfl)<|zV (r_field fa148_2 rfl)<|zV (r_loadB1 ti3.und rfl rfl (hS.heap Z0) (sumC_have h1 h2)) ?_
    refine wl_dec (r_gtr rfl rfl) rfl (fun h0_4 => ?_) (fun h0_4 => ?_)
    · refine zN<|zT<|zt rfl<|zS<|c_drawS 9 hMixed hS ?_
      intro w5 hS6; refine zG 0 rfl hS6 (fun wF hF => r_move (v := .pointer _) rfl) ?_; refine zG 1 rfl hS6 (fun wF hF => r_nilCheck rfl) ?_; refine zG 2 rfl hS6 (fun wF hF => r_field fa148_1 rfl) ?_; refine zG 3 rfl hS6 (fun wF hF => r_move (v := .pointer _) rfl) ?_; refine zG 4 rfl hS6 (fun wF hF => r_nilCheck rfl) ?_; refine zG 5 rfl hS6 (fun wF hF => r_field fa148_2 rfl) ?_; refine zG 6 rfl hS6 (fun wF hF => r_loadB1 ti3.und rfl rfl (hF.heap Z0) (sumC_have h1 h2)) ?_; refine zG 7 rfl hS6 (fun wF hF => r_sa_l ti34.und ti5 rfl rfl Om) ?_; refine zG 8 rfl hS6 (fun wF hF => r_move (v := .slice _ _ _) rfl) ?_; refine zGT rfl ?_; refine zX (x_copy [] hS6 ti39.und ti5 rfl rfl (hr.stM hS6 (Sep.not hs)) (by simp [hl]) (by rw [sumC_len h1 h2]; omega) (one_b8 _) _ rfl) ?_; rintro _ w7 ⟨rfl, hS8⟩
      simp only [List.cons_append, List.nil_append, Nat.mul_one] at hS8
      rw [← List.map_take, sumC_putRest h1 h2 (by simp; omega)] at hS8
      have hrl1 : (splice rest hv (l.take (32 - hv))).length = 32 := by rw [splice_len _ _ _ (by simp; omega)]; exact h2
      refine zq 1 rfl<|zN<|zT<|zS<|zR<|zq 1 rfl<|zV (r_nilCheck rfl)<|zV (r_field fa148_2 rfl)<|zV (r_loadB1 ti3.und rfl rfl (hS8.heap Z0) (sumC_have h1 hrl1))<|zq 1 rfl<|zV (r_addn rfl rfl Om)<|zV (r_nilCheck rfl)<|zV (r_field fa148_2 rfl)<|zY (x_store1 (v := vi _) [] hS8 ti3 rfl rfl rfl (by rw [sumC_len h1 hrl1]; omega)) ?_; intro w9 hS10; simp only [ca, na] at hS10
      rw [sumC_setHave h1 hrl1] at hS10
      refine zN<|zT<|zS<|zR<|zq 2 rfl<|zV (r_sl_l ti39.und ti5 rfl rfl Om)<|zq 1 rfl<|zN<|zT<|zS<|zS<|zR<|zq 1 rfl<|zV (r_nilCheck rfl)<|zV (r_field fa148_2 rfl)<|zV (r_loadB1 ti3.und rfl rfl (hS10.heap Z0) (sumC_have h1 hrl1)) ?_
      refine wl_dec (r_lss rfl rfl) rfl (fun h4_4 => ?_) (fun h4_4 => ?_)
      · refine zN<|zT<|zt rfl<|zU<|zL<|zL<|ret0 Tryz.results121 ?_
        have hlen : (rest.take hv ++ l).length < 32 := by simp; omega
        have e1 : min n1 (32 - hv) = l.length := by omega
        have e3 : (left (rest.take hv ++ l)).length = hv + l.length := by rw [left_short _ hlen]; simp; omega
        rw [e1] at hS10
        refine ⟨_, hrl1, ?_, ?_⟩
        · rw [e3, left_short _ hlen]; exact put_take _ _ _ h2 hh Om
        · rw [e3, soak_short _ _ hlen]; exact hS10
      refine zN<|zT<|zf rfl<|zK<|zT<|zS<|zR<|zq 2 rfl<|zV (r_nilCheck rfl)<|zV (r_field fa148_1 rfl)<|zC fn124 rfl (block_in _ _ _ _ _ _ h1 hrl1 (hS10.heap Z0)) ?_
      rintro v40 w11 hx12
      have hS13 := St.callM (X := [_]) (L := []) hS10 hx12 (by simp [Item.id])
      simp only [ca, na] at hS13; refine zN<|zT<|zR<|zq 1 rfl<|zV (r_nilCheck rfl)<|zV (r_field fa148_2 rfl)<|zY (x_store1 (v := vi 0) [] hS13 ti3 rfl rfl rfl (by rw [sumC_len (chunk_len _ _) hrl1]; omega)) ?_; intro w14 hS15; simp only [ca, na] at hS15
      rw [sumC_setHave (chunk_len _ _) hrl1] at hS15
      refine zN<|zT ?_
      have e1 : min n1 (32 - hv) = 32 - hv := by omega
      have hle : 32 - hv ≤ l.length := by omega
      have hT : 32 ≤ (rest.take hv ++ l).length := by simp; omega
      refine ⟨_, rfl, ⟨_, _, l.drop (32 - hv), _, _, _, _, (by rw [e1]; rfl), hS15, chunk_len _ _, hrl1, ?_, ?_, hr.from' hc (32 - hv), Sep.drop hs, ?_, ?_⟩, ⟨rfl, trivial⟩⟩
      · simp; omega
      · omega
      · rw [soak_step _ _ hT, put_behind _ _ _ h2 hh, put_full _ _ _ h2 hh hle]
      · rw [left_step _ hT, put_behind _ _ _ h2 hh]
    refine zN<|zT<|zf rfl<|zK<|zT ?_
    obtain rfl : hv = 0 := by omega
    exact ⟨_, rfl, ⟨_, _, l, _, _, _, _, rfl, hS, h1, h2, hl, hc', hr, hs, by simp, by simp⟩, ⟨rfl, trivial⟩⟩
  · rintro e1 w2 ⟨st2, rest2, l2, hv2, n2, a2, c2, hc4_1, hS3, g1, g2, g3, g4, hr2, hs2, gs, gl⟩ -
    refine c_set (d := 1) hc4_1<|zS<|zI ?_
    refine c_loopE [0] (fun d e w' => ∃ (st2 : List UInt8) (rest2 : List UInt8) (l2 : List UInt8) (hv2 : Nat) (n2 : Nat) (a2 : Option Addr) (c2 : Nat), Kw.look e 1 = .slice a2 n2 c2 ∧ d = l2.length ∧ St w [bs] w' [.blk bs (cl (sumC st2 rest2 hv2 tot) 148)] ∧ (st2.length = 64) ∧ (rest2.length = 32) ∧ (l2.length = n2) ∧ (n2 ≤ c2) ∧ (Row w a2 (l2.map b8)) ∧ (Sep a2 l2 bs) ∧ (soak st (rest.take hv ++ l) = soak st2 l2) ∧ (left (rest.take hv ++ l) = left l2)) (l2.length) ?_ ?_
    · exact ⟨st2, rest2, l2, hv2, n2, a2, c2, rfl, rfl, hS3, g1, g2, g3, g4, hr2, hs2, gs, gl⟩
    · rintro d19 e16 w17 ⟨st2, rest2, l2, hv2, n2, a2, c2, hc0_1, rfl, hS18, g1, g2, g3, g4, hr2, hs2, gs, gl⟩ -
      refine c_set (d := 1) hc0_1<|zS<|zS<|zR<|zq 1 rfl<|zV (r_len (T := 39) rfl ti39.und rfl _ rfl) ?_
      refine wl_dec (r_geq rfl rfl) rfl (fun h7_2 => ?_) (fun h7_2 => ?_)
      · refine zN<|zT<|zt rfl<|zK<|zT<|zI<|zS<|zR<|zq 2 rfl<|zV (r_s2a ti34.und rfl Om) ?_
        obtain ⟨bo2, o2, ha2, hA2⟩ := hr2.some_of (by simp; omega)
        have hne2 := Sep.not hs2 bo2 o2 (by intro h0; simp at h0; subst h0; simp at g3; omega) ha2
        have hA2 := (hA2.stM hS18 hne2).take (n := 32)
        rw [← List.map_take] at hA2
        refine zC fn124 rfl (block_out _ _ _ _ _ _ _ _ (l2.take 32) _ g1 g2 (hS18.heap Z0) (by simp; omega) ha2 hA2 hne2) ?_
        rintro v50 w20 hx21
        have hS22 := St.callM (X := [_]) (L := []) hS18 hx21 (by simp [Item.id])
        simp only [ca, na] at hS22; refine zN<|zT<|zR<|zq 1 rfl<|zV (r_sl_l (l := 32) ti39.und ti5 rfl rfl Om)<|zq 1 rfl<|zN<|zJ<|zT ?_
        refine ⟨(l2.drop 32).length, _, by simp; omega, rfl, ⟨_, _, l2.drop 32, _, _, _, _, rfl, rfl, hS22, chunk_len _ _, g2, ?_, ?_, hr2.from' Om 32, Sep.drop hs2, ?_, ?_⟩, ⟨rfl, trivial⟩⟩
        · simp; omega
        · omega
        · rw [gs, soak_step _ _ Om]
        · rw [gl, left_step _ Om]
      refine zN<|zT<|zf rfl<|zO<|zM<|zM<|c_inE<|zT<|zR<|zq 2 rfl<|zV (r_nilCheck rfl)<|zV (r_field fa148_1 rfl)<|zV (r_sa1_0 ti34.und ti5 rfl )<|zq 1 rfl<|zX (x_copy [] hS18 ti39.und ti5 rfl rfl (hr2.stM hS18 (Sep.not hs2)) (by simp [g3]) (by rw [sumC_len g1 g2]; omega) (one_b8 _) _ rfl) ?_; rintro _ w23 ⟨rfl, hS24⟩; simp only [ca, na] at hS24
      rw [List.take_of_length_le (l := l2.map b8) (by simp; omega), show 0 + 64 = 64 + 0 from rfl, sumC_putRest g1 g2 Om] at hS24
      have hrl2 : (splice rest2 0 l2).length = 32 := by rw [splice_len _ _ _ Om]; exact g2
      refine zV (r_nilCheck rfl)<|zV (r_field fa148_2 rfl)<|zY (x_store1 (v := vi _) [] hS24 ti3 rfl rfl rfl (by rw [sumC_len g1 hrl2]; omega)) ?_; intro w25 hS26; simp only [ca, na] at hS26
      rw [sumC_setHave g1 hrl2] at hS26
      refine zN<|ret0n Tryz.results121 ?_
      have hlen : l2.length < 32 := by omega
      have e1 : min n2 32 = l2.length := by omega
      rw [e1] at hS26
      refine ⟨_, hrl2, ?_, ?_⟩
      · rw [gl, left_short _ hlen]; exact put_head _ _ Om
      · rw [gs, gl, soak_short _ _ hlen, left_short _ hlen]; exact hS26

theorem bz148 : Tryz.prog.built 148 [] = some (sumC (List.replicate 64 (0 : UInt8)) (List.replicate 32 (0 : UInt8)) 0 0).toArray := by kernel_rfl

theorem new_ok (p : Int) (w : World) (hp1 : -9223372036854775808 ≤ p) (hp2 : p ≤ 9223372036854775807) :
    Ret Tryz.prog 97 [.int .i64 p] w (fun v w' => ((p < 0 ∨ 255 < p) ∧ v = .tuple #[.pointer none, vi 3] ∧ St w [] w' []) ∨ ((0 ≤ p ∧ p ≤ 255) ∧ ∃ b, v = .tuple #[pt b 0, vi 0] ∧ St w [] w' [.blk b (cl (sumC (ini (UInt8.ofNat p.toNat)) (List.replicate 32 (0 : UInt8)) 0 0) 148)])) := by
  refine enter Tryz.func97 rfl Tryz.ntmps97 rfl ?_
  have hS := St.refl w []
  refine zS<|zR<|zq 2 rfl<|zN<|zT<|zS<|zS<|zR<|zq 1 rfl ?_
  refine wl_dec (r_lss rfl rfl) rfl (fun h1_1 => ?_) (fun h1_1 => ?_)
  · refine zq 4 rfl<|zN<|zT<|zt rfl<|zS<|zR<|zq 2 rfl<|zN<|zT<|zU<|zL<|ret2 Tryz.results97 rfl rfl ?_
    first | exact .inl ⟨by omega, rfl, hS.fin⟩ | exact .inr ⟨by omega, _, rfl, hS⟩
  refine zq 2 rfl ?_
  refine wl_dec (r_gtr rfl rfl) rfl (fun h1_4 => ?_) (fun h1_4 => ?_)
  · refine zq 1 rfl<|zN<|zT<|zt rfl<|zS<|zR<|zq 2 rfl<|zN<|zT<|zU<|zL<|ret2 Tryz.results97 rfl rfl ?_
    first | exact .inl ⟨by omega, rfl, hS.fin⟩ | exact .inr ⟨by omega, _, rfl, hS⟩
  refine zq 1 rfl<|zN<|zT<|zf rfl<|zK<|zT<|zS<|zR<|zV (r_build00 bz148)<|zB (v := .agg _) hS rfl rfl fun b12 w1 hS2=>zq 1 rfl<|zN<|zT<|zS<|c_set (d := 0) (v := vi p.toNat) (congrArg (Value.int .i64) (toNat_cast Om).symm)<|zR<|zq 2 rfl<|zV (c_i64_u8 ti5.und ⟨_, ti3.und⟩ rfl)<|zV (r_nilCheck rfl)<|zV (r_field fa148_0 rfl)<|zV (r_ixA (m := 63) (sz := 1) ti64.und ti5 rfl rfl Sd (Nat.zero_add _ |>.trans (Nat.mul_one _))) ?_; refine zY (x_store1 (v := b8 _) [] hS2 ti5 rfl rfl rfl (by rw [sumC_len (by simp : (List.replicate 64 (0 : UInt8)).length = 64) (by simp : (List.replicate 32 (0 : UInt8)).length = 32)]; decide)) ?_; intro w3 hS4; simp only [ca, na] at hS4
  rw [sumC_setSt (by simp : (List.replicate 64 (0 : UInt8)).length = 64) (by simp : (List.replicate 32 (0 : UInt8)).length = 32) (by decide)] at hS4
  refine zN<|zT<|zS<|zR<|zq 3 rfl<|zN<|zT<|zU<|ret2 Tryz.results97 rfl rfl ?_
  first | exact .inl ⟨by omega, rfl, hS4.fin⟩ | exact .inr ⟨by omega, _, rfl, hS4⟩

theorem write_ok_c0 {p : Prop} (h : p := by first | exact .inr ⟨by omega, rfl, hF⟩ | (refine .inl ⟨by omega, rfl, _, hr1, hr2, ?_⟩; rw [List.length_append, hl]; exact hF)) : p := h
theorem write_ok (s0 t rest : List UInt8) (bs : Nat) (l : List UInt8) (n1 : Nat) (a : Option Addr) (c : Nat) (w : World) (h0 : s0.length = 64) (h2 : rest.length = 32) (hb : w.heap[bs]? = some (cl (sumC (soak s0 t) rest (left t).length t.length) 148)) (hrt : rest.take (left t).length = left t) (hl : l.length = n1) (hc' : n1 ≤ c) (hr : Row w a (l.map b8)) (hs : Sep a l bs) (hn : n1 ≤ 140737488355328) (ht : t.length ≤ 1048576) :
    Ret Tryz.prog 98 [pt bs 0, .slice a n1 c] w (fun v w' => ((t.length + n1 ≤ 1048576 ∧ v = vi 0 ∧ ∃ rest', rest'.length = 32 ∧ rest'.take (left (t ++ l)).length = left (t ++ l) ∧ St w [bs] w' [.blk bs (cl (sumC (soak s0 (t ++ l)) rest' (left (t ++ l)).length (t ++ l).length) 148)]) ∨ (1048576 < t.length + n1 ∧ v = vi 5 ∧ St w [bs] w' [.blk bs (cl (sumC (soak s0 t) rest (left t).length t.length) 148)]))) := by
  refine enter Tryz.func98 rfl Tryz.ntmps98 rfl ?_
  have hS := St.own hb
  refine zS<|zR<|zq 1 rfl<|zN<|zT<|zS<|zS<|zR<|zq 1 rfl<|zV (r_len (T := 39) rfl ti39.und rfl _ rfl)<|zq 1 rfl<|zV (r_nilCheck rfl)<|zV (r_field fa148_3 rfl)<|zV (r_loadB1 ti3.und rfl rfl (hS.heap Z0) (sumC_total (soak_len s0 t h0) h2))<|zV (r_subi rfl rfl Om Om) ?_
  refine wl_dec (r_gtr rfl rfl) rfl (fun h1_7 => ?_) (fun h1_7 => ?_)
  · refine zN<|zT<|zt rfl<|zS<|zR<|zq 1 rfl<|zN<|zT<|zU<|zL<|ret1 Tryz.results98 ?_
    have hF := hS; exact write_ok_c0
  refine zN<|zT<|zf rfl<|zK<|zT<|zS<|zR<|zq 1 rfl<|zV (r_nilCheck rfl)<|zV (r_field fa148_3 rfl)<|zV (r_loadB1 ti3.und rfl rfl (hS.heap Z0) (sumC_total (soak_len s0 t h0) h2))<|zq 1 rfl<|zV (r_len (T := 39) rfl ti39.und rfl _ rfl)<|zV (r_addn rfl rfl Om)<|zV (r_nilCheck rfl)<|zV (r_field fa148_3 rfl)<|zY (x_store1 (v := vi _) [] hS ti3 rfl rfl rfl (by rw [sumC_len (soak_len s0 t h0) h2]; decide)) ?_; intro w1 hS2; simp only [ca, na] at hS2
  rw [sumC_setTotal (soak_len s0 t h0) h2] at hS2
  refine zN<|zT<|zS<|zR<|zq 2 rfl<|zC fn121 rfl (take_ok _ _ _ _ _ l _ _ _ _ (soak_len s0 t h0) h2 (hS2.heap Z0) (by rw [left_len]; omega) hl hc' (hr.stM hS2 (Sep.not hs)) hs hn) ?_; rintro _ w3 ⟨rest', hr1, hr2, hx4⟩
  have hS5 := St.callM (X := [_]) (L := []) hS2 hx4 (by simp [Item.id])
  simp only [ca, na] at hS5
  rw [hrt, ← soak_app, ← left_app] at hS5
  rw [hrt, ← left_app] at hr2
  refine zN<|zT<|zS<|zR<|zq 1 rfl<|zN<|zT<|zU<|ret1 Tryz.results98 ?_
  have hF := hS5; exact write_ok_c0

theorem copy_ok (st rest : List UInt8) (hv tot bs : Nat) (w : World) (h1 : st.length = 64) (h2 : rest.length = 32) (hb : w.heap[bs]? = some (cl (sumC st rest hv tot) 148)) :
    Ret Tryz.prog 122 [pt bs 0] w (fun v w' => ∃ b', v = pt b' 0 ∧ St w [bs] w' [.blk b' (cl (sumC st rest hv tot) 148), .blk bs (cl (sumC st rest hv tot) 148)]) := by
  refine enter Tryz.func122 rfl Tryz.ntmps122 rfl ?_
  have hS := St.own hb
  refine zS<|zR<|zq 1 rfl<|zN<|zT<|zS<|zR<|zq 1 rfl<|zV (r_nilCheck rfl)<|zV (r_loadB ti148 ag148 rfl (hS.heap Z0) (sumC_len h1 h2))<|zA (C := [.int .u8 0, .int .u8 0, .int .u8 0, .int .u8 0, .int .u8 0, .int .u8 0, .int .u8 0, .int .u8 0, .int .u8 0, .int .u8 0, .int .u8 0, .int .u8 0, .int .u8 0, .int .u8 0, .int .u8 0, .int .u8 0, .int .u8 0, .int .u8 0, .int .u8 0, .int .u8 0, .int .u8 0, .int .u8 0, .int .u8 0, .int .u8 0, .int .u8 0, .int .u8 0, .int .u8 0, .int .u8 0, .int .u8 0, .int .u8 0, .int .u8 0, .int .u8 0, .int .u8 0, .int .u8 0, .int .u8 0, .int .u8 0, .int .u8 0, .int .u8 0, .int .u8 0, .int .u8 0, .int .u8 0, .int .u8 0, .int .u8 0, .int .u8 0, .int .u8 0, .int .u8 0, .int .u8 0, .int .u8 0, .int .u8 0, .int .u8 0, .int .u8 0, .int .u8 0, .int .u8 0, .int .u8 0, .int .u8 0, .int .u8 0, .int .u8 0, .int .u8 0, .int .u8 0, .int .u8 0, .int .u8 0, .int .u8 0, .int .u8 0, .int .u8 0, .int .u8 0, .int .u8 0, .int .u8 0, .int .u8 0, .int .u8 0, .int .u8 0, .int .u8 0, .int .u8 0, .int .u8 0, .int .u8 0, .int .u8 0, .int .u8 0, .int .u8 0, .int .u8 0, .int .u8 0, .int .u8 0, .int .u8 0, .int .u8 0, .int .u8 0, .int .u8 0, .int .u8 0, .int .u8 0, .int .u8 0, .int .u8 0, .int .u8 0, .int .u8 0, .int .u8 0, .int .u8 0, .int .u8 0, .int .u8 0, .int .u8 0, .int .u8 0, .int .i64 0, .int .i64 0]) hS ti148 rfl fun b3 w1 hS2=>zY (x_storeW (cs := sumC st rest hv tot) [] hS2 ti148 rfl rfl (sumC_len h1 h2) rfl (one_sumC _ _ _ _)) ?_; intro w3 hS4; simp only [ca, na] at hS4; refine zN<|zT<|zS<|zR<|zq 1 rfl<|zN<|zT<|zU<|ret1 Tryz.results122 ?_
  exact ⟨_, rfl, hS4⟩

theorem end_own (s0 t rest : List UInt8) (bs : Nat) (w : World) (h0 : s0.length = 64) (h2 : rest.length = 32) (hb : w.heap[bs]? = some (cl (sumC (soak s0 t) rest (left t).length t.length) 148)) (hrt : rest.take (left t).length = left t) (ht : t.length ≤ 1048576) :
    Ret Tryz.prog 99 [pt bs 0] w (fun v w' => v = .agg ((endL s0 t).map b8).toArray ∧ St w [bs] w' [.blk bs (cl (sumC (soak s0 t) rest (left t).length t.length) 148)]) := by
  refine enter Tryz.func99 rfl Tryz.ntmps99 rfl ?_
  have hS := St.own hb
  refine zS<|zR<|zA (C := ((List.replicate 64 (0 : UInt8)).map b8)) hS ti64 rfl fun b2 w1 hS2=>zN<|zT<|zS<|zR<|zq 1 rfl<|zC fn122 rfl (copy_ok _ _ _ _ _ _ (soak_len s0 t h0) h2 (hS2.heap Z1)) ?_; rintro _ w3 ⟨b7, rfl, hx4⟩
  have hS5 := St.callM (X := [_]) (L := [_]) (hS2.perm ((List.Perm.cons _ (List.Perm.refl _)).trans (List.perm_middle (l₁ := [_])).symm)) hx4 (by simp [Item.id])
  simp only [ca, na] at hS5; refine zq 1 rfl<|zN<|zT<|zS<|zR<|zq 1 rfl ?_; refine wl_exv (x_lit (vs := (([128] : List UInt8).map b8)) hS5 ti39.und ti5 rfl rfl rfl On (by decide)) rfl ?_; rintro _ w6 ⟨b9, rfl, hS7⟩; refine zC fn121 rfl (take_ok _ _ _ _ b7 [128] 1 _ _ _ (soak_len s0 t h0) h2 (hS7.heap Z1) (left_lt _) rfl (Nat.le_refl _) (Row.of_at (at_all (hS7.heap Z0))) (Sep.ofNe (St.ne2 (hS7.perm ((List.Perm.cons _ ((List.Perm.cons _ (List.Perm.refl _)).trans (List.perm_middle (l₁ := [_, _])).symm)).trans (List.perm_middle (l₁ := [_, _])).symm)).drop1.drop1)) (by decide)) ?_; rintro _ w8 ⟨r1, hr1, hr2, hx9⟩
  have hS10 := St.callM (X := [_]) (L := [_, _, _]) (hS7.perm ((List.Perm.cons _ (List.Perm.refl _)).trans (List.perm_middle (l₁ := [_])).symm)) hx9 (by simp [Item.id])
  simp only [ca, na] at hS10
  rw [hrt, ← soak_app, ← left_app] at hS10
  rw [hrt, ← left_app] at hr2
  refine zN<|zT ?_
  refine c_cutE [0, 2, 3] (fun e w' => ∃ (r3 : List UInt8), St w [bs] w' [.blk b7 (cl (sumC (soak s0 (pad t)) r3 (left (pad t)).length t.length) 148), .blk bs (cl (sumC (soak s0 t) rest (left t).length t.length) 148), .blk b2 (cl ((List.replicate 64 (0 : UInt8)).map b8) 64)] ∧ (r3.length = 32)) ?_ ?_
  · refine zS<|zR<|zq 1 rfl<|zV (r_nilCheck rfl)<|zV (r_field fa148_2 rfl)<|zV (r_loadB1 ti3.und rfl rfl (hS10.heap Z0) (sumC_have (soak_len s0 (t ++ [128]) h0) hr1)) ?_
    refine wl_dec (r_gtr rfl rfl) rfl (fun h3_4 => ?_) (fun h3_4 => ?_)
    · refine zN<|zT<|zt rfl<|zR<|zq 2 rfl<|zV (r_nilCheck rfl)<|zV (r_field fa148_2 rfl)<|zV (r_loadB1 ti3.und rfl rfl (hS10.heap Z0) (sumC_have (soak_len s0 (t ++ [128]) h0) hr1)) ?_
      have hll := left_lt (t ++ [128])
      refine zV (r_subn (a := 32) rfl rfl Om Om)<|zX (x_make (zs := ((List.replicate ((32 - (left (t ++ [128])).length) * 1) (0 : UInt8)).map b8)) hS10 ti39.und ti5 rfl rfl Sd Sd Sd (by first | exact made_b8 _ | rfl | simp [madeCells])) ?_; rintro _ w15 ⟨b22, rfl, hS16⟩; refine zC fn121 rfl (take_ok _ _ _ _ b7 (List.replicate ((32 - (left (t ++ [128])).length) * 1) (0 : UInt8)) _ _ _ _ (soak_len s0 (t ++ [128]) h0) hr1 (hS16.heap Z1) (left_lt _) (by simp) (Nat.le_refl _) (Row.of_at (at_all (hS16.heap Z0))) (Sep.ofNe (St.ne2 (hS16.perm ((List.Perm.cons _ ((List.Perm.cons _ ((List.Perm.cons _ (List.Perm.refl _)).trans (List.perm_middle (l₁ := [_, _])).symm)).trans (List.perm_middle (l₁ := [_, _])).symm)).trans (List.perm_middle (l₁ := [_, _])).symm)).drop1.drop1.drop1)) Om) ?_; rintro _ w17 ⟨r1b, hr1b, hr2b, hx18⟩
      have hS19 := St.callM (X := [_]) (L := [_, _, _, _]) (hS16.perm ((List.Perm.cons _ (List.Perm.refl _)).trans (List.perm_middle (l₁ := [_])).symm)) hx18 (by simp [Item.id])
      simp only [ca, na] at hS19
      rw [hr2, ← soak_app, ← left_app] at hS19
      rw [hr2, ← left_app] at hr2b
      refine zN<|zT ?_
      rw [pad_some t Om] at hS19 hr2b
      exact ⟨_, rfl, ⟨_, (hS19.perm ((List.Perm.cons _ ((List.Perm.cons _ (List.Perm.refl _)).trans (List.perm_middle (l₁ := [_])).symm)).trans (List.perm_middle (l₁ := [_])).symm)).drop1.drop1, hr1b⟩, ⟨rfl, rfl, rfl, trivial⟩⟩
    refine zN<|zT<|zf rfl<|zK<|zT ?_
    rw [pad_none t Om] at hS10 hr2
    exact ⟨_, rfl, ⟨_, (hS10.perm ((List.Perm.cons _ (List.Perm.refl _)).trans (List.perm_middle (l₁ := [_])).symm)).drop1, hr1⟩, ⟨rfl, rfl, rfl, trivial⟩⟩
  · rintro e11 w12 ⟨r3, hS13, hr3⟩ -
    refine zS<|zR<|zA (C := ((List.replicate 32 (0 : UInt8)).map b8)) hS13 ti34 rfl fun b4 w20 hS21=>zN<|zT<|zS<|zR<|zq 1 rfl<|zV (r_nilCheck rfl)<|zV (r_field fa148_3 rfl)<|zV (r_loadB1 ti3.und rfl rfl (hS21.heap Z2) (sumC_total (soak_len s0 t h0) h2))<|zV (c_i64_u64 ti153.und ⟨_, ti3.und⟩ rfl Om)<|zE fn123 rfl hS21 (longOctets_ok _ _) fun w22 hS24=>zA (C := ((List.replicate 8 (0 : UInt8)).map b8)) hS24 ti151 rfl fun b5 w25 hS26=> ?_; refine wl_exs (x_storeW [] hS26 ti151 rfl rfl Ln Ln On) rfl ?_; intro w27 hS28; simp only [ca, na] at hS28; refine zN<|zT<|zS<|c_drawS 2 hMixed hS28 ?_; intro w29 hS30; refine zG 0 rfl hS30 (fun wF hF => r_sa1_l (l := 24) ti34.und ti5 rfl rfl Om) ?_; refine zG 1 rfl hS30 (fun wF hF => r_sa1_0 ti151.und ti5 rfl ) ?_; refine zGT rfl ?_; refine zX (x_copym [_] hS30 ti39.und ti5 rfl rfl (Row.of_at (at_all (hS30.heap Z0))) Ln Sd Ln (fun _ => rfl) _ rfl) ?_; rintro _ w31 ⟨rfl, hS32⟩; simp only [ca, na] at hS32; refine zN<|zT<|zS<|zR<|zq 1 rfl<|zC fn124 rfl (block_out _ _ _ _ b7 b4 0 _ (lastB t.length) _ (soak_len s0 (pad t) h0) hr3 (hS32.heap Z2) (lastB_len _) rfl (at_all (hS32.heap Z1)) (by simpa using St.ne2 (hS32.perm (List.Perm.cons _ ((List.Perm.cons _ ((List.Perm.cons _ (List.Perm.refl _)).trans (List.perm_middle (l₁ := [_, _])).symm)).trans (List.perm_middle (l₁ := [_, _])).symm))).drop1.drop1.drop1)) ?_
    rintro v34 w33 hx34
    have hS35 := St.callM (X := [_]) (L := [_, _, _, _]) (hS32.perm ((List.Perm.cons _ (List.Perm.refl _)).trans (List.perm_middle (l₁ := [_, _])).symm)) hx34 (by simp [Item.id])
    simp only [ca, na] at hS35; refine zN<|zT<|zS<|zR<|zq 1 rfl<|zV (r_nilCheck rfl)<|zV (r_field fa148_0 rfl)<|wl_val (r_loadBP ti64 rfl rfl (hS35.heap Z0) (by rw [sumC_len (chunk_len _ _) hr3]; decide)) rfl ?_
    rw [sumC_state (chunk_len _ _) hr3]
    refine wl_exs (x_storeW [_, _, _, _] hS35 ti64 rfl rfl Ln Ln On) rfl ?_; intro w36 hS37; simp only [ca, na] at hS37; refine zN<|zT<|zU<|retc Tryz.results99 ⟨_, rfl, run_loadVar_blk ti64 rfl (hS37.heap Z4) Ln⟩ ?_
    exact ⟨rfl, (hS37.perm (List.Perm.cons _ (List.Perm.cons _ (List.Perm.cons _ ((List.Perm.cons _ (List.Perm.refl _)).trans (List.perm_middle (l₁ := [_])).symm))))).drop1.drop1.drop1.drop1⟩

theorem end_ok (s0 t rest : List UInt8) (bs : Nat) (w : World) (h0 : s0.length = 64) (h2 : rest.length = 32) (hb : w.heap[bs]? = some (cl (sumC (soak s0 t) rest (left t).length t.length) 148)) (hrt : rest.take (left t).length = left t) (ht : t.length ≤ 1048576) :
    Ret Tryz.prog 99 [pt bs 0] w (fun v w' => v = .agg ((endL s0 t).map b8).toArray ∧ St w [] w' []) :=
  (end_own s0 t rest bs w h0 h2 hb hrt ht).mono fun v w' h => ⟨h.1, St.unown hb h.2⟩

theorem sum_ok (s0 t rest : List UInt8) (bs : Nat) (w : World) (h0 : s0.length = 64) (h2 : rest.length = 32) (hb : w.heap[bs]? = some (cl (sumC (soak s0 t) rest (left t).length t.length) 148)) (hrt : rest.take (left t).length = left t) (ht : t.length ≤ 1048576) :
    Ret Tryz.prog 67 [pt bs 0] w (fun v w' => v = .agg (((endL s0 t).take 32).map b8).toArray ∧ St w [] w' []) := by
  refine enter Tryz.func67 rfl Tryz.ntmps67 rfl ?_
  have hS := St.refl w []
  refine zS<|zR<|zA (C := ((List.replicate 32 (0 : UInt8)).map b8)) hS ti35 rfl fun b2 w1 hS2=>zN<|zT<|zS<|zR<|zq 1 rfl<|zE fn99 rfl hS2 (end_ok _ _ _ _ _ h0 h2 (hS2.oldHeap hb (by simp)) hrt ht) fun w3 hS5=> ?_; refine zA (C := ((List.replicate 64 (0 : UInt8)).map b8)) hS5 ti64 rfl fun b3 w6 hS7=> ?_; refine wl_exs (x_storeW [] hS7 ti64 rfl rfl Ln Ln On) rfl ?_; intro w8 hS9; simp only [ca, na] at hS9; refine zN<|zT<|zS<|zR<|zV (r_sa1_h (h := 32) ti64.und ti5 rfl rfl Om)<|zV (r_s2a ti35.und rfl Om)<|zV (r_loadBPm ti35 rfl rfl (hS9.heap Z0) Ln) ?_; refine wl_exs (x_storeW [_] hS9 ti35 rfl rfl Ln Ln On) rfl ?_; intro w10 hS11; simp only [ca, na] at hS11; refine zN<|zT<|zU<|retc Tryz.results67 ⟨_, rfl, run_loadVar_blk ti35 rfl (hS11.heap Z1) Ln⟩ ?_
  exact ⟨rfl, hS11.fin⟩

theorem rstate_ok (dn : Nat) (t : List UInt8) (a : Option Addr) (c : Nat) (w : World) (hb : Row w a (t.map b8)) (hn : t.length ≤ 70368744177664) :
    Ret Tryz.prog 35 [vi dn, .slice a t.length c] w (fun v w' => v = .agg ((endL (ini (UInt8.ofNat dn)) t).map b8).toArray ∧ St w [] w' []) := by
  refine enter Tryz.func35 rfl Tryz.ntmps35 rfl ?_
  have hS := St.refl w []
  refine zS<|zR<|zA (C := ((List.replicate 64 (0 : UInt8)).map b8)) hS ti64 rfl fun b4 w1 hS2=>zN<|zT<|zS<|zR<|zA (C := ((List.replicate 64 (0 : UInt8)).map b8)) hS2 ti64 rfl fun b5 w3 hS4=>zN<|zT<|zS<|zR<|zq 1 rfl<|zV (c_i64_u8 ti5.und ⟨_, ti3.und⟩ rfl)<|zV (r_ixA (m := 63) (sz := 1) ti64.und ti5 rfl rfl Sd (Nat.zero_add _ |>.trans (Nat.mul_one _))) ?_; refine zY (x_store1m [] hS4 ti5 rfl rfl rfl (by simp)) ?_; intro w5 hS6; simp only [ca, na] at hS6; refine zN<|zT<|zS<|zR<|zq 1 rfl<|zC fn76 rfl (clone_ok _ _ _ _ (hb.st hS6) Ln) ?_; rintro _ w7 ⟨a12, c12, rfl, hc12, hx8⟩
  have hS9 := hS6.call hx8
  simp only [ca, na] at hS9; refine wl_exv (x_lit (vs := (([128] : List UInt8).map b8)) hS9 ti39.und ti5 rfl rfl rfl On (by decide)) rfl ?_; rintro _ w10 ⟨b13, rfl, hS11⟩; refine zX (x_append [_] hS11 ti39.und ti5 rfl (by decide) rfl rfl (Row.of_at (at_all (hS11.heap Z0))) Ln Oc Sd Sd _ rfl) ?_; rintro _ w12 ⟨aq14, cq14, rfl, hcq14, hS13⟩; simp only [ca, na] at hS13; refine zq 1 rfl<|zN<|zT<|zS<|zI ?_
  refine c_loopE [1, 4, 5] (fun d e w' => ∃ (k : Nat) (a6 : Option Addr) (c6 : Nat), Kw.look e 6 = .slice a6 (t.length + 1 + k) c6 ∧ d = ((32 - (left (t ++ [128])).length) % 32) - k ∧ St w [] w' [.row (.slice a6 (t.length + 1 + k) c6) 5 1 (t.length + 1 + k) (((t ++ [128]) ++ List.replicate k (0 : UInt8)).map b8), .blk b5 (cl ((ini (UInt8.ofNat dn)).map b8) 64), .blk b4 (cl ((List.replicate 64 (0 : UInt8)).map b8) 64)] ∧ (k ≤ ((32 - (left (t ++ [128])).length) % 32))) (((32 - (left (t ++ [128])).length) % 32) - 0) ?_ ?_
  · rw [← List.map_append] at hS13
    exact ⟨0, _, _, rfl, rfl, (by rw [List.replicate_zero, List.append_nil]; exact hS13.drop1), Nat.zero_le _⟩
  · rintro d18 e15 w16 ⟨k, a6, c6, hc0_6, rfl, hS17, hI0_0⟩ -
    refine c_set (d := 6) hc0_6<|zS<|zS<|zR<|zq 1 rfl<|zV (r_len (T := 39) rfl ti39.und rfl _ rfl)<|zV (r_remn (b := 32) rfl rfl Om) ?_
    refine wl_dec (r_neq rfl rfl) rfl (fun h4_3 => ?_) (fun h4_3 => ?_)
    · refine zN<|zT<|zt rfl<|zK<|zT<|zI<|zR<|zq 1 rfl ?_
      refine wl_exv (x_lit (vs := (([0] : List UInt8).map b8)) hS17 ti39.und ti5 rfl rfl rfl On (by decide)) rfl ?_; rintro _ w19 ⟨b20, rfl, hS20⟩; refine zX (x_append [_] hS20 ti39.und ti5 rfl (by decide) rfl rfl (Row.of_at (at_all (hS20.heap Z0))) Ln Oc Sd Sd _ rfl) ?_; rintro _ w21 ⟨aq23, cq23, rfl, hcq23, hS22⟩; simp only [ca, na] at hS22; refine zq 1 rfl<|zN<|zJ<|zT ?_
      rw [← List.map_append, List.append_assoc (t ++ [128]), ← List.replicate_succ'] at hS22
      have hps := pad_steps t k hI0_0
      have hlt : k < ((32 - (left (t ++ [128])).length) % 32) := by have := left_len (t ++ [128]); simp only [List.length_append, List.length_replicate, List.length_cons, List.length_nil] at hps; omega
      exact ⟨((32 - (left (t ++ [128])).length) % 32) - (k + 1), _, by omega, rfl, ⟨k + 1, _, _, rfl, rfl, hS22.drop1, by omega⟩, ⟨rfl, rfl, rfl, trivial⟩⟩
    refine zN<|zT<|zf rfl<|zO<|zM<|zM<|c_inE<|zT<|zS ?_
    have hkK : k = ((32 - (left (t ++ [128])).length) % 32) := (pad_steps t k hI0_0).1 (by simp only [List.length_append, List.length_replicate, List.length_cons, List.length_nil]; omega)
    refine zR<|zq 1 rfl<|zX (x_appendZ (m := 24) [] hS17 ti39.und ti5 ti3.und rfl (one_zero _) (by decide) rfl rfl Sd Sd Sd Sd _ rfl) ?_; rintro _ w24 ⟨aq26, cq26, rfl, hcq26, hS25⟩
    simp only [List.cons_append, List.nil_append, zero_b8] at hS25
    refine zq 1 rfl<|zN<|zT<|zS<|zR<|zq 2 rfl<|zV (r_len (T := 39) rfl ti39.und rfl _ rfl)<|zC fn77 rfl (rlong_ok _ _ Om) ?_; rintro _ w27 ⟨b27, rfl, hx28⟩
    have hS29 := hS25.call hx28
    simp only [ca, na] at hS29; refine zX (x_append [_] hS29 ti39.und ti5 rfl (by decide) rfl rfl (Row.of_at (at_all (hS29.heap Z0))) Ln Oc Sd Sd _ rfl) ?_; rintro _ w30 ⟨aq32, cq32, rfl, hcq32, hS31⟩; simp only [ca, na] at hS31
    have hlk : (t.length + 1 + k) + 24 + 8 = (refText t).length := by simp only [refText, pad, List.length_append, List.length_replicate, octs8_len, List.length_cons, List.length_nil]; omega
    rw [← List.map_append, ← List.map_append, hlk] at hS31
    have hxs : (t ++ [128] ++ List.replicate k (0 : UInt8) ++ List.replicate 24 0) ++ octs8 (UInt64.ofNat t.length) = refText t := by rw [hkK]; rfl
    rw [hxs] at hS31
    obtain ⟨gB, CB, hgB, hCB, hCL, hcB, hS33⟩ := St.rowBlk (l1 := [_]) hS31 Om
    simp only [ca, na] at hS33
    have hR : ∀ W : World, W.heap[gB]? = some (cl CB 5) → Row W aq32 ((refText t).map b8) := fun W hW => by rw [hgB]; exact Row.of_at (by rw [← hCB, Nat.mul_one]; exact (at_all hW).take)
    refine zq 1 rfl<|zN<|zT<|zS<|zI ?_
    refine c_loopE [4, 5] (fun d e w' => ∃ (st2 : List UInt8) (l2 : List UInt8) (n2 : Nat) (a2 : Option Addr) (c2 : Nat), Kw.look e 6 = .slice a2 n2 c2 ∧ d = l2.length ∧ St w [] w' [.blk gB (cl CB 5), .blk b5 (cl (st2.map b8) 64), .blk b4 (cl ((List.replicate 64 (0 : UInt8)).map b8) 64)] ∧ (st2.length = 64) ∧ (l2.length = n2) ∧ (n2 % 32 = 0) ∧ (n2 ≤ c2) ∧ (∀ W : World, W.heap[gB]? = some (cl CB 5) → Row W a2 (l2.map b8)) ∧ (soak (ini (UInt8.ofNat dn)) (refText t) = soak st2 l2)) ((refText t).length) ?_ ?_
    · exact ⟨_, refText t, _, _, _, rfl, rfl, hS33.drop1, ini_len _, hlk.symm, by rw [hlk]; exact refText_len t, by rw [hlk]; exact hcB, hR, rfl⟩
    · rintro d37 e34 w35 ⟨st2, l2, n2, a2, c2, hc1_6, rfl, hS36, g1, g2, g3, g4, hR2, gs⟩ -
      refine c_set (d := 6) hc1_6<|zS<|zS<|zR<|zq 1 rfl<|zV (r_len (T := 39) rfl ti39.und rfl _ rfl) ?_
      refine wl_dec (r_gtr rfl rfl) rfl (fun h8_2 => ?_) (fun h8_2 => ?_)
      · refine zN<|zT<|zt rfl<|zK<|zT<|zI<|zS<|zS<|zR<|zq 1 rfl<|zN<|zT<|zI ?_
        refine c_loopE [4, 5, 6] (fun d e w' => ∃ (i : Nat), Kw.look e 32 = vi i ∧ d = 32 - i ∧ St w [] w' [.blk gB (cl CB 5), .blk b5 (cl ((xorTo st2 l2 i).map b8) 64), .blk b4 (cl ((List.replicate 64 (0 : UInt8)).map b8) 64)] ∧ (i ≤ 32)) (32) ?_ ?_
        · exact ⟨0, rfl, rfl, by rw [xorTo_zero _ _ g1]; exact hS36, by omega⟩
        · rintro d41 e38 w39 ⟨i, hc2_32, rfl, hS40, hI2_0⟩ -
          refine c_set (d := 32) hc2_32<|zS<|zR ?_
          refine wl_dec (r_lss rfl rfl) rfl (fun h10_0 => ?_) (fun h10_0 => ?_)
          · refine zN<|zT<|zS<|zt rfl<|zK<|zT<|zS<|zI<|zS<|zR<|zq 2 rfl<|zN<|zT<|c_drawS 7 hMixed hS40 ?_
            intro w42 hS43; refine zG 0 rfl hS43 (fun wF hF => r_move (v := .int .i64 _) rfl) ?_; refine zG 1 rfl hS43 (fun wF hF => r_ixA (sz := 1) ti64.und ti5 rfl rfl Sd (Nat.zero_add _ |>.trans (Nat.mul_one _))) ?_; refine zG 2 rfl hS43 (fun wF hF => r_loadB1 ti5.und rfl rfl (hF.heap Z1) (map_gt _ _ _ Sd)) ?_; refine zG 3 rfl hS43 (fun wF hF => r_move (v := .slice _ _ _) rfl) ?_; refine zG 4 rfl hS43 (fun wF hF => r_move (v := .int .i64 _) rfl) ?_; refine zG 5 rfl hS43 (fun wF hF => r_ixS ti39.und ti5 rfl rfl (hR2 _ (hF.heap Z0)) Sd Ln) ?_; refine zG 6 rfl hS43 (fun wF hF => r_loadS1 ti5.und rfl rfl (hR2 _ (hF.heap Z0)) (by rw [Nat.mul_one]; exact map_gt _ _ _ Sd)) ?_; refine zGT rfl ?_; refine zV (r_xor8 rfl rfl)<|zV (r_ixA (sz := 1) ti64.und ti5 rfl rfl Sd (Nat.zero_add _ |>.trans (Nat.mul_one _))) ?_; refine zY (x_store1m [_] hS43 ti5 rfl rfl rfl Sd) ?_; intro w44 hS45; simp only [ca, na] at hS45; refine zN<|zJ<|zT<|zR<|zV (r_addn (b := 1) rfl rfl Om)<|zq 1 rfl<|zN<|zT ?_
            refine ⟨32 - (i + 1), _, by omega, rfl, ⟨i + 1, rfl, rfl, ?_, by omega⟩, ⟨rfl, rfl, rfl, trivial⟩⟩
            rw [← xorTo_set _ _ _ Om]
            exact hS45
          refine zN<|zT<|zS<|zf rfl<|zO<|zM<|zM<|c_inE<|zT<|zS ?_
          obtain rfl : i = 32 := by omega
          refine zR<|zV (r_loadB ti64 rfl rfl (hS40.heap Z1) Ln) ?_; refine zE fn78 rfl hS40 (rstir_ok _ _ (xorTo_len _ _ _)) fun w46 hS48=> ?_; refine wl_exs (x_storeW [_] hS48 ti64 rfl rfl Ln Ln On) rfl ?_; intro w49 hS50; simp only [ca, na] at hS50; refine zN<|zT<|zR<|zq 1 rfl<|zV (r_sl_l (l := 32) ti39.und ti5 rfl rfl Om)<|zq 1 rfl<|zN<|zJ<|zT ?_
          refine ⟨(l2.drop 32).length, _, by simp; omega, rfl, ⟨_, l2.drop 32, _, _, _, rfl, rfl, hS50, chunk_len _ _, ?_, ?_, ?_, fun W hW => (hR2 W hW).from' Om 32, ?_⟩, ⟨rfl, rfl, trivial⟩⟩
          · simp; omega
          · omega
          · omega
          · rw [gs, soak_step _ _ Om, chunk_take _ _ _ (Nat.le_refl _)]; rfl
      refine zN<|zT<|zf rfl<|zO<|zM<|zM<|c_inE<|zT<|zS ?_
      obtain rfl : n2 = 0 := by omega
      obtain rfl : l2 = [] := List.eq_nil_of_length_eq_zero g2
      refine zR<|zV (r_loadB ti64 rfl rfl (hS36.heap Z1) Ln) ?_; refine wl_exs (x_storeW [_, _] hS36 ti64 rfl rfl Ln Ln On) rfl ?_; intro w51 hS52; simp only [ca, na] at hS52; refine zN<|zT<|zU<|retc Tryz.results35 ⟨_, rfl, run_loadVar_blk ti64 rfl (hS52.heap Z2) Ln⟩ ?_
      refine ⟨?_, hS52.fin⟩
      rw [← state_end, gs, soak_short _ _ (by decide)]

end Go.Proofs.YtjnnhlbfgnopiaaGreatDoor
