/- What the law's proof leans on. No condition. -/
import Derived.Test.YtjnnhlbfgnopiaaGreatDoorPCAI
import Derived.Test.YtjnnhlbfgnopiaaGreatDoorPCBL
import Derived.Test.YtjnnhlbfgnopiaaGreatDoorPCBP
import Derived.Test.YtjnnhlbfgnopiaaGreatDoorPCAY
section
namespace Go.Proofs.YtjnnhlbfgnopiaaGreatDoor
open Go.Kw
set_option linter.unusedVariables false
set_option linter.unusedSimpArgs false
set_option maxRecDepth 100000
theorem actWords_ok (w : World) (hv : VF w) : Ret Tryz.prog 86 [] w (fun v w' => ∃ b, v = .slice (some ⟨b, 0, none⟩) 12 12 ∧ St w [] w' [.blk b (cl (actW.map sv) 9)]) := by
  refine enter Tryz.func86 rfl Tryz.ntmps86 rfl ?_
  have hS := St.refl w []
  refine zS<|zR<|zq 1 rfl<|zN<|zT<|zS<|zR ?_
  have hf : Ret Tryz.prog 112 [.string ⟨actT.toArray⟩] w (fun v w' => ∃ b, v = .slice (some ⟨b, 0, none⟩) 12 12 ∧ St w [] w' [.blk b (cl (actW.map sv) 9)]) := by
    refine Calls.mono (Any.strings_Fields Tryz.laysFields (by kernel_rfl) (by kernel_rfl) ⟨actT.toArray⟩ w (by decide) actT_ascii hv.asc) ?_
    rintro e w' ⟨rfl, rfl⟩
    refine ⟨_, rfl, w.heap.size, by rw [show (⟨actT.toArray⟩ : ByteArray).data.toList = actT from rfl, actT_fields]; rfl, ?_⟩
    rw [show (⟨actT.toArray⟩ : ByteArray).data.toList = actT from rfl, actT_fields]
    exact (St.refl w []).alloc _
  refine zC fn112 rfl hf ?_
  rintro _ w1 ⟨b, rfl, hx⟩
  have hS2 := hS.call hx
  refine zq 1 rfl<|zN<|zT<|zU<|ret1 Tryz.results86 ?_
  exact ⟨b, rfl, hS2⟩

theorem beginsPart_ok_c0 {p : Prop} (h : p := by first | exact ⟨congrArg Value.bool (isPart_t (by first | exact .inl (by assumption) | exact .inr (.inl (by assumption)) | exact .inr (.inr (.inl (by assumption))) | exact .inr (.inr (.inr (.inl (by assumption)))) | exact .inr (.inr (.inr (.inr (by assumption)))))).symm, hF.fin⟩ | exact ⟨congrArg Value.bool (isPart_f (by assumption) (by assumption) (by assumption) (by assumption) (by assumption)).symm, hF.fin⟩) : p := h
theorem beginsPart_ok (s : List UInt8) (w : World) :
    Ret Tryz.prog 85 [.string ⟨(s).toArray⟩] w (fun v w' => v = .bool (isPart s) ∧ St w [] w' []) := by
  refine enter Tryz.func85 rfl Tryz.ntmps85 rfl ?_
  have hS := St.refl w []
  refine zS<|zR<|zq 1 rfl<|zN<|zT<|zS<|zS<|zR<|zq 1 rfl<|zN<|zT<|zI<|zS<|zS<|zR ?_
  refine wl_dec (r_eqlStrL rfl rfl) rfl (fun h2_0 => ?_) (fun h2_0 => ?_)
  · refine zq 1 rfl<|zN<|zT<|zt rfl<|zK<|zT<|zt rfl<|zS<|zR<|zq 1 rfl<|zN<|zT<|zU<|zH<|zL<|ret1 Tryz.results85 ?_
    have hF := hS; exact beginsPart_ok_c0
  refine zq 1 rfl<|zN<|zT<|zf rfl<|zS<|zR ?_
  refine wl_dec (r_eqlStrL rfl rfl) rfl (fun h3_0 => ?_) (fun h3_0 => ?_)
  · refine zq 1 rfl<|zN<|zT<|zt rfl<|zK<|zT<|zt rfl<|zS<|zR<|zq 1 rfl<|zN<|zT<|zU<|zH<|zL<|ret1 Tryz.results85 ?_
    have hF := hS; exact beginsPart_ok_c0
  refine zq 1 rfl<|zN<|zT<|zf rfl<|zS<|zR ?_
  refine wl_dec (r_eqlStrL rfl rfl) rfl (fun h4_0 => ?_) (fun h4_0 => ?_)
  · refine zq 1 rfl<|zN<|zT<|zt rfl<|zK<|zT<|zt rfl<|zS<|zR<|zq 1 rfl<|zN<|zT<|zU<|zH<|zL<|ret1 Tryz.results85 ?_
    have hF := hS; exact beginsPart_ok_c0
  refine zq 1 rfl<|zN<|zT<|zf rfl<|zS<|zR ?_
  refine wl_dec (r_eqlStrL rfl rfl) rfl (fun h5_0 => ?_) (fun h5_0 => ?_)
  · refine zq 1 rfl<|zN<|zT<|zt rfl<|zK<|zT<|zt rfl<|zS<|zR<|zq 1 rfl<|zN<|zT<|zU<|zH<|zL<|ret1 Tryz.results85 ?_
    have hF := hS; exact beginsPart_ok_c0
  refine zq 1 rfl<|zN<|zT<|zf rfl<|zR ?_
  refine wl_dec (r_eqlStrL rfl rfl) rfl (fun h6_0 => ?_) (fun h6_0 => ?_)
  · refine zq 1 rfl<|zN<|zT<|zt rfl<|zS<|zR<|zq 1 rfl<|zN<|zT<|zU<|zH<|zL<|ret1 Tryz.results85 ?_
    have hF := hS; exact beginsPart_ok_c0
  refine zq 1 rfl<|zN<|zT<|zf rfl<|zK<|zJ<|zT<|zS<|zR<|zq 1 rfl<|zN<|zT<|zU<|ret1 Tryz.results85 ?_
  have hF := hS; exact beginsPart_ok_c0

theorem isEmpty_ok_c0 {p : Prop} (h : p := by first | exact ⟨congrArg Value.bool (decide_eq_true (by assumption)).symm, hF.fin⟩ | exact ⟨congrArg Value.bool (decide_eq_false (by assumption)).symm, hF.fin⟩) : p := h
theorem isEmpty_ok (s : List UInt8) (w : World) :
    Ret Tryz.prog 20 [.string ⟨(s).toArray⟩] w (fun v w' => v = .bool (decide (s = [])) ∧ St w [] w' []) := by
  refine enter Tryz.func20 rfl Tryz.ntmps20 rfl ?_
  have hS := St.refl w []
  refine zS<|zR<|zq 1 rfl<|zN<|zT<|zS<|zR<|zq 1 rfl ?_
  refine wl_dec (r_eqlStrL rfl rfl) rfl (fun h1_1 => ?_) (fun h1_1 => ?_)
  · refine zq 1 rfl<|zN<|zT<|zU<|ret1 Tryz.results20 ?_
    have hF := hS; exact isEmpty_ok_c0
  refine zq 1 rfl<|zN<|zT<|zU<|ret1 Tryz.results20 ?_
  have hF := hS; exact isEmpty_ok_c0

theorem u8_48 {b : UInt8} (h : ((b.toNat : Nat) : Int) = 48) : b = 48 := UInt8.toNat_inj.1 (by show b.toNat = 48; omega)
theorem num_ok1 {s : List UInt8} (h1 : ¬ s = []) (h2 : s.length ≤ 3) (h3 : ¬ (((gt s 0).toNat : Nat) : Int) = 48) : ¬ (s = [] ∨ 3 < s.length ∨ (gt s 0 = 48 ∧ ¬ s = [48])) := by
  rintro (h | h | ⟨h, _⟩)
  · exact h1 h
  · omega
  · exact h3 (by rw [h]; rfl)
theorem num_ok2 {s : List UInt8} (h1 : ¬ s = []) (h2 : s.length ≤ 3) (h3 : s = [48]) : ¬ (s = [] ∨ 3 < s.length ∨ (gt s 0 = 48 ∧ ¬ s = [48])) := by
  rintro (h | h | ⟨_, h⟩)
  · exact h1 h
  · omega
  · exact h h3
theorem numOk_bad {s : List UInt8} (h : (s = [] ∨ 3 < s.length ∨ (gt s 0 = 48 ∧ ¬ s = [48]))) : numOk s = false := by
  unfold numOk
  rcases h with h | h | ⟨h, h'⟩
  · rw [decide_eq_true h]; rfl
  · rw [decide_eq_false (show ¬ s.length ≤ 3 by omega)]; simp
  · cases s with
    | nil => rfl
    | cons b l =>
      have hb : b = 48 := by simpa [gt] using h
      subst hb
      have h2 : decide ((48 : UInt8) :: l = [48]) = false := decide_eq_false h'
      rw [h2]; simp
theorem numOk_of {s : List UInt8} (h : ¬ (s = [] ∨ 3 < s.length ∨ (gt s 0 = 48 ∧ ¬ s = [48]))) : numOk s = s.all digB := by
  unfold numOk
  have h1 : ¬ s = [] := fun e => h (.inl e)
  have h2 : s.length ≤ 3 := by apply Nat.le_of_not_lt; exact fun e => h (.inr (.inl e))
  rw [decide_eq_false h1, decide_eq_true h2]
  cases s with
  | nil => exact absurd rfl h1
  | cons b l =>
    by_cases hb : b = 48
    · subst hb
      have h3 : (48 : UInt8) :: l = [48] := Classical.not_not.1 fun e => h (.inr (.inr ⟨rfl, e⟩))
      rw [decide_eq_true h3]; simp
    · have : decide ((b :: l).head? = some 48) = false := decide_eq_false (by simpa using hb)
      rw [this]; simp
theorem num_dig_f {s : List UInt8} {k : Nat} (hk : k < s.length) (h : (((gt s k).toNat : Nat) : Int) < 48 ∨ (57 : Int) < ((gt s k).toNat : Nat)) : s.all digB = false := by
  rw [List.all_eq_false]
  exact ⟨gt s k, gt_mem s k hk, by unfold digB; simp; omega⟩
theorem take_dig {s : List UInt8} {k : Nat} (hk : k < s.length) (h : (s.take k).all digB = true) (hd : 48 ≤ (gt s k).toNat ∧ (gt s k).toNat ≤ 57) : (s.take (k + 1)).all digB = true := take_all_step hk h (digB_t hd)
theorem num_small {s : List UInt8} {k : Nat} (hk : k < s.length) (h3 : s.length ≤ 3) (h : (s.take k).all digB = true) : numV (s.take k) < 100 := by
  have := numV_bound (s.take k) h
  rw [List.length_take, Nat.min_eq_left (by omega)] at this
  have h2 : 10 ^ k ≤ 10 ^ 2 := Nat.pow_le_pow_right (by decide) (by omega)
  omega

theorem pnumber_ok_c0 {p : Prop} (h : p := by exact ⟨_, rfl, ⟨_, rfl, hF, (decide_eq_true (show (s = [] ∨ 3 < s.length ∨ (gt s 0 = 48 ∧ ¬ s = [48])) from by first | exact .inl (by assumption) | exact .inr (.inl Om) | exact .inr (.inr ⟨u8_48 h1_10, by assumption⟩))).symm⟩, ⟨rfl, rfl, rfl, trivial⟩⟩) : p := h
theorem pnumber_ok_c1 {p : Prop} (h : p := by exact ⟨_, rfl, ⟨_, rfl, hF, (decide_eq_false (show ¬ (s = [] ∨ 3 < s.length ∨ (gt s 0 = 48 ∧ ¬ s = [48])) from by first | exact num_ok1 (by assumption) Om h1_10 | exact num_ok2 (by assumption) Om (Classical.not_not.1 (by assumption)))).symm⟩, ⟨rfl, rfl, rfl, trivial⟩⟩) : p := h
set_option maxHeartbeats 1000000 in
theorem pnumber_ok (s : List UInt8) (w : World) :
    Ret Tryz.prog 44 [.string ⟨(s).toArray⟩] w (fun v w' => v = .tuple #[vi (numE s), .bool (numOk s)] ∧ St w [] w' []) := by
  refine enter Tryz.func44 rfl Tryz.ntmps44 rfl ?_
  have hS := St.refl w []
  refine zS<|zR<|zq 2 rfl<|zN<|zT<|zS ?_
  refine c_cutE [0, 2, 3] (fun e w' => ∃ (bb : Bool), Kw.look e 21 = .bool bb ∧ St w [] w' [] ∧ (bb = decide (s = [] ∨ 3 < s.length ∨ (gt s 0 = 48 ∧ ¬ s = [48])))) ?_ ?_
  · refine zR<|zq 1 rfl ?_
    refine wl_dec (r_eqlStrL rfl rfl) rfl (fun h1_1 => ?_) (fun h1_1 => ?_)
    · refine zq 14 rfl<|zN<|zT ?_
      have hF := hS; exact pnumber_ok_c0
    refine zq 2 rfl<|wl_val (r_lenStrL (T := 9) rfl ti9.und rfl _ rfl) rfl ?_
    refine wl_dec (r_gtr rfl rfl) rfl (fun h1_5 => ?_) (fun h1_5 => ?_)
    · refine zq 10 rfl<|zN<|zT ?_
      have hF := hS; exact pnumber_ok_c0
    refine zq 3 rfl<|wl_val (r_indexStr (s := ⟨s.toArray⟩) (m := 0) ti9.und rfl rfl (get_gt s _ (by cases s with | nil => exact absurd rfl h1_1 | cons _ _ => simp))) rfl ?_
    refine wl_dec (r_eql rfl rfl) rfl (fun h1_10 => ?_) (fun h1_10 => ?_)
    · refine zq 2 rfl ?_
      refine wl_dec (r_neqStrL rfl rfl) rfl (fun h1_13 => ?_) (fun h1_13 => ?_)
      · refine zq 2 rfl<|zN<|zT ?_
        have hF := hS; exact pnumber_ok_c0
      refine zq 2 rfl<|zN<|zT ?_
      have hF := hS; exact pnumber_ok_c1
    refine zq 5 rfl<|zN<|zT ?_
    have hF := hS; exact pnumber_ok_c1
  · rintro e1 w2 ⟨bb, hc4_21, hS3, hbb⟩ -
    refine c_set (d := 21) hc4_21 ?_
    rcases dec_or hbb with ⟨rfl, hbad⟩ | ⟨rfl, hbad⟩
    · refine zt rfl<|zS<|zR<|zq 2 rfl<|zN<|zT<|zU<|zL<|ret2 Tryz.results44 rfl rfl ?_
      first | (rw [numE_f (numOk_bad hbad), numOk_bad hbad]; exact ⟨rfl, hS3.fin⟩) | (have hf := (numOk_of hbad).trans (num_dig_f (k := k) Om Om); rw [numE_f hf, hf]; exact ⟨rfl, hS3.fin⟩) | (obtain rfl : k = s.length := Om; rw [List.take_length] at *; have hf := (numOk_of hbad).trans hdig; rw [numE_t hf, hf]; exact ⟨rfl, hS3.fin⟩)
    · refine zf rfl<|zK<|zT<|zS<|zR<|zq 1 rfl<|zN<|zT<|zS<|zS<|zR<|zq 1 rfl<|zN<|zT<|zI ?_
      refine c_loopE [0] (fun d e w' => ∃ (k : Nat), Kw.look e 5 = vi k ∧ Kw.look e 4 = vi (numV (s.take k)) ∧ d = s.length - k ∧ St w [] w' [] ∧ (k ≤ s.length) ∧ ((s.take k).all digB = true)) (s.length - 0) ?_ ?_
      · exact ⟨0, rfl, rfl, rfl, hS3.fin, Nat.zero_le _, by simp⟩
      · rintro d8 e5 w6 ⟨k, hc0_5, hc0_4, rfl, hS7, hk, hdig⟩ -
        refine c_set (d := 5) hc0_5<|c_set (d := 4) hc0_4<|zS<|zS<|zR<|zq 2 rfl<|zV (r_lenStrL (T := 9) rfl ti9.und rfl _ rfl) ?_
        refine wl_dec (r_lss rfl rfl) rfl (fun h5_3 => ?_) (fun h5_3 => ?_)
        · refine zN<|zT<|zt rfl<|zK<|zT<|zS<|zI<|zS<|zS ?_
          have h3 : s.length ≤ 3 := by apply Nat.le_of_not_lt; exact fun e => hbad (.inr (.inl e))
          have hnb := num_small Om h3 hdig
          refine zR<|zq 2 rfl<|zV (r_indexStr (s := ⟨s.toArray⟩) ti9.und rfl rfl (get_gt s _ Sd)) ?_; refine zV (c_u8_i64 ti3.und ⟨_, ti5.und⟩ rfl)<|zC fn75 rfl (poutside_ok _ 48 57 _) ?_
          rintro _ w9 (⟨ho, rfl, hx10⟩ | ⟨ho, rfl, hx10⟩)
          · have hS11 := hS7.ext hx10
            refine zN<|zT<|zt rfl<|zS<|zR<|zq 2 rfl<|zN<|zT<|zU<|zL<|zH<|zL<|zL<|zH<|zL<|ret2 Tryz.results44 rfl rfl ?_
            first | (rw [numE_f (numOk_bad hbad), numOk_bad hbad]; exact ⟨rfl, hS11.fin⟩) | (have hf := (numOk_of hbad).trans (num_dig_f (k := k) Om Om); rw [numE_f hf, hf]; exact ⟨rfl, hS11.fin⟩) | (obtain rfl : k = s.length := Om; rw [List.take_length] at *; have hf := (numOk_of hbad).trans hdig; rw [numE_t hf, hf]; exact ⟨rfl, hS11.fin⟩)
          have hS11 := hS7.ext hx10; refine zN<|zT<|zf rfl<|zK<|zT ?_
          have h48 := sub48 (b := gt s k) Om
          refine zR<|zq 1 rfl<|zV (r_muln (a := 10) rfl rfl Om)<|zq 2 rfl<|zV (r_indexStr (s := ⟨s.toArray⟩) ti9.und rfl rfl (get_gt s _ Sd)) ?_; refine zV (r_sub8 (b := 48) rfl rfl)<|zV (c_u8_i64 ti3.und ⟨_, ti5.und⟩ rfl)<|zV (r_addn rfl rfl Om)<|zq 1 rfl<|zN<|zJ<|zT<|zR<|zq 1 rfl<|zV (r_addn (b := 1) rfl rfl Om)<|zq 1 rfl<|zN<|zT ?_
          exact ⟨s.length - (k + 1), _, by omega, rfl, ⟨k + 1, rfl, congrArg (fun n : Nat => Value.int .i64 (n : Int)) (show _ from by rw [numV_step Om, sub48 Om]), rfl, hS11.fin, by omega, take_dig Om hdig ⟨by omega, by omega⟩⟩, ⟨rfl, trivial⟩⟩
        refine zN<|zT<|zf rfl<|zO<|zM<|zM<|c_inE<|zT<|zS<|zR<|zq 3 rfl<|zN<|zT<|zU<|ret2 Tryz.results44 rfl rfl ?_
        first | (rw [numE_f (numOk_bad hbad), numOk_bad hbad]; exact ⟨rfl, hS7.fin⟩) | (have hf := (numOk_of hbad).trans (num_dig_f (k := k) Om Om); rw [numE_f hf, hf]; exact ⟨rfl, hS7.fin⟩) | (obtain rfl : k = s.length := Om; rw [List.take_length] at *; have hf := (numOk_of hbad).trans hdig; rw [numE_t hf, hf]; exact ⟨rfl, hS7.fin⟩)

end Go.Proofs.YtjnnhlbfgnopiaaGreatDoor
end
section
namespace Go.Proofs.YtjnnhlbfgnopiaaGreatDoor
open Go.Kw
set_option linter.unusedVariables false
set_option linter.unusedSimpArgs false
set_option maxRecDepth 100000
theorem is_ok (w0 : World) (LT : List Kw.Item) (r : Nat) (k : List UInt8) (a0 : Option Addr) (ws0 ws : Ws) (a : Option Addr) (c : Nat) (w : World) (hS0 : St w0 [] w (.blk r (cl [.slice a (ws).length c] 46) :: LT)) (hb : Row w0 a0 (ws0.map sv)) (hsub : Sub a0 ws0 a ws) (hc : ws.length ≤ c) (hn : ws.length ≤ 140737488351232) :
    Ret Tryz.prog 40 [pt r 0, .string ⟨(k).toArray⟩] w (fun v w' => (headIs k ws = true ∧ v = .bool true ∧ ∃ a' c', Sub a0 ws0 a' ws.tail ∧ ws.tail.length ≤ c' ∧ St w0 [] w' (.blk r (cl [.slice a' (ws.tail).length c'] 46) :: LT)) ∨ (headIs k ws = false ∧ v = .bool false ∧ St w0 [] w' (.blk r (cl [.slice a (ws).length c] 46) :: LT))) := by
  have hW : Row w0 a (ws.map sv) := hsub _ hb
  refine enter Tryz.func40 rfl Tryz.ntmps40 rfl ?_
  have hS := hS0
  refine zS<|zR<|zq 1 rfl<|zN<|zT<|zS<|zS<|zR<|zq 1 rfl<|zV (r_nilCheck rfl)<|zV (r_loadB1 ti46.und rfl rfl (hS.heap Z0) rfl)<|zV (r_len (T := 46) rfl ti46.und rfl _ rfl) ?_
  refine wl_dec (r_eql rfl rfl) rfl (fun h1_4 => ?_) (fun h1_4 => ?_)
  · refine zq 9 rfl<|zN<|zT<|zt rfl<|zS<|zR<|zq 1 rfl<|zN<|zT<|zU<|zL<|ret1 Tryz.results40 ?_
    have hx : headIs k ws = false := by first | exact headIs_e Om | exact headIs_n h1_12 Om
    exact .inr ⟨hx, rfl, hS⟩
  refine zq 2 rfl<|wl_val (r_nilCheck rfl) rfl<|wl_val (r_loadB1 ti46.und rfl rfl (hS.heap Z0) rfl) rfl<|wl_val (r_ixS (m := 0) ti46.und ti9 rfl rfl (hW.st hS) Sd Ln) rfl ?_; refine wl_val (r_loadS1 ti9.und rfl rfl (hW.st hS) (by rw [Nat.mul_one]; exact map_gt _ _ _ Sd)) rfl ?_; refine zq 1 rfl ?_
  refine wl_dec (r_neqStrL rfl rfl) rfl (fun h1_12 => ?_) (fun h1_12 => ?_)
  · refine zq 1 rfl<|zN<|zT<|zt rfl<|zS<|zR<|zq 1 rfl<|zN<|zT<|zU<|zL<|ret1 Tryz.results40 ?_
    have hx : headIs k ws = false := by first | exact headIs_e Om | exact headIs_n h1_12 Om
    exact .inr ⟨hx, rfl, hS⟩
  refine zq 1 rfl<|zN<|zT<|zf rfl<|zK<|zT<|zS<|zR<|zq 2 rfl<|zV (r_nilCheck rfl)<|zV (r_loadB1 ti46.und rfl rfl (hS.heap Z0) rfl)<|zV (r_sl_l (l := 1) ti46.und ti9 rfl rfl Om)<|zV (r_nilCheck rfl)<|zY (x_store1 [] hS ti46 rfl rfl rfl (by simp)) ?_; intro w1 hS2; simp only [ca, na] at hS2; refine zN<|zT<|zS<|zR<|zq 1 rfl<|zN<|zT<|zU<|ret1 Tryz.results40 ?_
  have hx := headIs_t (k := k) (ws := ws) Om (Classical.not_not.1 h1_12)
  exact .inl ⟨hx, rfl, _, c - 1, hsub.tl hc, by rw [List.length_tail]; omega, by rw [List.length_tail]; exact hS2⟩

theorem wlist_ok_c0 {p : Prop} (h : p := by exact ⟨_, c - (tkP ws).length, rfl, Nat.le_refl _, hsub.dr hc, by rw [drP_eq, List.length_drop]; omega, by rw [drP_eq, List.length_drop]; exact hF⟩) : p := h
set_option maxHeartbeats 1000000 in
theorem wlist_ok (w0 : World) (LT : List Kw.Item) (r : Nat) (a0 : Option Addr) (ws0 ws : Ws) (a : Option Addr) (c : Nat) (w : World) (hS0 : St w0 [] w (.blk r (cl [.slice a (ws).length c] 46) :: LT)) (hb : Row w0 a0 (ws0.map sv)) (hsub : Sub a0 ws0 a ws) (hc : ws.length ≤ c) (hn : ws.length ≤ 140737488351232) :
    Ret Tryz.prog 41 [pt r 0] w (fun v w' => ∃ a' c', v = .slice a (tkP ws).length (tkP ws).length ∧ (tkP ws).length ≤ (tkP ws).length ∧ Sub a0 ws0 a' (drP ws) ∧ (drP ws).length ≤ c' ∧ St w0 [] w' (.blk r (cl [.slice a' (drP ws).length c'] 46) :: LT)) := by
  have hW : Row w0 a (ws.map sv) := hsub _ hb
  refine enter Tryz.func41 rfl Tryz.ntmps41 rfl ?_
  have hS := hS0
  refine zS<|zR<|zq 1 rfl<|zN<|zT<|zS<|zR<|zq 1 rfl<|zN<|zT<|zS<|zI ?_
  refine c_loopE [0, 2] (fun d e w' => ∃ (n : Nat), Kw.look e 3 = vi n ∧ d = ws.length - n ∧ St w0 [] w' (.blk r (cl [.slice a (ws).length c] 46) :: LT) ∧ (n ≤ ws.length) ∧ (∀ j, j < n → isPart (gt ws j) = false)) (ws.length - 0) ?_ ?_
  · exact ⟨0, rfl, rfl, hS, Nat.zero_le _, fun j hj => absurd hj (Nat.not_lt_zero _)⟩
  · rintro d4 e1 w2 ⟨n, hc0_3, rfl, hS3, hnl, hno⟩ -
    refine c_set (d := 3) hc0_3<|zS<|zS<|zR<|zq 2 rfl<|zV (r_nilCheck rfl)<|zV (r_loadB1 ti46.und rfl rfl (hS3.heap Z0) rfl)<|zV (r_len (T := 46) rfl ti46.und rfl _ rfl) ?_
    refine wl_dec (r_lss rfl rfl) rfl (fun h2_5 => ?_) (fun h2_5 => ?_)
    · refine zq 2 rfl<|wl_val (r_nilCheck rfl) rfl<|wl_val (r_loadB1 ti46.und rfl rfl (hS3.heap Z0) rfl) rfl<|zq 1 rfl<|wl_val (r_ixS ti46.und ti9 rfl rfl (hW.st hS3) Sd Ln) rfl ?_
      refine wl_val (r_loadS1 ti9.und rfl rfl (hW.st hS3) (by rw [Nat.mul_one]; exact map_gt _ _ _ Sd)) rfl ?_; refine zC fn85 rfl ((beginsPart_ok _ _).br) ?_
      rintro _ w5 (⟨hbp, rfl, hx6⟩ | ⟨hbp, rfl, hx6⟩)
      · have hS7 := hS3.ext hx6
        refine zq 2 rfl<|zN<|zT<|zf rfl<|zO<|zM<|zM<|c_inE<|zT<|zS<|zR<|zq 1 rfl<|zV (r_nilCheck rfl)<|zV (r_loadB1 ti46.und rfl rfl (hS7.heap Z0) rfl)<|zq 2 rfl<|zV (r_sl_hm ti46.und ti9 rfl rfl rfl Om Om)<|zq 1 rfl<|zN<|zT<|zS<|zR<|zq 2 rfl<|zV (r_nilCheck rfl)<|zV (r_loadB1 ti46.und rfl rfl (hS7.heap Z0) rfl) ?_; refine zq 1 rfl<|zV (r_sl_l ti46.und ti9 rfl rfl Om)<|zV (r_nilCheck rfl)<|zY (x_store1 [] hS7 ti46 rfl rfl rfl (by simp)) ?_; intro w8 hS9; simp only [ca, na] at hS9; refine zN<|zT<|zS<|zR<|zq 2 rfl<|zN<|zT<|zU<|ret1 Tryz.results41 ?_
        have ht : (tkP ws).length = n := tkP_at hno hnl (by first | exact .inl Om | exact .inr hbp)
        subst ht
        have hF := hS9; exact wlist_ok_c0
      have hS7 := hS3.ext hx6; refine zq 2 rfl<|zN<|zT<|zt rfl<|zK<|zT<|zI<|zR<|zq 1 rfl<|zV (r_addn (b := 1) rfl rfl Om)<|zq 1 rfl<|zN<|zJ<|zT ?_
      exact ⟨ws.length - (n + 1), _, by omega, rfl, ⟨n + 1, rfl, rfl, hS7, by omega, fun j hj => (Nat.lt_succ_iff_lt_or_eq.1 hj).elim (hno j) (fun e => e ▸ hbp)⟩, ⟨rfl, rfl, trivial⟩⟩
    refine zq 10 rfl<|zN<|zT<|zf rfl<|zO<|zM<|zM<|c_inE<|zT<|zS<|zR<|zq 1 rfl<|zV (r_nilCheck rfl)<|zV (r_loadB1 ti46.und rfl rfl (hS3.heap Z0) rfl)<|zq 2 rfl<|zV (r_sl_hm ti46.und ti9 rfl rfl rfl Om Om)<|zq 1 rfl<|zN<|zT<|zS<|zR<|zq 2 rfl<|zV (r_nilCheck rfl)<|zV (r_loadB1 ti46.und rfl rfl (hS3.heap Z0) rfl) ?_; refine zq 1 rfl<|zV (r_sl_l ti46.und ti9 rfl rfl Om)<|zV (r_nilCheck rfl)<|zY (x_store1 [] hS3 ti46 rfl rfl rfl (by simp)) ?_; intro w10 hS11; simp only [ca, na] at hS11; refine zN<|zT<|zS<|zR<|zq 2 rfl<|zN<|zT<|zU<|ret1 Tryz.results41 ?_
    have ht : (tkP ws).length = n := tkP_at hno hnl (by first | exact .inl Om | exact .inr hbp)
    subst ht
    have hF := hS11; exact wlist_ok_c0

theorem hours_ok_c0 {p : Prop} (h : p := by exact ⟨congrArg Value.bool (show _ = hoursOk s from by unfold hoursOk; first | (rw [e1, e2, e3]; rfl) | (rw [e1, e2]; rfl) | (rw [e1]; rfl)), hF⟩) : p := h
theorem hours_ok (w0 : World) (LT : List Kw.Item) (r : Nat) (s : List UInt8) (C : List Value) (w : World) (hS0 : St w0 [] w (.blk r (cl C 51) :: LT)) (hC : C.length = 8) (hl : s.length < 4294967281) (hv : VF w0) :
    Ret Tryz.prog 43 [.string ⟨(s).toArray⟩, pt r 0] w (fun v w' => v = .bool (hoursOk s) ∧ St w0 [] w' (.blk r (cl ((C.set 4 (iv (hrA s))).set 5 (iv (hrB s))) 51) :: LT)) := by
  refine enter Tryz.func43 rfl Tryz.ntmps43 rfl ?_
  have hS := hS0
  refine zS<|zR<|zq 1 rfl<|zN<|zT<|zS<|zR<|zq 1 rfl<|zE fn17 rfl hS (cut_ok s [45] _ hl (hv.st hS)) fun w1 hS3=>zq 7 rfl<|zN<|zT<|zS<|zR<|zq 1 rfl<|zE fn44 rfl hS3 (pnumber_ok _ _) fun w4 hS6=>zq 5 rfl<|zN<|zT<|zS<|zR<|zq 1 rfl<|zE fn44 rfl hS6 (pnumber_ok _ _) fun w7 hS9=>zq 5 rfl<|zN ?_; refine zT<|zS<|zR<|zq 4 rfl<|zV (r_nilCheck rfl)<|zV (r_field fa51_4 rfl)<|zY (x_store1 (o := 4) (v := iv (hrA s)) [] hS9 ti3 rfl rfl rfl (by rw [hC]; decide)) ?_; intro w10 hS11; simp only [ca, na] at hS11; refine zV (r_nilCheck rfl)<|zV (r_field fa51_5 rfl)<|zY (x_store1 (o := 5) (v := iv (hrB s)) [] hS11 ti3 rfl rfl rfl (by rw [(List.length_set.trans hC)]; decide)) ?_; intro w12 hS13; simp only [ca, na] at hS13; refine zN<|zT<|zS ?_
  rcases three3 (Lib.cut s [45]).2.2 (numOk (Lib.cut s [45]).1) (numOk (Lib.cut s [45]).2.1) with ⟨e1, e2, e3⟩ | e1 | ⟨e1, e2⟩ | ⟨e1, e2, e3⟩
  · refine c_set (d := 7) (v := .bool true) (congrArg Value.bool e1)<|c_set (d := 9) (v := .bool true) (congrArg Value.bool e2)<|c_set (d := 11) (v := .bool true) (congrArg Value.bool e3)<|zR<|zq 8 rfl<|zN<|zT<|zU<|ret1 Tryz.results43 ?_
    have hF := hS13; exact hours_ok_c0
  · refine c_set (d := 7) (v := .bool false) (congrArg Value.bool e1)<|zR<|zq 8 rfl<|zN<|zT<|zU<|ret1 Tryz.results43 ?_
    have hF := hS13; exact hours_ok_c0
  · refine c_set (d := 7) (v := .bool true) (congrArg Value.bool e1)<|c_set (d := 9) (v := .bool false) (congrArg Value.bool e2)<|zR<|zq 8 rfl<|zN<|zT<|zU<|ret1 Tryz.results43 ?_
    have hF := hS13; exact hours_ok_c0
  refine c_set (d := 7) (v := .bool true) (congrArg Value.bool e1)<|c_set (d := 9) (v := .bool true) (congrArg Value.bool e2)<|c_set (d := 11) (v := .bool false) (congrArg Value.bool e3)<|zR<|zq 8 rfl<|zN<|zT<|zU<|ret1 Tryz.results43 ?_
  have hF := hS13; exact hours_ok_c0

end Go.Proofs.YtjnnhlbfgnopiaaGreatDoor
end
section
namespace Go.Proofs.YtjnnhlbfgnopiaaGreatDoor
open Go.Kw
set_option linter.unusedVariables false
set_option linter.unusedSimpArgs false
set_option maxRecDepth 100000
theorem indexAt_ok_c0 {p : Prop} (h : p := by first | exact .inl ⟨mem_gtw Om h4_5.symm, by rw [idxOf_first Om h4_5.symm hno]; rfl, hF.fin⟩ | (obtain rfl : k = l.length := Om; exact .inr ⟨not_mem_gtw hno, rfl, hF.fin⟩)) : p := h
theorem indexAt_ok (l : Ws) (a : Option Addr) (n c : Nat) (x : List UInt8) (w : World) (hb : Row w a (l.map sv)) (hl : l.length = n) (hn : n ≤ 140737488351232) :
    Ret Tryz.prog 47 [.slice a n c, sv x] w (fun v w' => (x ∈ l ∧ v = vi (l.idxOf x) ∧ St w [] w' []) ∨ (¬ x ∈ l ∧ v = .int .i64 (-1) ∧ St w [] w' [])) := by
  subst hl
  refine enter Tryz.func47 rfl Tryz.ntmps47 rfl ?_
  have hS := St.refl w []
  refine zS<|zR<|zq 1 rfl<|zN<|zT<|zS<|zS<|zR<|zq 1 rfl<|zV (r_len (T := 42) rfl ti42.und rfl _ rfl)<|zq 1 rfl<|zN<|zT<|zI ?_
  refine c_loopE [0, 1, 7] (fun d e w' => ∃ (k : Nat), Kw.look e 8 = vi k ∧ d = l.length - k ∧ St w [] w' [] ∧ (k ≤ l.length) ∧ (∀ j, j < k → ¬ gt l j = x)) (l.length - 0) ?_ ?_
  · exact ⟨0, rfl, rfl, hS, Nat.zero_le _, fun j hj => absurd hj (Nat.not_lt_zero _)⟩
  · rintro d4 e1 w2 ⟨k, hc0_8, rfl, hS3, hk, hno⟩ -
    refine c_set (d := 8) hc0_8<|zS<|zR ?_
    refine wl_dec (r_lss rfl rfl) rfl (fun h2_0 => ?_) (fun h2_0 => ?_)
    · refine zN<|zT<|zS<|zt rfl<|zK<|zT<|zS<|zI<|zS<|zR<|zq 2 rfl<|zN<|zT<|zS<|zR<|zq 3 rfl<|zV (r_ixS ti42.und ti9 rfl rfl (hb.st hS3) Sd Ln) ?_
      refine zV (r_loadS1 ti9.und rfl rfl (hb.st hS3) (by rw [Nat.mul_one]; exact map_gt _ _ _ Sd)) ?_
      refine wl_dec (r_eqlStrL rfl rfl) rfl (fun h4_5 => ?_) (fun h4_5 => ?_)
      · refine zN<|zT<|zt rfl<|zS<|zR<|zq 2 rfl<|zN<|zT<|zU<|zH<|zL<|zL<|zH<|zL<|ret1 Tryz.results47 ?_
        have hF := hS3; exact indexAt_ok_c0
      refine zN<|zT<|zf rfl<|zK<|zJ<|zT<|zR<|zV (r_addn (b := 1) rfl rfl Om)<|zq 1 rfl<|zN<|zT ?_
      exact ⟨l.length - (k + 1), _, by omega, rfl, ⟨k + 1, rfl, rfl, hS3, by omega, fun j hj => (Nat.lt_succ_iff_lt_or_eq.1 hj).elim (hno j) (fun e => e ▸ (Ne.symm h4_5))⟩, ⟨rfl, rfl, rfl, trivial⟩⟩
    refine zN<|zT<|zS<|zf rfl<|zO<|zM<|zM<|c_inE<|zT<|zS<|zR<|zq 1 rfl<|zN<|zT<|zU<|ret1 Tryz.results47 ?_
    have hF := hS3; exact indexAt_ok_c0

theorem indexE_ok_c0 {p : Prop} (h : p := by first | exact .inl ⟨k, rfl, by omega, of_decide_eq_true hem, hno, hF.fin⟩ | (obtain rfl : k = l.length := Om; exact .inr ⟨rfl, hno, hF.fin⟩)) : p := h
theorem indexE_ok (l : Ws) (a : Option Addr) (n c : Nat) (w : World) (hb : Row w a (l.map sv)) (hl : l.length = n) (hn : n ≤ 140737488351232) :
    Ret Tryz.prog 38 [.slice a n c, .func (.func 20) #[] #[]] w (fun v w' => (∃ k : Nat, v = vi k ∧ k < l.length ∧ gt l k = [] ∧ (∀ j, j < k → ¬ gt l j = []) ∧ St w [] w' []) ∨ (v = .int .i64 (-1) ∧ (∀ j, j < l.length → ¬ gt l j = []) ∧ St w [] w' [])) := by
  subst hl
  refine enter Tryz.func38 rfl Tryz.ntmps38 rfl ?_
  have hS := St.refl w []
  refine zS<|zR<|zq 1 rfl<|zN<|zT<|zS<|zS<|zR<|zq 1 rfl<|zV (r_len (T := 42) rfl ti42.und rfl _ rfl)<|zq 1 rfl<|zN<|zT<|zI ?_
  refine c_loopE [0, 1, 7] (fun d e w' => ∃ (k : Nat), Kw.look e 8 = vi k ∧ d = l.length - k ∧ St w [] w' [] ∧ (k ≤ l.length) ∧ (∀ j, j < k → ¬ gt l j = [])) (l.length - 0) ?_ ?_
  · exact ⟨0, rfl, rfl, hS, Nat.zero_le _, fun j hj => absurd hj (Nat.not_lt_zero _)⟩
  · rintro d4 e1 w2 ⟨k, hc0_8, rfl, hS3, hk, hno⟩ -
    refine c_set (d := 8) hc0_8<|zS<|zR ?_
    refine wl_dec (r_lss rfl rfl) rfl (fun h2_0 => ?_) (fun h2_0 => ?_)
    · refine zN<|zT<|zS<|zt rfl<|zK<|zT<|zS<|zI<|zS<|zR<|zq 2 rfl<|zN<|zT<|zS<|zR<|zV (r_move rfl)<|zq 2 rfl<|zV (r_ixS ti42.und ti9 rfl rfl (hb.st hS3) Sd Ln) ?_
      refine zV (r_loadS1 ti9.und rfl rfl (hb.st hS3) (by rw [Nat.mul_one]; exact map_gt _ _ _ Sd)) ?_; refine wl_call (r_callDyn fn20 rfl rfl) rfl ((isEmpty_ok _ _).br) ?_
      rintro _ w5 (⟨hem, rfl, hx6⟩ | ⟨hem, rfl, hx6⟩)
      · have hS7 := hS3.ext hx6
        refine zN<|zT<|zt rfl<|zS<|zR<|zq 2 rfl<|zN<|zT<|zU<|zH<|zL<|zL<|zH<|zL<|ret1 Tryz.results38 ?_
        have hF := hS7; exact indexE_ok_c0
      have hS7 := hS3.ext hx6; refine zN<|zT<|zf rfl<|zK<|zJ<|zT<|zR<|zV (r_addn (b := 1) rfl rfl Om)<|zq 1 rfl<|zN<|zT ?_
      exact ⟨l.length - (k + 1), _, by omega, rfl, ⟨k + 1, rfl, rfl, hS7.fin, by omega, fun j hj => (Nat.lt_succ_iff_lt_or_eq.1 hj).elim (hno j) (fun e => e ▸ (of_decide_eq_false hem))⟩, ⟨rfl, rfl, rfl, trivial⟩⟩
    refine zN<|zT<|zS<|zf rfl<|zO<|zM<|zM<|c_inE<|zT<|zS<|zR<|zq 1 rfl<|zN<|zT<|zU<|ret1 Tryz.results38 ?_
    have hF := hS3; exact indexE_ok_c0

theorem del_set {l : Ws} {j : Nat} (hj : j < l.length) (hv : ¬ gt l j = []) : ((noNil (l.take j) ++ l.drop (noNil (l.take j)).length).set (noNil (l.take j)).length (gt l j)) = noNil (l.take (j + 1)) ++ l.drop (noNil (l.take (j + 1))).length := by
  rw [noNil_take hj, if_neg hv, List.length_append, List.length_singleton, List.set_append_right _ _ (Nat.le_refl _), Nat.sub_self, List.append_assoc]
  congr 1
  have hk : (noNil (l.take j)).length < l.length := by have := noNil_len (l.take j); rw [List.length_take] at this; omega
  rw [List.drop_eq_getElem_cons hk]
  rfl
theorem noNil_all {l : Ws} (h : ∀ j, j < l.length → ¬ gt l j = []) : noNil l = l := by
  have := noNil_first (k := l.length) h (Nat.le_refl _)
  rwa [List.take_length] at this
theorem one_str : One [sv []] := one_cons rfl one_nil

theorem del_gt {l : Ws} {j : Nat} (hj : j < l.length) : gt (noNil (l.take j) ++ l.drop (noNil (l.take j)).length) j = gt l j := by
  have hk : (noNil (l.take j)).length ≤ j := by have := noNil_len (l.take j); rw [List.length_take] at this; omega
  have hl : j < (noNil (l.take j) ++ l.drop (noNil (l.take j)).length).length := by rw [List.length_append, List.length_drop]; omega
  rw [gt_eq _ _ hl, gt_eq l j hj, List.getElem_append_right hk]
  simp only [List.getElem_drop]
  congr 1; omega
theorem del_skip {l : Ws} {j : Nat} (hj : j < l.length) (hv : gt l j = []) : noNil (l.take (j + 1)) = noNil (l.take j) := by rw [noNil_take hj, if_pos hv, List.append_nil]
theorem del_keep {l : Ws} {j : Nat} (hj : j < l.length) (hv : ¬ gt l j = []) : (noNil (l.take (j + 1))).length = (noNil (l.take j)).length + 1 := by rw [noNil_take hj, if_neg hv, List.length_append]; rfl
theorem del_first {l : Ws} {i : Nat} (hi : i < l.length) (he : gt l i = []) (hno : ∀ j, j < i → ¬ gt l j = []) : noNil (l.take (i + 1)) = l.take i := by rw [del_skip hi he, noNil_first hno (by omega)]
theorem sub_lt {g n m : Nat} (h : m < n) : Kw.sub (some ⟨g, 0, none⟩) n m 1 = some ⟨g, m * 1, none⟩ := by
  unfold Kw.sub
  rw [if_neg (by omega)]
  simp [add_lit]

set_option maxHeartbeats 1000000 in
theorem delE_ok (l : Ws) (g n : Nat) (w : World) (hb : w.heap[g]? = some (cl (l.map sv) 9)) (hl : l.length = n) (hn : n ≤ 140737488351232) :
    Ret Tryz.prog 18 [.slice (some ⟨g, 0, none⟩) n n, .func (.func 20) #[] #[]] w (fun v w' => ∃ D, v = .slice (some ⟨g, 0, none⟩) (noNil l).length n ∧ St w [g] w' [.blk g (cl ((noNil l).map sv ++ D) 9)]) := by
  subst hl
  refine enter Tryz.func18 rfl Tryz.ntmps18 rfl ?_
  have hS : St w [g] w [.blk g (cl (l.map sv) 9)] := St.own hb
  refine zS<|zR<|zq 1 rfl<|zN<|zT<|zS<|zR<|zq 1 rfl<|zV (r_move rfl)<|zC fn38 rfl (indexE_ok l _ l.length l.length _ (Row.of_at (at_all (hS.heap Z0))) rfl hn) ?_
  rintro _ w1 (⟨i, rfl, hi, hie, hino, hx2⟩ | ⟨rfl, hall, hx2⟩)
  · have hS3 := hS.ext hx2
    refine zq 1 rfl<|zN<|zT<|zS<|zS<|zR<|zq 1 rfl<|wl_dec_f (r_eql rfl rfl) rfl Om<|zN<|zT<|zf rfl<|zK<|zT<|zS<|zS<|zR<|zq 1 rfl<|zV (r_addn (b := 1) rfl rfl Om)<|zq 1 rfl<|zN<|zT<|zI ?_
    refine c_loopE [0, 1, 4] (fun d e w' => ∃ (j : Nat), Kw.look e 6 = vi j ∧ Kw.look e 5 = vi (noNil (l.take j)).length ∧ d = l.length - j ∧ St w [g] w' [.blk g (cl ((noNil (l.take j) ++ l.drop (noNil (l.take j)).length).map sv) 9)] ∧ (j ≤ l.length) ∧ ((noNil (l.take j)).length < j)) (l.length - (i + 1)) ?_ ?_
    · have e9 := del_first hi hie hino
      have e8 : (l.take i).length = i := by rw [List.length_take]; omega
      exact ⟨i + 1, rfl, by rw [e9, e8]; rfl, rfl, by rw [e9, e8, List.take_append_drop]; exact hS3, by omega, by rw [e9, e8]; omega⟩
    · rintro d7 e4 w5 ⟨j, hc0_6, hc0_5, rfl, hS6, hj, hlt⟩ -
      refine c_set (d := 6) hc0_6<|c_set (d := 5) hc0_5<|zS<|zS<|zR<|zq 2 rfl<|zV (r_len (T := 42) rfl ti42.und rfl _ rfl) ?_
      refine wl_dec (r_lss rfl rfl) rfl (fun h5_3 => ?_) (fun h5_3 => ?_)
      · refine zN<|zT<|zt rfl<|zK<|zT<|zS<|zI<|zS ?_
        have hjl : j < l.length := by omega
        have hgj := del_gt hjl
        refine zR<|zq 2 rfl<|zV (r_ixB ti42.und ti9 rfl rfl Om)<|zV (r_loadB1 ti9.und rfl rfl (hS6.heap Z0) (map_gt _ _ _ (by simp only [List.length_append, List.length_drop]; omega))) ?_; refine zq 1 rfl<|zN<|zT<|zS<|zR<|zV (r_move rfl)<|zq 1 rfl<|wl_call (r_callDyn fn20 rfl rfl) rfl ((isEmpty_ok _ _).br) ?_
        rintro _ w8 (⟨hem, rfl, hx9⟩ | ⟨hem, rfl, hx9⟩)
        · have hS10 := hS6.ext hx9
          refine zq 1 rfl<|zN<|zT<|zf rfl<|zK<|zJ<|zT<|zR<|zq 1 rfl<|zV (r_addn (b := 1) rfl rfl Om)<|zq 1 rfl<|zN<|zT ?_
          have hv : gt l j = [] := by rw [← hgj]; exact of_decide_eq_true hem
          exact ⟨l.length - (j + 1), _, by omega, rfl, ⟨j + 1, rfl, by rw [del_skip hjl hv]; rfl, rfl, by rw [del_skip hjl hv]; exact hS10, by omega, by rw [del_skip hjl hv]; omega⟩, ⟨rfl, rfl, rfl, trivial⟩⟩
        have hS10 := hS6.ext hx9
        have hv : ¬ gt l j = [] := by rw [← hgj]; exact of_decide_eq_false hem
        refine zq 1 rfl<|zN<|zT<|zt rfl<|zS<|zR<|zq 3 rfl<|zV (r_ixB ti42.und ti9 rfl rfl Om)<|zY (x_store1m [] hS10 ti9 rfl rfl rfl (by simp only [List.length_append, List.length_drop]; omega)) ?_; intro w11 hS12; simp only [ca, na] at hS12
        rw [hgj, del_set hjl hv] at hS12
        refine zN<|zT<|zR<|zq 1 rfl<|zV (r_addn (b := 1) rfl rfl Om)<|zq 1 rfl<|zN<|zJ<|zT<|zR<|zq 1 rfl<|zV (r_addn (b := 1) rfl rfl Om)<|zq 1 rfl<|zN<|zT ?_
        exact ⟨l.length - (j + 1), _, by omega, rfl, ⟨j + 1, rfl, congrArg (fun n : Nat => Value.int .i64 (n : Int)) (del_keep hjl hv).symm, rfl, hS12, by omega, by rw [del_keep hjl hv]; omega⟩, ⟨rfl, rfl, rfl, trivial⟩⟩
      refine zN<|zT<|zf rfl<|zO<|zM<|zM<|c_inE<|zT<|zS ?_
      obtain rfl : j = l.length := by omega
      rw [List.take_length] at *
      rw [List.map_append] at hS6
      refine zR<|zq 2 rfl<|zV ((r_sl_l (l := (noNil l).length) ti42.und ti9 rfl rfl Om).trans (by rw [sub_lt Om])) ?_; refine zX (x_clearW (T := 42) (n := l.length - (noNil l).length) (c := l.length - (noNil l).length) (o := (noNil l).length * 1) (sz := 1) (X := (noNil l).map sv) (Y := (l.drop (noNil l).length).map sv) [] hS6 rfl ti42.und ti9 one_str rfl rfl (by simp) (by simp) _ rfl) ?_; rintro _ w13 ⟨rfl, D', hD', hS14⟩; simp only [ca, na] at hS14; refine zN<|zT<|zS<|zR<|zq 2 rfl<|zV (r_sl_h ti42.und ti9 rfl rfl Om)<|zq 1 rfl<|zN<|zT<|zU<|ret1 Tryz.results18 ?_
      exact ⟨_, rfl, hS14⟩
  have hS3 := hS.ext hx2; refine zq 1 rfl<|zN<|zT<|zS<|zS<|zR<|zq 1 rfl<|wl_dec_t (r_eql rfl rfl) rfl (by decide)<|zN<|zT<|zt rfl<|zS<|zR<|zq 2 rfl<|zN<|zT<|zU<|zL<|ret1 Tryz.results18 ?_
  rw [noNil_all hall]
  exact ⟨[], rfl, by rw [List.append_nil]; exact hS3⟩

set_option maxHeartbeats 1000000 in
theorem acts_ok (l : Ws) (a : Option Addr) (n c : Nat) (w : World) (hb : Row w a (l.map sv)) (hl : l.length = n) (hn : n ≤ 100000) (hv : VF w) :
    Ret Tryz.prog 42 [.slice a n c] w (fun v w' => (actsOk l = true ∧ ∃ a' c', v = .tuple #[.slice a' (actsV l).length c', .bool true] ∧ (actsV l).length ≤ c' ∧ St w [] w' [.row (.slice a' (actsV l).length c') 3 1 (actsV l).length ((actsV l).map iv)]) ∨ (actsOk l = false ∧ v = .tuple #[.slice none 0 0, .bool false] ∧ St w [] w' [])) := by
  subst hl
  refine enter Tryz.func42 rfl Tryz.ntmps42 rfl ?_
  have hS := St.refl w []
  refine zS<|zR<|zq 2 rfl<|zN<|zT<|zS<|zR<|zq 1 rfl<|zN<|zT<|zS<|zS<|zR<|zq 1 rfl<|zV (r_len (T := 42) rfl ti42.und rfl _ rfl)<|zq 1 rfl<|zN<|zT<|zI ?_
  refine c_loopE [8, 9] (fun d e w' => ∃ (k : Nat) (a4 : Option Addr) (c4 : Nat), Kw.look e 10 = vi k ∧ Kw.look e 4 = .slice a4 k c4 ∧ d = l.length - k ∧ St w [] w' [.row (.slice a4 k c4) 3 1 k ((actsV (l.take k)).map iv)] ∧ (k ≤ l.length) ∧ (∀ j, j < k → gt l j ∈ actW) ∧ (k ≤ c4)) (l.length - 0) ?_ ?_
  · have hS99 := St.nilRow (E := 3) (sz := 1) hS
    exact ⟨0, none, 0, rfl, rfl, rfl, hS99, Nat.zero_le _, (fun j hj => absurd hj (Nat.not_lt_zero _)), Nat.le_refl _⟩
  · rintro d4 e1 w2 ⟨k, a4, c4, hc0_10, hc0_4, rfl, hS3, hk, hall, hkc⟩ -
    refine c_set (d := 10) hc0_10<|c_set (d := 4) hc0_4<|zS<|zR ?_
    refine wl_dec (r_lss rfl rfl) rfl (fun h3_0 => ?_) (fun h3_0 => ?_)
    · refine zN<|zT<|zS<|zt rfl<|zK<|zT<|zS<|zI<|zS<|zR<|zV (r_ixS ti42.und ti9 rfl rfl (hb.st hS3) Sd Ln) ?_
      refine zV (r_loadS1 ti9.und rfl rfl (hb.st hS3) (by rw [Nat.mul_one]; exact map_gt _ _ _ Sd)) ?_; refine zq 1 rfl<|zN<|zT<|zS<|zR<|zC fn86 rfl (actWords_ok _ (hv.st hS3)) ?_; rintro _ w5 ⟨bA, rfl, hx6⟩
      have hS7 := hS3.call hx6
      simp only [ca, na] at hS7; refine zq 1 rfl<|zC fn47 rfl (indexAt_ok actW _ 12 12 (gt l k) _ (Row.of_at (at_all (hS7.heap Z0))) rfl (by decide)) ?_
      rintro _ w8 (⟨hin, rfl, hx9⟩ | ⟨hin, rfl, hx9⟩)
      · have hS10 := hS7.ext hx9
        have hix : actW.idxOf (gt l k) < 12 := List.idxOf_lt_length_of_mem hin
        refine zq 1 rfl<|zN<|zT<|zS<|zS<|zR<|zq 1 rfl<|wl_dec_f (r_lss rfl rfl) rfl Om<|zN<|zT<|zf rfl<|zK<|zT<|zR<|zq 2 rfl<|zV (r_addn (b := 1) rfl rfl Om) ?_; refine wl_exv (x_lit (vs := [vi (actW.idxOf (gt l k) + 1)]) hS10 ti49.und ti3 rfl rfl rfl On (by decide)) rfl ?_; rintro _ w11 ⟨b22, rfl, hS12⟩; refine zX (x_append [_, _] hS12 ti49.und ti3 rfl (by decide) rfl rfl (Row.of_at (at_all (hS12.heap Z0))) rfl (one_cons rfl one_nil) Sd Sd _ rfl) ?_; rintro _ w13 ⟨aq15, cq15, rfl, hcq15, hS14⟩; simp only [ca, na] at hS14; refine zq 1 rfl<|zN<|zJ<|zT<|zR<|zV (r_addn (b := 1) rfl rfl Om)<|zq 1 rfl<|zN<|zT ?_
        have hS98 := hS14.drop1.drop1
        have e9 : (actsV (l.take k)).map iv ++ [vi (actW.idxOf (gt l k) + 1)] = (actsV (l.take (k + 1))).map iv := by rw [actsV_step Om, List.map_append]; rfl
        rw [e9] at hS98
        exact ⟨l.length - (k + 1), _, by omega, rfl, ⟨k + 1, _, _, rfl, rfl, rfl, hS98, by omega, (fun j hj => (Nat.lt_succ_iff_lt_or_eq.1 hj).elim (hall j) (fun e => e ▸ hin)), by omega⟩, ⟨rfl, rfl, trivial⟩⟩
      have hS10 := hS7.ext hx9; refine zq 1 rfl<|zN<|zT<|zS<|zS<|zR<|zq 1 rfl<|wl_dec_t (r_lss rfl rfl) rfl (by decide)<|zN<|zT<|zt rfl<|zS<|zR<|zq 2 rfl<|zN<|zT<|zU<|zL<|zH<|zL<|zL<|zH<|zL<|ret2 Tryz.results42 rfl rfl ?_
      exact .inr ⟨acts_n Om hin, rfl, hS10.fin⟩
    refine zN<|zT<|zS<|zf rfl<|zO<|zM<|zM<|c_inE<|zT<|zS<|zR<|zq 3 rfl<|zN<|zT<|zU<|ret2 Tryz.results42 rfl rfl ?_
    obtain rfl : k = l.length := by omega
    rw [List.take_length] at hS3
    exact .inl ⟨acts_y hall, a4, c4, by rw [actsV_len]; rfl, by rw [actsV_len]; omega, by rw [actsV_len]; exact hS3⟩

end Go.Proofs.YtjnnhlbfgnopiaaGreatDoor
end
section
namespace Go.Proofs.YtjnnhlbfgnopiaaGreatDoor
open Go.Kw
set_option linter.unusedVariables false
set_option linter.unusedSimpArgs false
set_option maxRecDepth 100000
theorem bool_casesX (b : Bool) : b = true ∨ b = false := by cases b <;> simp
theorem ok2_f {t : Ws} {k1 : Bool} (hk : k1 = ok1 t) (h : headIs kACT (wk1 t) = false) : ok2 t = k1 := by unfold ok2; rw [secOk_f h, secA_f h, ← hk]; simp [actsOk]
theorem ok2_y {t : Ws} (hk : true = ok1 t) (h : headIs kACT (wk1 t) = true) (h2 : 0 < (tkP (wk1 t).tail).length) (h3 : actsOk (tkP (wk1 t).tail) = true) : ok2 t = true := by unfold ok2; rw [secOk_y h h2, secA_t h, h3, ← hk]; rfl
theorem ok2_n {t : Ws} {k1 : Bool} (hk : k1 = ok1 t) (h : headIs kACT (wk1 t) = true) (h2 : k1 = false ∨ ¬ 0 < (tkP (wk1 t).tail).length ∨ actsOk (tkP (wk1 t).tail) = false) : ok2 t = false := by
  unfold ok2
  rw [← hk]
  rcases h2 with h2 | h2 | h2
  · rw [h2]; rfl
  · rw [secOk_n h h2]; simp
  · rw [secA_t h, h2]; simp
theorem ok3_f {t : Ws} {k2 : Bool} (hk : k2 = ok2 t) (h : headIs kON (wk2 t) = false) : ok3 t = k2 := by unfold ok3; rw [secOk_f h, ← hk]; simp
theorem ok3_y {t : Ws} (hk : true = ok2 t) (h : headIs kON (wk2 t) = true) (h2 : 0 < (tkP (wk2 t).tail).length) : ok3 t = true := by unfold ok3; rw [secOk_y h h2, ← hk]; rfl
theorem ok3_n {t : Ws} {k2 : Bool} (hk : k2 = ok2 t) (h : headIs kON (wk2 t) = true) (h2 : k2 = false ∨ ¬ 0 < (tkP (wk2 t).tail).length) : ok3 t = false := by
  unfold ok3
  rw [← hk]
  rcases h2 with h2 | h2
  · rw [h2]; rfl
  · rw [secOk_n h h2]; simp
theorem ok4_f {t : Ws} {k3 : Bool} (hk : k3 = ok3 t) (h : headIs kAT (wk3 t) = false) : ok4 t = k3 := by unfold ok4; rw [atOk_f h, ← hk]; simp
theorem ok4_y {t : Ws} (hk : true = ok3 t) (h : headIs kAT (wk3 t) = true) (h2 : (tkP (wk3 t).tail).length = 1) : ok4 t = hoursOk (gt (tkP (wk3 t).tail) 0) := by unfold ok4; rw [atOk_y h h2, ← hk]; rfl
theorem ok4_n {t : Ws} {k3 : Bool} (hk : k3 = ok3 t) (h : headIs kAT (wk3 t) = true) (h2 : k3 = false ∨ ¬ (tkP (wk3 t).tail).length = 1) : ok4 t = false := by
  unfold ok4
  rw [← hk]
  rcases h2 with h2 | h2
  · rw [h2]; rfl
  · rw [atOk_n h h2]; simp
theorem ok5_f {t : Ws} {k4 : Bool} (hk : k4 = ok4 t) (h : headIs kNEED (wk4 t) = false) : ok5 t = k4 := by unfold ok5; rw [needOk_f h, ← hk]; simp
theorem ok5_y {t : Ws} (hk : true = ok4 t) (h : headIs kNEED (wk4 t) = true) (h2 : (tkP (wk4 t).tail).length = 2) : ok5 t = numOk (gt (tkP (wk4 t).tail) 0) := by unfold ok5; rw [needOk_y h h2, ← hk]; rfl
theorem ok5_n {t : Ws} {k4 : Bool} (hk : k4 = ok4 t) (h : headIs kNEED (wk4 t) = true) (h2 : k4 = false ∨ ¬ (tkP (wk4 t).tail).length = 2) : ok5 t = false := by
  unfold ok5
  rw [← hk]
  rcases h2 with h2 | h2
  · rw [h2]; rfl
  · rw [needOk_n h h2]; simp
theorem nilEnd {w0 w : World} {M : List Nat} {L : List Kw.Item} {E sz : Nat} (h : St w0 M w L) : St w0 M w (L ++ [.row (.slice none 0 0) E sz 0 []]) := (h.nilRow (E := E) (sz := sz)).perm (by simp)
theorem rule_okT {a : Option Addr} {ws : Ws} {dn : Bool} {ar aa al : Option Addr} {cr cb cz : Nat} {l2 : List Int} {fr tt nd : Int} {of : List UInt8} (_ : Sub a ws ar (secA kROLE ws.tail)) (_ : Sub a ws al (secA kON (wk2 ws.tail))) (hcr : (secA kROLE ws.tail).length ≤ cr) (hcz : (secA kON (wk2 ws.tail)).length ≤ cz) (hcb : l2.length ≤ cb)
    (hl : ∀ s ∈ ws.tail, s.length ≤ 65536) (hn : ws.length ≤ 100000) (ho : of.length ≤ 65536) (h2 : l2.length ≤ 100000) : RuleOk ⟨dn, ar, secA kROLE ws.tail, cr, aa, l2, cb, al, secA kON (wk2 ws.tail), cz, fr, tt, nd, of⟩ := by
  have h1 := secA_le kROLE ws.tail
  have h3 := secA_le kON (wk2 ws.tail)
  have h4 := (w_le ws.tail).2.1
  rw [List.length_tail] at h1 h4
  exact ⟨hcr, by show (secA kROLE ws.tail).length ≤ _; omega, fun s hs => Nat.le_trans (hl s (secA_mem hs)) (by decide), hcb, by show l2.length ≤ _; omega, hcz, by show (secA kON (wk2 ws.tail)).length ≤ _; omega, fun s hs => Nat.le_trans (hl s (wk2_mem (secA_mem hs))) (by decide), Nat.le_trans ho (by decide)⟩

theorem readRule_ok_c0 {p : Prop} (h : p := by exact ⟨_, rfl, ⟨_, aq45, cq45, actsV (tkP ((wk1 ws.tail).tail)), aA, cA, false, rfl, (hF.perm ((List.Perm.cons _ ((List.Perm.cons _ ((List.Perm.cons _ (List.Perm.refl _)).trans (List.perm_middle (l₁ := [_])).symm)).trans (List.perm_middle (l₁ := [_])).symm)).trans (List.perm_middle (l₁ := [_, _])).symm)), (secR_t hha).symm, (ok2_n hk1 hha (by first | exact .inl rfl | exact .inr (.inl Om) | exact .inr (.inr hact))).symm, hsq45, hcq45, (fun _ => by rw [secA_t hha]), hcA, by rw [actsV_len]; omega⟩, ⟨rfl, rfl, rfl, rfl, trivial⟩⟩) : p := h
theorem readRule_ok_c1 {p : Prop} (h : p := by exact ⟨_, rfl, ⟨_, aq45, cq45, [], none, 0, false, rfl, hF, (secR_t hha).symm, (ok2_n hk1 hha (by first | exact .inl rfl | exact .inr (.inl Om) | exact .inr (.inr hact))).symm, hsq45, hcq45, (fun h => by rw [(ok2_n hk1 hha (by first | exact .inl rfl | exact .inr (.inl Om) | exact .inr (.inr hact)))] at h; cases h), Nat.le_refl _, Nat.zero_le _⟩, ⟨rfl, rfl, rfl, rfl, trivial⟩⟩) : p := h
theorem readRule_ok_c2 {p : Prop} (h : p := by exact ⟨_, rfl, ⟨_, aq62, cq62, _, aq59, _, false, rfl, (hF.perm ((List.Perm.cons _ (List.Perm.refl _)).trans (List.perm_middle (l₁ := [_])).symm)), (secR_t hho).symm, (secA_t hho).symm, (ok3_n hk2 hho (by first | exact .inl rfl | exact .inr Om)).symm, hsq62, hcq62, (hsq59).tk, Nat.le_refl _⟩, ⟨rfl, rfl, rfl, rfl, trivial⟩⟩) : p := h
theorem readRule_ok_c3 {p : Prop} (h : p := by exact ⟨_, rfl, ⟨_, aq74, cq74, 0, 0, false, rfl, (hF.perm ((List.Perm.cons _ (List.Perm.refl _)).trans (List.perm_middle (l₁ := [_])).symm)), (secR_t hht).symm, (ok4_n hk3 hht (by first | exact .inl rfl | exact .inr Om)).symm, hsq74, hcq74, fun h => by rw [(ok4_n hk3 hht (by first | exact .inl rfl | exact .inr Om))] at h; cases h⟩, ⟨rfl, rfl, rfl, rfl, trivial⟩⟩) : p := h
theorem readRule_ok_c4 {p : Prop} (h : p := by exact ⟨_, rfl, ⟨_, aq86, cq86, _, _, false, rfl, (hF.perm ((List.Perm.cons _ (List.Perm.refl _)).trans (List.perm_middle (l₁ := [_])).symm)), (secR_t hhn).symm, (ok5_n hk4 hhn (by first | exact .inl rfl | exact .inr Om)).symm, hsq86, hcq86, (fun h => by rw [(ok5_n hk4 hhn (by first | exact .inl rfl | exact .inr Om))] at h; cases h), by omega, Nat.zero_le _⟩, ⟨rfl, rfl, rfl, rfl, trivial⟩⟩) : p := h
theorem readRule_ok_c5 {p : Prop} (h : p := by exact .inl ⟨ruleT_r (by first | exact restOk_f hk5.symm | exact restOk_l Om), ⟨⟨dn, ar, secA kROLE ws.tail, cr, aa, l2, cb, al, secA kON (wk2 ws.tail), cz, fr, tt, nd, of⟩, rfl⟩, hF.fin⟩) : p := h
set_option maxHeartbeats 4000000 in
theorem readRule_ok (ws : Ws) (a : Option Addr) (c : Nat) (w : World) (hw : Row w a (ws.map sv)) (hc0 : ws.length ≤ c) (hn : ws.length ≤ 100000) (hll : ∀ s ∈ ws.tail, s.length ≤ 65536) (hv : VF w) :
    Ret Tryz.prog 21 [.slice a ws.length c] w (fun v w' => (ruleT ws = none ∧ (∃ r : RuleD, v = .tuple #[.agg r.v.toArray, .bool false]) ∧ St w [] w' []) ∨ (∃ r : RuleD, ruleT ws = some (nrmR r) ∧ RuleOk r ∧ Sub a ws r.ra r.ro ∧ Sub a ws r.la r.las ∧ v = .tuple #[.agg r.v.toArray, .bool true] ∧ St w [] w' [.row (.slice r.aa r.acs.length r.ak) 3 1 r.acs.length (r.acs.map iv)])) := by
  refine enter Tryz.func21 rfl Tryz.ntmps21 rfl ?_
  have hS := St.refl w []
  refine zS<|zR<|zB (v := .slice _ _ _) hS rfl rfl fun b1 w1 hS2=>zA (C := [.bool false, .slice none 0 0, .slice none 0 0, .slice none 0 0, .int .i64 0, .int .i64 0, .int .i64 0, .string ⟨#[]⟩]) hS2 ti51 rfl fun b2 w3 hS4=>zq 1 rfl<|zN<|zT<|zS<|zR<|zV (r_buildZ pl51 ti51)<|zA (C := [.bool false, .slice none 0 0, .slice none 0 0, .slice none 0 0, .int .i64 0, .int .i64 0, .int .i64 0, .string ⟨#[]⟩]) hS4 ti51 rfl fun b4 w5 hS6=>zY (x_storeW [] hS6 ti51 rfl rfl rfl rfl (one_all rfl)) ?_; intro w7 hS8; simp only [ca, na] at hS8; refine zN<|zT ?_
  refine c_cutE [1, 2, 4] (fun e w' => ∃ (dn : Bool) (a1 : Option Addr) (c1 : Nat), St w [] w' [.blk b4 (cl [.bool dn, .slice none 0 0, .slice none 0 0, .slice none 0 0, .int .i64 0, .int .i64 0, .int .i64 0, .string ⟨#[]⟩] 51), .blk b1 (cl [.slice a1 (ws.tail).length c1] 46), .blk b2 (cl [.bool false, .slice none 0 0, .slice none 0 0, .slice none 0 0, .int .i64 0, .int .i64 0, .int .i64 0, .string ⟨#[]⟩] 51)] ∧ (Sub a ws a1 (ws.tail)) ∧ ((ws.tail).length ≤ c1) ∧ (dn = headIs kDENY ws) ∧ (beginOk ws = true)) ?_ ?_
  · refine zS<|zR<|zC fn40 rfl (is_ok w _ _ kDENY a ws (ws) _ _ _ (hS8.perm ((List.Perm.cons _ (List.Perm.refl _)).trans (List.perm_middle (l₁ := [_, _])).symm)) hw (Sub.refl a ws) hc0 Om) ?_
    rintro _ w13 (⟨hhd, rfl, aq14, cq14, hsq14, hcq14, hS15⟩ | ⟨hhd, rfl, hS15⟩)
    · refine zV (r_field fa51_0 rfl)<|zY (x_store1 [_] hS15 ti4 rfl rfl rfl (by simp)) ?_
      intro w16 hS17; simp only [ca, na] at hS17; refine zN<|zT<|zS<|zR<|zF fa51_0 rfl ti4.und rfl (hS17.heap Z1) rfl rfl rfl<|zq 5 rfl<|zN<|zT<|zf rfl<|zK<|zT ?_
      exact ⟨_, rfl, ⟨true, aq14, cq14, (hS17.perm ((List.Perm.cons _ (List.Perm.refl _)).trans (List.perm_middle (l₁ := [_])).symm)), hsq14, hcq14, hhd.symm, begin_d hhd⟩, ⟨rfl, rfl, rfl, trivial⟩⟩
    refine zV (r_field fa51_0 rfl)<|zY (x_store1 [_] hS15 ti4 rfl rfl rfl (by simp)) ?_; intro w18 hS19; simp only [ca, na] at hS19; refine zN<|zT<|zS<|zR<|zF fa51_0 rfl ti4.und rfl (hS19.heap Z1) rfl rfl rfl<|zq 2 rfl<|zC fn40 rfl (is_ok w _ _ kALLOW a ws (ws) _ _ _ hS19 hw (Sub.refl a ws) hc0 Om) ?_
    rintro _ w20 (⟨hhl, rfl, aq21, cq21, hsq21, hcq21, hS22⟩ | ⟨hhl, rfl, hS22⟩)
    · refine zq 2 rfl<|zN<|zT<|zf rfl<|zK<|zT ?_
      exact ⟨_, rfl, ⟨false, aq21, cq21, (hS22.perm ((List.Perm.cons _ (List.Perm.refl _)).trans (List.perm_middle (l₁ := [_])).symm)), hsq21, hcq21, hhd.symm, begin_a hhl⟩, ⟨rfl, rfl, rfl, trivial⟩⟩
    refine zq 2 rfl<|zN<|zT<|zt rfl<|zS<|zR<|zV (r_loadB ti51 ag51 rfl (hS22.heap Z1) Ln) ?_; refine zY (x_storeW [_, _] hS22 ti51 rfl rfl rfl rfl (one_all rfl)) ?_; intro w23 hS24; simp only [ca, na] at hS24; refine zq 1 rfl<|zN<|zT<|zU<|zL<|ret2 Tryz.results21 ⟨_, rfl, run_loadVar_blk ti51 ag51 (hS24.heap Z2) rfl⟩ rfl ?_
    exact .inl ⟨ruleT_b (begin_n hhd hhl), ⟨⟨false, none, [], 0, none, [], 0, none, [], 0, 0, 0, 0, []⟩, rfl⟩, hS24.fin⟩
  · rintro e9 w10 ⟨dn, a1, c1, hS11, hs1, hc1, hdn, hbg⟩ -
    refine zS<|zR<|zq 1 rfl<|zN<|zT ?_
    refine c_cutE [1, 2, 3, 4] (fun e w' => ∃ (u : Ws) (a1 : Option Addr) (c1 : Nat) (l1 : Ws) (ar : Option Addr) (cr : Nat) (k1 : Bool), Kw.look e 5 = .bool k1 ∧ St w [] w' [.blk b4 (cl [.bool dn, .slice ar (l1).length cr, .slice none 0 0, .slice none 0 0, .int .i64 0, .int .i64 0, .int .i64 0, .string ⟨#[]⟩] 51), .blk b1 (cl [.slice a1 (u).length c1] 46), .blk b2 (cl [.bool false, .slice none 0 0, .slice none 0 0, .slice none 0 0, .int .i64 0, .int .i64 0, .int .i64 0, .string ⟨#[]⟩] 51)] ∧ (u = wk1 ws.tail) ∧ (l1 = secA kROLE ws.tail) ∧ (k1 = ok1 ws.tail) ∧ (Sub a ws a1 (u)) ∧ ((u).length ≤ c1) ∧ (Sub a ws ar l1) ∧ (l1.length ≤ cr)) ?_ ?_
    · refine zS ?_
      have hwl := w_le ws.tail
      have htl : ws.tail.length ≤ ws.length := by rw [List.length_tail]; omega
      refine zR<|zC fn40 rfl (is_ok w _ _ kROLE a ws (ws.tail) _ _ _ (hS11.perm ((List.Perm.cons _ (List.Perm.refl _)).trans (List.perm_middle (l₁ := [_])).symm)) hw hs1 hc1 Om) ?_
      rintro _ w29 (⟨hhr, rfl, aq30, cq30, hsq30, hcq30, hS31⟩ | ⟨hhr, rfl, hS31⟩)
      · refine zN<|zT<|zt rfl<|zS<|zR<|zC fn41 rfl (wlist_ok w _ _ a ws ((ws.tail).tail) _ _ _ hS31 hw hsq30 hcq30 (by rw [List.length_tail]; omega)) ?_
        rintro _ w32 ⟨aq33, cq33, rfl, -, hsq33, hcq33, hS34⟩
        have hlr : Row w aq30 ((tkP ((ws.tail).tail)).map sv) := (hsq30).tk w hw
        have htr := tkP_len ((ws.tail).tail)
        have hdr := drP_le ((ws.tail).tail)
        rw [List.length_tail] at htr hdr
        refine zV (r_field fa51_1 rfl)<|zY (x_store1 [_] hS34 ti42 rfl rfl rfl (by simp)) ?_; intro w35 hS36; simp only [ca, na] at hS36; refine zN<|zT<|zR<|zF fa51_1 rfl ti42.und rfl (hS36.heap Z1) rfl rfl rfl<|zV (r_len (T := 42) rfl ti42.und rfl _ rfl) ?_
        refine wl_dec (r_gtr rfl rfl) rfl (fun h8_3 => ?_) (fun h8_3 => ?_)
        · refine zq 1 rfl<|zN<|zT ?_
          exact ⟨_, rfl, ⟨_, aq33, cq33, _, aq30, _, true, rfl, (hS36.perm ((List.Perm.cons _ (List.Perm.refl _)).trans (List.perm_middle (l₁ := [_])).symm)), (secR_t hhr).symm, (secA_t hhr).symm, (secOk_y hhr Om).symm, hsq33, hcq33, (hsq30).tk, Nat.le_refl _⟩, ⟨rfl, rfl, rfl, rfl, trivial⟩⟩
        refine zq 1 rfl<|zN<|zT ?_
        exact ⟨_, rfl, ⟨_, aq33, cq33, _, aq30, _, false, rfl, (hS36.perm ((List.Perm.cons _ (List.Perm.refl _)).trans (List.perm_middle (l₁ := [_])).symm)), (secR_t hhr).symm, (secA_t hhr).symm, (secOk_n hhr Om).symm, hsq33, hcq33, (hsq30).tk, Nat.le_refl _⟩, ⟨rfl, rfl, rfl, rfl, trivial⟩⟩
      refine zN<|zT<|zf rfl<|zK<|zT ?_
      exact ⟨_, rfl, ⟨_, a1, c1, [], none, 0, true, rfl, (hS31.perm ((List.Perm.cons _ (List.Perm.refl _)).trans (List.perm_middle (l₁ := [_])).symm)), (secR_f hhr).symm, (secA_f hhr).symm, (secOk_f hhr).symm, hs1, hc1, Sub.nil, Nat.le_refl _⟩, ⟨rfl, rfl, rfl, rfl, trivial⟩⟩
    · rintro e25 w26 ⟨u, a1, c1, l1, ar, cr, k1, hc28_5, hS27, rfl, rfl, hk1, hs1, hc1, hsr, hcr⟩ -
      refine c_set (d := 5) hc28_5 ?_
      refine c_cutE [1, 2, 3, 4] (fun e w' => ∃ (u : Ws) (a1 : Option Addr) (c1 : Nat) (l2 : List Int) (aa : Option Addr) (cb : Nat) (k2 : Bool), Kw.look e 5 = .bool k2 ∧ St w [] w' [.blk b4 (cl [.bool dn, .slice ar (secA kROLE ws.tail).length cr, .slice aa (l2).length cb, .slice none 0 0, .int .i64 0, .int .i64 0, .int .i64 0, .string ⟨#[]⟩] 51), .blk b1 (cl [.slice a1 (u).length c1] 46), .blk b2 (cl [.bool false, .slice none 0 0, .slice none 0 0, .slice none 0 0, .int .i64 0, .int .i64 0, .int .i64 0, .string ⟨#[]⟩] 51), .row (.slice aa l2.length cb) 3 1 l2.length (l2.map iv)] ∧ (u = wk2 ws.tail) ∧ (k2 = ok2 ws.tail) ∧ (Sub a ws a1 (u)) ∧ ((u).length ≤ c1) ∧ (ok2 ws.tail = true → l2 = actsV (secA kACT (wk1 ws.tail))) ∧ (l2.length ≤ cb) ∧ (l2.length ≤ 100000)) ?_ ?_
      · refine zS ?_
        have hwl := w_le ws.tail
        have htl : ws.tail.length ≤ ws.length := by rw [List.length_tail]; omega
        refine zR<|zC fn40 rfl (is_ok w _ _ kACT a ws (wk1 ws.tail) _ _ _ (hS27.perm ((List.Perm.cons _ (List.Perm.refl _)).trans (List.perm_middle (l₁ := [_])).symm)) hw hs1 hc1 Om) ?_
        rintro _ w41 (⟨hha, rfl, aq42, cq42, hsq42, hcq42, hS43⟩ | ⟨hha, rfl, hS43⟩)
        · refine zN<|zT<|zt rfl<|zS<|zR<|zC fn41 rfl (wlist_ok w _ _ a ws ((wk1 ws.tail).tail) _ _ _ hS43 hw hsq42 hcq42 (by rw [List.length_tail]; omega)) ?_
          rintro _ w44 ⟨aq45, cq45, rfl, -, hsq45, hcq45, hS46⟩
          have hla : Row w aq42 ((tkP ((wk1 ws.tail).tail)).map sv) := (hsq42).tk w hw
          have hta := tkP_len ((wk1 ws.tail).tail)
          have hda := drP_le ((wk1 ws.tail).tail)
          rw [List.length_tail] at hta hda
          refine zC fn42 rfl (acts_ok (tkP ((wk1 ws.tail).tail)) _ _ _ _ (hla.st hS46) rfl Om (hv.st hS46)) ?_
          rintro _ w47 (⟨hact, aA, cA, rfl, hcA, hx48⟩ | ⟨hact, rfl, hx48⟩)
          · have hS49 := hS46.call hx48
            simp only [ca, na] at hS49
            have hal := actsV_len (tkP ((wk1 ws.tail).tail))
            refine zq 5 rfl<|zN<|zT<|zS<|zR<|zq 1 rfl<|zV (r_field fa51_2 rfl)<|zY (x_store1 [_, _] hS49 ti49 rfl rfl rfl (by simp)) ?_; intro w50 hS51; simp only [ca, na] at hS51; refine zN<|zT ?_
            rcases bool_cases k1 with rfl | rfl
            · refine zR<|zq 6 rfl<|wl_val (r_len (T := 49) rfl ti49.und rfl _ rfl) rfl ?_
              refine wl_dec (r_gtr rfl rfl) rfl (fun h12_7 => ?_) (fun h12_7 => ?_)
              · refine zq 2 rfl<|zN<|zT ?_
                exact ⟨_, rfl, ⟨_, aq45, cq45, actsV (tkP ((wk1 ws.tail).tail)), aA, cA, true, rfl, (hS51.perm ((List.Perm.cons _ ((List.Perm.cons _ ((List.Perm.cons _ (List.Perm.refl _)).trans (List.perm_middle (l₁ := [_])).symm)).trans (List.perm_middle (l₁ := [_])).symm)).trans (List.perm_middle (l₁ := [_, _])).symm)), (secR_t hha).symm, (ok2_y hk1 hha Om hact).symm, hsq45, hcq45, (fun _ => by rw [secA_t hha]), hcA, by rw [actsV_len]; omega⟩, ⟨rfl, rfl, rfl, rfl, trivial⟩⟩
              refine zq 2 rfl<|zN<|zT ?_
              have hF := hS51; exact readRule_ok_c0
            refine zR<|zq 10 rfl<|zN<|zT ?_
            have hF := hS51; exact readRule_ok_c0
          have hS49 := hS46.ext hx48; refine zq 5 rfl<|zN<|zT<|zS<|zR<|zq 1 rfl<|zV (r_field fa51_2 rfl)<|zY (x_store1 [_] hS49 ti49 rfl rfl rfl (by simp)) ?_; intro w52 hS53; simp only [ca, na] at hS53; refine zN<|zT ?_
          rcases bool_cases k1 with rfl | rfl
          · refine zR<|zq 10 rfl<|zN<|zT ?_
            have hS97 := nilEnd (E := 3) (sz := 1) (hS53.perm ((List.Perm.cons _ (List.Perm.refl _)).trans (List.perm_middle (l₁ := [_])).symm))
            have hF := hS97; exact readRule_ok_c1
          refine zR<|zq 10 rfl<|zN<|zT ?_
          have hS97 := nilEnd (E := 3) (sz := 1) (hS53.perm ((List.Perm.cons _ (List.Perm.refl _)).trans (List.perm_middle (l₁ := [_])).symm))
          have hF := hS97; exact readRule_ok_c1
        refine zN<|zT<|zf rfl<|zK<|zT ?_
        have hS97 := nilEnd (E := 3) (sz := 1) (hS43.perm ((List.Perm.cons _ (List.Perm.refl _)).trans (List.perm_middle (l₁ := [_])).symm))
        exact ⟨_, rfl, ⟨_, a1, c1, [], none, 0, k1, rfl, hS97, (secR_f hha).symm, (ok2_f hk1 hha).symm, hs1, hc1, (fun _ => by rw [secA_f hha]; rfl), Nat.le_refl _, Nat.zero_le _⟩, ⟨rfl, rfl, rfl, rfl, trivial⟩⟩
      · rintro e37 w38 ⟨u, a1, c1, l2, aa, cb, k2, hc40_5, hS39, rfl, hk2, hs1, hc1, hl2, hcb, hl2n⟩ -
        refine c_set (d := 5) hc40_5 ?_
        refine c_cutE [1, 2, 3, 4] (fun e w' => ∃ (u : Ws) (a1 : Option Addr) (c1 : Nat) (l3 : Ws) (al : Option Addr) (cz : Nat) (k3 : Bool), Kw.look e 5 = .bool k3 ∧ St w [] w' [.blk b4 (cl [.bool dn, .slice ar (secA kROLE ws.tail).length cr, .slice aa (l2).length cb, .slice al (l3).length cz, .int .i64 0, .int .i64 0, .int .i64 0, .string ⟨#[]⟩] 51), .blk b1 (cl [.slice a1 (u).length c1] 46), .blk b2 (cl [.bool false, .slice none 0 0, .slice none 0 0, .slice none 0 0, .int .i64 0, .int .i64 0, .int .i64 0, .string ⟨#[]⟩] 51), .row (.slice aa l2.length cb) 3 1 l2.length (l2.map iv)] ∧ (u = wk3 ws.tail) ∧ (l3 = secA kON (wk2 ws.tail)) ∧ (k3 = ok3 ws.tail) ∧ (Sub a ws a1 (u)) ∧ ((u).length ≤ c1) ∧ (Sub a ws al l3) ∧ (l3.length ≤ cz)) ?_ ?_
        · refine zS ?_
          have hwl := w_le ws.tail
          have htl : ws.tail.length ≤ ws.length := by rw [List.length_tail]; omega
          refine zR<|zC fn40 rfl (is_ok w _ _ kON a ws (wk2 ws.tail) _ _ _ (hS39.perm ((List.Perm.cons _ (List.Perm.refl _)).trans (List.perm_middle (l₁ := [_])).symm)) hw hs1 hc1 Om) ?_
          rintro _ w58 (⟨hho, rfl, aq59, cq59, hsq59, hcq59, hS60⟩ | ⟨hho, rfl, hS60⟩)
          · refine zN<|zT<|zt rfl<|zS<|zR<|zC fn41 rfl (wlist_ok w _ _ a ws ((wk2 ws.tail).tail) _ _ _ hS60 hw hsq59 hcq59 (by rw [List.length_tail]; omega)) ?_
            rintro _ w61 ⟨aq62, cq62, rfl, -, hsq62, hcq62, hS63⟩
            have hlo : Row w aq59 ((tkP ((wk2 ws.tail).tail)).map sv) := (hsq59).tk w hw
            have hto := tkP_len ((wk2 ws.tail).tail)
            have hdo := drP_le ((wk2 ws.tail).tail)
            rw [List.length_tail] at hto hdo
            refine zV (r_field fa51_3 rfl)<|zY (x_store1 [_] hS63 ti42 rfl rfl rfl (by simp)) ?_; intro w64 hS65; simp only [ca, na] at hS65; refine zN<|zT ?_
            rcases bool_cases k2 with rfl | rfl
            · refine zR<|zq 2 rfl<|wl_val (r_field fa51_3 rfl) rfl<|wl_val (r_loadB1 ti42.und rfl rfl (hS65.heap Z1) rfl) rfl<|wl_val (r_len (T := 42) rfl ti42.und rfl _ rfl) rfl ?_
              refine wl_dec (r_gtr rfl rfl) rfl (fun h15_5 => ?_) (fun h15_5 => ?_)
              · refine zq 2 rfl<|zN<|zT ?_
                exact ⟨_, rfl, ⟨_, aq62, cq62, _, aq59, _, true, rfl, (hS65.perm ((List.Perm.cons _ (List.Perm.refl _)).trans (List.perm_middle (l₁ := [_])).symm)), (secR_t hho).symm, (secA_t hho).symm, (ok3_y hk2 hho Om).symm, hsq62, hcq62, (hsq59).tk, Nat.le_refl _⟩, ⟨rfl, rfl, rfl, rfl, trivial⟩⟩
              refine zq 2 rfl<|zN<|zT ?_
              have hF := hS65; exact readRule_ok_c2
            refine zR<|zq 8 rfl<|zN<|zT ?_
            have hF := hS65; exact readRule_ok_c2
          refine zN<|zT<|zf rfl<|zK<|zT ?_
          exact ⟨_, rfl, ⟨_, a1, c1, [], none, 0, k2, rfl, (hS60.perm ((List.Perm.cons _ (List.Perm.refl _)).trans (List.perm_middle (l₁ := [_])).symm)), (secR_f hho).symm, (secA_f hho).symm, (ok3_f hk2 hho).symm, hs1, hc1, Sub.nil, Nat.le_refl _⟩, ⟨rfl, rfl, rfl, rfl, trivial⟩⟩
        · rintro e54 w55 ⟨u, a1, c1, l3, al, cz, k3, hc57_5, hS56, rfl, rfl, hk3, hs1, hc1, hsl, hcz⟩ -
          refine c_set (d := 5) hc57_5 ?_
          refine c_cutE [1, 2, 3, 4] (fun e w' => ∃ (u : Ws) (a1 : Option Addr) (c1 : Nat) (fr tt : Int) (k4 : Bool), Kw.look e 5 = .bool k4 ∧ St w [] w' [.blk b4 (cl [.bool dn, .slice ar (secA kROLE ws.tail).length cr, .slice aa (l2).length cb, .slice al (secA kON (wk2 ws.tail)).length cz, .int .i64 fr, .int .i64 tt, .int .i64 0, .string ⟨#[]⟩] 51), .blk b1 (cl [.slice a1 (u).length c1] 46), .blk b2 (cl [.bool false, .slice none 0 0, .slice none 0 0, .slice none 0 0, .int .i64 0, .int .i64 0, .int .i64 0, .string ⟨#[]⟩] 51), .row (.slice aa l2.length cb) 3 1 l2.length (l2.map iv)] ∧ (u = wk4 ws.tail) ∧ (k4 = ok4 ws.tail) ∧ (Sub a ws a1 (u)) ∧ ((u).length ≤ c1) ∧ (ok4 ws.tail = true → fr = frT ws.tail ∧ tt = toT ws.tail)) ?_ ?_
          · refine zS ?_
            have hwl := w_le ws.tail
            have htl : ws.tail.length ≤ ws.length := by rw [List.length_tail]; omega
            refine zR<|zC fn40 rfl (is_ok w _ _ kAT a ws (wk3 ws.tail) _ _ _ (hS56.perm ((List.Perm.cons _ (List.Perm.refl _)).trans (List.perm_middle (l₁ := [_])).symm)) hw hs1 hc1 Om) ?_
            rintro _ w70 (⟨hht, rfl, aq71, cq71, hsq71, hcq71, hS72⟩ | ⟨hht, rfl, hS72⟩)
            · refine zN<|zT<|zt rfl<|zS<|zR<|zC fn41 rfl (wlist_ok w _ _ a ws ((wk3 ws.tail).tail) _ _ _ hS72 hw hsq71 hcq71 (by rw [List.length_tail]; omega)) ?_
              rintro _ w73 ⟨aq74, cq74, rfl, -, hsq74, hcq74, hS75⟩
              have hlt : Row w aq71 ((tkP ((wk3 ws.tail).tail)).map sv) := (hsq71).tk w hw
              have htt := tkP_len ((wk3 ws.tail).tail)
              have hdt := drP_le ((wk3 ws.tail).tail)
              rw [List.length_tail] at htt hdt
              refine zq 1 rfl<|zN<|zT ?_
              rcases bool_cases k3 with rfl | rfl
              · refine zR<|zq 3 rfl<|wl_val (r_len (T := 42) rfl ti42.und rfl _ rfl) rfl ?_
                refine wl_dec (r_eql rfl rfl) rfl (fun h18_4 => ?_) (fun h18_4 => ?_)
                · refine zq 3 rfl<|wl_val (r_ixS (m := 0) ti42.und ti9 rfl rfl (hlt.st hS75) Sd Ln) rfl ?_
                  refine wl_val (r_loadS1 ti9.und rfl rfl (hlt.st hS75) (by rw [Nat.mul_one]; exact map_gt _ _ _ Sd)) rfl ?_; refine zC fn43 rfl (hours_ok w _ b4 _ _ _ (hS75.perm ((List.Perm.cons _ (List.Perm.refl _)).trans (List.perm_middle (l₁ := [_])).symm)) rfl (Nat.lt_of_le_of_lt (hll _ (wk3_mem (tkP_mem (gt_mem (tkP ((wk3 ws.tail).tail)) 0 Om)))) (by decide)) hv) ?_; rintro _ w76 ⟨rfl, hS77⟩; refine zq 2 rfl<|zN<|zT ?_
                  exact ⟨_, rfl, ⟨_, aq74, cq74, _, _, _, rfl, hS77, (secR_t hht).symm, (ok4_y hk3 hht Om).symm, hsq74, hcq74, fun _ => ⟨(frT_t hht).1.symm, (frT_t hht).2.symm⟩⟩, ⟨rfl, rfl, rfl, rfl, trivial⟩⟩
                refine zq 8 rfl<|zN<|zT ?_
                have hF := hS75; exact readRule_ok_c3
              refine zR<|zq 13 rfl<|zN<|zT ?_
              have hF := hS75; exact readRule_ok_c3
            refine zN<|zT<|zf rfl<|zK<|zT ?_
            exact ⟨_, rfl, ⟨_, a1, c1, 0, 0, k3, rfl, (hS72.perm ((List.Perm.cons _ (List.Perm.refl _)).trans (List.perm_middle (l₁ := [_])).symm)), (secR_f hht).symm, (ok4_f hk3 hht).symm, hs1, hc1, fun _ => ⟨(frT_f hht).1.symm, (frT_f hht).2.symm⟩⟩, ⟨rfl, rfl, rfl, rfl, trivial⟩⟩
          · rintro e66 w67 ⟨u, a1, c1, fr, tt, k4, hc69_5, hS68, rfl, hk4, hs1, hc1, hft⟩ -
            refine c_set (d := 5) hc69_5 ?_
            refine c_cutE [1, 2, 3, 4] (fun e w' => ∃ (u : Ws) (a1 : Option Addr) (c1 : Nat) (nd : Int) (of : List UInt8) (k5 : Bool), Kw.look e 5 = .bool k5 ∧ St w [] w' [.blk b4 (cl [.bool dn, .slice ar (secA kROLE ws.tail).length cr, .slice aa (l2).length cb, .slice al (secA kON (wk2 ws.tail)).length cz, .int .i64 fr, .int .i64 tt, .int .i64 nd, sv of] 51), .blk b1 (cl [.slice a1 (u).length c1] 46), .blk b2 (cl [.bool false, .slice none 0 0, .slice none 0 0, .slice none 0 0, .int .i64 0, .int .i64 0, .int .i64 0, .string ⟨#[]⟩] 51), .row (.slice aa l2.length cb) 3 1 l2.length (l2.map iv)] ∧ (u = wk5 ws.tail) ∧ (k5 = ok5 ws.tail) ∧ (Sub a ws a1 (u)) ∧ ((u).length ≤ c1) ∧ (ok5 ws.tail = true → nd = ndT ws.tail ∧ of = ofT ws.tail) ∧ (0 ≤ nd) ∧ (of.length ≤ 65536)) ?_ ?_
            · refine zS ?_
              have hwl := w_le ws.tail
              have htl : ws.tail.length ≤ ws.length := by rw [List.length_tail]; omega
              refine zR<|zC fn40 rfl (is_ok w _ _ kNEED a ws (wk4 ws.tail) _ _ _ (hS68.perm ((List.Perm.cons _ (List.Perm.refl _)).trans (List.perm_middle (l₁ := [_])).symm)) hw hs1 hc1 Om) ?_
              rintro _ w82 (⟨hhn, rfl, aq83, cq83, hsq83, hcq83, hS84⟩ | ⟨hhn, rfl, hS84⟩)
              · refine zN<|zT<|zt rfl<|zS<|zR<|zC fn41 rfl (wlist_ok w _ _ a ws ((wk4 ws.tail).tail) _ _ _ hS84 hw hsq83 hcq83 (by rw [List.length_tail]; omega)) ?_
                rintro _ w85 ⟨aq86, cq86, rfl, -, hsq86, hcq86, hS87⟩
                have hln : Row w aq83 ((tkP ((wk4 ws.tail).tail)).map sv) := (hsq83).tk w hw
                have htn := tkP_len ((wk4 ws.tail).tail)
                have hdn := drP_le ((wk4 ws.tail).tail)
                rw [List.length_tail] at htn hdn
                refine zq 1 rfl<|zN<|zT<|zS<|zR<|zq 1 rfl<|zV (r_len (T := 42) rfl ti42.und rfl _ rfl) ?_
                refine wl_dec (r_eql rfl rfl) rfl (fun h21_2 => ?_) (fun h21_2 => ?_)
                · refine zq 2 rfl<|zN<|zT<|zS<|zS<|zR<|zq 1 rfl<|zN<|zT<|zt rfl<|zS<|zR<|zq 1 rfl<|zV (r_ixS (m := 0) ti42.und ti9 rfl rfl (hln.st hS87) Sd Ln) ?_
                  refine zV (r_loadS1 ti9.und rfl rfl (hln.st hS87) (by rw [Nat.mul_one]; exact map_gt _ _ _ Sd)) ?_; refine zE fn44 rfl hS87 (pnumber_ok _ _) fun w88 hS90=>zq 5 rfl<|zN<|zT<|zR<|zq 2 rfl<|zV (r_ixS (m := 1) ti42.und ti9 rfl rfl (hln.st hS90) Sd Ln) ?_; refine zV (r_loadS1 ti9.und rfl rfl (hln.st hS90) (by rw [Nat.mul_one]; exact map_gt _ _ _ Sd)) ?_; refine zV (r_field fa51_6 rfl)<|zY (x_store1 [_] hS90 ti3 rfl rfl rfl (by simp)) ?_; intro w91 hS92; simp only [ca, na] at hS92; refine zV (r_field fa51_7 rfl)<|zY (x_store1 [_] hS92 ti9 rfl rfl rfl (by simp)) ?_; intro w93 hS94; simp only [ca, na] at hS94; refine zN<|zT ?_
                  rcases bool_cases k4 with rfl | rfl
                  · refine zR<|zq 5 rfl<|zN<|zT ?_
                    exact ⟨_, rfl, ⟨_, aq86, cq86, _, _, _, rfl, (hS94.perm ((List.Perm.cons _ (List.Perm.refl _)).trans (List.perm_middle (l₁ := [_])).symm)), (secR_t hhn).symm, (ok5_y hk4 hhn Om).symm, hsq86, hcq86, fun _ => ⟨(ndT_t hhn).1.symm, (ndT_t hhn).2.symm⟩, by omega, hll _ (wk4_mem (tkP_mem (gt_mem _ 1 Om)))⟩, ⟨rfl, rfl, rfl, rfl, trivial⟩⟩
                  refine zR<|zq 5 rfl<|zN<|zT ?_
                  exact ⟨_, rfl, ⟨_, aq86, cq86, _, _, false, rfl, (hS94.perm ((List.Perm.cons _ (List.Perm.refl _)).trans (List.perm_middle (l₁ := [_])).symm)), (secR_t hhn).symm, (ok5_n hk4 hhn (by first | exact .inl rfl | exact .inr Om)).symm, hsq86, hcq86, (fun h => by rw [(ok5_n hk4 hhn (by first | exact .inl rfl | exact .inr Om))] at h; cases h), by omega, hll _ (wk4_mem (tkP_mem (gt_mem _ 1 Om)))⟩, ⟨rfl, rfl, rfl, rfl, trivial⟩⟩
                refine zq 2 rfl<|zN<|zT<|zS<|zS<|zR<|zq 1 rfl<|zN<|zT<|zf rfl<|zK<|zT ?_
                rcases bool_cases k4 with rfl | rfl
                · refine zR<|zq 5 rfl<|zN<|zT ?_
                  have hF := hS87; exact readRule_ok_c4
                refine zR<|zq 5 rfl<|zN<|zT ?_
                have hF := hS87; exact readRule_ok_c4
              refine zN<|zT<|zf rfl<|zK<|zT ?_
              exact ⟨_, rfl, ⟨_, a1, c1, 0, [], k4, rfl, (hS84.perm ((List.Perm.cons _ (List.Perm.refl _)).trans (List.perm_middle (l₁ := [_])).symm)), (secR_f hhn).symm, (ok5_f hk4 hhn).symm, hs1, hc1, fun _ => ⟨(ndT_f hhn).1.symm, (ndT_f hhn).2.symm⟩, by omega, Nat.zero_le _⟩, ⟨rfl, rfl, rfl, rfl, trivial⟩⟩
            · rintro e78 w79 ⟨u, a1, c1, nd, of, k5, hc81_5, hS80, rfl, hk5, hs1, hc1, hno, hnd0, hofl⟩ -
              refine c_set (d := 5) hc81_5<|zS ?_
              rcases bool_cases k5 with rfl | rfl
              · have hwl := w_le ws.tail
                have htl : ws.tail.length ≤ ws.length := by rw [List.length_tail]; omega
                refine c_drawSF 8 hMixed hS80 (hS80.perm ((List.Perm.cons _ (List.Perm.refl _)).trans (List.perm_middle (l₁ := [_, _])).symm)).drop1 ?_; intro w95 hS96; refine zG 0 rfl (hS96.perm ((List.Perm.cons _ (List.Perm.refl _)).trans (List.perm_middle (l₁ := [_, _])).symm)).drop1 (fun wF hF => r_loadB ti51 ag51 rfl (hF.heap Z0) Ln) ?_; refine zG 1 rfl (hS96.perm ((List.Perm.cons _ (List.Perm.refl _)).trans (List.perm_middle (l₁ := [_, _])).symm)).drop1 (fun wF hF => r_move (v := .bool _) rfl) ?_; refine zG 2 rfl (hS96.perm ((List.Perm.cons _ (List.Perm.refl _)).trans (List.perm_middle (l₁ := [_, _])).symm)).drop1 (fun wF hF => r_move (v := .bool _) rfl) ?_; refine zG 3 rfl (hS96.perm ((List.Perm.cons _ (List.Perm.refl _)).trans (List.perm_middle (l₁ := [_, _])).symm)).drop1 (fun wF hF => r_loadB1 ti46.und rfl rfl (hF.heap Z1) rfl) ?_; refine zG 4 rfl (hS96.perm ((List.Perm.cons _ (List.Perm.refl _)).trans (List.perm_middle (l₁ := [_, _])).symm)).drop1 (fun wF hF => r_len (T := 46) rfl ti46.und rfl _ rfl) ?_
                refine g_dec 5 rfl (by decide +kernel) rfl (fun _ _ _ _ h => h) (hS96.perm ((List.Perm.cons _ (List.Perm.refl _)).trans (List.perm_middle (l₁ := [_, _])).symm)).drop1 (fun wF hF => r_eql rfl rfl) (fun h26_5 => ?_) (fun h26_5 => ?_)
                · refine zG 6 rfl (hS96.perm ((List.Perm.cons _ (List.Perm.refl _)).trans (List.perm_middle (l₁ := [_, _])).symm)).drop1 (fun wF hF => r_pick_t rfl (v := .bool _) rfl) ?_
                  refine zG1 7 ?_; refine o_exs rfl (x_storeW [_, _] hS96 ti51 rfl rfl rfl rfl (one_all rfl)) rfl ?_; intro w97 hS98; simp only [ca, na] at hS98
                  refine ⟨(hS98.perm ((List.Perm.cons _ (List.Perm.refl _)).trans (List.perm_middle (l₁ := [_, _])).symm)).drop1, ?_⟩
                  refine zGT rfl ?_; refine zq 1 rfl<|zN<|zT<|zU<|ret2 Tryz.results21 ⟨_, rfl, run_loadVar_blk ti51 ag51 (hS98.heap Z2) rfl⟩ rfl ?_
                  exact .inr ⟨⟨dn, ar, secA kROLE ws.tail, cr, aa, l2, cb, al, secA kON (wk2 ws.tail), cz, fr, tt, nd, of⟩, ruleT_some hbg hdn hk5.symm Om hl2 hft hno, rule_okT hsr hsl hcr hcz hcb hll hn hofl hl2n, hsr, hsl, rfl, hS98.drop1.drop1.drop1⟩
                refine zG 6 rfl (hS96.perm ((List.Perm.cons _ (List.Perm.refl _)).trans (List.perm_middle (l₁ := [_, _])).symm)).drop1 (fun wF hF => r_pick_t rfl (v := .bool _) rfl) ?_; refine zG1 7 ?_; refine o_exs rfl (x_storeW [_, _] hS96 ti51 rfl rfl rfl rfl (one_all rfl)) rfl ?_; intro w99 hS100; simp only [ca, na] at hS100
                refine ⟨(hS100.perm ((List.Perm.cons _ (List.Perm.refl _)).trans (List.perm_middle (l₁ := [_, _])).symm)).drop1, ?_⟩
                refine zGT rfl ?_; refine zq 1 rfl<|zN<|zT<|zU<|ret2 Tryz.results21 ⟨_, rfl, run_loadVar_blk ti51 ag51 (hS100.heap Z2) rfl⟩ rfl ?_
                have hF := hS100; exact readRule_ok_c5
              have hwl := w_le ws.tail
              have htl : ws.tail.length ≤ ws.length := by rw [List.length_tail]; omega
              refine c_drawSF 8 hMixed hS80 (hS80.perm ((List.Perm.cons _ (List.Perm.refl _)).trans (List.perm_middle (l₁ := [_, _])).symm)).drop1 ?_; intro w101 hS102; refine zG 0 rfl (hS102.perm ((List.Perm.cons _ (List.Perm.refl _)).trans (List.perm_middle (l₁ := [_, _])).symm)).drop1 (fun wF hF => r_loadB ti51 ag51 rfl (hF.heap Z0) Ln) ?_; refine zG 1 rfl (hS102.perm ((List.Perm.cons _ (List.Perm.refl _)).trans (List.perm_middle (l₁ := [_, _])).symm)).drop1 (fun wF hF => r_move (v := .bool _) rfl) ?_; refine zG 2 rfl (hS102.perm ((List.Perm.cons _ (List.Perm.refl _)).trans (List.perm_middle (l₁ := [_, _])).symm)).drop1 (fun wF hF => r_move (v := .bool _) rfl) ?_; refine zGN 3 rfl rfl (hS102.perm ((List.Perm.cons _ (List.Perm.refl _)).trans (List.perm_middle (l₁ := [_, _])).symm)).drop1 ?_; refine zGN 4 rfl rfl (hS102.perm ((List.Perm.cons _ (List.Perm.refl _)).trans (List.perm_middle (l₁ := [_, _])).symm)).drop1 ?_; refine zGN 5 rfl rfl (hS102.perm ((List.Perm.cons _ (List.Perm.refl _)).trans (List.perm_middle (l₁ := [_, _])).symm)).drop1 ?_; refine zG 6 rfl (hS102.perm ((List.Perm.cons _ (List.Perm.refl _)).trans (List.perm_middle (l₁ := [_, _])).symm)).drop1 (fun wF hF => r_pick_f rfl (v := .bool false) rfl) ?_; refine zG1 7 ?_; refine o_exs rfl (x_storeW [_, _] hS102 ti51 rfl rfl rfl rfl (one_all rfl)) rfl ?_; intro w103 hS104; simp only [ca, na] at hS104
              refine ⟨(hS104.perm ((List.Perm.cons _ (List.Perm.refl _)).trans (List.perm_middle (l₁ := [_, _])).symm)).drop1, ?_⟩
              refine zGT rfl ?_; refine zq 1 rfl<|zN<|zT<|zU<|ret2 Tryz.results21 ⟨_, rfl, run_loadVar_blk ti51 ag51 (hS104.heap Z2) rfl⟩ rfl ?_
              have hF := hS104; exact readRule_ok_c5

end Go.Proofs.YtjnnhlbfgnopiaaGreatDoor
end
section
namespace Go.Proofs.YtjnnhlbfgnopiaaGreatDoor
open Go.Kw
set_option linter.unusedVariables false
set_option linter.unusedSimpArgs false
set_option maxRecDepth 100000
theorem hash_ok (l : List UInt8) (w : World) (hl : l.length < 4294967281) (hv : VF w) : Ret Tryz.prog 17 [.string ⟨l.toArray⟩, .string ⟨#[35]⟩] w (fun v w' => ∃ b c, v = .tuple #[.string ⟨(ahead1 35 l).toArray⟩, .string ⟨b⟩, .bool c] ∧ St w [] w' []) :=
  (cut_ok l [35] w hl hv).mono fun v w' ⟨hv, hS⟩ => ⟨_, _, by rw [← cut_one]; exact hv, hS⟩
theorem delW_ok (l ws : Ws) (he : noNil l = ws) (g n : Nat) (w : World) (hb : w.heap[g]? = some (cl (l.map sv) 9)) (hl : l.length = n) (hn : n ≤ 140737488351232) :
    Ret Tryz.prog 18 [.slice (some ⟨g, 0, none⟩) n n, .func (.func 20) #[] #[]] w (fun v w' => ∃ D, v = .slice (some ⟨g, 0, none⟩) ws.length n ∧ St w [g] w' [.blk g (cl (ws.map sv ++ D) 9)]) := by
  subst he; exact delE_ok l g n w hb hl hn

set_option maxHeartbeats 4000000 in
theorem parse_ok (l : List UInt8) (w : World) (hv : VF w) :
    Ret Tryz.prog 6 [.string ⟨(l).toArray⟩] w (fun v w' => (∃ (n : Nat) (e : Int), PolT l [] n e ∧ ¬ e = 0 ∧ v = .tuple #[.agg #[.slice none 0 0], vi n, .int .i64 e] ∧ St w [] w' []) ∨ (∃ (rs : List RuleD) (a : Option Addr) (c : Nat) (LT : List Kw.Item), PolT l (rs.map nrmR) 0 0 ∧ RulesP LT rs ∧ rs.length ≤ c ∧ v = .tuple #[.agg #[.slice a rs.length c], vi 0, vi 0] ∧ St w [] w' (.row (.slice a rs.length c) 51 8 rs.length (rs.flatMap RuleD.v) :: LT))) := by
  refine enter Tryz.func6 rfl Tryz.ntmps6 rfl ?_
  have hS := St.refl w []
  refine zS<|zR<|zA (C := [.slice none 0 0]) hS ti25 rfl fun b2 w1 hS2=>zq 2 rfl<|zN<|zT<|zS<|zS<|zR<|zq 1 rfl<|zV (r_lenStrL (T := 9) rfl ti9.und rfl _ rfl) ?_
  refine wl_dec (r_gtr rfl rfl) rfl (fun h1_2 => ?_) (fun h1_2 => ?_)
  · refine zN<|zT<|zt rfl<|zS<|zR<|zV (r_buildZ pl25 ti25)<|zY (x_storeW [] hS2 ti25 rfl rfl rfl rfl (one_all rfl)) ?_
    intro w3 hS4; simp only [ca, na] at hS4; refine zq 2 rfl<|zN<|zT<|zU<|zL<|ret3 Tryz.results6 ⟨_, rfl, run_loadVar_blk ti25 ag25 (hS4.heap Z0) rfl⟩ rfl rfl ?_
    exact .inl ⟨0, 5, .large Om, by decide, rfl, hS4.fin⟩
  refine zN<|zT<|zf rfl<|zK<|zT<|zS<|zR<|zV (r_buildZ pl25 ti25)<|zA (C := [.slice none 0 0]) hS2 ti25 rfl fun b5 w5 hS6=>zY (x_storeW [] hS6 ti25 rfl rfl rfl rfl (one_all rfl)) ?_; intro w7 hS8; simp only [ca, na] at hS8; refine zN<|zT<|zS<|zS<|zR<|zq 1 rfl<|zC fn16 rfl (split_ok 10 l _ Om (hv.st hS8)) ?_; rintro _ w9 ⟨bS, rfl, hx10⟩
  have hS11 := hS8.call hx10
  simp only [ca, na] at hS11; refine zV (r_len (T := 42) rfl ti42.und rfl _ rfl)<|zq 1 rfl<|zN<|zT<|zI ?_
  refine c_loopE [2, 5, 18, 19] (fun d e w' => ∃ (k : Nat) (aR : Option Addr) (cR : Nat) (rs : List RuleD) (LT : List Kw.Item), Kw.look e 20 = vi k ∧ d = (splitC 10 l).length - k ∧ St w [] w' (.row (.slice aR rs.length cR) 51 8 rs.length (rs.flatMap RuleD.v) :: .blk b5 (cl [.slice aR rs.length cR] 25) :: .blk b2 (cl [.slice none 0 0] 25) :: .blk bS (cl ((splitC 10 l).map sv) 9) :: LT) ∧ (k ≤ (splitC 10 l).length) ∧ (RulesP LT rs) ∧ (rs.map nrmR = linesR ((splitC 10 l).take k)) ∧ (∀ j, j < k → lineBad (gt (splitC 10 l) j) = false) ∧ (rs.length ≤ k) ∧ (rs.length ≤ cR)) ((splitC 10 l).length - 0) ?_ ?_
  · have hS99 := St.nilRow (E := 51) (sz := 8) (hS11.perm ((List.Perm.cons _ ((List.Perm.cons _ (List.Perm.refl _)).trans (List.perm_middle (l₁ := [_])).symm)).trans (List.perm_middle (l₁ := [_])).symm))
    exact ⟨0, none, 0, [], [], rfl, rfl, hS99, Nat.zero_le _, RulesP.nil, rfl, (fun j hj => absurd hj (Nat.not_lt_zero _)), Nat.le_refl _, Nat.le_refl _⟩
  · rintro d15 e12 w13 ⟨k, aR, cR, rs, LT, hc0_20, rfl, hS14, hk, hT, hmap, hno, hrk, hcR⟩ -
    refine c_set (d := 20) hc0_20<|zS<|zR ?_
    refine wl_dec (r_lss rfl rfl) rfl (fun h5_0 => ?_) (fun h5_0 => ?_)
    · refine zN<|zT<|zS<|zt rfl<|zK<|zT<|zS<|zI<|zS ?_
      have hsl := splitC_le 10 l
      have hlk := hsl.2 _ (gt_mem (splitC 10 l) k Om)
      have hlw := lineW_le (gt (splitC 10 l) k)
      refine zR<|zq 1 rfl<|zV (r_ixB ti42.und ti9 rfl rfl Sd) ?_; refine zV (r_loadB1 ti9.und rfl rfl (hS14.heap Z3) (map_gt _ _ _ Sd)) ?_; refine zq 2 rfl<|zN<|zT<|zS<|zR<|zq 1 rfl<|zC fn17 rfl (hash_ok (gt (splitC 10 l) k) _ Om (hv.st hS14)) ?_; rintro _ w16 ⟨x1, x2, rfl, hx17⟩; have hS18 := hS14.ext hx17; refine zq 5 rfl<|zN<|zT<|zS<|zR<|zq 1 rfl<|zE fn19 rfl hS18 (untab_ok _ _ (by have := ahead1_le 35 (gt (splitC 10 l) k); omega) (hv.st hS18)) fun w19 hS21=> ?_; refine zC fn16 rfl (split_ok 32 _ _ (by have := ahead1_le 35 (gt (splitC 10 l) k); rw [untab_len]; omega) (hv.st hS21)) ?_; rintro _ w22 ⟨bW, rfl, hx23⟩
      have hS24 := hS21.call hx23
      simp only [ca, na] at hS24
      have hown := (hS24).heap Z0
      refine zC fn18 rfl (delW_ok (splitC 32 (untab (ahead1 35 (gt (splitC 10 l) k)))) (lineW (gt (splitC 10 l) k)) (words_split _) bW _ _ hown rfl (by have := (splitC_le 32 (untab (ahead1 35 (gt (splitC 10 l) k)))).1; have := ahead1_le 35 (gt (splitC 10 l) k); rw [untab_len] at *; omega)) ?_; rintro _ w25 ⟨DW, rfl, hx26⟩
      have hS27 := St.callM (X := [_]) (L := (_ :: _ :: _ :: _ :: LT)) (hS24) hx26 (fun k hk => ⟨_, List.mem_singleton.2 rfl, by simp only [List.mem_singleton] at hk; subst hk; rfl⟩)
      simp only [ca, na] at hS27; refine zq 1 rfl<|zN<|zT<|zS<|zS<|zR<|zq 1 rfl<|zV (r_len (T := 46) rfl ti46.und rfl _ rfl) ?_
      refine wl_dec (r_eql rfl rfl) rfl (fun h9_2 => ?_) (fun h9_2 => ?_)
      · refine zN<|zT<|zt rfl<|zO<|zM<|c_inE<|zT<|zR<|zV (r_addn (b := 1) rfl rfl Om)<|zq 1 rfl<|zN<|zT ?_
        have hlw := len0 (show (lineW (gt (splitC 10 l) k)).length = 0 by omega)
        exact ⟨(splitC 10 l).length - (k + 1), _, by omega, rfl, ⟨k + 1, aR, cR, rs, LT, rfl, rfl, hS27.drop1, by omega, hT, by rw [linesR_step Om, lineR_empty hlw, List.append_nil]; exact hmap, (fun j hj => (Nat.lt_succ_iff_lt_or_eq.1 hj).elim (hno j) (fun e => e ▸ lineBad_e hlw)), by omega, hcR⟩, ⟨rfl, rfl, rfl, rfl, trivial⟩⟩
      refine zN<|zT<|zf rfl<|zK<|zT<|zS ?_
      have hwc : (lineW (gt (splitC 10 l) k)).length ≤ (splitC 32 (untab (ahead1 35 (gt (splitC 10 l) k)))).length := by rw [show lineW (gt (splitC 10 l) k) = noNil (splitC 32 (untab (ahead1 35 (gt (splitC 10 l) k)))) from (words_split _).symm]; exact noNil_len _
      refine zR<|zq 1 rfl<|zC fn21 rfl (readRule_ok (lineW (gt (splitC 10 l) k)) _ _ _ (Row.aheadW (hS27.heap Z0)) hwc Om (fun x hx => Nat.le_trans (hlw.2 x (List.mem_of_mem_tail hx)) Om) (hv.st hS27)) ?_
      rintro _ w28 (⟨hrt, ⟨r0, rfl⟩, hx29⟩ | ⟨r, hrt, hrok, hr1, hr2, rfl, hx29⟩)
      · have hS30 := hS27.ext hx29
        refine zq 3 rfl<|zA (C := [.bool false, .slice none 0 0, .slice none 0 0, .slice none 0 0, .int .i64 0, .int .i64 0, .int .i64 0, .string ⟨#[]⟩]) hS30 ti51 rfl fun b9 w31 hS32=>zY (x_storeW [] hS32 ti51 rfl rfl (rule_v8 _) (by rfl) (one_rule _)) ?_; intro w33 hS34; simp only [ca, na] at hS34; refine zq 1 rfl<|zN<|zT<|zS<|zS<|zR<|zq 2 rfl<|zN<|zT<|zt rfl<|zS<|zR<|zV (r_buildZ pl25 ti25)<|zq 1 rfl<|zY (x_storeW [_, _, _, _] hS34 ti25 rfl rfl rfl rfl (one_all rfl)) ?_; intro w35 hS36; simp only [ca, na] at hS36; refine zq 2 rfl<|zN<|zT<|zU<|zL<|zH<|zL<|zL<|zH<|zL<|ret3 Tryz.results6 ⟨_, rfl, run_loadVar_blk ti25 ag25 (hS36.heap Z4) rfl⟩ rfl rfl ?_
        exact .inl ⟨k, 11, .wrong Om Om (lineBad_n (fun e => by have := congrArg List.length e; rw [List.length_nil] at this; omega) hrt) hno, by decide, rfl, hS36.fin⟩
      have hS30 := hS27.call hx29
      simp only [ca, na] at hS30; refine zq 3 rfl<|zA (C := [.bool false, .slice none 0 0, .slice none 0 0, .slice none 0 0, .int .i64 0, .int .i64 0, .int .i64 0, .string ⟨#[]⟩]) hS30 ti51 rfl fun b9 w37 hS38=>zY (x_storeW [] hS38 ti51 rfl rfl (rule_v8 _) (by rfl) (one_rule _)) ?_; intro w39 hS40; simp only [ca, na] at hS40; refine zq 1 rfl<|zN<|zT<|zS<|zS<|zR<|zq 2 rfl<|zN<|zT<|zf rfl<|zK<|zT<|zR<|zF fa25_0 rfl ti23.und rfl (hS40.heap Z4) rfl rfl rfl<|zV (r_loadB ti51 ag51 rfl (hS40.heap Z0) (rule_v8 _))<|zX (x_litA1 hS40 ti23.und ti51 rfl (rule_v8 _) rfl (by decide) (by decide)) ?_; rintro _ w41 ⟨b50, rfl, hS42⟩; refine zX (x_append [_, _, _, _] hS42 ti23.und ti51 rfl (by decide) rfl rfl (Row.of_at (at_all (hS42.heap Z0))) (rule_v8 _) (one_rule _) Sd Sd _ rfl) ?_; rintro _ w43 ⟨aq45, cq45, rfl, hcq45, hS44⟩; simp only [ca, na] at hS44; refine zV (r_field fa25_0 rfl)<|zY (x_store1 [_, _, _, _, _] hS44 ti23 rfl rfl rfl (by simp)) ?_; intro w46 hS47; simp only [ca, na] at hS47; refine zN<|zJ<|zT<|zR<|zV (r_addn (b := 1) rfl rfl Om)<|zq 1 rfl<|zN<|zT ?_
      have el : (rs ++ [r]).length = rs.length + 1 := by rw [List.length_append]; rfl
      have hS48 := St.reRow1 (k := (rs ++ [r]).length) (zs := (rs ++ [r]).flatMap RuleD.v) (hS47.perm (List.Perm.cons _ (List.Perm.cons _ ((List.Perm.cons _ ((List.Perm.cons _ ((List.Perm.cons _ ((List.Perm.cons _ (List.Perm.refl _)).trans (List.perm_middle (l₁ := [_, _])).symm)).trans (List.perm_middle (l₁ := [_, _])).symm)).trans (List.perm_middle (l₁ := [_, _])).symm)).trans (List.perm_middle (l₁ := [_, _])).symm)))).drop1.drop1 el (by rw [List.flatMap_append]; simp)
      rw [← el] at hS48
      exact ⟨(splitC 10 l).length - (k + 1), _, by omega, rfl, ⟨k + 1, _, _, _, _, rfl, rfl, hS48, by omega, hT.add hrok hr1 hr2 hold_blk, by rw [linesR_step Om, lineR_some hrt, List.map_append, hmap]; rfl, (fun j hj => (Nat.lt_succ_iff_lt_or_eq.1 hj).elim (hno j) (fun e => e ▸ lineBad_s hrt)), by omega, by omega⟩, ⟨rfl, rfl, rfl, rfl, trivial⟩⟩
    refine zN<|zT<|zS<|zf rfl<|zO<|zM<|zM<|c_inE<|zT<|zS<|zS ?_
    have hsl := splitC_le 10 l
    obtain rfl : k = (splitC 10 l).length := by omega
    rw [List.take_length] at hmap
    refine zR<|zV (r_loadB ti25 ag25 rfl (hS14.heap Z1) Ln) ?_; refine zE fn13 rfl hS14 (check_ok rs aR rs.length cR _ (St.rowAt hS14 Z0) rfl Om (hT _ (hS14.hold fun x hx => by simp [hx]))) fun w49 hS51=> ?_; refine zq 1 rfl<|zN<|zT<|zS<|zR<|zq 1 rfl ?_
    refine wl_dec (r_neq rfl rfl) rfl (fun h16_1 => ?_) (fun h16_1 => ?_)
    · refine zN<|zT<|zt rfl<|zS ?_
      have hpe := h16_1
      refine zR<|zV (r_buildZ pl25 ti25)<|zq 1 rfl<|zY (x_storeW [_, _] hS51 ti25 rfl rfl rfl rfl (one_all rfl)) ?_; intro w52 hS53; simp only [ca, na] at hS53; refine zq 2 rfl<|zN<|zT<|zU<|zL<|ret3 Tryz.results6 ⟨_, rfl, run_loadVar_blk ti25 ag25 (hS53.heap Z2) rfl⟩ rfl rfl ?_
      exact .inl ⟨0, polE rs, by rw [← polE_nrmR, hmap]; exact .bad Om hno (by rw [← hmap, polE_nrmR]; exact hpe), hpe, rfl, hS53.fin⟩
    refine zN<|zT<|zf rfl<|zK<|zT<|zS ?_
    have hpe := Classical.not_not.1 h16_1
    refine zR<|zV (r_loadB ti25 ag25 rfl (hS51.heap Z1) Ln) ?_; refine zY (x_storeW [_, _] hS51 ti25 rfl rfl rfl rfl (one_all rfl)) ?_; intro w54 hS55; simp only [ca, na] at hS55; refine zq 2 rfl<|zN<|zT<|zU<|ret3 Tryz.results6 ⟨_, rfl, run_loadVar_blk ti25 ag25 (hS55.heap Z2) rfl⟩ rfl rfl ?_
    exact .inr ⟨rs, aR, cR, LT, by rw [hmap]; exact .good Om hno (by rw [← hmap, polE_nrmR]; exact hpe), hT, hcR, rfl, (hS55.perm ((List.Perm.cons _ ((List.Perm.cons _ ((List.Perm.cons _ (List.Perm.refl _)).trans (List.perm_middle (l₁ := [_])).symm)).trans (List.perm_middle (l₁ := [_])).symm)).trans (List.perm_middle (l₁ := [_])).symm)).drop1.drop1.drop1⟩

end Go.Proofs.YtjnnhlbfgnopiaaGreatDoor
end
section
namespace Go.Proofs.YtjnnhlbfgnopiaaGreatDoor
open Go.Kw
set_option linter.unusedVariables false
set_option linter.unusedSimpArgs false
set_option maxRecDepth 100000
theorem eqTr_t (xs : List (List UInt8)) (a1 a2 : Option Addr) (n1 n2 c1 c2 : Nat) (w : World) (h1 : Row w a1 (xs.map sv)) (h2 : Row w a2 (xs.map sv)) (l1 : xs.length = n1) (l2 : xs.length = n2) (hn : n1 ≤ 140737488351232) :
    Ret Tryz.prog 27 [.slice a1 n1 c1, .slice a2 n2 c2] w (fun v w' => v = .bool true ∧ St w [] w' []) := by
  subst l1; subst l2
  refine enter Tryz.func27 rfl Tryz.ntmps27 rfl ?_
  have hS := St.refl w []
  refine zS<|zR<|zq 1 rfl<|zN<|zT<|zS<|zS<|zR<|zq 1 rfl<|zV (r_len (T := 42) rfl ti42.und rfl _ rfl)<|zq 1 rfl<|zV (r_len (T := 42) rfl ti42.und rfl _ rfl)<|wl_dec_f (r_neq rfl rfl) rfl Om<|zN<|zT<|zf rfl<|zK<|zT<|zS<|zS<|zR<|zq 1 rfl<|zV (r_len (T := 42) rfl ti42.und rfl _ rfl)<|zq 1 rfl<|zN ?_; refine zT<|zI ?_
  refine c_loopE [0, 1, 12] (fun d e w' => ∃ (k : Nat), Kw.look e 13 = vi k ∧ d = xs.length - k ∧ St w [] w' [] ∧ (k ≤ xs.length)) (xs.length - 0) ?_ ?_
  · exact ⟨0, rfl, rfl, hS, Nat.zero_le _⟩
  · rintro d4 e1 w2 ⟨k, hc0_13, rfl, hS3, hk⟩ -
    refine c_set (d := 13) hc0_13<|zS<|zR ?_
    refine wl_dec (r_lss rfl rfl) rfl (fun h4_0 => ?_) (fun h4_0 => ?_)
    · refine zN<|zT<|zS<|zt rfl<|zK<|zT<|zS<|zI<|zS<|zR<|zq 2 rfl<|zN<|zT<|zS<|c_drawS 8 hMixed hS3 ?_
      intro w5 hS6; refine zG 0 rfl hS6 (fun wF hF => r_move (v := .slice _ _ _) rfl) ?_; refine zG 1 rfl hS6 (fun wF hF => r_move (v := .int .i64 _) rfl) ?_; refine zG 2 rfl hS6 (fun wF hF => r_ixS ti42.und ti9 rfl rfl (h1.st hF) Om (by rw [List.length_map]; omega)) ?_; refine zG 3 rfl hS6 (fun wF hF => r_loadS1 ti9.und rfl rfl (h1.st hF) (by rw [Nat.mul_one]; exact map_gt _ _ _ Sd)) ?_; refine zG 4 rfl hS6 (fun wF hF => r_move (v := .slice _ _ _) rfl) ?_; refine zG 5 rfl hS6 (fun wF hF => r_move (v := .int .i64 _) rfl) ?_; refine zG 6 rfl hS6 (fun wF hF => r_ixS ti42.und ti9 rfl rfl (h2.st hF) Om (by rw [List.length_map]; omega)) ?_; refine zG 7 rfl hS6 (fun wF hF => r_loadS1 ti9.und rfl rfl (h2.st hF) (by rw [Nat.mul_one]; exact map_gt _ _ _ Sd)) ?_; refine zGT rfl ?_; refine wl_dec_f (r_neqStrL rfl rfl) rfl (not_not_intro rfl)<|zN<|zT<|zf rfl<|zK<|zJ<|zT<|zR<|zV (r_addn (b := 1) rfl rfl Om)<|zq 1 rfl<|zN<|zT ?_
      exact ⟨xs.length - (k + 1), _, by omega, rfl, ⟨k + 1, rfl, rfl, hS6, by omega⟩, ⟨rfl, rfl, rfl, trivial⟩⟩
    refine zN<|zT<|zS<|zf rfl<|zO<|zM<|zM<|c_inE<|zT<|zS<|zR<|zq 1 rfl<|zN<|zT<|zU<|ret1 Tryz.results27 ?_
    exact ⟨rfl, hS3.fin⟩

theorem eqIr_t (xs : List Int) (a1 a2 : Option Addr) (n1 n2 c1 c2 : Nat) (w : World) (h1 : Row w a1 (xs.map iv)) (h2 : Row w a2 (xs.map iv)) (l1 : xs.length = n1) (l2 : xs.length = n2) (hn : n1 ≤ 140737488351232) :
    Ret Tryz.prog 28 [.slice a1 n1 c1, .slice a2 n2 c2] w (fun v w' => v = .bool true ∧ St w [] w' []) := by
  refine enter Tryz.func28 rfl Tryz.ntmps28 rfl ?_
  have hS := St.refl w []
  refine zS<|zR<|zq 1 rfl<|zN<|zT<|zS<|zS<|zR<|zq 1 rfl<|zV (r_len (T := 49) rfl ti49.und rfl _ rfl)<|zq 1 rfl<|zV (r_len (T := 49) rfl ti49.und rfl _ rfl)<|wl_dec_f (r_neq rfl rfl) rfl Om<|zN<|zT<|zf rfl<|zK<|zT<|zS<|zS<|zR<|zq 1 rfl<|zV (r_len (T := 49) rfl ti49.und rfl _ rfl)<|zq 1 rfl<|zN ?_; refine zT<|zI ?_
  refine c_loopE [0, 1, 12] (fun d e w' => ∃ (k : Nat), Kw.look e 13 = vi k ∧ d = n1 - k ∧ St w [] w' [] ∧ (k ≤ n1)) (n1 - 0) ?_ ?_
  · exact ⟨0, rfl, rfl, hS, Nat.zero_le _⟩
  · rintro d4 e1 w2 ⟨k, hc0_13, rfl, hS3, hk⟩ -
    refine c_set (d := 13) hc0_13<|zS<|zR ?_
    refine wl_dec (r_lss rfl rfl) rfl (fun h4_0 => ?_) (fun h4_0 => ?_)
    · refine zN<|zT<|zS<|zt rfl<|zK<|zT<|zS<|zI<|zS<|zR<|zq 2 rfl<|zN<|zT<|zS<|c_drawS 8 hMixed hS3 ?_
      intro w5 hS6; refine zG 0 rfl hS6 (fun wF hF => r_move (v := .slice _ _ _) rfl) ?_; refine zG 1 rfl hS6 (fun wF hF => r_move (v := .int .i64 _) rfl) ?_; refine zG 2 rfl hS6 (fun wF hF => r_ixS ti49.und ti3 rfl rfl (h1.st hF) Om (by rw [List.length_map]; omega)) ?_; refine zG 3 rfl hS6 (fun wF hF => r_loadS1 ti3.und rfl rfl (h1.st hF) (by rw [Nat.mul_one]; exact map_gt _ _ _ Sd)) ?_; refine zG 4 rfl hS6 (fun wF hF => r_move (v := .slice _ _ _) rfl) ?_; refine zG 5 rfl hS6 (fun wF hF => r_move (v := .int .i64 _) rfl) ?_; refine zG 6 rfl hS6 (fun wF hF => r_ixS ti49.und ti3 rfl rfl (h2.st hF) Om (by rw [List.length_map]; omega)) ?_; refine zG 7 rfl hS6 (fun wF hF => r_loadS1 ti3.und rfl rfl (h2.st hF) (by rw [Nat.mul_one]; exact map_gt _ _ _ Sd)) ?_; refine zGT rfl ?_; refine wl_dec_f (r_neq rfl rfl) rfl (not_not_intro rfl)<|zN<|zT<|zf rfl<|zK<|zJ<|zT<|zR<|zV (r_addn (b := 1) rfl rfl Om)<|zq 1 rfl<|zN<|zT ?_
      exact ⟨n1 - (k + 1), _, by omega, rfl, ⟨k + 1, rfl, rfl, hS6, by omega⟩, ⟨rfl, rfl, rfl, trivial⟩⟩
    refine zN<|zT<|zS<|zf rfl<|zO<|zM<|zM<|c_inE<|zT<|zS<|zR<|zq 1 rfl<|zN<|zT<|zU<|ret1 Tryz.results28 ?_
    exact ⟨rfl, hS3.fin⟩

theorem map_nrmR_gt {xs ys : List RuleD} (h : xs.map nrmR = ys.map nrmR) {k : Nat} (hk : k < xs.length) : nrmR (gt xs k) = nrmR (gt ys k) := by
  have hl : xs.length = ys.length := by have := congrArg List.length h; simpa using this
  have := congrArg (fun l => l[k]?) h
  simp only [List.getElem?_map, List.getElem?_eq_getElem hk, List.getElem?_eq_getElem (hl ▸ hk), Option.map_some, Option.some.injEq] at this
  rw [gt_eq xs k hk, gt_eq ys k (hl ▸ hk)]; exact this

set_option maxHeartbeats 2000000 in
theorem sameRuleY_t (r s : RuleD) (w : World) (hr : RuleAt w r) (hs : RuleAt w s) (he : nrmR r = nrmR s) :
    Ret Tryz.prog 26 [.agg r.v.toArray, .agg s.v.toArray] w (fun v w' => v = .bool true ∧ St w [] w' []) := by
  refine enter Tryz.func26 rfl Tryz.ntmps26 rfl ?_
  have hS := St.refl w []
  refine zS<|zR<|zB (v := .agg _) hS rfl rfl fun b2 w1 hS2=>zB (v := .agg _) hS2 rfl rfl fun b3 w3 hS4=>zq 1 rfl<|zN<|zT<|zS<|zR<|zF fa51_0 rfl ti4.und rfl (hS4.heap Z1) rfl rfl rfl<|zF fa51_0 rfl ti4.und rfl (hS4.heap Z0) rfl rfl rfl<|wl_dec_t (r_eqlBool ti4.und rfl rfl) rfl (show (nrmR r).dn = (nrmR s).dn by rw [he]) ?_; refine zq 1 rfl<|wl_val (r_field fa51_1 rfl) rfl<|wl_val (r_loadB1 ti42.und rfl rfl (hS4.heap Z1) rfl) rfl<|wl_val (r_field fa51_1 rfl) rfl<|wl_val (r_loadB1 ti42.und rfl rfl (hS4.heap Z0) rfl) rfl<|zE fn27 rfl hS4 (eqTr_t r.ro _ _ _ _ _ _ _ (hr.h1.st hS4) (by rw [show r.ro = s.ro from (show (nrmR r).ro = (nrmR s).ro by rw [he])]; exact hs.h1.st hS4) rfl (by rw [show r.ro = s.ro from (show (nrmR r).ro = (nrmR s).ro by rw [he])]) hr.ok.rn) fun w5 hS7=> ?_; refine zq 2 rfl<|wl_val (r_field fa51_2 rfl) rfl<|wl_val (r_loadB1 ti49.und rfl rfl (hS7.heap Z1) rfl) rfl<|wl_val (r_field fa51_2 rfl) rfl<|wl_val (r_loadB1 ti49.und rfl rfl (hS7.heap Z0) rfl) rfl<|zE fn28 rfl hS7 (eqIr_t r.acs _ _ _ _ _ _ _ (hr.h2.st hS7) (by rw [show r.acs = s.acs from (show (nrmR r).acs = (nrmR s).acs by rw [he])]; exact hs.h2.st hS7) rfl (by rw [show r.acs = s.acs from (show (nrmR r).acs = (nrmR s).acs by rw [he])]) hr.ok.an) fun w8 hS10=> ?_; refine zq 2 rfl<|wl_val (r_field fa51_3 rfl) rfl<|wl_val (r_loadB1 ti42.und rfl rfl (hS10.heap Z1) rfl) rfl<|wl_val (r_field fa51_3 rfl) rfl<|wl_val (r_loadB1 ti42.und rfl rfl (hS10.heap Z0) rfl) rfl<|zE fn27 rfl hS10 (eqTr_t r.las _ _ _ _ _ _ _ (hr.h3.st hS10) (by rw [show r.las = s.las from (show (nrmR r).las = (nrmR s).las by rw [he])]; exact hs.h3.st hS10) rfl (by rw [show r.las = s.las from (show (nrmR r).las = (nrmR s).las by rw [he])]) hr.ok.ln) fun w11 hS13=> ?_
  refine zq 2 rfl<|wl_val (r_field fa51_4 rfl) rfl<|wl_val (r_loadB1 ti3.und rfl rfl (hS13.heap Z1) rfl) rfl<|wl_val (r_field fa51_4 rfl) rfl<|wl_val (r_loadB1 ti3.und rfl rfl (hS13.heap Z0) rfl) rfl<|wl_dec_t (r_eql rfl rfl) rfl (show (nrmR r).fr = (nrmR s).fr by rw [he]) ?_; refine zq 2 rfl<|wl_val (r_field fa51_5 rfl) rfl<|wl_val (r_loadB1 ti3.und rfl rfl (hS13.heap Z1) rfl) rfl<|wl_val (r_field fa51_5 rfl) rfl<|wl_val (r_loadB1 ti3.und rfl rfl (hS13.heap Z0) rfl) rfl<|wl_dec_t (r_eql rfl rfl) rfl (show (nrmR r).to = (nrmR s).to by rw [he]) ?_; refine zq 2 rfl<|wl_val (r_field fa51_6 rfl) rfl<|wl_val (r_loadB1 ti3.und rfl rfl (hS13.heap Z1) rfl) rfl<|wl_val (r_field fa51_6 rfl) rfl<|wl_val (r_loadB1 ti3.und rfl rfl (hS13.heap Z0) rfl) rfl<|wl_dec_t (r_eql rfl rfl) rfl (show (nrmR r).nd = (nrmR s).nd by rw [he]) ?_; refine zq 2 rfl<|wl_val (r_field fa51_7 rfl) rfl<|wl_val (r_loadB1 ti9.und rfl rfl (hS13.heap Z1) rfl) rfl<|wl_val (r_field fa51_7 rfl) rfl<|wl_val (r_loadB1 ti9.und rfl rfl (hS13.heap Z0) rfl) rfl<|wl_dec_t (r_eqlStrL rfl rfl) rfl (show (nrmR r).ofr = (nrmR s).ofr by rw [he]) ?_; refine zq 2 rfl<|zN<|zT<|zU<|ret1 Tryz.results26 ?_
  exact ⟨rfl, hS13.fin⟩

set_option maxHeartbeats 2000000 in
theorem eqRulesY_t (xs ys : List RuleD) (a1 a2 : Option Addr) (c1 c2 : Nat) (w : World) (h1 : Row w a1 (xs.flatMap RuleD.v)) (h2 : Row w a2 (ys.flatMap RuleD.v)) (hA : ∀ q ∈ xs, RuleAt w q) (hB : ∀ q ∈ ys, RuleAt w q) (hb : xs.map nrmR = ys.map nrmR) (hn : xs.length ≤ 1000000) :
    Ret Tryz.prog 25 [.slice a1 xs.length c1, .slice a2 ys.length c2, .func (.func 26) #[] #[]] w (fun v w' => v = .bool true ∧ St w [] w' []) := by
  have hl : xs.length = ys.length := by have := congrArg List.length hb; simpa using this
  refine enter Tryz.func25 rfl Tryz.ntmps25 rfl ?_
  have hS := St.refl w []
  refine zS<|zR<|zq 1 rfl<|zN<|zT<|zS<|zS<|zR<|zq 1 rfl<|zV (r_len (T := 23) rfl ti23.und rfl _ rfl)<|zq 1 rfl<|zV (r_len (T := 23) rfl ti23.und rfl _ rfl)<|wl_dec_f (r_neq rfl rfl) rfl Om<|zN<|zT<|zf rfl<|zK<|zT<|zS<|zS<|zR<|zq 1 rfl<|zV (r_len (T := 23) rfl ti23.und rfl _ rfl)<|zq 1 rfl<|zN ?_; refine zT<|zI ?_
  refine c_loopE [1, 2, 15, 16] (fun d e w' => ∃ (k : Nat), Kw.look e 17 = vi k ∧ d = xs.length - k ∧ St w [] w' [] ∧ (k ≤ xs.length)) (xs.length - 0) ?_ ?_
  · exact ⟨0, rfl, rfl, hS.fin, Nat.zero_le _⟩
  · rintro d4 e1 w2 ⟨k, hc0_17, rfl, hS3, hk⟩ -
    refine c_set (d := 17) hc0_17<|zS<|zR ?_
    refine wl_dec (r_lss rfl rfl) rfl (fun h4_0 => ?_) (fun h4_0 => ?_)
    · refine zN<|zT<|zS<|zt rfl<|zK<|zT<|zS<|zI<|zS<|zR<|zq 1 rfl<|zV (r_ixF rule_v8 ti23.und ti51 rfl rfl (h1.st hS3) Ln Sd (by decide)) ?_
      refine zV (r_loadF rule_v8 ti51 ag51 rfl (h1.st hS3) Sd (by decide)) ?_; refine zA (C := [.bool false, .slice none 0 0, .slice none 0 0, .slice none 0 0, .int .i64 0, .int .i64 0, .int .i64 0, .string ⟨#[]⟩]) hS3 ti51 rfl fun bb8 w5 hS6=>zq 1 rfl<|zY (x_storeW [] hS6 ti51 rfl rfl (rule_v8 _) rfl (one_rule _)) ?_; intro w7 hS8; simp only [ca, na] at hS8; refine zN<|zT<|zS<|zR<|zq 2 rfl<|zV (r_ixF rule_v8 ti23.und ti51 rfl rfl (h2.st hS8) Ln Sd (by decide)) ?_; refine zV (r_loadF rule_v8 ti51 ag51 rfl (h2.st hS8) Sd (by decide)) ?_; refine zA (C := [.bool false, .slice none 0 0, .slice none 0 0, .slice none 0 0, .int .i64 0, .int .i64 0, .int .i64 0, .string ⟨#[]⟩]) hS8 ti51 rfl fun b9 w9 hS10=>zY (x_storeW [] hS10 ti51 rfl rfl (rule_v8 _) rfl (one_rule _)) ?_; intro w11 hS12; simp only [ca, na] at hS12; refine zN<|zT<|zS<|zR<|zV (r_move rfl)<|zV (r_loadB ti51 ag51 rfl (hS12.heap Z1) (rule_v8 _))<|zV (r_loadB ti51 ag51 rfl (hS12.heap Z0) (rule_v8 _))<|wl_call (r_callDyn fn26 rfl rfl) rfl (sameRuleY_t (gt xs k) (gt ys k) _ ((hA _ (gt_mem xs k Om)).st hS12) ((hB _ (gt_mem ys k Om)).st hS12) (map_nrmR_gt hb Om)) ?_; rintro _ w13 ⟨rfl, hx14⟩; have hS15 := hS12.ext hx14; refine zq 1 rfl<|zN<|zT<|zf rfl<|zK<|zJ<|zT<|zR<|zV (r_addn (b := 1) rfl rfl Om)<|zq 1 rfl<|zN<|zT ?_
      exact ⟨xs.length - (k + 1), _, by omega, rfl, ⟨k + 1, rfl, rfl, hS15.fin, by omega⟩, ⟨rfl, rfl, rfl, rfl, trivial⟩⟩
    refine zN<|zT<|zS<|zf rfl<|zO<|zM<|zM<|c_inE<|zT<|zS<|zR<|zq 1 rfl<|zN<|zT<|zU<|ret1 Tryz.results25 ?_
    exact ⟨rfl, hS3.fin⟩

theorem samePolicyY_t (xs ys : List RuleD) (a1 a2 : Option Addr) (c1 c2 : Nat) (w : World) (h1 : Row w a1 (xs.flatMap RuleD.v)) (h2 : Row w a2 (ys.flatMap RuleD.v)) (hA : ∀ q ∈ xs, RuleAt w q) (hB : ∀ q ∈ ys, RuleAt w q) (hb : xs.map nrmR = ys.map nrmR) (hn : xs.length ≤ 1000000) :
    Ret Tryz.prog 8 [.agg #[.slice a1 xs.length c1], .agg #[.slice a2 ys.length c2]] w (fun v w' => v = .bool true ∧ St w [] w' []) := by
  refine enter Tryz.func8 rfl Tryz.ntmps8 rfl ?_
  have hS := St.refl w []
  refine zS<|zR<|zB (v := .agg _) hS rfl rfl fun b2 w1 hS2=>zB (v := .agg _) hS2 rfl rfl fun b3 w3 hS4=>zq 1 rfl<|zN<|zT<|zS<|zR<|zF fa25_0 rfl ti23.und rfl (hS4.heap Z1) rfl rfl rfl<|zF fa25_0 rfl ti23.und rfl (hS4.heap Z0) rfl rfl rfl<|zE fn25 rfl hS4 (eqRulesY_t xs ys _ _ _ _ _ (h1.st hS4) (h2.st hS4) (fun q hq => (hA q hq).st hS4) (fun q hq => (hB q hq).st hS4) hb hn) fun w5 hS7=>zq 1 rfl<|zN<|zT<|zU<|ret1 Tryz.results8 ?_
  exact ⟨rfl, hS7.fin⟩

end Go.Proofs.YtjnnhlbfgnopiaaGreatDoor
end
section
namespace Go.Proofs.YtjnnhlbfgnopiaaGreatDoor
open Go.Kw
set_option linter.unusedVariables false
set_option linter.unusedSimpArgs false
set_option maxRecDepth 100000
theorem eq_of_gt {α : Type} [Inhabited α] {xs ys : List α} (hl : xs.length = ys.length) (h : ∀ j, j < xs.length → gt xs j = gt ys j) : xs = ys :=
  List.ext_getElem hl (fun j h1 h2 => by have := h j h1; rwa [gt_eq _ _ h1, gt_eq _ _ h2] at this)
theorem map_nrmR_of {xs ys : List RuleD} (hl : xs.length = ys.length) (h : ∀ j, j < xs.length → nrmR (gt xs j) = nrmR (gt ys j)) : xs.map nrmR = ys.map nrmR :=
  List.ext_getElem (by simpa using hl) (fun j h1 h2 => by
    rw [List.length_map] at h1 h2
    have := h j h1
    rw [gt_eq _ _ h1, gt_eq _ _ h2] at this
    rw [List.getElem_map, List.getElem_map]; exact this)
theorem nrmR_ext {r s : RuleD} (h1 : r.dn = s.dn) (h2 : r.ro = s.ro) (h3 : r.acs = s.acs) (h4 : r.las = s.las) (h5 : r.fr = s.fr) (h6 : r.to = s.to) (h7 : r.nd = s.nd) (h8 : r.ofr = s.ofr) : nrmR r = nrmR s := by
  unfold nrmR; rw [h1, h2, h3, h4, h5, h6, h7, h8]

theorem eqTr_b_c0 {p : Prop} (h : p := by first | exact .inr ⟨fun e => absurd (congrArg List.length e) Om, rfl, hF.fin⟩ | exact .inr ⟨fun e => h6_8 (by rw [e]), rfl, hF.fin⟩ | exact .inl ⟨eq_of_gt Om (fun j hj => hall j Om), rfl, hF.fin⟩) : p := h
theorem eqTr_b (xs ys : List (List UInt8)) (a1 a2 : Option Addr) (n1 n2 c1 c2 : Nat) (w : World) (h1 : Row w a1 (xs.map sv)) (h2 : Row w a2 (ys.map sv)) (l1 : xs.length = n1) (l2 : ys.length = n2) (hn : n1 ≤ 140737488351232) :
    Ret Tryz.prog 27 [.slice a1 n1 c1, .slice a2 n2 c2] w (fun v w' => (xs = ys ∧ v = .bool true ∧ St w [] w' []) ∨ (¬ xs = ys ∧ v = .bool false ∧ St w [] w' [])) := by
  subst l1; subst l2
  refine enter Tryz.func27 rfl Tryz.ntmps27 rfl ?_
  have hS := St.refl w []
  refine zS<|zR<|zq 1 rfl<|zN<|zT<|zS<|zS<|zR<|zq 1 rfl<|zV (r_len (T := 42) rfl ti42.und rfl _ rfl)<|zq 1 rfl<|zV (r_len (T := 42) rfl ti42.und rfl _ rfl) ?_
  refine wl_dec (r_neq rfl rfl) rfl (fun h1_4 => ?_) (fun h1_4 => ?_)
  · refine zN<|zT<|zt rfl<|zS<|zR<|zq 1 rfl<|zN<|zT<|zU<|zL<|ret1 Tryz.results27 ?_
    have hF := hS; exact eqTr_b_c0
  refine zN<|zT<|zf rfl<|zK<|zT<|zS<|zS<|zR<|zq 1 rfl<|zV (r_len (T := 42) rfl ti42.und rfl _ rfl)<|zq 1 rfl<|zN<|zT<|zI ?_
  refine c_loopE [0, 1, 12] (fun d e w' => ∃ (k : Nat), Kw.look e 13 = vi k ∧ d = xs.length - k ∧ St w [] w' [] ∧ (k ≤ xs.length) ∧ (∀ j, j < k → gt xs j = gt ys j)) (xs.length - 0) ?_ ?_
  · exact ⟨0, rfl, rfl, hS, Nat.zero_le _, fun j hj => absurd hj (Nat.not_lt_zero _)⟩
  · rintro d4 e1 w2 ⟨k, hc0_13, rfl, hS3, hk, hall⟩ -
    refine c_set (d := 13) hc0_13<|zS<|zR ?_
    refine wl_dec (r_lss rfl rfl) rfl (fun h4_0 => ?_) (fun h4_0 => ?_)
    · refine zN<|zT<|zS<|zt rfl<|zK<|zT<|zS<|zI<|zS<|zR<|zq 2 rfl<|zN<|zT<|zS<|c_drawS 8 hMixed hS3 ?_
      intro w5 hS6; refine zG 0 rfl hS6 (fun wF hF => r_move (v := .slice _ _ _) rfl) ?_; refine zG 1 rfl hS6 (fun wF hF => r_move (v := .int .i64 _) rfl) ?_; refine zG 2 rfl hS6 (fun wF hF => r_ixS ti42.und ti9 rfl rfl (h1.st hF) Om (by rw [List.length_map]; omega)) ?_; refine zG 3 rfl hS6 (fun wF hF => r_loadS1 ti9.und rfl rfl (h1.st hF) (by rw [Nat.mul_one]; exact map_gt _ _ _ Sd)) ?_; refine zG 4 rfl hS6 (fun wF hF => r_move (v := .slice _ _ _) rfl) ?_; refine zG 5 rfl hS6 (fun wF hF => r_move (v := .int .i64 _) rfl) ?_; refine zG 6 rfl hS6 (fun wF hF => r_ixS ti42.und ti9 rfl rfl (h2.st hF) Om (by rw [List.length_map]; omega)) ?_; refine zG 7 rfl hS6 (fun wF hF => r_loadS1 ti9.und rfl rfl (h2.st hF) (by rw [Nat.mul_one]; exact map_gt _ _ _ Sd)) ?_; refine zGT rfl ?_
      refine wl_dec (r_neqStrL rfl rfl) rfl (fun h6_8 => ?_) (fun h6_8 => ?_)
      · refine zN<|zT<|zt rfl<|zS<|zR<|zq 1 rfl<|zN<|zT<|zU<|zH<|zL<|zL<|zH<|zL<|ret1 Tryz.results27 ?_
        have hF := hS6; exact eqTr_b_c0
      refine zN<|zT<|zf rfl<|zK<|zJ<|zT<|zR<|zV (r_addn (b := 1) rfl rfl Om)<|zq 1 rfl<|zN<|zT ?_
      exact ⟨xs.length - (k + 1), _, by omega, rfl, ⟨k + 1, rfl, rfl, hS6, by omega, fun j hj => (Nat.lt_succ_iff_lt_or_eq.1 hj).elim (hall j) (fun e => e ▸ (Classical.not_not.1 h6_8))⟩, ⟨rfl, rfl, rfl, trivial⟩⟩
    refine zN<|zT<|zS<|zf rfl<|zO<|zM<|zM<|c_inE<|zT<|zS<|zR<|zq 1 rfl<|zN<|zT<|zU<|ret1 Tryz.results27 ?_
    have hF := hS3; exact eqTr_b_c0

theorem eqIr_b_c0 {p : Prop} (h : p := by first | exact .inr ⟨fun e => absurd (congrArg List.length e) Om, rfl, hF.fin⟩ | exact .inr ⟨fun e => h6_8 (by rw [e]), rfl, hF.fin⟩ | exact .inl ⟨eq_of_gt Om (fun j hj => hall j Om), rfl, hF.fin⟩) : p := h
theorem eqIr_b (xs ys : List Int) (a1 a2 : Option Addr) (n1 n2 c1 c2 : Nat) (w : World) (h1 : Row w a1 (xs.map iv)) (h2 : Row w a2 (ys.map iv)) (l1 : xs.length = n1) (l2 : ys.length = n2) (hn : n1 ≤ 140737488351232) :
    Ret Tryz.prog 28 [.slice a1 n1 c1, .slice a2 n2 c2] w (fun v w' => (xs = ys ∧ v = .bool true ∧ St w [] w' []) ∨ (¬ xs = ys ∧ v = .bool false ∧ St w [] w' [])) := by
  subst l1; subst l2
  refine enter Tryz.func28 rfl Tryz.ntmps28 rfl ?_
  have hS := St.refl w []
  refine zS<|zR<|zq 1 rfl<|zN<|zT<|zS<|zS<|zR<|zq 1 rfl<|zV (r_len (T := 49) rfl ti49.und rfl _ rfl)<|zq 1 rfl<|zV (r_len (T := 49) rfl ti49.und rfl _ rfl) ?_
  refine wl_dec (r_neq rfl rfl) rfl (fun h1_4 => ?_) (fun h1_4 => ?_)
  · refine zN<|zT<|zt rfl<|zS<|zR<|zq 1 rfl<|zN<|zT<|zU<|zL<|ret1 Tryz.results28 ?_
    have hF := hS; exact eqIr_b_c0
  refine zN<|zT<|zf rfl<|zK<|zT<|zS<|zS<|zR<|zq 1 rfl<|zV (r_len (T := 49) rfl ti49.und rfl _ rfl)<|zq 1 rfl<|zN<|zT<|zI ?_
  refine c_loopE [0, 1, 12] (fun d e w' => ∃ (k : Nat), Kw.look e 13 = vi k ∧ d = xs.length - k ∧ St w [] w' [] ∧ (k ≤ xs.length) ∧ (∀ j, j < k → gt xs j = gt ys j)) (xs.length - 0) ?_ ?_
  · exact ⟨0, rfl, rfl, hS, Nat.zero_le _, fun j hj => absurd hj (Nat.not_lt_zero _)⟩
  · rintro d4 e1 w2 ⟨k, hc0_13, rfl, hS3, hk, hall⟩ -
    refine c_set (d := 13) hc0_13<|zS<|zR ?_
    refine wl_dec (r_lss rfl rfl) rfl (fun h4_0 => ?_) (fun h4_0 => ?_)
    · refine zN<|zT<|zS<|zt rfl<|zK<|zT<|zS<|zI<|zS<|zR<|zq 2 rfl<|zN<|zT<|zS<|c_drawS 8 hMixed hS3 ?_
      intro w5 hS6; refine zG 0 rfl hS6 (fun wF hF => r_move (v := .slice _ _ _) rfl) ?_; refine zG 1 rfl hS6 (fun wF hF => r_move (v := .int .i64 _) rfl) ?_; refine zG 2 rfl hS6 (fun wF hF => r_ixS ti49.und ti3 rfl rfl (h1.st hF) Om (by rw [List.length_map]; omega)) ?_; refine zG 3 rfl hS6 (fun wF hF => r_loadS1 ti3.und rfl rfl (h1.st hF) (by rw [Nat.mul_one]; exact map_gt _ _ _ Sd)) ?_; refine zG 4 rfl hS6 (fun wF hF => r_move (v := .slice _ _ _) rfl) ?_; refine zG 5 rfl hS6 (fun wF hF => r_move (v := .int .i64 _) rfl) ?_; refine zG 6 rfl hS6 (fun wF hF => r_ixS ti49.und ti3 rfl rfl (h2.st hF) Om (by rw [List.length_map]; omega)) ?_; refine zG 7 rfl hS6 (fun wF hF => r_loadS1 ti3.und rfl rfl (h2.st hF) (by rw [Nat.mul_one]; exact map_gt _ _ _ Sd)) ?_; refine zGT rfl ?_
      refine wl_dec (r_neq rfl rfl) rfl (fun h6_8 => ?_) (fun h6_8 => ?_)
      · refine zN<|zT<|zt rfl<|zS<|zR<|zq 1 rfl<|zN<|zT<|zU<|zH<|zL<|zL<|zH<|zL<|ret1 Tryz.results28 ?_
        have hF := hS6; exact eqIr_b_c0
      refine zN<|zT<|zf rfl<|zK<|zJ<|zT<|zR<|zV (r_addn (b := 1) rfl rfl Om)<|zq 1 rfl<|zN<|zT ?_
      exact ⟨xs.length - (k + 1), _, by omega, rfl, ⟨k + 1, rfl, rfl, hS6, by omega, fun j hj => (Nat.lt_succ_iff_lt_or_eq.1 hj).elim (hall j) (fun e => e ▸ (Classical.not_not.1 h6_8))⟩, ⟨rfl, rfl, rfl, trivial⟩⟩
    refine zN<|zT<|zS<|zf rfl<|zO<|zM<|zM<|c_inE<|zT<|zS<|zR<|zq 1 rfl<|zN<|zT<|zU<|ret1 Tryz.results28 ?_
    have hF := hS3; exact eqIr_b_c0

theorem sameRuleP_b_c0 {p : Prop} (h : p := by first | exact .inl ⟨nrmR_ext h1_4 hro hac hla h1_31 h1_38 h1_45 h1_52, rfl, hF.fin⟩ | exact .inr ⟨fun e => h1_4 (show (nrmR r).dn = (nrmR s).dn by rw [e]), rfl, hF.fin⟩ | exact .inr ⟨fun e => hro (show (nrmR r).ro = (nrmR s).ro by rw [e]), rfl, hF.fin⟩ | exact .inr ⟨fun e => hac (show (nrmR r).acs = (nrmR s).acs by rw [e]), rfl, hF.fin⟩ | exact .inr ⟨fun e => hla (show (nrmR r).las = (nrmR s).las by rw [e]), rfl, hF.fin⟩ | exact .inr ⟨fun e => h1_31 (show (nrmR r).fr = (nrmR s).fr by rw [e]), rfl, hF.fin⟩ | exact .inr ⟨fun e => h1_38 (show (nrmR r).to = (nrmR s).to by rw [e]), rfl, hF.fin⟩ | exact .inr ⟨fun e => h1_45 (show (nrmR r).nd = (nrmR s).nd by rw [e]), rfl, hF.fin⟩ | exact .inr ⟨fun e => h1_52 (show (nrmR r).ofr = (nrmR s).ofr by rw [e]), rfl, hF.fin⟩) : p := h
set_option maxHeartbeats 2000000 in
theorem sameRuleP_b (r s : RuleD) (w : World) (hr : RuleAt w r) (hs : RuleAt w s) :
    Ret Tryz.prog 31 [.agg r.v.toArray, .agg s.v.toArray] w (fun v w' => (nrmR r = nrmR s ∧ v = .bool true ∧ St w [] w' []) ∨ (¬ nrmR r = nrmR s ∧ v = .bool false ∧ St w [] w' [])) := by
  refine enter Tryz.func31 rfl Tryz.ntmps31 rfl ?_
  have hS := St.refl w []
  refine zS<|zR<|zB (v := .agg _) hS rfl rfl fun b2 w1 hS2=>zB (v := .agg _) hS2 rfl rfl fun b3 w3 hS4=>zq 1 rfl<|zN<|zT<|zS<|zR<|zF fa51_0 rfl ti4.und rfl (hS4.heap Z1) rfl rfl rfl<|zF fa51_0 rfl ti4.und rfl (hS4.heap Z0) rfl rfl rfl ?_
  refine wl_dec (r_eqlBool ti4.und rfl rfl) rfl (fun h1_4 => ?_) (fun h1_4 => ?_)
  · refine zq 1 rfl<|wl_val (r_field fa51_1 rfl) rfl<|wl_val (r_loadB1 ti42.und rfl rfl (hS4.heap Z1) rfl) rfl<|wl_val (r_field fa51_1 rfl) rfl<|wl_val (r_loadB1 ti42.und rfl rfl (hS4.heap Z0) rfl) rfl<|zC fn27 rfl (eqTr_b r.ro s.ro _ _ _ _ _ _ _ (hr.h1.st hS4) (hs.h1.st hS4) rfl rfl hr.ok.rn) ?_
    rintro _ w5 (⟨hro, rfl, hx6⟩ | ⟨hro, rfl, hx6⟩)
    · have hS7 := hS4.ext hx6
      refine zq 2 rfl<|wl_val (r_field fa51_2 rfl) rfl<|wl_val (r_loadB1 ti49.und rfl rfl (hS7.heap Z1) rfl) rfl<|wl_val (r_field fa51_2 rfl) rfl<|wl_val (r_loadB1 ti49.und rfl rfl (hS7.heap Z0) rfl) rfl<|zC fn28 rfl (eqIr_b r.acs s.acs _ _ _ _ _ _ _ (hr.h2.st hS7) (hs.h2.st hS7) rfl rfl hr.ok.an) ?_
      rintro _ w8 (⟨hac, rfl, hx9⟩ | ⟨hac, rfl, hx9⟩)
      · have hS10 := hS7.ext hx9
        refine zq 2 rfl<|wl_val (r_field fa51_3 rfl) rfl<|wl_val (r_loadB1 ti42.und rfl rfl (hS10.heap Z1) rfl) rfl<|wl_val (r_field fa51_3 rfl) rfl<|wl_val (r_loadB1 ti42.und rfl rfl (hS10.heap Z0) rfl) rfl<|zC fn27 rfl (eqTr_b r.las s.las _ _ _ _ _ _ _ (hr.h3.st hS10) (hs.h3.st hS10) rfl rfl hr.ok.ln) ?_
        rintro _ w11 (⟨hla, rfl, hx12⟩ | ⟨hla, rfl, hx12⟩)
        · have hS13 := hS10.ext hx12
          refine zq 2 rfl<|wl_val (r_field fa51_4 rfl) rfl<|wl_val (r_loadB1 ti3.und rfl rfl (hS13.heap Z1) rfl) rfl<|wl_val (r_field fa51_4 rfl) rfl<|wl_val (r_loadB1 ti3.und rfl rfl (hS13.heap Z0) rfl) rfl ?_
          refine wl_dec (r_eql rfl rfl) rfl (fun h1_31 => ?_) (fun h1_31 => ?_)
          · refine zq 2 rfl<|wl_val (r_field fa51_5 rfl) rfl<|wl_val (r_loadB1 ti3.und rfl rfl (hS13.heap Z1) rfl) rfl<|wl_val (r_field fa51_5 rfl) rfl<|wl_val (r_loadB1 ti3.und rfl rfl (hS13.heap Z0) rfl) rfl ?_
            refine wl_dec (r_eql rfl rfl) rfl (fun h1_38 => ?_) (fun h1_38 => ?_)
            · refine zq 2 rfl<|wl_val (r_field fa51_6 rfl) rfl<|wl_val (r_loadB1 ti3.und rfl rfl (hS13.heap Z1) rfl) rfl<|wl_val (r_field fa51_6 rfl) rfl<|wl_val (r_loadB1 ti3.und rfl rfl (hS13.heap Z0) rfl) rfl ?_
              refine wl_dec (r_eql rfl rfl) rfl (fun h1_45 => ?_) (fun h1_45 => ?_)
              · refine zq 2 rfl<|wl_val (r_field fa51_7 rfl) rfl<|wl_val (r_loadB1 ti9.und rfl rfl (hS13.heap Z1) rfl) rfl<|wl_val (r_field fa51_7 rfl) rfl<|wl_val (r_loadB1 ti9.und rfl rfl (hS13.heap Z0) rfl) rfl ?_
                refine wl_dec (r_eqlStrL rfl rfl) rfl (fun h1_52 => ?_) (fun h1_52 => ?_)
                · refine zq 2 rfl<|zN<|zT<|zU<|ret1 Tryz.results31 ?_
                  have hF := hS13; exact sameRuleP_b_c0
                refine zq 2 rfl<|zN<|zT<|zU<|ret1 Tryz.results31 ?_
                have hF := hS13; exact sameRuleP_b_c0
              refine zq 9 rfl<|zN<|zT<|zU<|ret1 Tryz.results31 ?_
              have hF := hS13; exact sameRuleP_b_c0
            refine zq 16 rfl<|zN<|zT<|zU<|ret1 Tryz.results31 ?_
            have hF := hS13; exact sameRuleP_b_c0
          refine zq 23 rfl<|zN<|zT<|zU<|ret1 Tryz.results31 ?_
          have hF := hS13; exact sameRuleP_b_c0
        have hS13 := hS10.ext hx12; refine zq 30 rfl<|zN<|zT<|zU<|ret1 Tryz.results31 ?_
        have hF := hS13; exact sameRuleP_b_c0
      have hS10 := hS7.ext hx9; refine zq 37 rfl<|zN<|zT<|zU<|ret1 Tryz.results31 ?_
      have hF := hS10; exact sameRuleP_b_c0
    have hS7 := hS4.ext hx6; refine zq 44 rfl<|zN<|zT<|zU<|ret1 Tryz.results31 ?_
    have hF := hS7; exact sameRuleP_b_c0
  refine zq 50 rfl<|zN<|zT<|zU<|ret1 Tryz.results31 ?_
  have hF := hS4; exact sameRuleP_b_c0

theorem sameRuleR_b_c0 {p : Prop} (h : p := by first | exact .inl ⟨nrmR_ext h1_4 hro hac hla h1_31 h1_38 h1_45 h1_52, rfl, hF.fin⟩ | exact .inr ⟨fun e => h1_4 (show (nrmR r).dn = (nrmR s).dn by rw [e]), rfl, hF.fin⟩ | exact .inr ⟨fun e => hro (show (nrmR r).ro = (nrmR s).ro by rw [e]), rfl, hF.fin⟩ | exact .inr ⟨fun e => hac (show (nrmR r).acs = (nrmR s).acs by rw [e]), rfl, hF.fin⟩ | exact .inr ⟨fun e => hla (show (nrmR r).las = (nrmR s).las by rw [e]), rfl, hF.fin⟩ | exact .inr ⟨fun e => h1_31 (show (nrmR r).fr = (nrmR s).fr by rw [e]), rfl, hF.fin⟩ | exact .inr ⟨fun e => h1_38 (show (nrmR r).to = (nrmR s).to by rw [e]), rfl, hF.fin⟩ | exact .inr ⟨fun e => h1_45 (show (nrmR r).nd = (nrmR s).nd by rw [e]), rfl, hF.fin⟩ | exact .inr ⟨fun e => h1_52 (show (nrmR r).ofr = (nrmR s).ofr by rw [e]), rfl, hF.fin⟩) : p := h
set_option maxHeartbeats 2000000 in
theorem sameRuleR_b (r s : RuleD) (w : World) (hr : RuleAt w r) (hs : RuleAt w s) :
    Ret Tryz.prog 26 [.agg r.v.toArray, .agg s.v.toArray] w (fun v w' => (nrmR r = nrmR s ∧ v = .bool true ∧ St w [] w' []) ∨ (¬ nrmR r = nrmR s ∧ v = .bool false ∧ St w [] w' [])) := by
  refine enter Tryz.func26 rfl Tryz.ntmps26 rfl ?_
  have hS := St.refl w []
  refine zS<|zR<|zB (v := .agg _) hS rfl rfl fun b2 w1 hS2=>zB (v := .agg _) hS2 rfl rfl fun b3 w3 hS4=>zq 1 rfl<|zN<|zT<|zS<|zR<|zF fa51_0 rfl ti4.und rfl (hS4.heap Z1) rfl rfl rfl<|zF fa51_0 rfl ti4.und rfl (hS4.heap Z0) rfl rfl rfl ?_
  refine wl_dec (r_eqlBool ti4.und rfl rfl) rfl (fun h1_4 => ?_) (fun h1_4 => ?_)
  · refine zq 1 rfl<|wl_val (r_field fa51_1 rfl) rfl<|wl_val (r_loadB1 ti42.und rfl rfl (hS4.heap Z1) rfl) rfl<|wl_val (r_field fa51_1 rfl) rfl<|wl_val (r_loadB1 ti42.und rfl rfl (hS4.heap Z0) rfl) rfl<|zC fn27 rfl (eqTr_b r.ro s.ro _ _ _ _ _ _ _ (hr.h1.st hS4) (hs.h1.st hS4) rfl rfl hr.ok.rn) ?_
    rintro _ w5 (⟨hro, rfl, hx6⟩ | ⟨hro, rfl, hx6⟩)
    · have hS7 := hS4.ext hx6
      refine zq 2 rfl<|wl_val (r_field fa51_2 rfl) rfl<|wl_val (r_loadB1 ti49.und rfl rfl (hS7.heap Z1) rfl) rfl<|wl_val (r_field fa51_2 rfl) rfl<|wl_val (r_loadB1 ti49.und rfl rfl (hS7.heap Z0) rfl) rfl<|zC fn28 rfl (eqIr_b r.acs s.acs _ _ _ _ _ _ _ (hr.h2.st hS7) (hs.h2.st hS7) rfl rfl hr.ok.an) ?_
      rintro _ w8 (⟨hac, rfl, hx9⟩ | ⟨hac, rfl, hx9⟩)
      · have hS10 := hS7.ext hx9
        refine zq 2 rfl<|wl_val (r_field fa51_3 rfl) rfl<|wl_val (r_loadB1 ti42.und rfl rfl (hS10.heap Z1) rfl) rfl<|wl_val (r_field fa51_3 rfl) rfl<|wl_val (r_loadB1 ti42.und rfl rfl (hS10.heap Z0) rfl) rfl<|zC fn27 rfl (eqTr_b r.las s.las _ _ _ _ _ _ _ (hr.h3.st hS10) (hs.h3.st hS10) rfl rfl hr.ok.ln) ?_
        rintro _ w11 (⟨hla, rfl, hx12⟩ | ⟨hla, rfl, hx12⟩)
        · have hS13 := hS10.ext hx12
          refine zq 2 rfl<|wl_val (r_field fa51_4 rfl) rfl<|wl_val (r_loadB1 ti3.und rfl rfl (hS13.heap Z1) rfl) rfl<|wl_val (r_field fa51_4 rfl) rfl<|wl_val (r_loadB1 ti3.und rfl rfl (hS13.heap Z0) rfl) rfl ?_
          refine wl_dec (r_eql rfl rfl) rfl (fun h1_31 => ?_) (fun h1_31 => ?_)
          · refine zq 2 rfl<|wl_val (r_field fa51_5 rfl) rfl<|wl_val (r_loadB1 ti3.und rfl rfl (hS13.heap Z1) rfl) rfl<|wl_val (r_field fa51_5 rfl) rfl<|wl_val (r_loadB1 ti3.und rfl rfl (hS13.heap Z0) rfl) rfl ?_
            refine wl_dec (r_eql rfl rfl) rfl (fun h1_38 => ?_) (fun h1_38 => ?_)
            · refine zq 2 rfl<|wl_val (r_field fa51_6 rfl) rfl<|wl_val (r_loadB1 ti3.und rfl rfl (hS13.heap Z1) rfl) rfl<|wl_val (r_field fa51_6 rfl) rfl<|wl_val (r_loadB1 ti3.und rfl rfl (hS13.heap Z0) rfl) rfl ?_
              refine wl_dec (r_eql rfl rfl) rfl (fun h1_45 => ?_) (fun h1_45 => ?_)
              · refine zq 2 rfl<|wl_val (r_field fa51_7 rfl) rfl<|wl_val (r_loadB1 ti9.und rfl rfl (hS13.heap Z1) rfl) rfl<|wl_val (r_field fa51_7 rfl) rfl<|wl_val (r_loadB1 ti9.und rfl rfl (hS13.heap Z0) rfl) rfl ?_
                refine wl_dec (r_eqlStrL rfl rfl) rfl (fun h1_52 => ?_) (fun h1_52 => ?_)
                · refine zq 2 rfl<|zN<|zT<|zU<|ret1 Tryz.results26 ?_
                  have hF := hS13; exact sameRuleR_b_c0
                refine zq 2 rfl<|zN<|zT<|zU<|ret1 Tryz.results26 ?_
                have hF := hS13; exact sameRuleR_b_c0
              refine zq 9 rfl<|zN<|zT<|zU<|ret1 Tryz.results26 ?_
              have hF := hS13; exact sameRuleR_b_c0
            refine zq 16 rfl<|zN<|zT<|zU<|ret1 Tryz.results26 ?_
            have hF := hS13; exact sameRuleR_b_c0
          refine zq 23 rfl<|zN<|zT<|zU<|ret1 Tryz.results26 ?_
          have hF := hS13; exact sameRuleR_b_c0
        have hS13 := hS10.ext hx12; refine zq 30 rfl<|zN<|zT<|zU<|ret1 Tryz.results26 ?_
        have hF := hS13; exact sameRuleR_b_c0
      have hS10 := hS7.ext hx9; refine zq 37 rfl<|zN<|zT<|zU<|ret1 Tryz.results26 ?_
      have hF := hS10; exact sameRuleR_b_c0
    have hS7 := hS4.ext hx6; refine zq 44 rfl<|zN<|zT<|zU<|ret1 Tryz.results26 ?_
    have hF := hS7; exact sameRuleR_b_c0
  refine zq 50 rfl<|zN<|zT<|zU<|ret1 Tryz.results26 ?_
  have hF := hS4; exact sameRuleR_b_c0

theorem eqRulesP_b_c0 {p : Prop} (h : p := by first | exact .inr ⟨fun e => absurd (congrArg List.length e) (by rw [List.length_map, List.length_map]; omega), rfl, hF.fin⟩ | exact .inr ⟨fun e => hsm (map_nrmR_gt e Om), rfl, hF.fin⟩ | exact .inl ⟨map_nrmR_of Om (fun j hj => hall j Om), rfl, hF.fin⟩) : p := h
set_option maxHeartbeats 2000000 in
theorem eqRulesP_b (xs ys : List RuleD) (a1 a2 : Option Addr) (c1 c2 : Nat) (w : World) (h1 : Row w a1 (xs.flatMap RuleD.v)) (h2 : Row w a2 (ys.flatMap RuleD.v)) (hA : ∀ q ∈ xs, RuleAt w q) (hB : ∀ q ∈ ys, RuleAt w q) (hn : xs.length ≤ 1000000) :
    Ret Tryz.prog 25 [.slice a1 xs.length c1, .slice a2 ys.length c2, .func (.func 31) #[] #[]] w (fun v w' => (xs.map nrmR = ys.map nrmR ∧ v = .bool true ∧ St w [] w' []) ∨ (¬ xs.map nrmR = ys.map nrmR ∧ v = .bool false ∧ St w [] w' [])) := by
  refine enter Tryz.func25 rfl Tryz.ntmps25 rfl ?_
  have hS := St.refl w []
  refine zS<|zR<|zq 1 rfl<|zN<|zT<|zS<|zS<|zR<|zq 1 rfl<|zV (r_len (T := 23) rfl ti23.und rfl _ rfl)<|zq 1 rfl<|zV (r_len (T := 23) rfl ti23.und rfl _ rfl) ?_
  refine wl_dec (r_neq rfl rfl) rfl (fun h1_4 => ?_) (fun h1_4 => ?_)
  · refine zN<|zT<|zt rfl<|zS<|zR<|zq 1 rfl<|zN<|zT<|zU<|zL<|ret1 Tryz.results25 ?_
    have hF := hS; exact eqRulesP_b_c0
  refine zN<|zT<|zf rfl<|zK<|zT<|zS<|zS<|zR<|zq 1 rfl<|zV (r_len (T := 23) rfl ti23.und rfl _ rfl)<|zq 1 rfl<|zN<|zT<|zI ?_
  refine c_loopE [1, 2, 15, 16] (fun d e w' => ∃ (k : Nat), Kw.look e 17 = vi k ∧ d = xs.length - k ∧ St w [] w' [] ∧ (k ≤ xs.length) ∧ (∀ j, j < k → nrmR (gt xs j) = nrmR (gt ys j))) (xs.length - 0) ?_ ?_
  · exact ⟨0, rfl, rfl, hS.fin, Nat.zero_le _, fun j hj => absurd hj (Nat.not_lt_zero _)⟩
  · rintro d4 e1 w2 ⟨k, hc0_17, rfl, hS3, hk, hall⟩ -
    refine c_set (d := 17) hc0_17<|zS<|zR ?_
    refine wl_dec (r_lss rfl rfl) rfl (fun h4_0 => ?_) (fun h4_0 => ?_)
    · refine zN<|zT<|zS<|zt rfl<|zK<|zT<|zS<|zI<|zS<|zR<|zq 1 rfl<|zV (r_ixF rule_v8 ti23.und ti51 rfl rfl (h1.st hS3) Ln Sd (by decide)) ?_
      refine zV (r_loadF rule_v8 ti51 ag51 rfl (h1.st hS3) Sd (by decide)) ?_; refine zA (C := [.bool false, .slice none 0 0, .slice none 0 0, .slice none 0 0, .int .i64 0, .int .i64 0, .int .i64 0, .string ⟨#[]⟩]) hS3 ti51 rfl fun bb8 w5 hS6=>zq 1 rfl<|zY (x_storeW [] hS6 ti51 rfl rfl (rule_v8 _) rfl (one_rule _)) ?_; intro w7 hS8; simp only [ca, na] at hS8; refine zN<|zT<|zS<|zR<|zq 2 rfl<|zV (r_ixF rule_v8 ti23.und ti51 rfl rfl (h2.st hS8) Ln Sd (by decide)) ?_; refine zV (r_loadF rule_v8 ti51 ag51 rfl (h2.st hS8) Sd (by decide)) ?_; refine zA (C := [.bool false, .slice none 0 0, .slice none 0 0, .slice none 0 0, .int .i64 0, .int .i64 0, .int .i64 0, .string ⟨#[]⟩]) hS8 ti51 rfl fun b9 w9 hS10=>zY (x_storeW [] hS10 ti51 rfl rfl (rule_v8 _) rfl (one_rule _)) ?_; intro w11 hS12; simp only [ca, na] at hS12; refine zN<|zT<|zS<|zR<|zV (r_move rfl)<|zV (r_loadB ti51 ag51 rfl (hS12.heap Z1) (rule_v8 _))<|zV (r_loadB ti51 ag51 rfl (hS12.heap Z0) (rule_v8 _))<|wl_call (r_callDyn fn31 rfl rfl) rfl (sameRuleP_b (gt xs k) (gt ys k) _ ((hA _ (gt_mem xs k Om)).st hS12) ((hB _ (gt_mem ys k Om)).st hS12)) ?_
      rintro _ w13 (⟨hsm, rfl, hx14⟩ | ⟨hsm, rfl, hx14⟩)
      · have hS15 := hS12.ext hx14
        refine zq 1 rfl<|zN<|zT<|zf rfl<|zK<|zJ<|zT<|zR<|zV (r_addn (b := 1) rfl rfl Om)<|zq 1 rfl<|zN<|zT ?_
        exact ⟨xs.length - (k + 1), _, by omega, rfl, ⟨k + 1, rfl, rfl, hS15.fin, by omega, fun j hj => (Nat.lt_succ_iff_lt_or_eq.1 hj).elim (hall j) (fun e => e ▸ hsm)⟩, ⟨rfl, rfl, rfl, rfl, trivial⟩⟩
      have hS15 := hS12.ext hx14; refine zq 1 rfl<|zN<|zT<|zt rfl<|zS<|zR<|zq 1 rfl<|zN<|zT<|zU<|zH<|zL<|zL<|zH<|zL<|ret1 Tryz.results25 ?_
      have hF := hS15; exact eqRulesP_b_c0
    refine zN<|zT<|zS<|zf rfl<|zO<|zM<|zM<|c_inE<|zT<|zS<|zR<|zq 1 rfl<|zN<|zT<|zU<|ret1 Tryz.results25 ?_
    have hF := hS3; exact eqRulesP_b_c0

theorem eqRulesR_b_c0 {p : Prop} (h : p := by first | exact .inr ⟨fun e => absurd (congrArg List.length e) (by rw [List.length_map, List.length_map]; omega), rfl, hF.fin⟩ | exact .inr ⟨fun e => hsm (map_nrmR_gt e Om), rfl, hF.fin⟩ | exact .inl ⟨map_nrmR_of Om (fun j hj => hall j Om), rfl, hF.fin⟩) : p := h
set_option maxHeartbeats 2000000 in
theorem eqRulesR_b (xs ys : List RuleD) (a1 a2 : Option Addr) (c1 c2 : Nat) (w : World) (h1 : Row w a1 (xs.flatMap RuleD.v)) (h2 : Row w a2 (ys.flatMap RuleD.v)) (hA : ∀ q ∈ xs, RuleAt w q) (hB : ∀ q ∈ ys, RuleAt w q) (hn : xs.length ≤ 1000000) :
    Ret Tryz.prog 25 [.slice a1 xs.length c1, .slice a2 ys.length c2, .func (.func 26) #[] #[]] w (fun v w' => (xs.map nrmR = ys.map nrmR ∧ v = .bool true ∧ St w [] w' []) ∨ (¬ xs.map nrmR = ys.map nrmR ∧ v = .bool false ∧ St w [] w' [])) := by
  refine enter Tryz.func25 rfl Tryz.ntmps25 rfl ?_
  have hS := St.refl w []
  refine zS<|zR<|zq 1 rfl<|zN<|zT<|zS<|zS<|zR<|zq 1 rfl<|zV (r_len (T := 23) rfl ti23.und rfl _ rfl)<|zq 1 rfl<|zV (r_len (T := 23) rfl ti23.und rfl _ rfl) ?_
  refine wl_dec (r_neq rfl rfl) rfl (fun h1_4 => ?_) (fun h1_4 => ?_)
  · refine zN<|zT<|zt rfl<|zS<|zR<|zq 1 rfl<|zN<|zT<|zU<|zL<|ret1 Tryz.results25 ?_
    have hF := hS; exact eqRulesR_b_c0
  refine zN<|zT<|zf rfl<|zK<|zT<|zS<|zS<|zR<|zq 1 rfl<|zV (r_len (T := 23) rfl ti23.und rfl _ rfl)<|zq 1 rfl<|zN<|zT<|zI ?_
  refine c_loopE [1, 2, 15, 16] (fun d e w' => ∃ (k : Nat), Kw.look e 17 = vi k ∧ d = xs.length - k ∧ St w [] w' [] ∧ (k ≤ xs.length) ∧ (∀ j, j < k → nrmR (gt xs j) = nrmR (gt ys j))) (xs.length - 0) ?_ ?_
  · exact ⟨0, rfl, rfl, hS.fin, Nat.zero_le _, fun j hj => absurd hj (Nat.not_lt_zero _)⟩
  · rintro d4 e1 w2 ⟨k, hc0_17, rfl, hS3, hk, hall⟩ -
    refine c_set (d := 17) hc0_17<|zS<|zR ?_
    refine wl_dec (r_lss rfl rfl) rfl (fun h4_0 => ?_) (fun h4_0 => ?_)
    · refine zN<|zT<|zS<|zt rfl<|zK<|zT<|zS<|zI<|zS<|zR<|zq 1 rfl<|zV (r_ixF rule_v8 ti23.und ti51 rfl rfl (h1.st hS3) Ln Sd (by decide)) ?_
      refine zV (r_loadF rule_v8 ti51 ag51 rfl (h1.st hS3) Sd (by decide)) ?_; refine zA (C := [.bool false, .slice none 0 0, .slice none 0 0, .slice none 0 0, .int .i64 0, .int .i64 0, .int .i64 0, .string ⟨#[]⟩]) hS3 ti51 rfl fun bb8 w5 hS6=>zq 1 rfl<|zY (x_storeW [] hS6 ti51 rfl rfl (rule_v8 _) rfl (one_rule _)) ?_; intro w7 hS8; simp only [ca, na] at hS8; refine zN<|zT<|zS<|zR<|zq 2 rfl<|zV (r_ixF rule_v8 ti23.und ti51 rfl rfl (h2.st hS8) Ln Sd (by decide)) ?_; refine zV (r_loadF rule_v8 ti51 ag51 rfl (h2.st hS8) Sd (by decide)) ?_; refine zA (C := [.bool false, .slice none 0 0, .slice none 0 0, .slice none 0 0, .int .i64 0, .int .i64 0, .int .i64 0, .string ⟨#[]⟩]) hS8 ti51 rfl fun b9 w9 hS10=>zY (x_storeW [] hS10 ti51 rfl rfl (rule_v8 _) rfl (one_rule _)) ?_; intro w11 hS12; simp only [ca, na] at hS12; refine zN<|zT<|zS<|zR<|zV (r_move rfl)<|zV (r_loadB ti51 ag51 rfl (hS12.heap Z1) (rule_v8 _))<|zV (r_loadB ti51 ag51 rfl (hS12.heap Z0) (rule_v8 _))<|wl_call (r_callDyn fn26 rfl rfl) rfl (sameRuleR_b (gt xs k) (gt ys k) _ ((hA _ (gt_mem xs k Om)).st hS12) ((hB _ (gt_mem ys k Om)).st hS12)) ?_
      rintro _ w13 (⟨hsm, rfl, hx14⟩ | ⟨hsm, rfl, hx14⟩)
      · have hS15 := hS12.ext hx14
        refine zq 1 rfl<|zN<|zT<|zf rfl<|zK<|zJ<|zT<|zR<|zV (r_addn (b := 1) rfl rfl Om)<|zq 1 rfl<|zN<|zT ?_
        exact ⟨xs.length - (k + 1), _, by omega, rfl, ⟨k + 1, rfl, rfl, hS15.fin, by omega, fun j hj => (Nat.lt_succ_iff_lt_or_eq.1 hj).elim (hall j) (fun e => e ▸ hsm)⟩, ⟨rfl, rfl, rfl, rfl, trivial⟩⟩
      have hS15 := hS12.ext hx14; refine zq 1 rfl<|zN<|zT<|zt rfl<|zS<|zR<|zq 1 rfl<|zN<|zT<|zU<|zH<|zL<|zL<|zH<|zL<|ret1 Tryz.results25 ?_
      have hF := hS15; exact eqRulesR_b_c0
    refine zN<|zT<|zS<|zf rfl<|zO<|zM<|zM<|c_inE<|zT<|zS<|zR<|zq 1 rfl<|zN<|zT<|zU<|ret1 Tryz.results25 ?_
    have hF := hS3; exact eqRulesR_b_c0

theorem samePolicy_b (xs ys : List RuleD) (a1 a2 : Option Addr) (c1 c2 : Nat) (w : World) (h1 : Row w a1 (xs.flatMap RuleD.v)) (h2 : Row w a2 (ys.flatMap RuleD.v)) (hA : ∀ q ∈ xs, RuleAt w q) (hB : ∀ q ∈ ys, RuleAt w q) (hn : xs.length ≤ 1000000) :
    Ret Tryz.prog 8 [.agg #[.slice a1 xs.length c1], .agg #[.slice a2 ys.length c2]] w (fun v w' => (xs.map nrmR = ys.map nrmR ∧ v = .bool true ∧ St w [] w' []) ∨ (¬ xs.map nrmR = ys.map nrmR ∧ v = .bool false ∧ St w [] w' [])) := by
  refine enter Tryz.func8 rfl Tryz.ntmps8 rfl ?_
  have hS := St.refl w []
  refine zS<|zR<|zB (v := .agg _) hS rfl rfl fun b2 w1 hS2=>zB (v := .agg _) hS2 rfl rfl fun b3 w3 hS4=>zq 1 rfl<|zN<|zT<|zS<|zR<|zF fa25_0 rfl ti23.und rfl (hS4.heap Z1) rfl rfl rfl<|zF fa25_0 rfl ti23.und rfl (hS4.heap Z0) rfl rfl rfl<|zC fn25 rfl (eqRulesR_b xs ys _ _ _ _ _ (h1.st hS4) (h2.st hS4) (fun q hq => (hA q hq).st hS4) (fun q hq => (hB q hq).st hS4) hn) ?_
  rintro _ w5 (⟨heq, rfl, hx6⟩ | ⟨heq, rfl, hx6⟩)
  · have hS7 := hS4.ext hx6
    refine zq 1 rfl<|zN<|zT<|zU<|ret1 Tryz.results8 ?_
    first | exact .inl ⟨heq, rfl, hS7.fin⟩ | exact .inr ⟨heq, rfl, hS7.fin⟩
  have hS7 := hS4.ext hx6; refine zq 1 rfl<|zN<|zT<|zU<|ret1 Tryz.results8 ?_
  first | exact .inl ⟨heq, rfl, hS7.fin⟩ | exact .inr ⟨heq, rfl, hS7.fin⟩

end Go.Proofs.YtjnnhlbfgnopiaaGreatDoor
end
section
namespace Go.Proofs.YtjnnhlbfgnopiaaGreatDoor
open Go.Kw
set_option linter.unusedVariables false
set_option linter.unusedSimpArgs false
set_option maxRecDepth 100000
theorem isSep_ok_c0 {p : Prop} (h : p := by first | exact ⟨congrArg Value.bool (show true = sepR r by unfold sepR; simp; omega), hF.fin⟩ | exact ⟨congrArg Value.bool (show false = sepR r by unfold sepR; simp; omega), hF.fin⟩) : p := h
theorem isSep_ok (r : Nat) (w : World) :
    Ret Tryz.prog 23 [.int .i32 (r : Int)] w (fun v w' => v = .bool (sepR r) ∧ St w [] w' []) := by
  refine enter Tryz.func23 rfl Tryz.ntmps23 rfl ?_
  have hS := St.refl w []
  refine zS<|zR<|zq 1 rfl<|zN<|zT<|zS<|zR<|zq 1 rfl ?_
  refine wl_dec (r_eql rfl rfl) rfl (fun h1_1 => ?_) (fun h1_1 => ?_)
  · refine zq 5 rfl<|zN<|zT<|zU<|ret1 Tryz.results23 ?_
    have hF := hS; exact isSep_ok_c0
  refine zq 2 rfl ?_
  refine wl_dec (r_eql rfl rfl) rfl (fun h1_4 => ?_) (fun h1_4 => ?_)
  · refine zq 2 rfl<|zN<|zT<|zU<|ret1 Tryz.results23 ?_
    have hF := hS; exact isSep_ok_c0
  refine zq 2 rfl<|zN<|zT<|zU<|ret1 Tryz.results23 ?_
  have hF := hS; exact isSep_ok_c0

theorem fieldsF_ok (l : List UInt8) (w : World) (hl : l.length ≤ 65536) : Ret Tryz.prog 22 [.string ⟨l.toArray⟩, .func (.func 23) #[] #[]] w (fun v w' => ∃ A : Nat, v = .slice (some ⟨A, 0, none⟩) (wordsB l).length (wordsB l).length ∧ St w [] w' [.row (.slice (some ⟨A, 0, none⟩) (wordsB l).length (wordsB l).length) 9 1 (wordsB l).length ((wordsB l).map sv)]) := by
  have hp : PredGrows Tryz.prog 23 #[] sepR w := fun W x hx hb => by
    have h : Calls Tryz.prog 23 [Value.int .i32 (x : Int)].toArray W (fun e w' => e = .returned (.bool (sepR x)) ∧ Go.RowKit.Below W.heap.size W w') := Calls.mono (isSep_ok x W) fun e w' ⟨v, he, hv, hS⟩ => ⟨by rw [he, hv], hS.below⟩
    exact h
  refine Calls.mono (Any.strings_FieldsFunc_grows Tryz.laysFieldsF 23 #[] (enters_of Tryz.func23 (by kernel_rfl) rfl) sepR ⟨l.toArray⟩ w (show l.length ≤ _ by omega) hp (by kernel_rfl) (by kernel_rfl)) ?_
  rintro e w' ⟨A, rfl, hA, hown, hb⟩
  refine ⟨_, rfl, A, by rw [wordsB_len], ?_⟩
  rw [fieldsP_words, wordsB_len] at hown
  exact st_own hown hb

theorem partWord_ok_c0 {p : Prop} (h : p := by first | exact ⟨congrArg Value.bool (decide_eq_true (parts_mem.1 hin)).symm, hF.fin⟩ | exact ⟨congrArg Value.bool (decide_eq_false (fun h => hin (parts_mem.2 h))).symm, hF.fin⟩) : p := h
theorem partWord_ok (x : List UInt8) (w : World) :
    Ret Tryz.prog 46 [.string ⟨(x).toArray⟩] w (fun v w' => v = .bool (isPart x) ∧ St w [] w' []) := by
  refine enter Tryz.func46 rfl Tryz.ntmps46 rfl ?_
  have hS := St.refl w []
  refine zS<|zR<|zq 1 rfl<|zN<|zT<|zS<|zR<|zX (x_lit (vs := ([kROLE, kACT, kON, kAT, kNEED].map sv)) hS ti42.und ti9 rfl rfl rfl (one_map _ fun _ => rfl) (by decide)) ?_; rintro _ w1 ⟨b3, rfl, hS2⟩; refine zq 1 rfl<|zC fn87 rfl (containsS_ok [kROLE, kACT, kON, kAT, kNEED] _ 5 5 x _ (Row.of_at (at_all (hS2.heap Z0))) rfl (by decide)) ?_
  rintro _ w3 (⟨hin, rfl, hx4⟩ | ⟨hin, rfl, hx4⟩)
  · have hS5 := hS2.ext hx4
    refine zq 1 rfl<|zN<|zT<|zU<|ret1 Tryz.results46 ?_
    have hF := hS5; exact partWord_ok_c0
  have hS5 := hS2.ext hx4; refine zq 1 rfl<|zN<|zT<|zU<|ret1 Tryz.results46 ?_
  have hF := hS5; exact partWord_ok_c0

theorem ractWords_ok (w : World) :
    Ret Tryz.prog 48 [] w (fun v w' => ∃ b, v = .slice (some ⟨b, 0, none⟩) 13 13 ∧ St w [] w' [.blk b (cl (([] :: actW).map sv) 9)]) := by
  refine enter Tryz.func48 rfl Tryz.ntmps48 rfl ?_
  have hS := St.refl w []
  refine zS<|zR<|zq 1 rfl<|zN<|zT<|zS<|zR<|zX (x_lit (vs := (([] :: actW).map sv)) hS ti42.und ti9 rfl rfl rfl (one_map _ fun _ => rfl) (by decide)) ?_; rintro _ w1 ⟨b1, rfl, hS2⟩; refine zq 1 rfl<|zN<|zT<|zU<|ret1 Tryz.results48 ?_
  exact ⟨b1, rfl, hS2⟩

theorem small_ok_c0 {p : Prop} (h : p := by first | exact absurd (e4.symm.trans hat) (by decide) | omega | exact h2_16 (by rw [e0]; exact e3)) : p := h
theorem small_ok (s : List UInt8) (w : World) (hl : s.length ≤ 1048576) (hv : VF w) :
    Ret Tryz.prog 49 [.string ⟨(s).toArray⟩] w (fun v w' => (numOk s = true ∧ v = .tuple #[vi (numV s), .bool true] ∧ St w [] w' []) ∨ (numOk s = false ∧ (∃ n : Int, v = .tuple #[.int .i64 n, .bool false]) ∧ St w [] w' [])) := by
  refine enter Tryz.func49 rfl Tryz.ntmps49 rfl ?_
  have hS := St.refl w []
  refine zS<|zR<|zq 2 rfl<|zN<|zT<|zS<|zR<|zq 1 rfl<|zC fn88 rfl (atoi_ok s _ hl (hv.st hS)) ?_
  rintro _ w1 (⟨hat, rfl, hx2⟩ | ⟨hat, te, pe, rfl, hx2⟩)
  · have hS3 := hS.ext hx2
    refine zq 2 rfl<|zV (r_extract rfl rfl)<|zq 1 rfl<|zV (r_assign rfl)<|zN<|zT<|zS<|zR<|zq 1 rfl<|zV (r_move rfl)<|zV (r_eqlNil ti94.und rfl rfl)<|zq 2 rfl ?_
    refine wl_dec (r_geq rfl rfl) rfl (fun h2_5 => ?_) (fun h2_5 => ?_)
    · refine zq 3 rfl<|wl_val (r_lenStrL (T := 9) rfl ti9.und rfl _ rfl) rfl ?_
      refine wl_dec (r_leq rfl rfl) rfl (fun h2_10 => ?_) (fun h2_10 => ?_)
      · refine zq 3 rfl<|zE fn64 rfl hS3 (itoa_ok _ _ (atoiE_in s).1 (atoiE_in s).2 (hv.st hS3)) fun w4 hS6=>zq 1 rfl ?_
        refine wl_dec (r_eqlStrL rfl rfl) rfl (fun h2_16 => ?_) (fun h2_16 => ?_)
        · refine zq 3 rfl<|zN<|zT<|zU<|ret2 Tryz.results49 rfl rfl ?_
          have hs := small_iff (s := s) (n := (atoiE s).1) (Prod.ext rfl hat) h2_5 Om h2_16
          exact .inl ⟨hs.1, congrArg (fun z => Value.tuple #[.int .i64 z, .bool true]) hs.2.symm, hS6.fin⟩
        refine zq 3 rfl<|zN<|zT<|zU<|ret2 Tryz.results49 rfl rfl ?_
        have hfb : numOk s = false := by
          cases hnum : numOk s with
          | false => rfl
          | true =>
            exfalso
            obtain ⟨e1, e2, e3⟩ := small_of hnum
            have e0 : (atoiE s).1 = ((numV s : Nat) : Int) := by rw [e1]
            have e4 : (atoiE s).2 = true := by rw [e1]
            exact small_ok_c0
        exact .inr ⟨hfb, ⟨_, rfl⟩, hS6.fin⟩
      refine zq 9 rfl<|zN<|zT<|zU<|ret2 Tryz.results49 rfl rfl ?_
      have hfb : numOk s = false := by
        cases hnum : numOk s with
        | false => rfl
        | true =>
          exfalso
          obtain ⟨e1, e2, e3⟩ := small_of hnum
          have e0 : (atoiE s).1 = ((numV s : Nat) : Int) := by rw [e1]
          have e4 : (atoiE s).2 = true := by rw [e1]
          exact small_ok_c0
      exact .inr ⟨hfb, ⟨_, rfl⟩, hS3.fin⟩
    refine zq 14 rfl<|zN<|zT<|zU<|ret2 Tryz.results49 rfl rfl ?_
    have hfb : numOk s = false := by
      cases hnum : numOk s with
      | false => rfl
      | true =>
        exfalso
        obtain ⟨e1, e2, e3⟩ := small_of hnum
        have e0 : (atoiE s).1 = ((numV s : Nat) : Int) := by rw [e1]
        have e4 : (atoiE s).2 = true := by rw [e1]
        exact small_ok_c0
    exact .inr ⟨hfb, ⟨_, rfl⟩, hS3.fin⟩
  have hS3 := hS.ext hx2; refine zq 2 rfl<|zV (r_extract rfl rfl)<|zq 1 rfl<|zV (r_assign rfl)<|zN<|zT<|zS<|zR<|zq 1 rfl<|zV (r_move rfl)<|zV (r_eqlErr ti94.und rfl rfl)<|zq 17 rfl<|zN<|zT<|zU<|ret2 Tryz.results49 rfl rfl ?_
  have hfb : numOk s = false := by
    cases hnum : numOk s with
    | false => rfl
    | true =>
      exfalso
      obtain ⟨e1, e2, e3⟩ := small_of hnum
      have e0 : (atoiE s).1 = ((numV s : Nat) : Int) := by rw [e1]
      have e4 : (atoiE s).2 = true := by rw [e1]
      exact small_ok_c0
  exact .inr ⟨hfb, ⟨_, rfl⟩, hS3.fin⟩

theorem secOk_dec {k : List UInt8} {ws : Ws} (hh : headIs k ws = true) : decide ((0 : Int) < (((tkP ws.tail).length : Nat) : Int)) = secOk k ws := by
  by_cases h : 0 < (tkP ws.tail).length
  · rw [secOk_y hh h]; exact decide_eq_true (by omega)
  · rw [secOk_n hh h]; exact decide_eq_false (by omega)

theorem rlist_ok_c0 {p : Prop} (h : p := by exact ⟨_, c - 1, _, c - 1 - (tkP ws.tail).length, congrArg (fun b => Value.tuple #[.slice (Kw.sub a c 1 1) (tkP ws.tail).length (c - 1), .bool b]) (secOk_dec hh), (hsub.tl hc).tk, by have := tkP_len ws.tail; omega, (hsub.tl hc).dr hcl, by rw [drP_eq, List.length_drop]; omega, by rw [drP_eq, List.length_drop]; exact hF⟩) : p := h
set_option maxHeartbeats 1000000 in
theorem rlist_ok (w0 : World) (LT : List Kw.Item) (r : Nat) (k : List UInt8) (a0 : Option Addr) (ws0 ws : Ws) (a : Option Addr) (c : Nat) (w : World) (hS0 : St w0 [] w (.blk r (cl [.slice a (ws).length c] 42) :: LT)) (hb : Row w0 a0 (ws0.map sv)) (hsub : Sub a0 ws0 a ws) (hc : ws.length ≤ c) (hn : ws.length ≤ 140737488351232) :
    Ret Tryz.prog 45 [.string ⟨(k).toArray⟩, pt r 0] w (fun v w' => ∃ al cz a' c', v = .tuple #[.slice al (secA k ws).length cz, .bool (secOk k ws)] ∧ Sub a0 ws0 al (secA k ws) ∧ (secA k ws).length ≤ cz ∧ Sub a0 ws0 a' (secR k ws) ∧ (secR k ws).length ≤ c' ∧ St w0 [] w' (.blk r (cl [.slice a' (secR k ws).length c'] 42) :: LT)) := by
  have hW : Row w0 a (ws.map sv) := hsub _ hb
  have hW2 : Row w0 (Kw.sub a c 1 1) (ws.tail.map sv) := hsub.tl hc _ hb
  refine enter Tryz.func45 rfl Tryz.ntmps45 rfl ?_
  have hS := hS0
  refine zS<|zR<|zq 2 rfl<|zN<|zT<|zS<|zS<|zR<|zV (r_loadB1 ti42.und rfl rfl (hS.heap Z0) rfl)<|zV (r_len (T := 42) rfl ti42.und rfl _ rfl) ?_
  refine wl_dec (r_eql rfl rfl) rfl (fun h1_2 => ?_) (fun h1_2 => ?_)
  · refine zq 7 rfl<|zN<|zT<|zt rfl<|zS<|zR<|zq 2 rfl<|zN<|zT<|zU<|zL<|ret2 Tryz.results45 rfl rfl ?_
    have hh : headIs k ws = false := by first | exact headIs_e Om | exact headIs_n h1_8 Om
    rw [secA_f hh, secOk_f hh, secR_f hh]
    exact ⟨none, 0, a, c, rfl, Sub.nil, Nat.le_refl _, hsub, hc, hS⟩
  refine zq 1 rfl<|wl_val (r_loadB1 ti42.und rfl rfl (hS.heap Z0) rfl) rfl<|wl_val (r_ixS (m := 0) ti42.und ti9 rfl rfl (hW.st hS) Sd Ln) rfl ?_; refine wl_val (r_loadS1 ti9.und rfl rfl (hW.st hS) (by rw [Nat.mul_one]; exact map_gt _ _ _ Sd)) rfl ?_; refine zq 1 rfl ?_
  refine wl_dec (r_neqStrL rfl rfl) rfl (fun h1_8 => ?_) (fun h1_8 => ?_)
  · refine zq 1 rfl<|zN<|zT<|zt rfl<|zS<|zR<|zq 2 rfl<|zN<|zT<|zU<|zL<|ret2 Tryz.results45 rfl rfl ?_
    have hh : headIs k ws = false := by first | exact headIs_e Om | exact headIs_n h1_8 Om
    rw [secA_f hh, secOk_f hh, secR_f hh]
    exact ⟨none, 0, a, c, rfl, Sub.nil, Nat.le_refl _, hsub, hc, hS⟩
  refine zq 1 rfl<|zN<|zT<|zf rfl<|zK<|zT<|zS<|zR<|zV (r_loadB1 ti42.und rfl rfl (hS.heap Z0) rfl)<|zV (r_sl_l (l := 1) ti42.und ti9 rfl rfl Om)<|zY (x_store1 [] hS ti42 rfl rfl rfl (by simp)) ?_; intro w1 hS2; simp only [ca, na] at hS2; refine zN<|zT<|zS ?_
  have hh := headIs_t (k := k) (ws := ws) Om (Classical.not_not.1 h1_8)
  rw [show ws.length - 1 = ws.tail.length from List.length_tail.symm] at hS2
  have hcl : ws.tail.length ≤ c - 1 := by rw [List.length_tail]; omega
  have htl : ws.tail.length + 1 = ws.length := by rw [List.length_tail]; omega
  refine zR<|zq 1 rfl<|zN<|zT<|zS<|zI ?_
  refine c_loopE [1, 3, 4] (fun d e w' => ∃ (n : Nat), Kw.look e 5 = vi n ∧ d = ws.tail.length - n ∧ St w0 [] w' (.blk r (cl [.slice (Kw.sub a c 1 1) (ws.tail).length (c - 1)] 42) :: LT) ∧ (n ≤ ws.tail.length) ∧ (∀ j, j < n → isPart (gt ws.tail j) = false) ∧ (ws.tail.length + 1 = ws.length)) (ws.tail.length - 0) ?_ ?_
  · exact ⟨0, rfl, rfl, hS2, Nat.zero_le _, (fun j hj => absurd hj (Nat.not_lt_zero _)), htl⟩
  · rintro d6 e3 w4 ⟨n, hc0_5, rfl, hS5, hnl, hno, htl⟩ -
    refine c_set (d := 5) hc0_5<|zS<|zS<|zR<|zq 1 rfl<|zV (r_loadB1 ti42.und rfl rfl (hS5.heap Z0) rfl)<|zV (r_len (T := 42) rfl ti42.und rfl _ rfl) ?_
    refine wl_dec (r_lss rfl rfl) rfl (fun h5_3 => ?_) (fun h5_3 => ?_)
    · refine zq 1 rfl<|wl_val (r_loadB1 ti42.und rfl rfl (hS5.heap Z0) rfl) rfl<|zq 1 rfl<|wl_val (r_ixS ti42.und ti9 rfl rfl (hW2.st hS5) Sd Ln) rfl ?_
      refine wl_val (r_loadS1 ti9.und rfl rfl (hW2.st hS5) (by rw [Nat.mul_one]; exact map_gt _ _ _ Sd)) rfl ?_; refine zC fn46 rfl ((partWord_ok _ _).br) ?_
      rintro _ w7 (⟨hbp, rfl, hx8⟩ | ⟨hbp, rfl, hx8⟩)
      · have hS9 := hS5.ext hx8
        refine zq 2 rfl<|zN<|zT<|zf rfl<|zO<|zM<|zM<|c_inE<|zT<|zS<|zR<|zV (r_loadB1 ti42.und rfl rfl (hS9.heap Z0) rfl)<|zq 1 rfl<|zV (r_sl_h ti42.und ti9 rfl rfl Om)<|zq 1 rfl<|zN<|zT<|zS<|zR<|zV (r_loadB1 ti42.und rfl rfl (hS9.heap Z0) rfl)<|zq 1 rfl<|zV (r_sl_l ti42.und ti9 rfl rfl Om)<|zY (x_store1 [] hS9 ti42 rfl rfl rfl (by simp)) ?_; intro w10 hS11; simp only [ca, na] at hS11; refine zN<|zT<|zS<|zR<|zq 2 rfl<|zV (r_gtr rfl rfl)<|zq 2 rfl<|zN<|zT<|zU<|ret2 Tryz.results45 rfl rfl ?_
        have ht : (tkP ws.tail).length = n := tkP_at hno hnl (by first | exact .inl Om | exact .inr hbp)
        subst ht
        have hh := hh
        rw [secA_t hh, secR_t hh]
        have hF := hS11; exact rlist_ok_c0
      have hS9 := hS5.ext hx8; refine zq 2 rfl<|zN<|zT<|zt rfl<|zK<|zT<|zI<|zR<|zq 1 rfl<|zV (r_addn (b := 1) rfl rfl Om)<|zq 1 rfl<|zN<|zJ<|zT ?_
      exact ⟨ws.tail.length - (n + 1), _, by omega, rfl, ⟨n + 1, rfl, rfl, hS9, by omega, (fun j hj => (Nat.lt_succ_iff_lt_or_eq.1 hj).elim (hno j) (fun e => e ▸ hbp)), htl⟩, ⟨rfl, rfl, rfl, trivial⟩⟩
    refine zq 8 rfl<|zN<|zT<|zf rfl<|zO<|zM<|zM<|c_inE<|zT<|zS<|zR<|zV (r_loadB1 ti42.und rfl rfl (hS5.heap Z0) rfl)<|zq 1 rfl<|zV (r_sl_h ti42.und ti9 rfl rfl Om)<|zq 1 rfl<|zN<|zT<|zS<|zR<|zV (r_loadB1 ti42.und rfl rfl (hS5.heap Z0) rfl)<|zq 1 rfl<|zV (r_sl_l ti42.und ti9 rfl rfl Om)<|zY (x_store1 [] hS5 ti42 rfl rfl rfl (by simp)) ?_; intro w12 hS13; simp only [ca, na] at hS13; refine zN<|zT<|zS<|zR<|zq 2 rfl<|zV (r_gtr rfl rfl)<|zq 2 rfl<|zN<|zT<|zU<|ret2 Tryz.results45 rfl rfl ?_
    have ht : (tkP ws.tail).length = n := tkP_at hno hnl (by first | exact .inl Om | exact .inr hbp)
    subst ht
    have hh := hh
    rw [secA_t hh, secR_t hh]
    have hF := hS13; exact rlist_ok_c0

end Go.Proofs.YtjnnhlbfgnopiaaGreatDoor
end
section
namespace Go.Proofs.YtjnnhlbfgnopiaaGreatDoor
open Go.Kw
set_option linter.unusedVariables false
set_option linter.unusedSimpArgs false
set_option maxRecDepth 100000
theorem i5 {i : Nat} (h : i < 5) : i = 0 ∨ i = 1 ∨ i = 2 ∨ i = 3 ∨ i = 4 := by omega
theorem begin_x {ws : Ws} (h1 : ¬ gt ws 0 = kALLOW) (h2 : ¬ gt ws 0 = kDENY) (h0 : 0 < ws.length) : beginOk ws = false := begin_n (headIs_n h2 h0) (headIs_n h1 h0)
theorem begin_y {ws : Ws} (h : gt ws 0 = kALLOW ∨ gt ws 0 = kDENY) (h0 : 0 < ws.length) : beginOk ws = true := by
  rcases h with h | h
  · exact begin_a (headIs_t h0 h)
  · exact begin_d (headIs_t h0 h)
theorem head_dec {ws : Ws} {k : List UInt8} (h0 : 0 < ws.length) : decide (gt ws 0 = k) = headIs k ws := by
  by_cases h : gt ws 0 = k
  · rw [headIs_t h0 h]; exact decide_eq_true h
  · rw [headIs_n h h0]; exact decide_eq_false h
theorem cut_le (s sep : List UInt8) : (Lib.cut s sep).1.length ≤ s.length ∧ (Lib.cut s sep).2.1.length ≤ s.length := by
  unfold Lib.cut
  split
  · exact ⟨by rw [List.length_take]; exact Nat.min_le_right _ _, by rw [List.length_drop]; exact Nat.sub_le _ _⟩
  · exact ⟨Nat.le_refl _, Nat.zero_le _⟩
theorem at_bad {t : Ws} (h0 : 0 < (secA kAT (wk3 t)).length) (h : ¬ (secA kAT (wk3 t)).length = 1 ∨ (Lib.cut (gt (secA kAT (wk3 t)) 0) [45]).2.2 = false ∨ numOk (Lib.cut (gt (secA kAT (wk3 t)) 0) [45]).1 = false ∨ numOk (Lib.cut (gt (secA kAT (wk3 t)) 0) [45]).2.1 = false) : atOk t = false := by
  unfold atOk hoursOk
  rw [sec_some h0]
  rcases h with h | h | h | h
  · rw [decide_eq_false h]; rfl
  · rw [h]; simp
  · rw [h]; simp
  · rw [h]; simp
theorem at_good {t : Ws} (h0 : 0 < (secA kAT (wk3 t)).length) (h1 : (secA kAT (wk3 t)).length = 1) (h2 : (Lib.cut (gt (secA kAT (wk3 t)) 0) [45]).2.2 = true) (h3 : numOk (Lib.cut (gt (secA kAT (wk3 t)) 0) [45]).1 = true) (h4 : numOk (Lib.cut (gt (secA kAT (wk3 t)) 0) [45]).2.1 = true) :
    atOk t = true ∧ ((numV (Lib.cut (gt (secA kAT (wk3 t)) 0) [45]).1 : Nat) : Int) = frT t ∧ ((numV (Lib.cut (gt (secA kAT (wk3 t)) 0) [45]).2.1 : Nat) : Int) = toT t := by
  unfold atOk hoursOk frT toT hrA hrB
  rw [sec_some h0, decide_eq_true h1, h2, h3, h4, numE_t h3, numE_t h4]
  exact ⟨rfl, rfl, rfl⟩
theorem at_none {t : Ws} (h : secOk kAT (wk3 t) = true) (h0 : ¬ 0 < (secA kAT (wk3 t)).length) : atOk t = true ∧ (0 : Int) = frT t ∧ (0 : Int) = toT t := by
  have hh := sec_none h (by omega)
  exact ⟨atOk_f hh, (frT_f hh).1.symm, (frT_f hh).2.symm⟩
theorem need_bad {t : Ws} (h0 : 0 < (secA kNEED (wk4 t)).length) (h : ¬ (secA kNEED (wk4 t)).length = 2 ∨ numOk (gt (secA kNEED (wk4 t)) 0) = false) : needOk t = false := by
  unfold needOk
  rw [sec_some h0]
  rcases h with h | h
  · rw [decide_eq_false h]; rfl
  · rw [h]; simp
theorem need_good {t : Ws} (h0 : 0 < (secA kNEED (wk4 t)).length) (h1 : (secA kNEED (wk4 t)).length = 2) (h2 : numOk (gt (secA kNEED (wk4 t)) 0) = true) : needOk t = true ∧ ((numV (gt (secA kNEED (wk4 t)) 0) : Nat) : Int) = ndT t ∧ gt (secA kNEED (wk4 t)) 1 = ofT t := by
  unfold needOk ndT ofT
  rw [sec_some h0, decide_eq_true h1, h2, numE_t h2]
  exact ⟨rfl, rfl, rfl⟩
theorem need_none {t : Ws} (h : secOk kNEED (wk4 t) = true) (h0 : ¬ 0 < (secA kNEED (wk4 t)).length) : needOk t = true ∧ (0 : Int) = ndT t ∧ [] = ofT t := by
  have hh := sec_none h (by omega)
  exact ⟨needOk_f hh, (ndT_f hh).1.symm, (ndT_f hh).2.symm⟩
theorem racts_step {l : Ws} {k : Nat} (hk : k < l.length) (h : gt l k ∈ actW) : (actsV (l.take k)).map iv ++ [vi (([] :: actW).idxOf (gt l k))] = (actsV (l.take (k + 1))).map iv := by
  rw [actsV_step hk, List.map_append, idx_cons h]; rfl

theorem parseRule_ok_c0 {p : Prop} (h : p := by exact ⟨_, rfl, ⟨(hF.perm ((List.Perm.cons _ (List.Perm.refl _)).trans (List.perm_middle (l₁ := [_])).symm)), begin_y (by first | exact .inl (Classical.not_not.1 h1_3) | exact .inr (Classical.not_not.1 h1_8)) hl0⟩, ⟨rfl, rfl, trivial⟩⟩) : p := h
theorem parseRule_ok_c1 {p : Prop} (h : p := by exact .inl ⟨ruleT_r (rest_acts (acts_n (l := (secA kACT (wk1 ws.tail))) (k := k) Om (by first | exact fun h => hinN (List.mem_cons_of_mem _ h) | exact idx_zero (by assumption)))), ⟨(⟨headIs kDENY ws, p1, secA kROLE ws.tail, q1, aa, List.replicate k 0, cb, p3, secA kON (wk2 ws.tail), q3, 0, 0, 0, []⟩ : RuleD), (show Value.tuple #[.agg #[.bool (headIs kDENY ws), .slice p1 (secA kROLE ws.tail).length q1, .slice aa k cb, .slice p3 (secA kON (wk2 ws.tail)).length q3, .int .i64 0, .int .i64 0, .int .i64 0, .string ⟨#[]⟩], .bool false] = _ from by (simp only [RuleD.v, List.length_replicate]; try rfl))⟩, hF.fin⟩) : p := h
theorem parseRule_ok_c2 {p : Prop} (h : p := by exact .inl ⟨ruleT_r (rest_at (at_bad Om (by first | exact .inl Om | exact .inr (.inl hcu) | exact .inr (.inr (.inl hsa)) | exact .inr (.inr (.inr hsb))))), ⟨(⟨headIs kDENY ws, p1, secA kROLE ws.tail, q1, _, actsV (secA kACT (wk1 ws.tail)), _, p3, secA kON (wk2 ws.tail), q3, _, _, _, _⟩ : RuleD), rfl⟩, hF.fin⟩) : p := h
theorem parseRule_ok_c3 {p : Prop} (h : p := by exact .inl ⟨ruleT_r (rest_need (need_bad Om (by first | exact .inl Om | exact .inr hsm))), ⟨(⟨headIs kDENY ws, p1, secA kROLE ws.tail, q1, _, actsV (secA kACT (wk1 ws.tail)), _, p3, secA kON (wk2 ws.tail), q3, _, _, _, _⟩ : RuleD), rfl⟩, hF.fin⟩) : p := h
set_option maxHeartbeats 4000000 in
theorem parseRule_ok (ws : Ws) (a : Option Addr) (c : Nat) (w : World) (hw : Row w a (ws.map sv)) (hc0 : ws.length ≤ c) (hn : ws.length ≤ 100000) (hll : ∀ s ∈ ws.tail, s.length ≤ 65536) (hv : VF w) (hl0 : 0 < ws.length) :
    Ret Tryz.prog 24 [.slice a ws.length c] w (fun v w' => (ruleT ws = none ∧ (∃ r : RuleD, v = .tuple #[.agg r.v.toArray, .bool false]) ∧ St w [] w' []) ∨ (∃ r : RuleD, ruleT ws = some (nrmR r) ∧ RuleOk r ∧ Sub a ws r.ra r.ro ∧ Sub a ws r.la r.las ∧ v = .tuple #[.agg r.v.toArray, .bool true] ∧ St w [] w' [.row (.slice r.aa r.acs.length r.ak) 3 1 r.acs.length (r.acs.map iv)])) := by
  have hw2 : Row w (Kw.sub a c 1 1) (ws.tail.map sv) := (Sub.refl a ws).tl hc0 w hw
  have htl : ws.tail.length + 1 = ws.length := by rw [List.length_tail]; omega
  refine enter Tryz.func24 rfl Tryz.ntmps24 rfl ?_
  have hS := St.refl w []
  refine zS<|zR<|zB (v := .slice _ _ _) hS rfl rfl fun b1 w1 hS2=>zA (C := [.bool false, .slice none 0 0, .slice none 0 0, .slice none 0 0, .int .i64 0, .int .i64 0, .int .i64 0, .string ⟨#[]⟩]) hS2 ti51 rfl fun b2 w3 hS4=>zq 1 rfl<|zN<|zT ?_
  refine c_cutE [1, 2] (fun e w' => St w [] w' [.blk b1 (cl [.slice a (ws).length c] 42), .blk b2 (cl [.bool false, .slice none 0 0, .slice none 0 0, .slice none 0 0, .int .i64 0, .int .i64 0, .int .i64 0, .string ⟨#[]⟩] 51)] ∧ (beginOk ws = true)) ?_ ?_
  · refine zS<|zR<|zV (r_loadB1 ti42.und rfl rfl (hS4.heap Z1) rfl)<|zV (r_ixS (m := 0) ti42.und ti9 rfl rfl (hw.st hS4) Sd Ln) ?_
    refine zV (r_loadS1 ti9.und rfl rfl (hw.st hS4) (by rw [Nat.mul_one]; exact map_gt _ _ _ Sd)) ?_
    refine wl_dec (r_neqStrL rfl rfl) rfl (fun h1_3 => ?_) (fun h1_3 => ?_)
    · refine zq 1 rfl<|wl_val (r_loadB1 ti42.und rfl rfl (hS4.heap Z1) rfl) rfl<|wl_val (r_ixS (m := 0) ti42.und ti9 rfl rfl (hw.st hS4) Sd Ln) rfl ?_
      refine wl_val (r_loadS1 ti9.und rfl rfl (hw.st hS4) (by rw [Nat.mul_one]; exact map_gt _ _ _ Sd)) rfl ?_
      refine wl_dec (r_neqStrL rfl rfl) rfl (fun h1_8 => ?_) (fun h1_8 => ?_)
      · refine zq 1 rfl<|zN<|zT<|zt rfl<|zS<|zR<|zV (r_loadB ti51 ag51 rfl (hS4.heap Z0) Ln) ?_
        refine zY (x_storeW [] hS4 ti51 rfl rfl rfl rfl (one_all rfl)) ?_; intro w9 hS10; simp only [ca, na] at hS10; refine zq 1 rfl<|zN<|zT<|zU<|zL<|ret2 Tryz.results24 ⟨_, rfl, run_loadVar_blk ti51 ag51 (hS10.heap Z0) rfl⟩ rfl ?_
        exact .inl ⟨ruleT_b (begin_x h1_3 h1_8 hl0), ⟨(⟨false, none, [], 0, none, [], 0, none, [], 0, 0, 0, 0, []⟩ : RuleD), rfl⟩, hS10.fin⟩
      refine zq 1 rfl<|zN<|zT<|zf rfl<|zK<|zT ?_
      have hF := hS4; exact parseRule_ok_c0
    refine zq 6 rfl<|zN<|zT<|zf rfl<|zK<|zT ?_
    have hF := hS4; exact parseRule_ok_c0
  · rintro e5 w6 ⟨hS7, hbg⟩ -
    refine zS<|zR<|zV (r_loadB1 ti42.und rfl rfl (hS7.heap Z0) rfl)<|zV (r_ixS (m := 0) ti42.und ti9 rfl rfl (hw.st hS7) Sd Ln) ?_; refine zV (r_loadS1 ti9.und rfl rfl (hw.st hS7) (by rw [Nat.mul_one]; exact map_gt _ _ _ Sd)) ?_; refine zV (r_eqlStrL rfl rfl)<|zV (r_field fa51_0 rfl)<|zY (x_store1 [_] hS7 ti4 rfl rfl rfl (by simp)) ?_; intro w11 hS12; simp only [ca, na] at hS12; refine zN<|zT<|zS ?_
    rw [head_dec hl0] at hS12
    refine zR<|zV (r_loadB1 ti42.und rfl rfl (hS12.heap Z0) rfl)<|zV (r_sl_l (l := 1) ti42.und ti9 rfl rfl Om)<|zY (x_store1 [] hS12 ti42 rfl rfl rfl (by simp)) ?_; intro w13 hS14; simp only [ca, na] at hS14; refine zN<|zT<|zS ?_
    rw [show ws.length - 1 = ws.tail.length from List.length_tail.symm] at hS14
    refine zR<|zV (r_makeFunc (vs := [pt b1 0]) rfl)<|zV (r_assign rfl)<|zN<|zT<|zS<|zR<|zA (C := [.slice none 0 0]) hS14 ti42 rfl fun b5 w15 hS16=>zA (C := [.slice none 0 0]) hS16 ti42 rfl fun b6 w17 hS18=>zA (C := [.slice none 0 0]) hS18 ti42 rfl fun b7 w19 hS20=>zN<|zT<|zS<|zS<|zR<|zV (r_field fa51_1 rfl)<|zV (r_field fa51_3 rfl)<|zX (x_lit (vs := [.pointer _, .pointer _, .pointer _, .pointer _, .pointer _]) hS20 ti82.und ti81 rfl rfl rfl (by intro c hc; simp only [List.mem_cons, List.not_mem_nil, or_false] at hc; rcases hc with rfl | rfl | rfl | rfl | rfl <;> rfl) (by decide)) ?_; rintro _ w21 ⟨b39, rfl, hS22⟩; refine zV (r_len (T := 82) rfl ti82.und rfl _ rfl)<|zq 1 rfl<|zN<|zT<|zI ?_
    refine c_loopE [1, 2, 4, 5, 6, 7, 39, 40] (fun d e w' => ∃ (i : Nat) (u : Ws) (a1 : Option Addr) (c1 : Nat) (x1 x2 x3 x4 x5 : Ws) (p1 p2 p3 p4 p5 : Option Addr) (q1 q2 q3 q4 q5 : Nat), Kw.look e 41 = vi i ∧ d = 5 - i ∧ St w [] w' [.blk b1 (cl [.slice a1 (u).length c1] 42), .blk b2 (cl [.bool (headIs kDENY ws), .slice p1 (x1).length q1, .slice none 0 0, .slice p3 (x3).length q3, .int .i64 0, .int .i64 0, .int .i64 0, .string ⟨#[]⟩] 51), .blk b5 (cl [.slice p2 x2.length q2] 42), .blk b6 (cl [.slice p4 x4.length q4] 42), .blk b7 (cl [.slice p5 x5.length q5] 42), .blk b39 (cl [pt b2 1, pt b5 0, pt b2 3, pt b6 0, pt b7 0] 81)] ∧ (i ≤ 5) ∧ (u = uu ws.tail i) ∧ (Sub a ws a1 u) ∧ (u.length ≤ c1) ∧ (x1 = if 0 < i then secA kROLE ws.tail else []) ∧ (x2 = if 1 < i then secA kACT (wk1 ws.tail) else []) ∧ (x3 = if 2 < i then secA kON (wk2 ws.tail) else []) ∧ (x4 = if 3 < i then secA kAT (wk3 ws.tail) else []) ∧ (x5 = if 4 < i then secA kNEED (wk4 ws.tail) else []) ∧ (Sub a ws p1 x1 ∧ Sub a ws p2 x2 ∧ Sub a ws p3 x3 ∧ Sub a ws p4 x4 ∧ Sub a ws p5 x5) ∧ (x1.length ≤ q1 ∧ x2.length ≤ q2 ∧ x3.length ≤ q3 ∧ x4.length ≤ q4 ∧ x5.length ≤ q5) ∧ ((0 < i → secOk kROLE ws.tail = true) ∧ (1 < i → secOk kACT (wk1 ws.tail) = true) ∧ (2 < i → secOk kON (wk2 ws.tail) = true) ∧ (3 < i → secOk kAT (wk3 ws.tail) = true) ∧ (4 < i → secOk kNEED (wk4 ws.tail) = true))) (5 - 0) ?_ ?_
    · exact ⟨0, ws.tail, _, c - 1, [], [], [], [], [], none, none, none, none, none, 0, 0, 0, 0, 0, rfl, rfl, (hS22.perm ((List.Perm.cons _ ((List.Perm.cons _ ((List.Perm.cons _ ((List.Perm.cons _ ((List.Perm.cons _ (List.Perm.refl _)).trans (List.perm_middle (l₁ := [_])).symm)).trans (List.perm_middle (l₁ := [_, _])).symm)).trans (List.perm_middle (l₁ := [_, _, _])).symm)).trans (List.perm_middle (l₁ := [_, _, _, _])).symm)).trans (List.perm_middle (l₁ := [_, _, _, _])).symm)), by decide, rfl, (Sub.refl a ws).tl hc0, by omega, rfl, rfl, rfl, rfl, rfl, ⟨Sub.nil, Sub.nil, Sub.nil, Sub.nil, Sub.nil⟩, ⟨Nat.le_refl _, Nat.le_refl _, Nat.le_refl _, Nat.le_refl _, Nat.le_refl _⟩, ⟨fun h => absurd h (by decide), fun h => absurd h (by decide), fun h => absurd h (by decide), fun h => absurd h (by decide), fun h => absurd h (by decide)⟩⟩
    · rintro d26 e23 w24 ⟨i, u, a1, c1, x1, x2, x3, x4, x5, p1, p2, p3, p4, p5, q1, q2, q3, q4, q5, hc0_41, rfl, hS25, hi, hu, hs1, hc1, e1, e2, e3, e4, e5, ⟨hp1, hp2, hp3, hp4, hp5⟩, ⟨hq1, hq2, hq3, hq4, hq5⟩, ⟨hk1, hk2, hk3, hk4, hk5⟩⟩ -
      refine c_set (d := 41) hc0_41<|zS<|zR ?_
      refine wl_dec (r_lss rfl rfl) rfl (fun h8_0 => ?_) (fun h8_0 => ?_)
      · refine zN<|zT<|zS<|zt rfl<|zK<|zT<|zS<|zI<|zS ?_
        rcases i5 (i := i) Om with rfl | rfl | rfl | rfl | rfl
        · obtain rfl : u = ws.tail := hu
          refine zR<|zq 1 rfl<|zV (r_ixB ti82.und ti81 rfl rfl Sd) ?_; refine zV (r_loadB1 (v := pt b2 1) ti81.und rfl rfl (hS25.heap Z5) rfl)<|zq 2 rfl<|zN<|zT<|zS<|zR<|zq 1 rfl<|zV (r_move rfl)<|zX (x_lit (vs := ([kROLE, kACT, kON, kAT, kNEED].map sv)) hS25 ti42.und ti9 rfl rfl rfl (one_map _ fun _ => rfl) (by decide)) ?_; rintro _ w27 ⟨b49, rfl, hS28⟩; refine zq 1 rfl<|zV (r_ixB ti42.und ti9 rfl rfl Sd) ?_; refine zV (r_loadB1 (v := sv kROLE) ti9.und rfl rfl (hS28.heap Z0) rfl)<|wl_call (r_callDyn fn45 rfl rfl) rfl (rlist_ok w _ _ kROLE a ws ws.tail _ _ _ (hS28.perm ((List.Perm.cons _ (List.Perm.refl _)).trans (List.perm_middle (l₁ := [_])).symm)) hw hs1 hc1 (Nat.le_trans (show (ws.tail).length ≤ ws.tail.length from uu_le ws.tail 0) Om)) ?_; rintro _ w29 ⟨al, cz, a2, c2, rfl, hsa, hqa, hsr, hcr, hS30⟩; refine zq 3 rfl<|zV (r_nilCheck rfl)<|zY (x_store1 [_, _] hS30 ti42 rfl rfl rfl (by simp)) ?_; intro w31 hS32; simp only [ca, na] at hS32; refine zq 1 rfl<|zN<|zT<|zS ?_
          rcases bool_casesX (secOk kROLE ws.tail) with hok | hok
          · refine c_set (d := 3) (v := .bool true) (congrArg Value.bool hok)<|zR<|zq 2 rfl<|zN<|zT<|zf rfl<|zK<|zJ<|zT<|zR<|zV (r_addn (b := 1) rfl rfl Om)<|zq 1 rfl<|zN<|zT ?_
            exact ⟨5 - 1, _, by decide, rfl, ⟨1, _, a2, c2, _, x2, x3, x4, x5, al, p2, p3, p4, p5, cz, q2, q3, q4, q5, rfl, rfl, (hS32.perm ((List.Perm.cons _ (List.Perm.refl _)).trans (List.perm_middle (l₁ := [_])).symm)).drop1, by decide, rfl, hsr, hcr, (by rw [if_pos (by decide)]), (by rw [e2]; rfl), (by rw [e3]; rfl), (by rw [e4]; rfl), (by rw [e5]; rfl), ⟨hsa, hp2, hp3, hp4, hp5⟩, ⟨hqa, hq2, hq3, hq4, hq5⟩, fun _ => hok, fun h => absurd h (by decide), fun h => absurd h (by decide), fun h => absurd h (by decide), fun h => absurd h (by decide)⟩, ⟨rfl, rfl, rfl, rfl, rfl, rfl, rfl, rfl, trivial⟩⟩
          refine c_set (d := 3) (v := .bool false) (congrArg Value.bool hok)<|zR<|zq 2 rfl<|zN<|zT<|zt rfl<|zS<|zR<|zV (r_loadB ti51 ag51 rfl (hS32.heap Z2) Ln) ?_; refine zY (x_storeW [_, _] hS32 ti51 rfl rfl rfl rfl (one_all rfl)) ?_; intro w33 hS34; simp only [ca, na] at hS34; refine zq 1 rfl<|zN<|zT<|zU<|zH<|zL<|zL<|zH<|zL<|ret2 Tryz.results24 ⟨_, rfl, run_loadVar_blk ti51 ag51 (hS34.heap Z2) rfl⟩ rfl ?_
          exact .inl ⟨ruleT_r (rest_f1 hok), ⟨(⟨headIs kDENY ws, _, secA kROLE ws.tail, _, none, [], 0, _, x3, _, 0, 0, 0, []⟩ : RuleD), rfl⟩, hS34.fin⟩
        · obtain rfl : u = (wk1 ws.tail) := hu
          refine zR<|zq 1 rfl<|zV (r_ixB ti82.und ti81 rfl rfl Sd) ?_; refine zV (r_loadB1 (v := pt b5 0) ti81.und rfl rfl (hS25.heap Z5) rfl)<|zq 2 rfl<|zN<|zT<|zS<|zR<|zq 1 rfl<|zV (r_move rfl)<|zX (x_lit (vs := ([kROLE, kACT, kON, kAT, kNEED].map sv)) hS25 ti42.und ti9 rfl rfl rfl (one_map _ fun _ => rfl) (by decide)) ?_; rintro _ w35 ⟨b49, rfl, hS36⟩; refine zq 1 rfl<|zV (r_ixB ti42.und ti9 rfl rfl Sd) ?_; refine zV (r_loadB1 (v := sv kACT) ti9.und rfl rfl (hS36.heap Z0) rfl)<|wl_call (r_callDyn fn45 rfl rfl) rfl (rlist_ok w _ _ kACT a ws (wk1 ws.tail) _ _ _ (hS36.perm ((List.Perm.cons _ (List.Perm.refl _)).trans (List.perm_middle (l₁ := [_])).symm)) hw hs1 hc1 (Nat.le_trans (show ((wk1 ws.tail)).length ≤ ws.tail.length from uu_le ws.tail 1) Om)) ?_; rintro _ w37 ⟨al, cz, a2, c2, rfl, hsa, hqa, hsr, hcr, hS38⟩; refine zq 3 rfl<|zV (r_nilCheck rfl)<|zY (x_store1 [_, _, _] hS38 ti42 rfl rfl rfl (by simp)) ?_; intro w39 hS40; simp only [ca, na] at hS40; refine zq 1 rfl<|zN<|zT<|zS ?_
          rcases bool_casesX (secOk kACT (wk1 ws.tail)) with hok | hok
          · refine c_set (d := 3) (v := .bool true) (congrArg Value.bool hok)<|zR<|zq 2 rfl<|zN<|zT<|zf rfl<|zK<|zJ<|zT<|zR<|zV (r_addn (b := 1) rfl rfl Om)<|zq 1 rfl<|zN<|zT ?_
            exact ⟨5 - 2, _, by decide, rfl, ⟨2, _, a2, c2, x1, _, x3, x4, x5, p1, al, p3, p4, p5, q1, cz, q3, q4, q5, rfl, rfl, (hS40.perm ((List.Perm.cons _ (List.Perm.refl _)).trans (List.perm_middle (l₁ := [_])).symm)).drop1, by decide, rfl, hsr, hcr, (by rw [e1]; rfl), (by rw [if_pos (by decide)]), (by rw [e3]; rfl), (by rw [e4]; rfl), (by rw [e5]; rfl), ⟨hp1, hsa, hp3, hp4, hp5⟩, ⟨hq1, hqa, hq3, hq4, hq5⟩, fun _ => hk1 (by decide), fun _ => hok, fun h => absurd h (by decide), fun h => absurd h (by decide), fun h => absurd h (by decide)⟩, ⟨rfl, rfl, rfl, rfl, rfl, rfl, rfl, rfl, trivial⟩⟩
          refine c_set (d := 3) (v := .bool false) (congrArg Value.bool hok)<|zR<|zq 2 rfl<|zN<|zT<|zt rfl<|zS<|zR<|zV (r_loadB ti51 ag51 rfl (hS40.heap Z2) Ln) ?_; refine zY (x_storeW [_, _] hS40 ti51 rfl rfl rfl rfl (one_all rfl)) ?_; intro w41 hS42; simp only [ca, na] at hS42; refine zq 1 rfl<|zN<|zT<|zU<|zH<|zL<|zL<|zH<|zL<|ret2 Tryz.results24 ⟨_, rfl, run_loadVar_blk ti51 ag51 (hS42.heap Z2) rfl⟩ rfl ?_
          exact .inl ⟨ruleT_r (rest_f2 hok), ⟨(⟨headIs kDENY ws, _, x1, _, none, [], 0, _, x3, _, 0, 0, 0, []⟩ : RuleD), rfl⟩, hS42.fin⟩
        · obtain rfl : u = (wk2 ws.tail) := hu
          refine zR<|zq 1 rfl<|zV (r_ixB ti82.und ti81 rfl rfl Sd) ?_; refine zV (r_loadB1 (v := pt b2 3) ti81.und rfl rfl (hS25.heap Z5) rfl)<|zq 2 rfl<|zN<|zT<|zS<|zR<|zq 1 rfl<|zV (r_move rfl)<|zX (x_lit (vs := ([kROLE, kACT, kON, kAT, kNEED].map sv)) hS25 ti42.und ti9 rfl rfl rfl (one_map _ fun _ => rfl) (by decide)) ?_; rintro _ w43 ⟨b49, rfl, hS44⟩; refine zq 1 rfl<|zV (r_ixB ti42.und ti9 rfl rfl Sd) ?_; refine zV (r_loadB1 (v := sv kON) ti9.und rfl rfl (hS44.heap Z0) rfl)<|wl_call (r_callDyn fn45 rfl rfl) rfl (rlist_ok w _ _ kON a ws (wk2 ws.tail) _ _ _ (hS44.perm ((List.Perm.cons _ (List.Perm.refl _)).trans (List.perm_middle (l₁ := [_])).symm)) hw hs1 hc1 (Nat.le_trans (show ((wk2 ws.tail)).length ≤ ws.tail.length from uu_le ws.tail 2) Om)) ?_; rintro _ w45 ⟨al, cz, a2, c2, rfl, hsa, hqa, hsr, hcr, hS46⟩; refine zq 3 rfl<|zV (r_nilCheck rfl)<|zY (x_store1 [_, _] hS46 ti42 rfl rfl rfl (by simp)) ?_; intro w47 hS48; simp only [ca, na] at hS48; refine zq 1 rfl<|zN<|zT<|zS ?_
          rcases bool_casesX (secOk kON (wk2 ws.tail)) with hok | hok
          · refine c_set (d := 3) (v := .bool true) (congrArg Value.bool hok)<|zR<|zq 2 rfl<|zN<|zT<|zf rfl<|zK<|zJ<|zT<|zR<|zV (r_addn (b := 1) rfl rfl Om)<|zq 1 rfl<|zN<|zT ?_
            exact ⟨5 - 3, _, by decide, rfl, ⟨3, _, a2, c2, x1, x2, _, x4, x5, p1, p2, al, p4, p5, q1, q2, cz, q4, q5, rfl, rfl, (hS48.perm ((List.Perm.cons _ (List.Perm.refl _)).trans (List.perm_middle (l₁ := [_])).symm)).drop1, by decide, rfl, hsr, hcr, (by rw [e1]; rfl), (by rw [e2]; rfl), (by rw [if_pos (by decide)]), (by rw [e4]; rfl), (by rw [e5]; rfl), ⟨hp1, hp2, hsa, hp4, hp5⟩, ⟨hq1, hq2, hqa, hq4, hq5⟩, fun _ => hk1 (by decide), fun _ => hk2 (by decide), fun _ => hok, fun h => absurd h (by decide), fun h => absurd h (by decide)⟩, ⟨rfl, rfl, rfl, rfl, rfl, rfl, rfl, rfl, trivial⟩⟩
          refine c_set (d := 3) (v := .bool false) (congrArg Value.bool hok)<|zR<|zq 2 rfl<|zN<|zT<|zt rfl<|zS<|zR<|zV (r_loadB ti51 ag51 rfl (hS48.heap Z2) Ln) ?_; refine zY (x_storeW [_, _] hS48 ti51 rfl rfl rfl rfl (one_all rfl)) ?_; intro w49 hS50; simp only [ca, na] at hS50; refine zq 1 rfl<|zN<|zT<|zU<|zH<|zL<|zL<|zH<|zL<|ret2 Tryz.results24 ⟨_, rfl, run_loadVar_blk ti51 ag51 (hS50.heap Z2) rfl⟩ rfl ?_
          exact .inl ⟨ruleT_r (rest_f3 hok), ⟨(⟨headIs kDENY ws, _, x1, _, none, [], 0, _, secA kON (wk2 ws.tail), _, 0, 0, 0, []⟩ : RuleD), rfl⟩, hS50.fin⟩
        · obtain rfl : u = (wk3 ws.tail) := hu
          refine zR<|zq 1 rfl<|zV (r_ixB ti82.und ti81 rfl rfl Sd) ?_; refine zV (r_loadB1 (v := pt b6 0) ti81.und rfl rfl (hS25.heap Z5) rfl)<|zq 2 rfl<|zN<|zT<|zS<|zR<|zq 1 rfl<|zV (r_move rfl)<|zX (x_lit (vs := ([kROLE, kACT, kON, kAT, kNEED].map sv)) hS25 ti42.und ti9 rfl rfl rfl (one_map _ fun _ => rfl) (by decide)) ?_; rintro _ w51 ⟨b49, rfl, hS52⟩; refine zq 1 rfl<|zV (r_ixB ti42.und ti9 rfl rfl Sd) ?_; refine zV (r_loadB1 (v := sv kAT) ti9.und rfl rfl (hS52.heap Z0) rfl)<|wl_call (r_callDyn fn45 rfl rfl) rfl (rlist_ok w _ _ kAT a ws (wk3 ws.tail) _ _ _ (hS52.perm ((List.Perm.cons _ (List.Perm.refl _)).trans (List.perm_middle (l₁ := [_])).symm)) hw hs1 hc1 (Nat.le_trans (show ((wk3 ws.tail)).length ≤ ws.tail.length from uu_le ws.tail 3) Om)) ?_; rintro _ w53 ⟨al, cz, a2, c2, rfl, hsa, hqa, hsr, hcr, hS54⟩; refine zq 3 rfl<|zV (r_nilCheck rfl)<|zY (x_store1 [_, _, _, _] hS54 ti42 rfl rfl rfl (by simp)) ?_; intro w55 hS56; simp only [ca, na] at hS56; refine zq 1 rfl<|zN<|zT<|zS ?_
          rcases bool_casesX (secOk kAT (wk3 ws.tail)) with hok | hok
          · refine c_set (d := 3) (v := .bool true) (congrArg Value.bool hok)<|zR<|zq 2 rfl<|zN<|zT<|zf rfl<|zK<|zJ<|zT<|zR<|zV (r_addn (b := 1) rfl rfl Om)<|zq 1 rfl<|zN<|zT ?_
            exact ⟨5 - 4, _, by decide, rfl, ⟨4, _, a2, c2, x1, x2, x3, _, x5, p1, p2, p3, al, p5, q1, q2, q3, cz, q5, rfl, rfl, (hS56.perm ((List.Perm.cons _ (List.Perm.refl _)).trans (List.perm_middle (l₁ := [_])).symm)).drop1, by decide, rfl, hsr, hcr, (by rw [e1]; rfl), (by rw [e2]; rfl), (by rw [e3]; rfl), (by rw [if_pos (by decide)]), (by rw [e5]; rfl), ⟨hp1, hp2, hp3, hsa, hp5⟩, ⟨hq1, hq2, hq3, hqa, hq5⟩, fun _ => hk1 (by decide), fun _ => hk2 (by decide), fun _ => hk3 (by decide), fun _ => hok, fun h => absurd h (by decide)⟩, ⟨rfl, rfl, rfl, rfl, rfl, rfl, rfl, rfl, trivial⟩⟩
          refine c_set (d := 3) (v := .bool false) (congrArg Value.bool hok)<|zR<|zq 2 rfl<|zN<|zT<|zt rfl<|zS<|zR<|zV (r_loadB ti51 ag51 rfl (hS56.heap Z2) Ln) ?_; refine zY (x_storeW [_, _] hS56 ti51 rfl rfl rfl rfl (one_all rfl)) ?_; intro w57 hS58; simp only [ca, na] at hS58; refine zq 1 rfl<|zN<|zT<|zU<|zH<|zL<|zL<|zH<|zL<|ret2 Tryz.results24 ⟨_, rfl, run_loadVar_blk ti51 ag51 (hS58.heap Z2) rfl⟩ rfl ?_
          exact .inl ⟨ruleT_r (rest_f4 hok), ⟨(⟨headIs kDENY ws, _, x1, _, none, [], 0, _, x3, _, 0, 0, 0, []⟩ : RuleD), rfl⟩, hS58.fin⟩
        obtain rfl : u = (wk4 ws.tail) := hu
        refine zR<|zq 1 rfl<|zV (r_ixB ti82.und ti81 rfl rfl Sd) ?_; refine zV (r_loadB1 (v := pt b7 0) ti81.und rfl rfl (hS25.heap Z5) rfl)<|zq 2 rfl<|zN<|zT<|zS<|zR<|zq 1 rfl<|zV (r_move rfl)<|zX (x_lit (vs := ([kROLE, kACT, kON, kAT, kNEED].map sv)) hS25 ti42.und ti9 rfl rfl rfl (one_map _ fun _ => rfl) (by decide)) ?_; rintro _ w59 ⟨b49, rfl, hS60⟩; refine zq 1 rfl<|zV (r_ixB ti42.und ti9 rfl rfl Sd) ?_; refine zV (r_loadB1 (v := sv kNEED) ti9.und rfl rfl (hS60.heap Z0) rfl)<|wl_call (r_callDyn fn45 rfl rfl) rfl (rlist_ok w _ _ kNEED a ws (wk4 ws.tail) _ _ _ (hS60.perm ((List.Perm.cons _ (List.Perm.refl _)).trans (List.perm_middle (l₁ := [_])).symm)) hw hs1 hc1 (Nat.le_trans (show ((wk4 ws.tail)).length ≤ ws.tail.length from uu_le ws.tail 4) Om)) ?_; rintro _ w61 ⟨al, cz, a2, c2, rfl, hsa, hqa, hsr, hcr, hS62⟩; refine zq 3 rfl<|zV (r_nilCheck rfl)<|zY (x_store1 [_, _, _, _, _] hS62 ti42 rfl rfl rfl (by simp)) ?_; intro w63 hS64; simp only [ca, na] at hS64; refine zq 1 rfl<|zN<|zT<|zS ?_
        rcases bool_casesX (secOk kNEED (wk4 ws.tail)) with hok | hok
        · refine c_set (d := 3) (v := .bool true) (congrArg Value.bool hok)<|zR<|zq 2 rfl<|zN<|zT<|zf rfl<|zK<|zJ<|zT<|zR<|zV (r_addn (b := 1) rfl rfl Om)<|zq 1 rfl<|zN<|zT ?_
          exact ⟨5 - 5, _, by decide, rfl, ⟨5, _, a2, c2, x1, x2, x3, x4, _, p1, p2, p3, p4, al, q1, q2, q3, q4, cz, rfl, rfl, (hS64.perm ((List.Perm.cons _ (List.Perm.refl _)).trans (List.perm_middle (l₁ := [_])).symm)).drop1, by decide, rfl, hsr, hcr, (by rw [e1]; rfl), (by rw [e2]; rfl), (by rw [e3]; rfl), (by rw [e4]; rfl), (by rw [if_pos (by decide)]), ⟨hp1, hp2, hp3, hp4, hsa⟩, ⟨hq1, hq2, hq3, hq4, hqa⟩, fun _ => hk1 (by decide), fun _ => hk2 (by decide), fun _ => hk3 (by decide), fun _ => hk4 (by decide), fun _ => hok⟩, ⟨rfl, rfl, rfl, rfl, rfl, rfl, rfl, rfl, trivial⟩⟩
        refine c_set (d := 3) (v := .bool false) (congrArg Value.bool hok)<|zR<|zq 2 rfl<|zN<|zT<|zt rfl<|zS<|zR<|zV (r_loadB ti51 ag51 rfl (hS64.heap Z2) Ln) ?_; refine zY (x_storeW [_, _] hS64 ti51 rfl rfl rfl rfl (one_all rfl)) ?_; intro w65 hS66; simp only [ca, na] at hS66; refine zq 1 rfl<|zN<|zT<|zU<|zH<|zL<|zL<|zH<|zL<|ret2 Tryz.results24 ⟨_, rfl, run_loadVar_blk ti51 ag51 (hS66.heap Z2) rfl⟩ rfl ?_
        exact .inl ⟨ruleT_r (rest_f5 hok), ⟨(⟨headIs kDENY ws, _, x1, _, none, [], 0, _, x3, _, 0, 0, 0, []⟩ : RuleD), rfl⟩, hS66.fin⟩
      refine zN<|zT<|zS<|zf rfl<|zO<|zM<|zM<|c_inE<|zT<|zS<|zS ?_
      obtain rfl : i = 5 := by omega
      obtain rfl : u = wk5 ws.tail := hu
      obtain rfl : x1 = secA kROLE ws.tail := e1
      obtain rfl : x2 = secA kACT (wk1 ws.tail) := e2
      obtain rfl : x3 = secA kON (wk2 ws.tail) := e3
      obtain rfl : x4 = secA kAT (wk3 ws.tail) := e4
      obtain rfl : x5 = secA kNEED (wk4 ws.tail) := e5
      replace hk1 := hk1 (by decide)
      replace hk2 := hk2 (by decide)
      replace hk3 := hk3 (by decide)
      replace hk4 := hk4 (by decide)
      replace hk5 := hk5 (by decide)
      have hr2 := hp2 w hw
      have hr4 := hp4 w hw
      have hr5 := hp5 w hw
      refine zR<|zV (r_loadB1 ti42.und rfl rfl (hS25.heap Z0) rfl)<|zV (r_len (T := 42) rfl ti42.und rfl _ rfl) ?_
      refine wl_dec (r_gtr rfl rfl) rfl (fun h14_2 => ?_) (fun h14_2 => ?_)
      · refine zN<|zT<|zt rfl<|zS<|zR<|zV (r_loadB ti51 ag51 rfl (hS25.heap Z1) Ln) ?_
        refine zY (x_storeW [_] hS25 ti51 rfl rfl rfl rfl (one_all rfl)) ?_; intro w67 hS68; simp only [ca, na] at hS68; refine zq 1 rfl<|zN<|zT<|zU<|zL<|ret2 Tryz.results24 ⟨_, rfl, run_loadVar_blk ti51 ag51 (hS68.heap Z1) rfl⟩ rfl ?_
        exact .inl ⟨ruleT_r (restOk_l Om), ⟨(⟨headIs kDENY ws, p1, secA kROLE ws.tail, q1, none, [], 0, p3, secA kON (wk2 ws.tail), q3, 0, 0, 0, []⟩ : RuleD), rfl⟩, hS68.fin⟩
      refine zN<|zT<|zf rfl<|zK<|zT<|zS<|zS ?_
      have hlen : (wk5 ws.tail).length = 0 := by omega
      have hal := secA_le kACT (wk1 ws.tail)
      have hwl := w_le ws.tail
      refine zR<|zV (r_loadB1 ti42.und rfl rfl (hS25.heap Z2) rfl)<|zV (r_len (T := 42) rfl ti42.und rfl _ rfl)<|zq 1 rfl<|zN<|zT<|zI ?_
      refine c_loopE [2, 6, 7, 65, 66] (fun d e w' => ∃ (k : Nat) (aa : Option Addr) (cb : Nat), Kw.look e 67 = vi k ∧ d = (secA kACT (wk1 ws.tail)).length - k ∧ St w [] w' [.blk b2 (cl [.bool (headIs kDENY ws), .slice p1 ((secA kROLE ws.tail)).length q1, .slice aa k cb, .slice p3 ((secA kON (wk2 ws.tail))).length q3, .int .i64 0, .int .i64 0, .int .i64 0, .string ⟨#[]⟩] 51), .blk b5 (cl [.slice p2 (secA kACT (wk1 ws.tail)).length q2] 42), .blk b6 (cl [.slice p4 (secA kAT (wk3 ws.tail)).length q4] 42), .blk b7 (cl [.slice p5 (secA kNEED (wk4 ws.tail)).length q5] 42), .row (.slice aa k cb) 3 1 k ((actsV ((secA kACT (wk1 ws.tail)).take k)).map iv)] ∧ (k ≤ (secA kACT (wk1 ws.tail)).length) ∧ (∀ j, j < k → gt (secA kACT (wk1 ws.tail)) j ∈ actW) ∧ (k ≤ cb)) ((secA kACT (wk1 ws.tail)).length - 0) ?_ ?_
      · have hS99 := nilEnd (E := 3) (sz := 1) (hS25.perm (List.Perm.cons _ ((List.Perm.cons _ (List.Perm.refl _)).trans (List.perm_middle (l₁ := [_, _, _, _])).symm))).drop1.drop1
        exact ⟨0, none, 0, rfl, rfl, hS99, Nat.zero_le _, (fun j hj => absurd hj (Nat.not_lt_zero _)), Nat.le_refl _⟩
      · rintro d72 e69 w70 ⟨k, aa, cb, hc1_67, rfl, hS71, hk, hall, hkc⟩ -
        refine c_set (d := 67) hc1_67<|zS<|zR ?_
        refine wl_dec (r_lss rfl rfl) rfl (fun h17_0 => ?_) (fun h17_0 => ?_)
        · refine zN<|zT<|zS<|zt rfl<|zK<|zT<|zS<|zI<|zS<|zR<|zV (r_ixS ti42.und ti9 rfl rfl (hr2.st hS71) Sd Ln) ?_
          refine zV (r_loadS1 ti9.und rfl rfl (hr2.st hS71) (by rw [Nat.mul_one]; exact map_gt _ _ _ Sd)) ?_; refine zq 1 rfl<|zN<|zT<|zS<|zR<|zC fn48 rfl (ractWords_ok _) ?_; rintro _ w73 ⟨b71, rfl, hx74⟩
          have hS75 := hS71.call hx74
          simp only [ca, na] at hS75; refine zq 1 rfl<|zC fn47 rfl (indexAt_ok ([] :: actW) _ 13 13 (gt (secA kACT (wk1 ws.tail)) k) _ (Row.of_at (at_all (hS75.heap Z0))) rfl (by decide)) ?_
          rintro _ w76 (⟨hin, rfl, hx77⟩ | ⟨hinN, rfl, hx77⟩)
          · have hS78 := hS75.ext hx77
            refine zq 1 rfl<|zN<|zT<|zS<|zS<|zR<|zq 1 rfl ?_
            refine wl_dec (r_lss rfl rfl) rfl (fun h20_1 => ?_) (fun h20_1 => ?_)
            · refine zN<|zT<|zt rfl<|zS<|zR<|zV (r_loadB ti51 ag51 rfl (hS78.heap Z1) Ln) ?_
              refine zY (x_storeW [_] hS78 ti51 rfl rfl rfl rfl (one_all rfl)) ?_; intro w79 hS80; simp only [ca, na] at hS80; refine zq 1 rfl<|zN<|zT<|zU<|zL<|zH<|zL<|zL<|zH<|zL<|ret2 Tryz.results24 ⟨_, rfl, run_loadVar_blk ti51 ag51 (hS80.heap Z1) rfl⟩ rfl ?_
              have hF := hS80; exact parseRule_ok_c1
            refine zN<|zT<|zf rfl<|zK<|zT<|zR<|zF fa51_2 rfl ti49.und rfl (hS78.heap Z1) rfl rfl rfl<|zq 1 rfl ?_; refine wl_exv (x_lit (vs := [vi (([] :: actW).idxOf (gt (secA kACT (wk1 ws.tail)) k))]) hS78 ti49.und ti3 rfl rfl rfl On (by decide)) rfl ?_; rintro _ w81 ⟨b80, rfl, hS82⟩; refine zX (x_append [_, _, _, _, _, _] hS82 ti49.und ti3 rfl (by decide) rfl rfl (Row.of_at (at_all (hS82.heap Z0))) rfl (one_cons rfl one_nil) Sd Sd _ rfl) ?_; rintro _ w83 ⟨aq85, cq85, rfl, hcq85, hS84⟩; simp only [ca, na] at hS84; refine zV (r_field fa51_2 rfl)<|zY (x_store1 [_, _] hS84 ti49 rfl rfl rfl (by simp)) ?_; intro w86 hS87; simp only [ca, na] at hS87; refine zN<|zJ<|zT<|zR<|zV (r_addn (b := 1) rfl rfl Om)<|zq 1 rfl<|zN<|zT ?_
            have hS98 := hS87.drop1.drop1
            have hma := idx_pos hin h20_1
            rw [racts_step Om hma] at hS98
            exact ⟨(secA kACT (wk1 ws.tail)).length - (k + 1), _, by omega, rfl, ⟨k + 1, _, _, rfl, rfl, hS98, by omega, (fun j hj => (Nat.lt_succ_iff_lt_or_eq.1 hj).elim (hall j) (fun e => e ▸ hma)), by omega⟩, ⟨rfl, rfl, rfl, rfl, rfl, trivial⟩⟩
          have hS78 := hS75.ext hx77; refine zq 1 rfl<|zN<|zT<|zS<|zS<|zR<|zq 1 rfl<|wl_dec_t (r_lss rfl rfl) rfl (by decide)<|zN<|zT<|zt rfl<|zS<|zR<|zV (r_loadB ti51 ag51 rfl (hS78.heap Z1) Ln) ?_; refine zY (x_storeW [_] hS78 ti51 rfl rfl rfl rfl (one_all rfl)) ?_; intro w88 hS89; simp only [ca, na] at hS89; refine zq 1 rfl<|zN<|zT<|zU<|zL<|zH<|zL<|zL<|zH<|zL<|ret2 Tryz.results24 ⟨_, rfl, run_loadVar_blk ti51 ag51 (hS89.heap Z1) rfl⟩ rfl ?_
          have hF := hS89; exact parseRule_ok_c1
        refine zN<|zT<|zS<|zf rfl<|zO<|zM<|zM<|c_inE<|zT ?_
        obtain rfl : k = (secA kACT (wk1 ws.tail)).length := by omega
        have hact := acts_y hall
        rw [List.take_length, ← actsV_len (secA kACT (wk1 ws.tail))] at hS71
        rw [← actsV_len (secA kACT (wk1 ws.tail))] at hkc
        have hcb := hkc
        refine c_cutE [2, 7] (fun e w' => ∃ (fr tt : Int), St w [] w' [.blk b2 (cl [.bool (headIs kDENY ws), .slice p1 ((secA kROLE ws.tail)).length q1, .slice aa ((actsV (secA kACT (wk1 ws.tail))).length) cb, .slice p3 ((secA kON (wk2 ws.tail))).length q3, .int .i64 fr, .int .i64 tt, .int .i64 0, .string ⟨#[]⟩] 51), .blk b7 (cl [.slice p5 (secA kNEED (wk4 ws.tail)).length q5] 42), .row (.slice aa (actsV (secA kACT (wk1 ws.tail))).length cb) 3 1 (actsV (secA kACT (wk1 ws.tail))).length ((actsV (secA kACT (wk1 ws.tail))).map iv)] ∧ (atOk ws.tail = true) ∧ (fr = frT ws.tail ∧ tt = toT ws.tail)) ?_ ?_
        · refine zS<|zR<|zV (r_loadB1 ti42.und rfl rfl (hS71.heap Z2) rfl)<|zV (r_len (T := 42) rfl ti42.und rfl _ rfl) ?_
          refine wl_dec (r_gtr rfl rfl) rfl (fun h24_2 => ?_) (fun h24_2 => ?_)
          · refine zN<|zT<|zt rfl<|zS<|zR<|zV (r_loadB1 ti42.und rfl rfl (hS71.heap Z2) rfl)<|zV (r_ixS (m := 0) ti42.und ti9 rfl rfl (hr4.st hS71) Sd Ln) ?_
            refine zV (r_loadS1 ti9.und rfl rfl (hr4.st hS71) (by rw [Nat.mul_one]; exact map_gt _ _ _ Sd)) ?_; refine zE fn17 rfl hS71 (cut_ok (gt (secA kAT (wk3 ws.tail)) 0) [45] _ (Nat.lt_of_le_of_lt (hll _ (wk3_mem (secA_mem (gt_mem (secA kAT (wk3 ws.tail)) 0 Om)))) (by decide)) (hv.st hS71)) fun w94 hS96=>zq 7 rfl<|zN<|zT<|zS<|zR<|zq 2 rfl<|zN<|zT<|zS<|zR<|zq 1 rfl<|zC fn49 rfl (small_ok (Lib.cut (gt (secA kAT (wk3 ws.tail)) 0) [45]).1 _ (Nat.le_trans (cut_le _ _).1 (Nat.le_trans (hll _ (wk3_mem (secA_mem (gt_mem (secA kAT (wk3 ws.tail)) 0 Om)))) (by decide))) (hv.st hS96)) ?_
            rintro _ w97 (⟨hsa, rfl, hx98⟩ | ⟨hsa, ⟨nhsa, rfl⟩, hx98⟩)
            · have hS99 := hS96.ext hx98
              refine zq 3 rfl<|zV (r_field fa51_4 rfl)<|zY (x_store1 [] hS99 ti3 rfl rfl rfl (by simp)) ?_; intro w100 hS101; simp only [ca, na] at hS101; refine zq 1 rfl<|zN<|zT<|zS<|zR<|zq 1 rfl<|zC fn49 rfl (small_ok (Lib.cut (gt (secA kAT (wk3 ws.tail)) 0) [45]).2.1 _ (Nat.le_trans (cut_le _ _).2 (Nat.le_trans (hll _ (wk3_mem (secA_mem (gt_mem (secA kAT (wk3 ws.tail)) 0 Om)))) (by decide))) (hv.st hS101)) ?_
              rintro _ w102 (⟨hsb, rfl, hx103⟩ | ⟨hsb, ⟨nhsb, rfl⟩, hx103⟩)
              · have hS104 := hS101.ext hx103
                refine zq 3 rfl<|zV (r_field fa51_5 rfl)<|zY (x_store1 [] hS104 ti3 rfl rfl rfl (by simp)) ?_; intro w105 hS106; simp only [ca, na] at hS106; refine zq 1 rfl<|zN<|zT<|zS ?_
                rcases bool_casesX (Lib.cut (gt (secA kAT (wk3 ws.tail)) 0) [45]).2.2 with hcu | hcu
                · refine c_set (d := 15) (v := .bool true) (congrArg Value.bool hcu)<|zR<|zV (r_loadB1 ti42.und rfl rfl (hS106.heap Z2) rfl)<|zV (r_len (T := 42) rfl ti42.und rfl _ rfl) ?_
                  refine wl_dec (r_neq rfl rfl) rfl (fun h29_2 => ?_) (fun h29_2 => ?_)
                  · refine zq 12 rfl<|zN<|zT<|zt rfl<|zS<|zR<|zV (r_loadB ti51 ag51 rfl (hS106.heap Z0) Ln) ?_
                    refine zY (x_storeW [] hS106 ti51 rfl rfl rfl rfl (one_all rfl)) ?_; intro w107 hS108; simp only [ca, na] at hS108; refine zq 1 rfl<|zN<|zT<|zU<|zL<|ret2 Tryz.results24 ⟨_, rfl, run_loadVar_blk ti51 ag51 (hS108.heap Z0) rfl⟩ rfl ?_
                    have hF := hS108; exact parseRule_ok_c2
                  refine zq 12 rfl<|zN<|zT<|zf rfl<|zK<|zT ?_
                  have hag := at_good (t := ws.tail) Om Om hcu hsa hsb
                  exact ⟨_, rfl, ⟨_, _, (hS106.perm ((List.Perm.cons _ ((List.Perm.cons _ (List.Perm.refl _)).trans (List.perm_middle (l₁ := [_])).symm)).trans (List.perm_middle (l₁ := [_])).symm)).drop1.drop1, hag.1, hag.2⟩, ⟨rfl, rfl, trivial⟩⟩
                refine c_set (d := 15) (v := .bool false) (congrArg Value.bool hcu)<|zR<|zV (r_loadB1 ti42.und rfl rfl (hS106.heap Z2) rfl)<|zV (r_len (T := 42) rfl ti42.und rfl _ rfl) ?_
                refine wl_dec (r_neq rfl rfl) rfl (fun h29_2 => ?_) (fun h29_2 => ?_)
                · refine zq 12 rfl<|zN<|zT<|zt rfl<|zS<|zR<|zV (r_loadB ti51 ag51 rfl (hS106.heap Z0) Ln) ?_
                  refine zY (x_storeW [] hS106 ti51 rfl rfl rfl rfl (one_all rfl)) ?_; intro w109 hS110; simp only [ca, na] at hS110; refine zq 1 rfl<|zN<|zT<|zU<|zL<|ret2 Tryz.results24 ⟨_, rfl, run_loadVar_blk ti51 ag51 (hS110.heap Z0) rfl⟩ rfl ?_
                  have hF := hS110; exact parseRule_ok_c2
                refine zq 12 rfl<|zN<|zT<|zt rfl<|zS<|zR<|zV (r_loadB ti51 ag51 rfl (hS106.heap Z0) Ln) ?_; refine zY (x_storeW [] hS106 ti51 rfl rfl rfl rfl (one_all rfl)) ?_; intro w111 hS112; simp only [ca, na] at hS112; refine zq 1 rfl<|zN<|zT<|zU<|zL<|ret2 Tryz.results24 ⟨_, rfl, run_loadVar_blk ti51 ag51 (hS112.heap Z0) rfl⟩ rfl ?_
                have hF := hS112; exact parseRule_ok_c2
              have hS104 := hS101.ext hx103; refine zq 3 rfl<|zV (r_field fa51_5 rfl)<|zY (x_store1 [] hS104 ti3 rfl rfl rfl (by simp)) ?_; intro w113 hS114; simp only [ca, na] at hS114; refine zq 1 rfl<|zN<|zT<|zS ?_
              rcases bool_casesX (Lib.cut (gt (secA kAT (wk3 ws.tail)) 0) [45]).2.2 with hcu | hcu
              · refine c_set (d := 15) (v := .bool true) (congrArg Value.bool hcu)<|zR<|zV (r_loadB1 ti42.und rfl rfl (hS114.heap Z2) rfl)<|zV (r_len (T := 42) rfl ti42.und rfl _ rfl) ?_
                refine wl_dec (r_neq rfl rfl) rfl (fun h29_2 => ?_) (fun h29_2 => ?_)
                · refine zq 12 rfl<|zN<|zT<|zt rfl<|zS<|zR<|zV (r_loadB ti51 ag51 rfl (hS114.heap Z0) Ln) ?_
                  refine zY (x_storeW [] hS114 ti51 rfl rfl rfl rfl (one_all rfl)) ?_; intro w115 hS116; simp only [ca, na] at hS116; refine zq 1 rfl<|zN<|zT<|zU<|zL<|ret2 Tryz.results24 ⟨_, rfl, run_loadVar_blk ti51 ag51 (hS116.heap Z0) rfl⟩ rfl ?_
                  have hF := hS116; exact parseRule_ok_c2
                refine zq 12 rfl<|zN<|zT<|zt rfl<|zS<|zR<|zV (r_loadB ti51 ag51 rfl (hS114.heap Z0) Ln) ?_; refine zY (x_storeW [] hS114 ti51 rfl rfl rfl rfl (one_all rfl)) ?_; intro w117 hS118; simp only [ca, na] at hS118; refine zq 1 rfl<|zN<|zT<|zU<|zL<|ret2 Tryz.results24 ⟨_, rfl, run_loadVar_blk ti51 ag51 (hS118.heap Z0) rfl⟩ rfl ?_
                have hF := hS118; exact parseRule_ok_c2
              refine c_set (d := 15) (v := .bool false) (congrArg Value.bool hcu)<|zR<|zV (r_loadB1 ti42.und rfl rfl (hS114.heap Z2) rfl)<|zV (r_len (T := 42) rfl ti42.und rfl _ rfl) ?_
              refine wl_dec (r_neq rfl rfl) rfl (fun h29_2 => ?_) (fun h29_2 => ?_)
              · refine zq 12 rfl<|zN<|zT<|zt rfl<|zS<|zR<|zV (r_loadB ti51 ag51 rfl (hS114.heap Z0) Ln) ?_
                refine zY (x_storeW [] hS114 ti51 rfl rfl rfl rfl (one_all rfl)) ?_; intro w119 hS120; simp only [ca, na] at hS120; refine zq 1 rfl<|zN<|zT<|zU<|zL<|ret2 Tryz.results24 ⟨_, rfl, run_loadVar_blk ti51 ag51 (hS120.heap Z0) rfl⟩ rfl ?_
                have hF := hS120; exact parseRule_ok_c2
              refine zq 12 rfl<|zN<|zT<|zt rfl<|zS<|zR<|zV (r_loadB ti51 ag51 rfl (hS114.heap Z0) Ln) ?_; refine zY (x_storeW [] hS114 ti51 rfl rfl rfl rfl (one_all rfl)) ?_; intro w121 hS122; simp only [ca, na] at hS122; refine zq 1 rfl<|zN<|zT<|zU<|zL<|ret2 Tryz.results24 ⟨_, rfl, run_loadVar_blk ti51 ag51 (hS122.heap Z0) rfl⟩ rfl ?_
              have hF := hS122; exact parseRule_ok_c2
            have hS99 := hS96.ext hx98; refine zq 3 rfl<|zV (r_field fa51_4 rfl)<|zY (x_store1 [] hS99 ti3 rfl rfl rfl (by simp)) ?_; intro w123 hS124; simp only [ca, na] at hS124; refine zq 1 rfl<|zN<|zT<|zS<|zR<|zq 1 rfl<|zC fn49 rfl (small_ok (Lib.cut (gt (secA kAT (wk3 ws.tail)) 0) [45]).2.1 _ (Nat.le_trans (cut_le _ _).2 (Nat.le_trans (hll _ (wk3_mem (secA_mem (gt_mem (secA kAT (wk3 ws.tail)) 0 Om)))) (by decide))) (hv.st hS124)) ?_
            rintro _ w125 (⟨hsb, rfl, hx126⟩ | ⟨hsb, ⟨nhsb, rfl⟩, hx126⟩)
            · have hS127 := hS124.ext hx126
              refine zq 3 rfl<|zV (r_field fa51_5 rfl)<|zY (x_store1 [] hS127 ti3 rfl rfl rfl (by simp)) ?_; intro w128 hS129; simp only [ca, na] at hS129; refine zq 1 rfl<|zN<|zT<|zS ?_
              rcases bool_casesX (Lib.cut (gt (secA kAT (wk3 ws.tail)) 0) [45]).2.2 with hcu | hcu
              · refine c_set (d := 15) (v := .bool true) (congrArg Value.bool hcu)<|zR<|zV (r_loadB1 ti42.und rfl rfl (hS129.heap Z2) rfl)<|zV (r_len (T := 42) rfl ti42.und rfl _ rfl) ?_
                refine wl_dec (r_neq rfl rfl) rfl (fun h29_2 => ?_) (fun h29_2 => ?_)
                · refine zq 12 rfl<|zN<|zT<|zt rfl<|zS<|zR<|zV (r_loadB ti51 ag51 rfl (hS129.heap Z0) Ln) ?_
                  refine zY (x_storeW [] hS129 ti51 rfl rfl rfl rfl (one_all rfl)) ?_; intro w130 hS131; simp only [ca, na] at hS131; refine zq 1 rfl<|zN<|zT<|zU<|zL<|ret2 Tryz.results24 ⟨_, rfl, run_loadVar_blk ti51 ag51 (hS131.heap Z0) rfl⟩ rfl ?_
                  have hF := hS131; exact parseRule_ok_c2
                refine zq 12 rfl<|zN<|zT<|zt rfl<|zS<|zR<|zV (r_loadB ti51 ag51 rfl (hS129.heap Z0) Ln) ?_; refine zY (x_storeW [] hS129 ti51 rfl rfl rfl rfl (one_all rfl)) ?_; intro w132 hS133; simp only [ca, na] at hS133; refine zq 1 rfl<|zN<|zT<|zU<|zL<|ret2 Tryz.results24 ⟨_, rfl, run_loadVar_blk ti51 ag51 (hS133.heap Z0) rfl⟩ rfl ?_
                have hF := hS133; exact parseRule_ok_c2
              refine c_set (d := 15) (v := .bool false) (congrArg Value.bool hcu)<|zR<|zV (r_loadB1 ti42.und rfl rfl (hS129.heap Z2) rfl)<|zV (r_len (T := 42) rfl ti42.und rfl _ rfl) ?_
              refine wl_dec (r_neq rfl rfl) rfl (fun h29_2 => ?_) (fun h29_2 => ?_)
              · refine zq 12 rfl<|zN<|zT<|zt rfl<|zS<|zR<|zV (r_loadB ti51 ag51 rfl (hS129.heap Z0) Ln) ?_
                refine zY (x_storeW [] hS129 ti51 rfl rfl rfl rfl (one_all rfl)) ?_; intro w134 hS135; simp only [ca, na] at hS135; refine zq 1 rfl<|zN<|zT<|zU<|zL<|ret2 Tryz.results24 ⟨_, rfl, run_loadVar_blk ti51 ag51 (hS135.heap Z0) rfl⟩ rfl ?_
                have hF := hS135; exact parseRule_ok_c2
              refine zq 12 rfl<|zN<|zT<|zt rfl<|zS<|zR<|zV (r_loadB ti51 ag51 rfl (hS129.heap Z0) Ln) ?_; refine zY (x_storeW [] hS129 ti51 rfl rfl rfl rfl (one_all rfl)) ?_; intro w136 hS137; simp only [ca, na] at hS137; refine zq 1 rfl<|zN<|zT<|zU<|zL<|ret2 Tryz.results24 ⟨_, rfl, run_loadVar_blk ti51 ag51 (hS137.heap Z0) rfl⟩ rfl ?_
              have hF := hS137; exact parseRule_ok_c2
            have hS127 := hS124.ext hx126; refine zq 3 rfl<|zV (r_field fa51_5 rfl)<|zY (x_store1 [] hS127 ti3 rfl rfl rfl (by simp)) ?_; intro w138 hS139; simp only [ca, na] at hS139; refine zq 1 rfl<|zN<|zT<|zS ?_
            rcases bool_casesX (Lib.cut (gt (secA kAT (wk3 ws.tail)) 0) [45]).2.2 with hcu | hcu
            · refine c_set (d := 15) (v := .bool true) (congrArg Value.bool hcu)<|zR<|zV (r_loadB1 ti42.und rfl rfl (hS139.heap Z2) rfl)<|zV (r_len (T := 42) rfl ti42.und rfl _ rfl) ?_
              refine wl_dec (r_neq rfl rfl) rfl (fun h29_2 => ?_) (fun h29_2 => ?_)
              · refine zq 12 rfl<|zN<|zT<|zt rfl<|zS<|zR<|zV (r_loadB ti51 ag51 rfl (hS139.heap Z0) Ln) ?_
                refine zY (x_storeW [] hS139 ti51 rfl rfl rfl rfl (one_all rfl)) ?_; intro w140 hS141; simp only [ca, na] at hS141; refine zq 1 rfl<|zN<|zT<|zU<|zL<|ret2 Tryz.results24 ⟨_, rfl, run_loadVar_blk ti51 ag51 (hS141.heap Z0) rfl⟩ rfl ?_
                have hF := hS141; exact parseRule_ok_c2
              refine zq 12 rfl<|zN<|zT<|zt rfl<|zS<|zR<|zV (r_loadB ti51 ag51 rfl (hS139.heap Z0) Ln) ?_; refine zY (x_storeW [] hS139 ti51 rfl rfl rfl rfl (one_all rfl)) ?_; intro w142 hS143; simp only [ca, na] at hS143; refine zq 1 rfl<|zN<|zT<|zU<|zL<|ret2 Tryz.results24 ⟨_, rfl, run_loadVar_blk ti51 ag51 (hS143.heap Z0) rfl⟩ rfl ?_
              have hF := hS143; exact parseRule_ok_c2
            refine c_set (d := 15) (v := .bool false) (congrArg Value.bool hcu)<|zR<|zV (r_loadB1 ti42.und rfl rfl (hS139.heap Z2) rfl)<|zV (r_len (T := 42) rfl ti42.und rfl _ rfl) ?_
            refine wl_dec (r_neq rfl rfl) rfl (fun h29_2 => ?_) (fun h29_2 => ?_)
            · refine zq 12 rfl<|zN<|zT<|zt rfl<|zS<|zR<|zV (r_loadB ti51 ag51 rfl (hS139.heap Z0) Ln) ?_
              refine zY (x_storeW [] hS139 ti51 rfl rfl rfl rfl (one_all rfl)) ?_; intro w144 hS145; simp only [ca, na] at hS145; refine zq 1 rfl<|zN<|zT<|zU<|zL<|ret2 Tryz.results24 ⟨_, rfl, run_loadVar_blk ti51 ag51 (hS145.heap Z0) rfl⟩ rfl ?_
              have hF := hS145; exact parseRule_ok_c2
            refine zq 12 rfl<|zN<|zT<|zt rfl<|zS<|zR<|zV (r_loadB ti51 ag51 rfl (hS139.heap Z0) Ln) ?_; refine zY (x_storeW [] hS139 ti51 rfl rfl rfl rfl (one_all rfl)) ?_; intro w146 hS147; simp only [ca, na] at hS147; refine zq 1 rfl<|zN<|zT<|zU<|zL<|ret2 Tryz.results24 ⟨_, rfl, run_loadVar_blk ti51 ag51 (hS147.heap Z0) rfl⟩ rfl ?_
            have hF := hS147; exact parseRule_ok_c2
          refine zN<|zT<|zf rfl<|zK<|zT ?_
          have hag := at_none (t := ws.tail) hk4 Om
          exact ⟨_, rfl, ⟨0, 0, (hS71.perm ((List.Perm.cons _ ((List.Perm.cons _ (List.Perm.refl _)).trans (List.perm_middle (l₁ := [_])).symm)).trans (List.perm_middle (l₁ := [_])).symm)).drop1.drop1, hag.1, hag.2⟩, ⟨rfl, rfl, trivial⟩⟩
        · rintro e90 w91 ⟨fr, tt, hS92, hatk, hft⟩ -
          refine c_cutE [2] (fun e w' => ∃ (nd : Int) (of : List UInt8), St w [] w' [.blk b2 (cl [.bool (headIs kDENY ws), .slice p1 ((secA kROLE ws.tail)).length q1, .slice aa ((actsV (secA kACT (wk1 ws.tail))).length) cb, .slice p3 ((secA kON (wk2 ws.tail))).length q3, .int .i64 fr, .int .i64 tt, .int .i64 nd, sv of] 51), .row (.slice aa (actsV (secA kACT (wk1 ws.tail))).length cb) 3 1 (actsV (secA kACT (wk1 ws.tail))).length ((actsV (secA kACT (wk1 ws.tail))).map iv)] ∧ (needOk ws.tail = true) ∧ (nd = ndT ws.tail ∧ of = ofT ws.tail) ∧ (of.length ≤ 65536)) ?_ ?_
          · refine zS<|zR<|zV (r_loadB1 ti42.und rfl rfl (hS92.heap Z1) rfl)<|zV (r_len (T := 42) rfl ti42.und rfl _ rfl) ?_
            refine wl_dec (r_gtr rfl rfl) rfl (fun h31_2 => ?_) (fun h31_2 => ?_)
            · refine zN<|zT<|zt rfl<|zS<|zS<|zR<|zV (r_loadB1 ti42.und rfl rfl (hS92.heap Z1) rfl)<|zV (r_len (T := 42) rfl ti42.und rfl _ rfl) ?_
              refine wl_dec (r_neq rfl rfl) rfl (fun h32_2 => ?_) (fun h32_2 => ?_)
              · refine zN<|zT<|zt rfl<|zS<|zR<|zV (r_loadB ti51 ag51 rfl (hS92.heap Z0) Ln) ?_
                refine zY (x_storeW [] hS92 ti51 rfl rfl rfl rfl (one_all rfl)) ?_; intro w152 hS153; simp only [ca, na] at hS153; refine zq 1 rfl<|zN<|zT<|zU<|zL<|zL<|ret2 Tryz.results24 ⟨_, rfl, run_loadVar_blk ti51 ag51 (hS153.heap Z0) rfl⟩ rfl ?_
                have hF := hS153; exact parseRule_ok_c3
              refine zN<|zT<|zf rfl<|zK<|zT<|zS<|zS<|zR<|zV (r_loadB1 ti42.und rfl rfl (hS92.heap Z1) rfl)<|zV (r_ixS (m := 0) ti42.und ti9 rfl rfl (hr5.st hS92) Sd Ln) ?_; refine zV (r_loadS1 ti9.und rfl rfl (hr5.st hS92) (by rw [Nat.mul_one]; exact map_gt _ _ _ Sd)) ?_; refine zC fn49 rfl (small_ok (gt (secA kNEED (wk4 ws.tail)) 0) _ (Nat.le_trans (hll _ (wk4_mem (secA_mem (gt_mem (secA kNEED (wk4 ws.tail)) 0 Om)))) (by decide)) (hv.st hS92)) ?_
              rintro _ w154 (⟨hsm, rfl, hx155⟩ | ⟨hsm, ⟨nhsm, rfl⟩, hx155⟩)
              · have hS156 := hS92.ext hx155
                refine zq 3 rfl<|zV (r_field fa51_6 rfl)<|zY (x_store1 [] hS156 ti3 rfl rfl rfl (by simp)) ?_; intro w157 hS158; simp only [ca, na] at hS158; refine zq 1 rfl<|zN<|zT<|zS<|zR<|zq 2 rfl<|zN<|zT<|zf rfl<|zK<|zT<|zR<|zV (r_loadB1 ti42.und rfl rfl (hS158.heap Z1) rfl)<|zV (r_ixS (m := 1) ti42.und ti9 rfl rfl (hr5.st hS158) Sd Ln) ?_; refine zV (r_loadS1 ti9.und rfl rfl (hr5.st hS158) (by rw [Nat.mul_one]; exact map_gt _ _ _ Sd)) ?_; refine zV (r_field fa51_7 rfl)<|zY (x_store1 [] hS158 ti9 rfl rfl rfl (by simp)) ?_; intro w159 hS160; simp only [ca, na] at hS160; refine zN<|zT ?_
                have hag := need_good (t := ws.tail) Om Om hsm
                exact ⟨_, rfl, ⟨_, _, (hS160.perm ((List.Perm.cons _ (List.Perm.refl _)).trans (List.perm_middle (l₁ := [_])).symm)).drop1, hag.1, hag.2, hll _ (wk4_mem (secA_mem (gt_mem (secA kNEED (wk4 ws.tail)) 1 Om)))⟩, ⟨rfl, trivial⟩⟩
              have hS156 := hS92.ext hx155; refine zq 3 rfl<|zV (r_field fa51_6 rfl)<|zY (x_store1 [] hS156 ti3 rfl rfl rfl (by simp)) ?_; intro w161 hS162; simp only [ca, na] at hS162; refine zq 1 rfl<|zN<|zT<|zS<|zR<|zq 2 rfl<|zN<|zT<|zt rfl<|zS<|zR<|zV (r_loadB ti51 ag51 rfl (hS162.heap Z0) Ln) ?_; refine zY (x_storeW [] hS162 ti51 rfl rfl rfl rfl (one_all rfl)) ?_; intro w163 hS164; simp only [ca, na] at hS164; refine zq 1 rfl<|zN<|zT<|zU<|zL<|zL<|ret2 Tryz.results24 ⟨_, rfl, run_loadVar_blk ti51 ag51 (hS164.heap Z0) rfl⟩ rfl ?_
              have hF := hS164; exact parseRule_ok_c3
            refine zN<|zT<|zf rfl<|zK<|zT ?_
            have hag := need_none (t := ws.tail) hk5 Om
            exact ⟨_, rfl, ⟨0, [], (hS92.perm ((List.Perm.cons _ (List.Perm.refl _)).trans (List.perm_middle (l₁ := [_])).symm)).drop1, hag.1, hag.2, Nat.zero_le _⟩, ⟨rfl, trivial⟩⟩
          · rintro e148 w149 ⟨nd, of, hS150, hnd, hno, hofl⟩ -
            refine zS<|zR<|zV (r_loadB ti51 ag51 rfl (hS150.heap Z0) Ln) ?_; refine zY (x_storeW [] hS150 ti51 rfl rfl rfl rfl (one_all rfl)) ?_; intro w165 hS166; simp only [ca, na] at hS166; refine zq 1 rfl<|zN<|zT<|zU<|ret2 Tryz.results24 ⟨_, rfl, run_loadVar_blk ti51 ag51 (hS166.heap Z0) rfl⟩ rfl ?_
            exact .inr ⟨⟨headIs kDENY ws, p1, secA kROLE ws.tail, q1, aa, actsV (secA kACT (wk1 ws.tail)), cb, p3, secA kON (wk2 ws.tail), q3, fr, tt, nd, of⟩, ruleT_some hbg rfl (rest_all hk1 hk2 hact hk3 hatk hnd) hlen (fun _ => rfl) (fun _ => hft) (fun _ => hno), rule_okT hp1 hp3 hq1 hq3 hcb hll hn hofl (by have h1 := actsV_len (secA kACT (wk1 ws.tail)); have h2 := secA_le kACT (wk1 ws.tail); have h3 := (w_le ws.tail).1; rw [List.length_tail] at h3; omega), hp1, hp3, rfl, hS166.drop1⟩

end Go.Proofs.YtjnnhlbfgnopiaaGreatDoor
end
section
namespace Go.Proofs.YtjnnhlbfgnopiaaGreatDoor
open Go.Kw
set_option linter.unusedVariables false
set_option linter.unusedSimpArgs false
set_option maxRecDepth 100000
theorem lineWords_ok (l : List UInt8) (w : World) (hl : (ahead1 35 l).length ≤ 65536) : Ret Tryz.prog 22 [.string ⟨(ahead1 35 l).toArray⟩, .func (.func 23) #[] #[]] w (fun v w' => ∃ A : Nat, v = .slice (some ⟨A, 0, none⟩) (lineW l).length (lineW l).length ∧ St w [] w' [.row (.slice (some ⟨A, 0, none⟩) (lineW l).length (lineW l).length) 9 1 (lineW l).length ((lineW l).map sv)]) :=
  fieldsF_ok (ahead1 35 l) w hl

set_option maxHeartbeats 4000000 in
theorem rparse_ok (l : List UInt8) (w : World) (hv : VF w) :
    Ret Tryz.prog 7 [.string ⟨(l).toArray⟩] w (fun v w' => (∃ (n : Nat) (e : Int), PolT l [] n e ∧ ¬ e = 0 ∧ v = .tuple #[.agg #[.slice none 0 0], vi n, .int .i64 e] ∧ St w [] w' []) ∨ (∃ (rs : List RuleD) (a : Option Addr) (c : Nat) (LT : List Kw.Item), PolT l (rs.map nrmR) 0 0 ∧ RulesP LT rs ∧ rs.length ≤ c ∧ v = .tuple #[.agg #[.slice a rs.length c], vi 0, vi 0] ∧ St w [] w' (.row (.slice a rs.length c) 51 8 rs.length (rs.flatMap RuleD.v) :: LT))) := by
  refine enter Tryz.func7 rfl Tryz.ntmps7 rfl ?_
  have hS := St.refl w []
  refine zS<|zR<|zA (C := [.slice none 0 0]) hS ti25 rfl fun b2 w1 hS2=>zq 2 rfl<|zN<|zT<|zS<|zS<|zR<|zq 1 rfl<|zV (r_lenStrL (T := 9) rfl ti9.und rfl _ rfl) ?_
  refine wl_dec (r_gtr rfl rfl) rfl (fun h1_2 => ?_) (fun h1_2 => ?_)
  · refine zN<|zT<|zt rfl<|zS<|zR<|zV (r_buildZ pl25 ti25)<|zY (x_storeW [] hS2 ti25 rfl rfl rfl rfl (one_all rfl)) ?_
    intro w3 hS4; simp only [ca, na] at hS4; refine zq 2 rfl<|zN<|zT<|zU<|zL<|ret3 Tryz.results7 ⟨_, rfl, run_loadVar_blk ti25 ag25 (hS4.heap Z0) rfl⟩ rfl rfl ?_
    exact .inl ⟨0, 5, .large Om, by decide, rfl, hS4.fin⟩
  refine zN<|zT<|zf rfl<|zK<|zT<|zS<|zR<|zA (C := [.slice none 0 0]) hS2 ti25 rfl fun b5 w5 hS6=>zN<|zT<|zS<|zS<|zR<|zq 1 rfl<|zC fn16 rfl (split_ok 10 l _ Om (hv.st hS6)) ?_; rintro _ w7 ⟨bS, rfl, hx8⟩
  have hS9 := hS6.call hx8
  simp only [ca, na] at hS9; refine zV (r_len (T := 42) rfl ti42.und rfl _ rfl)<|zq 1 rfl<|zN<|zT<|zI ?_
  refine c_loopE [2, 5, 17, 18] (fun d e w' => ∃ (k : Nat) (aR : Option Addr) (cR : Nat) (rs : List RuleD) (LT : List Kw.Item), Kw.look e 19 = vi k ∧ d = (splitC 10 l).length - k ∧ St w [] w' (.row (.slice aR rs.length cR) 51 8 rs.length (rs.flatMap RuleD.v) :: .blk b5 (cl [.slice aR rs.length cR] 25) :: .blk b2 (cl [.slice none 0 0] 25) :: .blk bS (cl ((splitC 10 l).map sv) 9) :: LT) ∧ (k ≤ (splitC 10 l).length) ∧ (RulesP LT rs) ∧ (rs.map nrmR = linesR ((splitC 10 l).take k)) ∧ (∀ j, j < k → lineBad (gt (splitC 10 l) j) = false) ∧ (rs.length ≤ k) ∧ (rs.length ≤ cR)) ((splitC 10 l).length - 0) ?_ ?_
  · have hS99 := St.nilRow (E := 51) (sz := 8) (hS9.perm ((List.Perm.cons _ ((List.Perm.cons _ (List.Perm.refl _)).trans (List.perm_middle (l₁ := [_])).symm)).trans (List.perm_middle (l₁ := [_])).symm))
    exact ⟨0, none, 0, [], [], rfl, rfl, hS99, Nat.zero_le _, RulesP.nil, rfl, (fun j hj => absurd hj (Nat.not_lt_zero _)), Nat.le_refl _, Nat.le_refl _⟩
  · rintro d13 e10 w11 ⟨k, aR, cR, rs, LT, hc0_19, rfl, hS12, hk, hT, hmap, hno, hrk, hcR⟩ -
    refine c_set (d := 19) hc0_19<|zS<|zR ?_
    refine wl_dec (r_lss rfl rfl) rfl (fun h5_0 => ?_) (fun h5_0 => ?_)
    · refine zN<|zT<|zS<|zt rfl<|zK<|zT<|zS<|zI<|zS ?_
      have hsl := splitC_le 10 l
      have hlk := hsl.2 _ (gt_mem (splitC 10 l) k Om)
      have hlw := lineW_le (gt (splitC 10 l) k)
      refine zR<|zq 1 rfl<|zV (r_ixB ti42.und ti9 rfl rfl Sd) ?_; refine zV (r_loadB1 ti9.und rfl rfl (hS12.heap Z3) (map_gt _ _ _ Sd)) ?_; refine zq 2 rfl<|zN<|zT<|zS<|zR<|zq 1 rfl<|zC fn17 rfl (hash_ok (gt (splitC 10 l) k) _ Om (hv.st hS12)) ?_; rintro _ w14 ⟨x1, x2, rfl, hx15⟩; have hS16 := hS12.ext hx15; refine zq 5 rfl<|zN<|zT<|zS<|zR<|zq 1 rfl<|zC fn22 rfl (lineWords_ok (gt (splitC 10 l) k) _ (by have := ahead1_le 35 (gt (splitC 10 l) k); omega)) ?_; rintro _ w17 ⟨aW, rfl, hx18⟩
      have hS19 := hS16.call hx18
      simp only [ca, na] at hS19; refine zq 1 rfl<|zN<|zT<|zS<|zS<|zR<|zq 1 rfl<|zV (r_len (T := 42) rfl ti42.und rfl _ rfl) ?_
      refine wl_dec (r_eql rfl rfl) rfl (fun h9_2 => ?_) (fun h9_2 => ?_)
      · refine zN<|zT<|zt rfl<|zO<|zM<|c_inE<|zT<|zR<|zV (r_addn (b := 1) rfl rfl Om)<|zq 1 rfl<|zN<|zT ?_
        have hlw := len0 (show (lineW (gt (splitC 10 l) k)).length = 0 by omega)
        exact ⟨(splitC 10 l).length - (k + 1), _, by omega, rfl, ⟨k + 1, aR, cR, rs, LT, rfl, rfl, hS19.drop1, by omega, hT, by rw [linesR_step Om, lineR_empty hlw, List.append_nil]; exact hmap, (fun j hj => (Nat.lt_succ_iff_lt_or_eq.1 hj).elim (hno j) (fun e => e ▸ lineBad_e hlw)), by omega, hcR⟩, ⟨rfl, rfl, rfl, rfl, trivial⟩⟩
      refine zN<|zT<|zf rfl<|zK<|zT<|zS<|zR<|zq 1 rfl<|zC fn24 rfl (parseRule_ok (lineW (gt (splitC 10 l) k)) _ _ _ (St.rowAt hS19 Z0) (Nat.le_refl _) Om (fun x hx => Nat.le_trans (hlw.2 x (List.mem_of_mem_tail hx)) Om) (hv.st hS19) Om) ?_
      rintro _ w20 (⟨hrt, ⟨r0, rfl⟩, hx21⟩ | ⟨r, hrt, hrok, hr1, hr2, rfl, hx21⟩)
      · have hS22 := hS19.ext hx21
        refine zq 3 rfl<|zA (C := [.bool false, .slice none 0 0, .slice none 0 0, .slice none 0 0, .int .i64 0, .int .i64 0, .int .i64 0, .string ⟨#[]⟩]) hS22 ti51 rfl fun b9 w23 hS24=>zY (x_storeW [] hS24 ti51 rfl rfl (rule_v8 _) (by rfl) (one_rule _)) ?_; intro w25 hS26; simp only [ca, na] at hS26; refine zq 1 rfl<|zN<|zT<|zS<|zS<|zR<|zq 2 rfl<|zN<|zT<|zt rfl<|zS<|zR<|zV (r_buildZ pl25 ti25)<|zq 1 rfl<|zY (x_storeW [_, _, _, _] hS26 ti25 rfl rfl rfl rfl (one_all rfl)) ?_; intro w27 hS28; simp only [ca, na] at hS28; refine zq 2 rfl<|zN<|zT<|zU<|zL<|zH<|zL<|zL<|zH<|zL<|ret3 Tryz.results7 ⟨_, rfl, run_loadVar_blk ti25 ag25 (hS28.heap Z4) rfl⟩ rfl rfl ?_
        exact .inl ⟨k, 11, .wrong Om Om (lineBad_n (fun e => by have := congrArg List.length e; rw [List.length_nil] at this; omega) hrt) hno, by decide, rfl, hS28.fin⟩
      have hS22 := hS19.call hx21
      simp only [ca, na] at hS22; refine zq 3 rfl<|zA (C := [.bool false, .slice none 0 0, .slice none 0 0, .slice none 0 0, .int .i64 0, .int .i64 0, .int .i64 0, .string ⟨#[]⟩]) hS22 ti51 rfl fun b9 w29 hS30=>zY (x_storeW [] hS30 ti51 rfl rfl (rule_v8 _) (by rfl) (one_rule _)) ?_; intro w31 hS32; simp only [ca, na] at hS32; refine zq 1 rfl<|zN<|zT<|zS<|zS<|zR<|zq 2 rfl<|zN<|zT<|zf rfl<|zK<|zT<|zR<|zF fa25_0 rfl ti23.und rfl (hS32.heap Z4) rfl rfl rfl<|zV (r_loadB ti51 ag51 rfl (hS32.heap Z0) (rule_v8 _))<|zX (x_litA1 hS32 ti23.und ti51 rfl (rule_v8 _) rfl (by decide) (by decide)) ?_; rintro _ w33 ⟨b47, rfl, hS34⟩; refine zX (x_append [_, _, _, _] hS34 ti23.und ti51 rfl (by decide) rfl rfl (Row.of_at (at_all (hS34.heap Z0))) (rule_v8 _) (one_rule _) Sd Sd _ rfl) ?_; rintro _ w35 ⟨aq37, cq37, rfl, hcq37, hS36⟩; simp only [ca, na] at hS36; refine zV (r_field fa25_0 rfl)<|zY (x_store1 [_, _, _, _, _] hS36 ti23 rfl rfl rfl (by simp)) ?_; intro w38 hS39; simp only [ca, na] at hS39; refine zN<|zJ<|zT<|zR<|zV (r_addn (b := 1) rfl rfl Om)<|zq 1 rfl<|zN<|zT ?_
      have el : (rs ++ [r]).length = rs.length + 1 := by rw [List.length_append]; rfl
      have hS40 := St.reRow1 (k := (rs ++ [r]).length) (zs := (rs ++ [r]).flatMap RuleD.v) (hS39.perm (List.Perm.cons _ (List.Perm.cons _ ((List.Perm.cons _ ((List.Perm.cons _ ((List.Perm.cons _ ((List.Perm.cons _ (List.Perm.refl _)).trans (List.perm_middle (l₁ := [_, _])).symm)).trans (List.perm_middle (l₁ := [_, _])).symm)).trans (List.perm_middle (l₁ := [_, _])).symm)).trans (List.perm_middle (l₁ := [_, _])).symm)))).drop1.drop1 el (by rw [List.flatMap_append]; simp)
      rw [← el] at hS40
      exact ⟨(splitC 10 l).length - (k + 1), _, by omega, rfl, ⟨k + 1, _, _, _, _, rfl, rfl, hS40, by omega, hT.add hrok hr1 hr2 hold_row, by rw [linesR_step Om, lineR_some hrt, List.map_append, hmap]; rfl, (fun j hj => (Nat.lt_succ_iff_lt_or_eq.1 hj).elim (hno j) (fun e => e ▸ lineBad_s hrt)), by omega, by omega⟩, ⟨rfl, rfl, rfl, rfl, trivial⟩⟩
    refine zN<|zT<|zS<|zf rfl<|zO<|zM<|zM<|c_inE<|zT<|zS<|zS ?_
    have hsl := splitC_le 10 l
    obtain rfl : k = (splitC 10 l).length := by omega
    rw [List.take_length] at hmap
    refine zR<|zV (r_loadB ti25 ag25 rfl (hS12.heap Z1) Ln) ?_; refine zE fn9 rfl hS12 (rcheck_ok rs aR rs.length cR _ (St.rowAt hS12 Z0) rfl Om (hT _ (hS12.hold fun x hx => by simp [hx]))) fun w41 hS43=> ?_; refine zq 1 rfl<|zN<|zT<|zS<|zR<|zq 1 rfl ?_
    refine wl_dec (r_neq rfl rfl) rfl (fun h16_1 => ?_) (fun h16_1 => ?_)
    · refine zN<|zT<|zt rfl<|zS ?_
      have hpe := h16_1
      refine zR<|zV (r_buildZ pl25 ti25)<|zq 1 rfl<|zY (x_storeW [_, _] hS43 ti25 rfl rfl rfl rfl (one_all rfl)) ?_; intro w44 hS45; simp only [ca, na] at hS45; refine zq 2 rfl<|zN<|zT<|zU<|zL<|ret3 Tryz.results7 ⟨_, rfl, run_loadVar_blk ti25 ag25 (hS45.heap Z2) rfl⟩ rfl rfl ?_
      exact .inl ⟨0, polE rs, by rw [← polE_nrmR, hmap]; exact .bad Om hno (by rw [← hmap, polE_nrmR]; exact hpe), hpe, rfl, hS45.fin⟩
    refine zN<|zT<|zf rfl<|zK<|zT<|zS ?_
    have hpe := Classical.not_not.1 h16_1
    refine zR<|zV (r_loadB ti25 ag25 rfl (hS43.heap Z1) Ln) ?_; refine zY (x_storeW [_, _] hS43 ti25 rfl rfl rfl rfl (one_all rfl)) ?_; intro w46 hS47; simp only [ca, na] at hS47; refine zq 2 rfl<|zN<|zT<|zU<|ret3 Tryz.results7 ⟨_, rfl, run_loadVar_blk ti25 ag25 (hS47.heap Z2) rfl⟩ rfl rfl ?_
    exact .inr ⟨rs, aR, cR, LT, by rw [hmap]; exact .good Om hno (by rw [← hmap, polE_nrmR]; exact hpe), hT, hcR, rfl, (hS47.perm ((List.Perm.cons _ ((List.Perm.cons _ ((List.Perm.cons _ (List.Perm.refl _)).trans (List.perm_middle (l₁ := [_])).symm)).trans (List.perm_middle (l₁ := [_])).symm)).trans (List.perm_middle (l₁ := [_])).symm)).drop1.drop1.drop1⟩

end Go.Proofs.YtjnnhlbfgnopiaaGreatDoor
end
