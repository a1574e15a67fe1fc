/- What the law's proof leans on. No condition. -/
import Derived.Test.YtjnnhlbfgnopiaaGreatDoorPAAH
import Derived.Test.YtjnnhlbfgnopiaaGreatDoorPABQ
import Derived.Test.YtjnnhlbfgnopiaaGreatDoorPABS
import Derived.Test.YtjnnhlbfgnopiaaGreatDoorPABT
section
namespace Go.Proofs.YtjnnhlbfgnopiaaGreatDoor
open Go.Kw
set_option linter.unusedVariables false
set_option linter.unusedSimpArgs false
set_option maxRecDepth 100000
theorem actWords_ok (w : World) (hv : VF w) : Ret Tryz.prog 86 [] w (fun v w' => ∃ b, v = .slice (some ⟨b, 0, none⟩) 12 12 ∧ St w [] w' [.blk b (cl (actW.map sv) 9)]) := by
  refine enter Tryz.func86 rfl Tryz.ntmps86 rfl ?_
  have hS := St.refl w []
  refine zS<|zR<|zq 1 rfl<|zN<|zT<|zS<|zR ?_
  have hf : Ret Tryz.prog 112 [.string ⟨actT.toArray⟩] w (fun v w' => ∃ b, v = .slice (some ⟨b, 0, none⟩) 12 12 ∧ St w [] w' [.blk b (cl (actW.map sv) 9)]) := by
    refine Calls.mono (Any.strings_Fields Tryz.laysFields (by kernel_rfl) (by kernel_rfl) ⟨actT.toArray⟩ w (by decide) actT_ascii hv.asc) ?_
    rintro e w' ⟨rfl, rfl⟩
    refine ⟨_, rfl, w.heap.size, by rw [show (⟨actT.toArray⟩ : ByteArray).data.toList = actT from rfl, actT_fields]; rfl, ?_⟩
    rw [show (⟨actT.toArray⟩ : ByteArray).data.toList = actT from rfl, actT_fields]
    exact (St.refl w []).alloc _
  refine zC fn112 rfl hf ?_
  rintro _ w1 ⟨b, rfl, hx⟩
  have hS2 := hS.call hx
  refine zq 1 rfl<|zN<|zT<|zU<|ret1 Tryz.results86 ?_
  exact ⟨b, rfl, hS2⟩

theorem beginsPart_ok_c0 {p : Prop} (h : p := by first | exact ⟨congrArg Value.bool (isPart_t (by first | exact .inl (by assumption) | exact .inr (.inl (by assumption)) | exact .inr (.inr (.inl (by assumption))) | exact .inr (.inr (.inr (.inl (by assumption)))) | exact .inr (.inr (.inr (.inr (by assumption)))))).symm, hF.fin⟩ | exact ⟨congrArg Value.bool (isPart_f (by assumption) (by assumption) (by assumption) (by assumption) (by assumption)).symm, hF.fin⟩) : p := h
theorem beginsPart_ok (s : List UInt8) (w : World) :
    Ret Tryz.prog 85 [.string ⟨(s).toArray⟩] w (fun v w' => v = .bool (isPart s) ∧ St w [] w' []) := by
  refine enter Tryz.func85 rfl Tryz.ntmps85 rfl ?_
  have hS := St.refl w []
  refine zS<|zR<|zq 1 rfl<|zN<|zT<|zS<|zS<|zR<|zq 1 rfl<|zN<|zT<|zI<|zS<|zS<|zR ?_
  refine wl_dec (r_eqlStrL rfl rfl) rfl (fun h2_0 => ?_) (fun h2_0 => ?_)
  · refine zq 1 rfl<|zN<|zT<|zt rfl<|zK<|zT<|zt rfl<|zS<|zR<|zq 1 rfl<|zN<|zT<|zU<|zH<|zL<|ret1 Tryz.results85 ?_
    have hF := hS; exact beginsPart_ok_c0
  refine zq 1 rfl<|zN<|zT<|zf rfl<|zS<|zR ?_
  refine wl_dec (r_eqlStrL rfl rfl) rfl (fun h3_0 => ?_) (fun h3_0 => ?_)
  · refine zq 1 rfl<|zN<|zT<|zt rfl<|zK<|zT<|zt rfl<|zS<|zR<|zq 1 rfl<|zN<|zT<|zU<|zH<|zL<|ret1 Tryz.results85 ?_
    have hF := hS; exact beginsPart_ok_c0
  refine zq 1 rfl<|zN<|zT<|zf rfl<|zS<|zR ?_
  refine wl_dec (r_eqlStrL rfl rfl) rfl (fun h4_0 => ?_) (fun h4_0 => ?_)
  · refine zq 1 rfl<|zN<|zT<|zt rfl<|zK<|zT<|zt rfl<|zS<|zR<|zq 1 rfl<|zN<|zT<|zU<|zH<|zL<|ret1 Tryz.results85 ?_
    have hF := hS; exact beginsPart_ok_c0
  refine zq 1 rfl<|zN<|zT<|zf rfl<|zS<|zR ?_
  refine wl_dec (r_eqlStrL rfl rfl) rfl (fun h5_0 => ?_) (fun h5_0 => ?_)
  · refine zq 1 rfl<|zN<|zT<|zt rfl<|zK<|zT<|zt rfl<|zS<|zR<|zq 1 rfl<|zN<|zT<|zU<|zH<|zL<|ret1 Tryz.results85 ?_
    have hF := hS; exact beginsPart_ok_c0
  refine zq 1 rfl<|zN<|zT<|zf rfl<|zR ?_
  refine wl_dec (r_eqlStrL rfl rfl) rfl (fun h6_0 => ?_) (fun h6_0 => ?_)
  · refine zq 1 rfl<|zN<|zT<|zt rfl<|zS<|zR<|zq 1 rfl<|zN<|zT<|zU<|zH<|zL<|ret1 Tryz.results85 ?_
    have hF := hS; exact beginsPart_ok_c0
  refine zq 1 rfl<|zN<|zT<|zf rfl<|zK<|zJ<|zT<|zS<|zR<|zq 1 rfl<|zN<|zT<|zU<|ret1 Tryz.results85 ?_
  have hF := hS; exact beginsPart_ok_c0

theorem isEmpty_ok_c0 {p : Prop} (h : p := by first | exact ⟨congrArg Value.bool (decide_eq_true (by assumption)).symm, hF.fin⟩ | exact ⟨congrArg Value.bool (decide_eq_false (by assumption)).symm, hF.fin⟩) : p := h
theorem isEmpty_ok (s : List UInt8) (w : World) :
    Ret Tryz.prog 20 [.string ⟨(s).toArray⟩] w (fun v w' => v = .bool (decide (s = [])) ∧ St w [] w' []) := by
  refine enter Tryz.func20 rfl Tryz.ntmps20 rfl ?_
  have hS := St.refl w []
  refine zS<|zR<|zq 1 rfl<|zN<|zT<|zS<|zR<|zq 1 rfl ?_
  refine wl_dec (r_eqlStrL rfl rfl) rfl (fun h1_1 => ?_) (fun h1_1 => ?_)
  · refine zq 1 rfl<|zN<|zT<|zU<|ret1 Tryz.results20 ?_
    have hF := hS; exact isEmpty_ok_c0
  refine zq 1 rfl<|zN<|zT<|zU<|ret1 Tryz.results20 ?_
  have hF := hS; exact isEmpty_ok_c0

theorem u8_48 {b : UInt8} (h : ((b.toNat : Nat) : Int) = 48) : b = 48 := UInt8.toNat_inj.1 (by show b.toNat = 48; omega)
theorem num_ok1 {s : List UInt8} (h1 : ¬ s = []) (h2 : s.length ≤ 3) (h3 : ¬ (((gt s 0).toNat : Nat) : Int) = 48) : ¬ (s = [] ∨ 3 < s.length ∨ (gt s 0 = 48 ∧ ¬ s = [48])) := by
  rintro (h | h | ⟨h, _⟩)
  · exact h1 h
  · omega
  · exact h3 (by rw [h]; rfl)
theorem num_ok2 {s : List UInt8} (h1 : ¬ s = []) (h2 : s.length ≤ 3) (h3 : s = [48]) : ¬ (s = [] ∨ 3 < s.length ∨ (gt s 0 = 48 ∧ ¬ s = [48])) := by
  rintro (h | h | ⟨_, h⟩)
  · exact h1 h
  · omega
  · exact h h3
theorem numOk_bad {s : List UInt8} (h : (s = [] ∨ 3 < s.length ∨ (gt s 0 = 48 ∧ ¬ s = [48]))) : numOk s = false := by
  unfold numOk
  rcases h with h | h | ⟨h, h'⟩
  · rw [decide_eq_true h]; rfl
  · rw [decide_eq_false (show ¬ s.length ≤ 3 by omega)]; simp
  · cases s with
    | nil => rfl
    | cons b l =>
      have hb : b = 48 := by simpa [gt] using h
      subst hb
      have h2 : decide ((48 : UInt8) :: l = [48]) = false := decide_eq_false h'
      rw [h2]; simp
theorem numOk_of {s : List UInt8} (h : ¬ (s = [] ∨ 3 < s.length ∨ (gt s 0 = 48 ∧ ¬ s = [48]))) : numOk s = s.all digB := by
  unfold numOk
  have h1 : ¬ s = [] := fun e => h (.inl e)
  have h2 : s.length ≤ 3 := by apply Nat.le_of_not_lt; exact fun e => h (.inr (.inl e))
  rw [decide_eq_false h1, decide_eq_true h2]
  cases s with
  | nil => exact absurd rfl h1
  | cons b l =>
    by_cases hb : b = 48
    · subst hb
      have h3 : (48 : UInt8) :: l = [48] := Classical.not_not.1 fun e => h (.inr (.inr ⟨rfl, e⟩))
      rw [decide_eq_true h3]; simp
    · have : decide ((b :: l).head? = some 48) = false := decide_eq_false (by simpa using hb)
      rw [this]; simp
theorem num_dig_f {s : List UInt8} {k : Nat} (hk : k < s.length) (h : (((gt s k).toNat : Nat) : Int) < 48 ∨ (57 : Int) < ((gt s k).toNat : Nat)) : s.all digB = false := by
  rw [List.all_eq_false]
  exact ⟨gt s k, gt_mem s k hk, by unfold digB; simp; omega⟩
theorem take_dig {s : List UInt8} {k : Nat} (hk : k < s.length) (h : (s.take k).all digB = true) (hd : 48 ≤ (gt s k).toNat ∧ (gt s k).toNat ≤ 57) : (s.take (k + 1)).all digB = true := take_all_step hk h (digB_t hd)
theorem num_small {s : List UInt8} {k : Nat} (hk : k < s.length) (h3 : s.length ≤ 3) (h : (s.take k).all digB = true) : numV (s.take k) < 100 := by
  have := numV_bound (s.take k) h
  rw [List.length_take, Nat.min_eq_left (by omega)] at this
  have h2 : 10 ^ k ≤ 10 ^ 2 := Nat.pow_le_pow_right (by decide) (by omega)
  omega

theorem pnumber_ok_c0 {p : Prop} (h : p := by exact ⟨_, rfl, ⟨_, rfl, hF, (decide_eq_true (show (s = [] ∨ 3 < s.length ∨ (gt s 0 = 48 ∧ ¬ s = [48])) from by first | exact .inl (by assumption) | exact .inr (.inl Om) | exact .inr (.inr ⟨u8_48 h1_10, by assumption⟩))).symm⟩, ⟨rfl, rfl, rfl, trivial⟩⟩) : p := h
theorem pnumber_ok_c1 {p : Prop} (h : p := by exact ⟨_, rfl, ⟨_, rfl, hF, (decide_eq_false (show ¬ (s = [] ∨ 3 < s.length ∨ (gt s 0 = 48 ∧ ¬ s = [48])) from by first | exact num_ok1 (by assumption) Om h1_10 | exact num_ok2 (by assumption) Om (Classical.not_not.1 (by assumption)))).symm⟩, ⟨rfl, rfl, rfl, trivial⟩⟩) : p := h
set_option maxHeartbeats 1000000 in
theorem pnumber_ok (s : List UInt8) (w : World) :
    Ret Tryz.prog 44 [.string ⟨(s).toArray⟩] w (fun v w' => v = .tuple #[vi (numE s), .bool (numOk s)] ∧ St w [] w' []) := by
  refine enter Tryz.func44 rfl Tryz.ntmps44 rfl ?_
  have hS := St.refl w []
  refine zS<|zR<|zq 2 rfl<|zN<|zT<|zS ?_
  refine c_cutE [0, 2, 3] (fun e w' => ∃ (bb : Bool), Kw.look e 21 = .bool bb ∧ St w [] w' [] ∧ (bb = decide (s = [] ∨ 3 < s.length ∨ (gt s 0 = 48 ∧ ¬ s = [48])))) ?_ ?_
  · refine zR<|zq 1 rfl ?_
    refine wl_dec (r_eqlStrL rfl rfl) rfl (fun h1_1 => ?_) (fun h1_1 => ?_)
    · refine zq 14 rfl<|zN<|zT ?_
      have hF := hS; exact pnumber_ok_c0
    refine zq 2 rfl<|wl_val (r_lenStrL (T := 9) rfl ti9.und rfl _ rfl) rfl ?_
    refine wl_dec (r_gtr rfl rfl) rfl (fun h1_5 => ?_) (fun h1_5 => ?_)
    · refine zq 10 rfl<|zN<|zT ?_
      have hF := hS; exact pnumber_ok_c0
    refine zq 3 rfl<|wl_val (r_indexStr (s := ⟨s.toArray⟩) (m := 0) ti9.und rfl rfl (get_gt s _ (by cases s with | nil => exact absurd rfl h1_1 | cons _ _ => simp))) rfl ?_
    refine wl_dec (r_eql rfl rfl) rfl (fun h1_10 => ?_) (fun h1_10 => ?_)
    · refine zq 2 rfl ?_
      refine wl_dec (r_neqStrL rfl rfl) rfl (fun h1_13 => ?_) (fun h1_13 => ?_)
      · refine zq 2 rfl<|zN<|zT ?_
        have hF := hS; exact pnumber_ok_c0
      refine zq 2 rfl<|zN<|zT ?_
      have hF := hS; exact pnumber_ok_c1
    refine zq 5 rfl<|zN<|zT ?_
    have hF := hS; exact pnumber_ok_c1
  · rintro e1 w2 ⟨bb, hc4_21, hS3, hbb⟩ -
    refine c_set (d := 21) hc4_21 ?_
    rcases dec_or hbb with ⟨rfl, hbad⟩ | ⟨rfl, hbad⟩
    · refine zt rfl<|zS<|zR<|zq 2 rfl<|zN<|zT<|zU<|zL<|ret2 Tryz.results44 rfl rfl ?_
      first | (rw [numE_f (numOk_bad hbad), numOk_bad hbad]; exact ⟨rfl, hS3.fin⟩) | (have hf := (numOk_of hbad).trans (num_dig_f (k := k) Om Om); rw [numE_f hf, hf]; exact ⟨rfl, hS3.fin⟩) | (obtain rfl : k = s.length := Om; rw [List.take_length] at *; have hf := (numOk_of hbad).trans hdig; rw [numE_t hf, hf]; exact ⟨rfl, hS3.fin⟩)
    · refine zf rfl<|zK<|zT<|zS<|zR<|zq 1 rfl<|zN<|zT<|zS<|zS<|zR<|zq 1 rfl<|zN<|zT<|zI ?_
      refine c_loopE [0] (fun d e w' => ∃ (k : Nat), Kw.look e 5 = vi k ∧ Kw.look e 4 = vi (numV (s.take k)) ∧ d = s.length - k ∧ St w [] w' [] ∧ (k ≤ s.length) ∧ ((s.take k).all digB = true)) (s.length - 0) ?_ ?_
      · exact ⟨0, rfl, rfl, rfl, hS3.fin, Nat.zero_le _, by simp⟩
      · rintro d8 e5 w6 ⟨k, hc0_5, hc0_4, rfl, hS7, hk, hdig⟩ -
        refine c_set (d := 5) hc0_5<|c_set (d := 4) hc0_4<|zS<|zS<|zR<|zq 2 rfl<|zV (r_lenStrL (T := 9) rfl ti9.und rfl _ rfl) ?_
        refine wl_dec (r_lss rfl rfl) rfl (fun h5_3 => ?_) (fun h5_3 => ?_)
        · refine zN<|zT<|zt rfl<|zK<|zT<|zS<|zI<|zS<|zS ?_
          have h3 : s.length ≤ 3 := by apply Nat.le_of_not_lt; exact fun e => hbad (.inr (.inl e))
          have hnb := num_small Om h3 hdig
          refine zR<|zq 2 rfl<|zV (r_indexStr (s := ⟨s.toArray⟩) ti9.und rfl rfl (get_gt s _ Sd)) ?_; refine zV (c_u8_i64 ti3.und ⟨_, ti5.und⟩ rfl)<|zC fn75 rfl (poutside_ok _ 48 57 _) ?_
          rintro _ w9 (⟨ho, rfl, hx10⟩ | ⟨ho, rfl, hx10⟩)
          · have hS11 := hS7.ext hx10
            refine zN<|zT<|zt rfl<|zS<|zR<|zq 2 rfl<|zN<|zT<|zU<|zL<|zH<|zL<|zL<|zH<|zL<|ret2 Tryz.results44 rfl rfl ?_
            first | (rw [numE_f (numOk_bad hbad), numOk_bad hbad]; exact ⟨rfl, hS11.fin⟩) | (have hf := (numOk_of hbad).trans (num_dig_f (k := k) Om Om); rw [numE_f hf, hf]; exact ⟨rfl, hS11.fin⟩) | (obtain rfl : k = s.length := Om; rw [List.take_length] at *; have hf := (numOk_of hbad).trans hdig; rw [numE_t hf, hf]; exact ⟨rfl, hS11.fin⟩)
          have hS11 := hS7.ext hx10; refine zN<|zT<|zf rfl<|zK<|zT ?_
          have h48 := sub48 (b := gt s k) Om
          refine zR<|zq 1 rfl<|zV (r_muln (a := 10) rfl rfl Om)<|zq 2 rfl<|zV (r_indexStr (s := ⟨s.toArray⟩) ti9.und rfl rfl (get_gt s _ Sd)) ?_; refine zV (r_sub8 (b := 48) rfl rfl)<|zV (c_u8_i64 ti3.und ⟨_, ti5.und⟩ rfl)<|zV (r_addn rfl rfl Om)<|zq 1 rfl<|zN<|zJ<|zT<|zR<|zq 1 rfl<|zV (r_addn (b := 1) rfl rfl Om)<|zq 1 rfl<|zN<|zT ?_
          exact ⟨s.length - (k + 1), _, by omega, rfl, ⟨k + 1, rfl, congrArg (fun n : Nat => Value.int .i64 (n : Int)) (show _ from by rw [numV_step Om, sub48 Om]), rfl, hS11.fin, by omega, take_dig Om hdig ⟨by omega, by omega⟩⟩, ⟨rfl, trivial⟩⟩
        refine zN<|zT<|zf rfl<|zO<|zM<|zM<|c_inE<|zT<|zS<|zR<|zq 3 rfl<|zN<|zT<|zU<|ret2 Tryz.results44 rfl rfl ?_
        first | (rw [numE_f (numOk_bad hbad), numOk_bad hbad]; exact ⟨rfl, hS7.fin⟩) | (have hf := (numOk_of hbad).trans (num_dig_f (k := k) Om Om); rw [numE_f hf, hf]; exact ⟨rfl, hS7.fin⟩) | (obtain rfl : k = s.length := Om; rw [List.take_length] at *; have hf := (numOk_of hbad).trans hdig; rw [numE_t hf, hf]; exact ⟨rfl, hS7.fin⟩)

end Go.Proofs.YtjnnhlbfgnopiaaGreatDoor
end
section
namespace Go.Proofs.YtjnnhlbfgnopiaaGreatDoor
open Go.Kw
set_option linter.unusedVariables false
set_option linter.unusedSimpArgs false
set_option maxRecDepth 100000
theorem is_ok (w0 : World) (LT : List Kw.Item) (r : Nat) (k : List UInt8) (a0 : Option Addr) (ws0 ws : Ws) (a : Option Addr) (c : Nat) (w : World) (hS0 : St w0 [] w (.blk r (cl [.slice a (ws).length c] 46) :: LT)) (hb : Row w0 a0 (ws0.map sv)) (hsub : Sub a0 ws0 a ws) (hc : ws.length ≤ c) (hn : ws.length ≤ 140737488351232) :
    Ret Tryz.prog 40 [pt r 0, .string ⟨(k).toArray⟩] w (fun v w' => (headIs k ws = true ∧ v = .bool true ∧ ∃ a' c', Sub a0 ws0 a' ws.tail ∧ ws.tail.length ≤ c' ∧ St w0 [] w' (.blk r (cl [.slice a' (ws.tail).length c'] 46) :: LT)) ∨ (headIs k ws = false ∧ v = .bool false ∧ St w0 [] w' (.blk r (cl [.slice a (ws).length c] 46) :: LT))) := by
  have hW : Row w0 a (ws.map sv) := hsub _ hb
  refine enter Tryz.func40 rfl Tryz.ntmps40 rfl ?_
  have hS := hS0
  refine zS<|zR<|zq 1 rfl<|zN<|zT<|zS<|zS<|zR<|zq 1 rfl<|zV (r_nilCheck rfl)<|zV (r_loadB1 ti46.und rfl rfl (hS.heap Z0) rfl)<|zV (r_len (T := 46) rfl ti46.und rfl _ rfl) ?_
  refine wl_dec (r_eql rfl rfl) rfl (fun h1_4 => ?_) (fun h1_4 => ?_)
  · refine zq 9 rfl<|zN<|zT<|zt rfl<|zS<|zR<|zq 1 rfl<|zN<|zT<|zU<|zL<|ret1 Tryz.results40 ?_
    have hx : headIs k ws = false := by first | exact headIs_e Om | exact headIs_n h1_12 Om
    exact .inr ⟨hx, rfl, hS⟩
  refine zq 2 rfl<|wl_val (r_nilCheck rfl) rfl<|wl_val (r_loadB1 ti46.und rfl rfl (hS.heap Z0) rfl) rfl<|wl_val (r_ixS (m := 0) ti46.und ti9 rfl rfl (hW.st hS) Sd Ln) rfl ?_; refine wl_val (r_loadS1 ti9.und rfl rfl (hW.st hS) (by rw [Nat.mul_one]; exact map_gt _ _ _ Sd)) rfl ?_; refine zq 1 rfl ?_
  refine wl_dec (r_neqStrL rfl rfl) rfl (fun h1_12 => ?_) (fun h1_12 => ?_)
  · refine zq 1 rfl<|zN<|zT<|zt rfl<|zS<|zR<|zq 1 rfl<|zN<|zT<|zU<|zL<|ret1 Tryz.results40 ?_
    have hx : headIs k ws = false := by first | exact headIs_e Om | exact headIs_n h1_12 Om
    exact .inr ⟨hx, rfl, hS⟩
  refine zq 1 rfl<|zN<|zT<|zf rfl<|zK<|zT<|zS<|zR<|zq 2 rfl<|zV (r_nilCheck rfl)<|zV (r_loadB1 ti46.und rfl rfl (hS.heap Z0) rfl)<|zV (r_sl_l (l := 1) ti46.und ti9 rfl rfl Om)<|zV (r_nilCheck rfl)<|zY (x_store1 [] hS ti46 rfl rfl rfl (by simp)) ?_; intro w1 hS2; simp only [ca, na] at hS2; refine zN<|zT<|zS<|zR<|zq 1 rfl<|zN<|zT<|zU<|ret1 Tryz.results40 ?_
  have hx := headIs_t (k := k) (ws := ws) Om (Classical.not_not.1 h1_12)
  exact .inl ⟨hx, rfl, _, c - 1, hsub.tl hc, by rw [List.length_tail]; omega, by rw [List.length_tail]; exact hS2⟩

theorem wlist_ok_c0 {p : Prop} (h : p := by exact ⟨_, c - (tkP ws).length, rfl, Nat.le_refl _, hsub.dr hc, by rw [drP_eq, List.length_drop]; omega, by rw [drP_eq, List.length_drop]; exact hF⟩) : p := h
set_option maxHeartbeats 1000000 in
theorem wlist_ok (w0 : World) (LT : List Kw.Item) (r : Nat) (a0 : Option Addr) (ws0 ws : Ws) (a : Option Addr) (c : Nat) (w : World) (hS0 : St w0 [] w (.blk r (cl [.slice a (ws).length c] 46) :: LT)) (hb : Row w0 a0 (ws0.map sv)) (hsub : Sub a0 ws0 a ws) (hc : ws.length ≤ c) (hn : ws.length ≤ 140737488351232) :
    Ret Tryz.prog 41 [pt r 0] w (fun v w' => ∃ a' c', v = .slice a (tkP ws).length (tkP ws).length ∧ (tkP ws).length ≤ (tkP ws).length ∧ Sub a0 ws0 a' (drP ws) ∧ (drP ws).length ≤ c' ∧ St w0 [] w' (.blk r (cl [.slice a' (drP ws).length c'] 46) :: LT)) := by
  have hW : Row w0 a (ws.map sv) := hsub _ hb
  refine enter Tryz.func41 rfl Tryz.ntmps41 rfl ?_
  have hS := hS0
  refine zS<|zR<|zq 1 rfl<|zN<|zT<|zS<|zR<|zq 1 rfl<|zN<|zT<|zS<|zI ?_
  refine c_loopE [0, 2] (fun d e w' => ∃ (n : Nat), Kw.look e 3 = vi n ∧ d = ws.length - n ∧ St w0 [] w' (.blk r (cl [.slice a (ws).length c] 46) :: LT) ∧ (n ≤ ws.length) ∧ (∀ j, j < n → isPart (gt ws j) = false)) (ws.length - 0) ?_ ?_
  · exact ⟨0, rfl, rfl, hS, Nat.zero_le _, fun j hj => absurd hj (Nat.not_lt_zero _)⟩
  · rintro d4 e1 w2 ⟨n, hc0_3, rfl, hS3, hnl, hno⟩ -
    refine c_set (d := 3) hc0_3<|zS<|zS<|zR<|zq 2 rfl<|zV (r_nilCheck rfl)<|zV (r_loadB1 ti46.und rfl rfl (hS3.heap Z0) rfl)<|zV (r_len (T := 46) rfl ti46.und rfl _ rfl) ?_
    refine wl_dec (r_lss rfl rfl) rfl (fun h2_5 => ?_) (fun h2_5 => ?_)
    · refine zq 2 rfl<|wl_val (r_nilCheck rfl) rfl<|wl_val (r_loadB1 ti46.und rfl rfl (hS3.heap Z0) rfl) rfl<|zq 1 rfl<|wl_val (r_ixS ti46.und ti9 rfl rfl (hW.st hS3) Sd Ln) rfl ?_
      refine wl_val (r_loadS1 ti9.und rfl rfl (hW.st hS3) (by rw [Nat.mul_one]; exact map_gt _ _ _ Sd)) rfl ?_; refine zC fn85 rfl ((beginsPart_ok _ _).br) ?_
      rintro _ w5 (⟨hbp, rfl, hx6⟩ | ⟨hbp, rfl, hx6⟩)
      · have hS7 := hS3.ext hx6
        refine zq 2 rfl<|zN<|zT<|zf rfl<|zO<|zM<|zM<|c_inE<|zT<|zS<|zR<|zq 1 rfl<|zV (r_nilCheck rfl)<|zV (r_loadB1 ti46.und rfl rfl (hS7.heap Z0) rfl)<|zq 2 rfl<|zV (r_sl_hm ti46.und ti9 rfl rfl rfl Om Om)<|zq 1 rfl<|zN<|zT<|zS<|zR<|zq 2 rfl<|zV (r_nilCheck rfl)<|zV (r_loadB1 ti46.und rfl rfl (hS7.heap Z0) rfl) ?_; refine zq 1 rfl<|zV (r_sl_l ti46.und ti9 rfl rfl Om)<|zV (r_nilCheck rfl)<|zY (x_store1 [] hS7 ti46 rfl rfl rfl (by simp)) ?_; intro w8 hS9; simp only [ca, na] at hS9; refine zN<|zT<|zS<|zR<|zq 2 rfl<|zN<|zT<|zU<|ret1 Tryz.results41 ?_
        have ht : (tkP ws).length = n := tkP_at hno hnl (by first | exact .inl Om | exact .inr hbp)
        subst ht
        have hF := hS9; exact wlist_ok_c0
      have hS7 := hS3.ext hx6; refine zq 2 rfl<|zN<|zT<|zt rfl<|zK<|zT<|zI<|zR<|zq 1 rfl<|zV (r_addn (b := 1) rfl rfl Om)<|zq 1 rfl<|zN<|zJ<|zT ?_
      exact ⟨ws.length - (n + 1), _, by omega, rfl, ⟨n + 1, rfl, rfl, hS7, by omega, fun j hj => (Nat.lt_succ_iff_lt_or_eq.1 hj).elim (hno j) (fun e => e ▸ hbp)⟩, ⟨rfl, rfl, trivial⟩⟩
    refine zq 10 rfl<|zN<|zT<|zf rfl<|zO<|zM<|zM<|c_inE<|zT<|zS<|zR<|zq 1 rfl<|zV (r_nilCheck rfl)<|zV (r_loadB1 ti46.und rfl rfl (hS3.heap Z0) rfl)<|zq 2 rfl<|zV (r_sl_hm ti46.und ti9 rfl rfl rfl Om Om)<|zq 1 rfl<|zN<|zT<|zS<|zR<|zq 2 rfl<|zV (r_nilCheck rfl)<|zV (r_loadB1 ti46.und rfl rfl (hS3.heap Z0) rfl) ?_; refine zq 1 rfl<|zV (r_sl_l ti46.und ti9 rfl rfl Om)<|zV (r_nilCheck rfl)<|zY (x_store1 [] hS3 ti46 rfl rfl rfl (by simp)) ?_; intro w10 hS11; simp only [ca, na] at hS11; refine zN<|zT<|zS<|zR<|zq 2 rfl<|zN<|zT<|zU<|ret1 Tryz.results41 ?_
    have ht : (tkP ws).length = n := tkP_at hno hnl (by first | exact .inl Om | exact .inr hbp)
    subst ht
    have hF := hS11; exact wlist_ok_c0

theorem hours_ok_c0 {p : Prop} (h : p := by exact ⟨congrArg Value.bool (show _ = hoursOk s from by unfold hoursOk; first | (rw [e1, e2, e3]; rfl) | (rw [e1, e2]; rfl) | (rw [e1]; rfl)), hF⟩) : p := h
theorem hours_ok (w0 : World) (LT : List Kw.Item) (r : Nat) (s : List UInt8) (C : List Value) (w : World) (hS0 : St w0 [] w (.blk r (cl C 51) :: LT)) (hC : C.length = 8) (hl : s.length < 4294967281) (hv : VF w0) :
    Ret Tryz.prog 43 [.string ⟨(s).toArray⟩, pt r 0] w (fun v w' => v = .bool (hoursOk s) ∧ St w0 [] w' (.blk r (cl ((C.set 4 (iv (hrA s))).set 5 (iv (hrB s))) 51) :: LT)) := by
  refine enter Tryz.func43 rfl Tryz.ntmps43 rfl ?_
  have hS := hS0
  refine zS<|zR<|zq 1 rfl<|zN<|zT<|zS<|zR<|zq 1 rfl<|zE fn17 rfl hS (cut_ok s [45] _ hl (hv.st hS)) fun w1 hS3=>zq 7 rfl<|zN<|zT<|zS<|zR<|zq 1 rfl<|zE fn44 rfl hS3 (pnumber_ok _ _) fun w4 hS6=>zq 5 rfl<|zN<|zT<|zS<|zR<|zq 1 rfl<|zE fn44 rfl hS6 (pnumber_ok _ _) fun w7 hS9=>zq 5 rfl<|zN ?_; refine zT<|zS<|zR<|zq 4 rfl<|zV (r_nilCheck rfl)<|zV (r_field fa51_4 rfl)<|zY (x_store1 (o := 4) (v := iv (hrA s)) [] hS9 ti3 rfl rfl rfl (by rw [hC]; decide)) ?_; intro w10 hS11; simp only [ca, na] at hS11; refine zV (r_nilCheck rfl)<|zV (r_field fa51_5 rfl)<|zY (x_store1 (o := 5) (v := iv (hrB s)) [] hS11 ti3 rfl rfl rfl (by rw [(List.length_set.trans hC)]; decide)) ?_; intro w12 hS13; simp only [ca, na] at hS13; refine zN<|zT<|zS ?_
  rcases three3 (Lib.cut s [45]).2.2 (numOk (Lib.cut s [45]).1) (numOk (Lib.cut s [45]).2.1) with ⟨e1, e2, e3⟩ | e1 | ⟨e1, e2⟩ | ⟨e1, e2, e3⟩
  · refine c_set (d := 7) (v := .bool true) (congrArg Value.bool e1)<|c_set (d := 9) (v := .bool true) (congrArg Value.bool e2)<|c_set (d := 11) (v := .bool true) (congrArg Value.bool e3)<|zR<|zq 8 rfl<|zN<|zT<|zU<|ret1 Tryz.results43 ?_
    have hF := hS13; exact hours_ok_c0
  · refine c_set (d := 7) (v := .bool false) (congrArg Value.bool e1)<|zR<|zq 8 rfl<|zN<|zT<|zU<|ret1 Tryz.results43 ?_
    have hF := hS13; exact hours_ok_c0
  · refine c_set (d := 7) (v := .bool true) (congrArg Value.bool e1)<|c_set (d := 9) (v := .bool false) (congrArg Value.bool e2)<|zR<|zq 8 rfl<|zN<|zT<|zU<|ret1 Tryz.results43 ?_
    have hF := hS13; exact hours_ok_c0
  refine c_set (d := 7) (v := .bool true) (congrArg Value.bool e1)<|c_set (d := 9) (v := .bool true) (congrArg Value.bool e2)<|c_set (d := 11) (v := .bool false) (congrArg Value.bool e3)<|zR<|zq 8 rfl<|zN<|zT<|zU<|ret1 Tryz.results43 ?_
  have hF := hS13; exact hours_ok_c0

end Go.Proofs.YtjnnhlbfgnopiaaGreatDoor
end
section
namespace Go.Proofs.YtjnnhlbfgnopiaaGreatDoor
open Go.Kw
set_option linter.unusedVariables false
set_option linter.unusedSimpArgs false
set_option maxRecDepth 100000
theorem indexAt_ok_c0 {p : Prop} (h : p := by first | exact .inl ⟨mem_gtw Om h4_5.symm, by rw [idxOf_first Om h4_5.symm hno]; rfl, hF.fin⟩ | (obtain rfl : k = l.length := Om; exact .inr ⟨not_mem_gtw hno, rfl, hF.fin⟩)) : p := h
theorem indexAt_ok (l : Ws) (a : Option Addr) (n c : Nat) (x : List UInt8) (w : World) (hb : Row w a (l.map sv)) (hl : l.length = n) (hn : n ≤ 140737488351232) :
    Ret Tryz.prog 47 [.slice a n c, sv x] w (fun v w' => (x ∈ l ∧ v = vi (l.idxOf x) ∧ St w [] w' []) ∨ (¬ x ∈ l ∧ v = .int .i64 (-1) ∧ St w [] w' [])) := by
  subst hl
  refine enter Tryz.func47 rfl Tryz.ntmps47 rfl ?_
  have hS := St.refl w []
  refine zS<|zR<|zq 1 rfl<|zN<|zT<|zS<|zS<|zR<|zq 1 rfl<|zV (r_len (T := 42) rfl ti42.und rfl _ rfl)<|zq 1 rfl<|zN<|zT<|zI ?_
  refine c_loopE [0, 1, 7] (fun d e w' => ∃ (k : Nat), Kw.look e 8 = vi k ∧ d = l.length - k ∧ St w [] w' [] ∧ (k ≤ l.length) ∧ (∀ j, j < k → ¬ gt l j = x)) (l.length - 0) ?_ ?_
  · exact ⟨0, rfl, rfl, hS, Nat.zero_le _, fun j hj => absurd hj (Nat.not_lt_zero _)⟩
  · rintro d4 e1 w2 ⟨k, hc0_8, rfl, hS3, hk, hno⟩ -
    refine c_set (d := 8) hc0_8<|zS<|zR ?_
    refine wl_dec (r_lss rfl rfl) rfl (fun h2_0 => ?_) (fun h2_0 => ?_)
    · refine zN<|zT<|zS<|zt rfl<|zK<|zT<|zS<|zI<|zS<|zR<|zq 2 rfl<|zN<|zT<|zS<|zR<|zq 3 rfl<|zV (r_ixS ti42.und ti9 rfl rfl (hb.st hS3) Sd Ln) ?_
      refine zV (r_loadS1 ti9.und rfl rfl (hb.st hS3) (by rw [Nat.mul_one]; exact map_gt _ _ _ Sd)) ?_
      refine wl_dec (r_eqlStrL rfl rfl) rfl (fun h4_5 => ?_) (fun h4_5 => ?_)
      · refine zN<|zT<|zt rfl<|zS<|zR<|zq 2 rfl<|zN<|zT<|zU<|zH<|zL<|zL<|zH<|zL<|ret1 Tryz.results47 ?_
        have hF := hS3; exact indexAt_ok_c0
      refine zN<|zT<|zf rfl<|zK<|zJ<|zT<|zR<|zV (r_addn (b := 1) rfl rfl Om)<|zq 1 rfl<|zN<|zT ?_
      exact ⟨l.length - (k + 1), _, by omega, rfl, ⟨k + 1, rfl, rfl, hS3, by omega, fun j hj => (Nat.lt_succ_iff_lt_or_eq.1 hj).elim (hno j) (fun e => e ▸ (Ne.symm h4_5))⟩, ⟨rfl, rfl, rfl, trivial⟩⟩
    refine zN<|zT<|zS<|zf rfl<|zO<|zM<|zM<|c_inE<|zT<|zS<|zR<|zq 1 rfl<|zN<|zT<|zU<|ret1 Tryz.results47 ?_
    have hF := hS3; exact indexAt_ok_c0

theorem indexE_ok_c0 {p : Prop} (h : p := by first | exact .inl ⟨k, rfl, by omega, of_decide_eq_true hem, hno, hF.fin⟩ | (obtain rfl : k = l.length := Om; exact .inr ⟨rfl, hno, hF.fin⟩)) : p := h
theorem indexE_ok (l : Ws) (a : Option Addr) (n c : Nat) (w : World) (hb : Row w a (l.map sv)) (hl : l.length = n) (hn : n ≤ 140737488351232) :
    Ret Tryz.prog 38 [.slice a n c, .func (.func 20) #[] #[]] w (fun v w' => (∃ k : Nat, v = vi k ∧ k < l.length ∧ gt l k = [] ∧ (∀ j, j < k → ¬ gt l j = []) ∧ St w [] w' []) ∨ (v = .int .i64 (-1) ∧ (∀ j, j < l.length → ¬ gt l j = []) ∧ St w [] w' [])) := by
  subst hl
  refine enter Tryz.func38 rfl Tryz.ntmps38 rfl ?_
  have hS := St.refl w []
  refine zS<|zR<|zq 1 rfl<|zN<|zT<|zS<|zS<|zR<|zq 1 rfl<|zV (r_len (T := 42) rfl ti42.und rfl _ rfl)<|zq 1 rfl<|zN<|zT<|zI ?_
  refine c_loopE [0, 1, 7] (fun d e w' => ∃ (k : Nat), Kw.look e 8 = vi k ∧ d = l.length - k ∧ St w [] w' [] ∧ (k ≤ l.length) ∧ (∀ j, j < k → ¬ gt l j = [])) (l.length - 0) ?_ ?_
  · exact ⟨0, rfl, rfl, hS, Nat.zero_le _, fun j hj => absurd hj (Nat.not_lt_zero _)⟩
  · rintro d4 e1 w2 ⟨k, hc0_8, rfl, hS3, hk, hno⟩ -
    refine c_set (d := 8) hc0_8<|zS<|zR ?_
    refine wl_dec (r_lss rfl rfl) rfl (fun h2_0 => ?_) (fun h2_0 => ?_)
    · refine zN<|zT<|zS<|zt rfl<|zK<|zT<|zS<|zI<|zS<|zR<|zq 2 rfl<|zN<|zT<|zS<|zR<|zV (r_move rfl)<|zq 2 rfl<|zV (r_ixS ti42.und ti9 rfl rfl (hb.st hS3) Sd Ln) ?_
      refine zV (r_loadS1 ti9.und rfl rfl (hb.st hS3) (by rw [Nat.mul_one]; exact map_gt _ _ _ Sd)) ?_; refine wl_call (r_callDyn fn20 rfl rfl) rfl ((isEmpty_ok _ _).br) ?_
      rintro _ w5 (⟨hem, rfl, hx6⟩ | ⟨hem, rfl, hx6⟩)
      · have hS7 := hS3.ext hx6
        refine zN<|zT<|zt rfl<|zS<|zR<|zq 2 rfl<|zN<|zT<|zU<|zH<|zL<|zL<|zH<|zL<|ret1 Tryz.results38 ?_
        have hF := hS7; exact indexE_ok_c0
      have hS7 := hS3.ext hx6; refine zN<|zT<|zf rfl<|zK<|zJ<|zT<|zR<|zV (r_addn (b := 1) rfl rfl Om)<|zq 1 rfl<|zN<|zT ?_
      exact ⟨l.length - (k + 1), _, by omega, rfl, ⟨k + 1, rfl, rfl, hS7.fin, by omega, fun j hj => (Nat.lt_succ_iff_lt_or_eq.1 hj).elim (hno j) (fun e => e ▸ (of_decide_eq_false hem))⟩, ⟨rfl, rfl, rfl, trivial⟩⟩
    refine zN<|zT<|zS<|zf rfl<|zO<|zM<|zM<|c_inE<|zT<|zS<|zR<|zq 1 rfl<|zN<|zT<|zU<|ret1 Tryz.results38 ?_
    have hF := hS3; exact indexE_ok_c0

theorem del_set {l : Ws} {j : Nat} (hj : j < l.length) (hv : ¬ gt l j = []) : ((noNil (l.take j) ++ l.drop (noNil (l.take j)).length).set (noNil (l.take j)).length (gt l j)) = noNil (l.take (j + 1)) ++ l.drop (noNil (l.take (j + 1))).length := by
  rw [noNil_take hj, if_neg hv, List.length_append, List.length_singleton, List.set_append_right _ _ (Nat.le_refl _), Nat.sub_self, List.append_assoc]
  congr 1
  have hk : (noNil (l.take j)).length < l.length := by have := noNil_len (l.take j); rw [List.length_take] at this; omega
  rw [List.drop_eq_getElem_cons hk]
  rfl
theorem noNil_all {l : Ws} (h : ∀ j, j < l.length → ¬ gt l j = []) : noNil l = l := by
  have := noNil_first (k := l.length) h (Nat.le_refl _)
  rwa [List.take_length] at this
theorem one_str : One [sv []] := one_cons rfl one_nil

theorem del_gt {l : Ws} {j : Nat} (hj : j < l.length) : gt (noNil (l.take j) ++ l.drop (noNil (l.take j)).length) j = gt l j := by
  have hk : (noNil (l.take j)).length ≤ j := by have := noNil_len (l.take j); rw [List.length_take] at this; omega
  have hl : j < (noNil (l.take j) ++ l.drop (noNil (l.take j)).length).length := by rw [List.length_append, List.length_drop]; omega
  rw [gt_eq _ _ hl, gt_eq l j hj, List.getElem_append_right hk]
  simp only [List.getElem_drop]
  congr 1; omega
theorem del_skip {l : Ws} {j : Nat} (hj : j < l.length) (hv : gt l j = []) : noNil (l.take (j + 1)) = noNil (l.take j) := by rw [noNil_take hj, if_pos hv, List.append_nil]
theorem del_keep {l : Ws} {j : Nat} (hj : j < l.length) (hv : ¬ gt l j = []) : (noNil (l.take (j + 1))).length = (noNil (l.take j)).length + 1 := by rw [noNil_take hj, if_neg hv, List.length_append]; rfl
theorem del_first {l : Ws} {i : Nat} (hi : i < l.length) (he : gt l i = []) (hno : ∀ j, j < i → ¬ gt l j = []) : noNil (l.take (i + 1)) = l.take i := by rw [del_skip hi he, noNil_first hno (by omega)]
theorem sub_lt {g n m : Nat} (h : m < n) : Kw.sub (some ⟨g, 0, none⟩) n m 1 = some ⟨g, m * 1, none⟩ := by
  unfold Kw.sub
  rw [if_neg (by omega)]
  simp [add_lit]

set_option maxHeartbeats 1000000 in
theorem delE_ok (l : Ws) (g n : Nat) (w : World) (hb : w.heap[g]? = some (cl (l.map sv) 9)) (hl : l.length = n) (hn : n ≤ 140737488351232) :
    Ret Tryz.prog 18 [.slice (some ⟨g, 0, none⟩) n n, .func (.func 20) #[] #[]] w (fun v w' => ∃ D, v = .slice (some ⟨g, 0, none⟩) (noNil l).length n ∧ St w [g] w' [.blk g (cl ((noNil l).map sv ++ D) 9)]) := by
  subst hl
  refine enter Tryz.func18 rfl Tryz.ntmps18 rfl ?_
  have hS : St w [g] w [.blk g (cl (l.map sv) 9)] := St.own hb
  refine zS<|zR<|zq 1 rfl<|zN<|zT<|zS<|zR<|zq 1 rfl<|zV (r_move rfl)<|zC fn38 rfl (indexE_ok l _ l.length l.length _ (Row.of_at (at_all (hS.heap Z0))) rfl hn) ?_
  rintro _ w1 (⟨i, rfl, hi, hie, hino, hx2⟩ | ⟨rfl, hall, hx2⟩)
  · have hS3 := hS.ext hx2
    refine zq 1 rfl<|zN<|zT<|zS<|zS<|zR<|zq 1 rfl<|wl_dec_f (r_eql rfl rfl) rfl Om<|zN<|zT<|zf rfl<|zK<|zT<|zS<|zS<|zR<|zq 1 rfl<|zV (r_addn (b := 1) rfl rfl Om)<|zq 1 rfl<|zN<|zT<|zI ?_
    refine c_loopE [0, 1, 4] (fun d e w' => ∃ (j : Nat), Kw.look e 6 = vi j ∧ Kw.look e 5 = vi (noNil (l.take j)).length ∧ d = l.length - j ∧ St w [g] w' [.blk g (cl ((noNil (l.take j) ++ l.drop (noNil (l.take j)).length).map sv) 9)] ∧ (j ≤ l.length) ∧ ((noNil (l.take j)).length < j)) (l.length - (i + 1)) ?_ ?_
    · have e9 := del_first hi hie hino
      have e8 : (l.take i).length = i := by rw [List.length_take]; omega
      exact ⟨i + 1, rfl, by rw [e9, e8]; rfl, rfl, by rw [e9, e8, List.take_append_drop]; exact hS3, by omega, by rw [e9, e8]; omega⟩
    · rintro d7 e4 w5 ⟨j, hc0_6, hc0_5, rfl, hS6, hj, hlt⟩ -
      refine c_set (d := 6) hc0_6<|c_set (d := 5) hc0_5<|zS<|zS<|zR<|zq 2 rfl<|zV (r_len (T := 42) rfl ti42.und rfl _ rfl) ?_
      refine wl_dec (r_lss rfl rfl) rfl (fun h5_3 => ?_) (fun h5_3 => ?_)
      · refine zN<|zT<|zt rfl<|zK<|zT<|zS<|zI<|zS ?_
        have hjl : j < l.length := by omega
        have hgj := del_gt hjl
        refine zR<|zq 2 rfl<|zV (r_ixB ti42.und ti9 rfl rfl Om)<|zV (r_loadB1 ti9.und rfl rfl (hS6.heap Z0) (map_gt _ _ _ (by simp only [List.length_append, List.length_drop]; omega))) ?_; refine zq 1 rfl<|zN<|zT<|zS<|zR<|zV (r_move rfl)<|zq 1 rfl<|wl_call (r_callDyn fn20 rfl rfl) rfl ((isEmpty_ok _ _).br) ?_
        rintro _ w8 (⟨hem, rfl, hx9⟩ | ⟨hem, rfl, hx9⟩)
        · have hS10 := hS6.ext hx9
          refine zq 1 rfl<|zN<|zT<|zf rfl<|zK<|zJ<|zT<|zR<|zq 1 rfl<|zV (r_addn (b := 1) rfl rfl Om)<|zq 1 rfl<|zN<|zT ?_
          have hv : gt l j = [] := by rw [← hgj]; exact of_decide_eq_true hem
          exact ⟨l.length - (j + 1), _, by omega, rfl, ⟨j + 1, rfl, by rw [del_skip hjl hv]; rfl, rfl, by rw [del_skip hjl hv]; exact hS10, by omega, by rw [del_skip hjl hv]; omega⟩, ⟨rfl, rfl, rfl, trivial⟩⟩
        have hS10 := hS6.ext hx9
        have hv : ¬ gt l j = [] := by rw [← hgj]; exact of_decide_eq_false hem
        refine zq 1 rfl<|zN<|zT<|zt rfl<|zS<|zR<|zq 3 rfl<|zV (r_ixB ti42.und ti9 rfl rfl Om)<|zY (x_store1m [] hS10 ti9 rfl rfl rfl (by simp only [List.length_append, List.length_drop]; omega)) ?_; intro w11 hS12; simp only [ca, na] at hS12
        rw [hgj, del_set hjl hv] at hS12
        refine zN<|zT<|zR<|zq 1 rfl<|zV (r_addn (b := 1) rfl rfl Om)<|zq 1 rfl<|zN<|zJ<|zT<|zR<|zq 1 rfl<|zV (r_addn (b := 1) rfl rfl Om)<|zq 1 rfl<|zN<|zT ?_
        exact ⟨l.length - (j + 1), _, by omega, rfl, ⟨j + 1, rfl, congrArg (fun n : Nat => Value.int .i64 (n : Int)) (del_keep hjl hv).symm, rfl, hS12, by omega, by rw [del_keep hjl hv]; omega⟩, ⟨rfl, rfl, rfl, trivial⟩⟩
      refine zN<|zT<|zf rfl<|zO<|zM<|zM<|c_inE<|zT<|zS ?_
      obtain rfl : j = l.length := by omega
      rw [List.take_length] at *
      rw [List.map_append] at hS6
      refine zR<|zq 2 rfl<|zV ((r_sl_l (l := (noNil l).length) ti42.und ti9 rfl rfl Om).trans (by rw [sub_lt Om])) ?_; refine zX (x_clearW (T := 42) (n := l.length - (noNil l).length) (c := l.length - (noNil l).length) (o := (noNil l).length * 1) (sz := 1) (X := (noNil l).map sv) (Y := (l.drop (noNil l).length).map sv) [] hS6 rfl ti42.und ti9 one_str rfl rfl (by simp) (by simp) _ rfl) ?_; rintro _ w13 ⟨rfl, D', hD', hS14⟩; simp only [ca, na] at hS14; refine zN<|zT<|zS<|zR<|zq 2 rfl<|zV (r_sl_h ti42.und ti9 rfl rfl Om)<|zq 1 rfl<|zN<|zT<|zU<|ret1 Tryz.results18 ?_
      exact ⟨_, rfl, hS14⟩
  have hS3 := hS.ext hx2; refine zq 1 rfl<|zN<|zT<|zS<|zS<|zR<|zq 1 rfl<|wl_dec_t (r_eql rfl rfl) rfl (by decide)<|zN<|zT<|zt rfl<|zS<|zR<|zq 2 rfl<|zN<|zT<|zU<|zL<|ret1 Tryz.results18 ?_
  rw [noNil_all hall]
  exact ⟨[], rfl, by rw [List.append_nil]; exact hS3⟩

set_option maxHeartbeats 1000000 in
theorem acts_ok (l : Ws) (a : Option Addr) (n c : Nat) (w : World) (hb : Row w a (l.map sv)) (hl : l.length = n) (hn : n ≤ 100000) (hv : VF w) :
    Ret Tryz.prog 42 [.slice a n c] w (fun v w' => (actsOk l = true ∧ ∃ a' c', v = .tuple #[.slice a' (actsV l).length c', .bool true] ∧ (actsV l).length ≤ c' ∧ St w [] w' [.row (.slice a' (actsV l).length c') 3 1 (actsV l).length ((actsV l).map iv)]) ∨ (actsOk l = false ∧ v = .tuple #[.slice none 0 0, .bool false] ∧ St w [] w' [])) := by
  subst hl
  refine enter Tryz.func42 rfl Tryz.ntmps42 rfl ?_
  have hS := St.refl w []
  refine zS<|zR<|zq 2 rfl<|zN<|zT<|zS<|zR<|zq 1 rfl<|zN<|zT<|zS<|zS<|zR<|zq 1 rfl<|zV (r_len (T := 42) rfl ti42.und rfl _ rfl)<|zq 1 rfl<|zN<|zT<|zI ?_
  refine c_loopE [8, 9] (fun d e w' => ∃ (k : Nat) (a4 : Option Addr) (c4 : Nat), Kw.look e 10 = vi k ∧ Kw.look e 4 = .slice a4 k c4 ∧ d = l.length - k ∧ St w [] w' [.row (.slice a4 k c4) 3 1 k ((actsV (l.take k)).map iv)] ∧ (k ≤ l.length) ∧ (∀ j, j < k → gt l j ∈ actW) ∧ (k ≤ c4)) (l.length - 0) ?_ ?_
  · have hS99 := St.nilRow (E := 3) (sz := 1) hS
    exact ⟨0, none, 0, rfl, rfl, rfl, hS99, Nat.zero_le _, (fun j hj => absurd hj (Nat.not_lt_zero _)), Nat.le_refl _⟩
  · rintro d4 e1 w2 ⟨k, a4, c4, hc0_10, hc0_4, rfl, hS3, hk, hall, hkc⟩ -
    refine c_set (d := 10) hc0_10<|c_set (d := 4) hc0_4<|zS<|zR ?_
    refine wl_dec (r_lss rfl rfl) rfl (fun h3_0 => ?_) (fun h3_0 => ?_)
    · refine zN<|zT<|zS<|zt rfl<|zK<|zT<|zS<|zI<|zS<|zR<|zV (r_ixS ti42.und ti9 rfl rfl (hb.st hS3) Sd Ln) ?_
      refine zV (r_loadS1 ti9.und rfl rfl (hb.st hS3) (by rw [Nat.mul_one]; exact map_gt _ _ _ Sd)) ?_; refine zq 1 rfl<|zN<|zT<|zS<|zR<|zC fn86 rfl (actWords_ok _ (hv.st hS3)) ?_; rintro _ w5 ⟨bA, rfl, hx6⟩
      have hS7 := hS3.call hx6
      simp only [ca, na] at hS7; refine zq 1 rfl<|zC fn47 rfl (indexAt_ok actW _ 12 12 (gt l k) _ (Row.of_at (at_all (hS7.heap Z0))) rfl (by decide)) ?_
      rintro _ w8 (⟨hin, rfl, hx9⟩ | ⟨hin, rfl, hx9⟩)
      · have hS10 := hS7.ext hx9
        have hix : actW.idxOf (gt l k) < 12 := List.idxOf_lt_length_of_mem hin
        refine zq 1 rfl<|zN<|zT<|zS<|zS<|zR<|zq 1 rfl<|wl_dec_f (r_lss rfl rfl) rfl Om<|zN<|zT<|zf rfl<|zK<|zT<|zR<|zq 2 rfl<|zV (r_addn (b := 1) rfl rfl Om) ?_; refine wl_exv (x_lit (vs := [vi (actW.idxOf (gt l k) + 1)]) hS10 ti49.und ti3 rfl rfl rfl On (by decide)) rfl ?_; rintro _ w11 ⟨b22, rfl, hS12⟩; refine zX (x_append [_, _] hS12 ti49.und ti3 rfl (by decide) rfl rfl (Row.of_at (at_all (hS12.heap Z0))) rfl (one_cons rfl one_nil) Sd Sd _ rfl) ?_; rintro _ w13 ⟨aq15, cq15, rfl, hcq15, hS14⟩; simp only [ca, na] at hS14; refine zq 1 rfl<|zN<|zJ<|zT<|zR<|zV (r_addn (b := 1) rfl rfl Om)<|zq 1 rfl<|zN<|zT ?_
        have hS98 := hS14.drop1.drop1
        have e9 : (actsV (l.take k)).map iv ++ [vi (actW.idxOf (gt l k) + 1)] = (actsV (l.take (k + 1))).map iv := by rw [actsV_step Om, List.map_append]; rfl
        rw [e9] at hS98
        exact ⟨l.length - (k + 1), _, by omega, rfl, ⟨k + 1, _, _, rfl, rfl, rfl, hS98, by omega, (fun j hj => (Nat.lt_succ_iff_lt_or_eq.1 hj).elim (hall j) (fun e => e ▸ hin)), by omega⟩, ⟨rfl, rfl, trivial⟩⟩
      have hS10 := hS7.ext hx9; refine zq 1 rfl<|zN<|zT<|zS<|zS<|zR<|zq 1 rfl<|wl_dec_t (r_lss rfl rfl) rfl (by decide)<|zN<|zT<|zt rfl<|zS<|zR<|zq 2 rfl<|zN<|zT<|zU<|zL<|zH<|zL<|zL<|zH<|zL<|ret2 Tryz.results42 rfl rfl ?_
      exact .inr ⟨acts_n Om hin, rfl, hS10.fin⟩
    refine zN<|zT<|zS<|zf rfl<|zO<|zM<|zM<|c_inE<|zT<|zS<|zR<|zq 3 rfl<|zN<|zT<|zU<|ret2 Tryz.results42 rfl rfl ?_
    obtain rfl : k = l.length := by omega
    rw [List.take_length] at hS3
    exact .inl ⟨acts_y hall, a4, c4, by rw [actsV_len]; rfl, by rw [actsV_len]; omega, by rw [actsV_len]; exact hS3⟩

end Go.Proofs.YtjnnhlbfgnopiaaGreatDoor
end
section
namespace Go.Proofs.YtjnnhlbfgnopiaaGreatDoor
open Go.Kw
set_option linter.unusedVariables false
set_option linter.unusedSimpArgs false
set_option maxRecDepth 100000
theorem bool_casesX (b : Bool) : b = true ∨ b = false := by cases b <;> simp
theorem ok2_f {t : Ws} {k1 : Bool} (hk : k1 = ok1 t) (h : headIs kACT (wk1 t) = false) : ok2 t = k1 := by unfold ok2; rw [secOk_f h, secA_f h, ← hk]; simp [actsOk]
theorem ok2_y {t : Ws} (hk : true = ok1 t) (h : headIs kACT (wk1 t) = true) (h2 : 0 < (tkP (wk1 t).tail).length) (h3 : actsOk (tkP (wk1 t).tail) = true) : ok2 t = true := by unfold ok2; rw [secOk_y h h2, secA_t h, h3, ← hk]; rfl
theorem ok2_n {t : Ws} {k1 : Bool} (hk : k1 = ok1 t) (h : headIs kACT (wk1 t) = true) (h2 : k1 = false ∨ ¬ 0 < (tkP (wk1 t).tail).length ∨ actsOk (tkP (wk1 t).tail) = false) : ok2 t = false := by
  unfold ok2
  rw [← hk]
  rcases h2 with h2 | h2 | h2
  · rw [h2]; rfl
  · rw [secOk_n h h2]; simp
  · rw [secA_t h, h2]; simp
theorem ok3_f {t : Ws} {k2 : Bool} (hk : k2 = ok2 t) (h : headIs kON (wk2 t) = false) : ok3 t = k2 := by unfold ok3; rw [secOk_f h, ← hk]; simp
theorem ok3_y {t : Ws} (hk : true = ok2 t) (h : headIs kON (wk2 t) = true) (h2 : 0 < (tkP (wk2 t).tail).length) : ok3 t = true := by unfold ok3; rw [secOk_y h h2, ← hk]; rfl
theorem ok3_n {t : Ws} {k2 : Bool} (hk : k2 = ok2 t) (h : headIs kON (wk2 t) = true) (h2 : k2 = false ∨ ¬ 0 < (tkP (wk2 t).tail).length) : ok3 t = false := by
  unfold ok3
  rw [← hk]
  rcases h2 with h2 | h2
  · rw [h2]; rfl
  · rw [secOk_n h h2]; simp
theorem ok4_f {t : Ws} {k3 : Bool} (hk : k3 = ok3 t) (h : headIs kAT (wk3 t) = false) : ok4 t = k3 := by unfold ok4; rw [atOk_f h, ← hk]; simp
theorem ok4_y {t : Ws} (hk : true = ok3 t) (h : headIs kAT (wk3 t) = true) (h2 : (tkP (wk3 t).tail).length = 1) : ok4 t = hoursOk (gt (tkP (wk3 t).tail) 0) := by unfold ok4; rw [atOk_y h h2, ← hk]; rfl
theorem ok4_n {t : Ws} {k3 : Bool} (hk : k3 = ok3 t) (h : headIs kAT (wk3 t) = true) (h2 : k3 = false ∨ ¬ (tkP (wk3 t).tail).length = 1) : ok4 t = false := by
  unfold ok4
  rw [← hk]
  rcases h2 with h2 | h2
  · rw [h2]; rfl
  · rw [atOk_n h h2]; simp
theorem ok5_f {t : Ws} {k4 : Bool} (hk : k4 = ok4 t) (h : headIs kNEED (wk4 t) = false) : ok5 t = k4 := by unfold ok5; rw [needOk_f h, ← hk]; simp
theorem ok5_y {t : Ws} (hk : true = ok4 t) (h : headIs kNEED (wk4 t) = true) (h2 : (tkP (wk4 t).tail).length = 2) : ok5 t = numOk (gt (tkP (wk4 t).tail) 0) := by unfold ok5; rw [needOk_y h h2, ← hk]; rfl
theorem ok5_n {t : Ws} {k4 : Bool} (hk : k4 = ok4 t) (h : headIs kNEED (wk4 t) = true) (h2 : k4 = false ∨ ¬ (tkP (wk4 t).tail).length = 2) : ok5 t = false := by
  unfold ok5
  rw [← hk]
  rcases h2 with h2 | h2
  · rw [h2]; rfl
  · rw [needOk_n h h2]; simp
theorem nilEnd {w0 w : World} {M : List Nat} {L : List Kw.Item} {E sz : Nat} (h : St w0 M w L) : St w0 M w (L ++ [.row (.slice none 0 0) E sz 0 []]) := (h.nilRow (E := E) (sz := sz)).perm (by simp)
theorem rule_okT {a : Option Addr} {ws : Ws} {dn : Bool} {ar aa al : Option Addr} {cr cb cz : Nat} {l2 : List Int} {fr tt nd : Int} {of : List UInt8} (_ : Sub a ws ar (secA kROLE ws.tail)) (_ : Sub a ws al (secA kON (wk2 ws.tail))) (hcr : (secA kROLE ws.tail).length ≤ cr) (hcz : (secA kON (wk2 ws.tail)).length ≤ cz) (hcb : l2.length ≤ cb)
    (hl : ∀ s ∈ ws.tail, s.length ≤ 65536) (hn : ws.length ≤ 100000) (ho : of.length ≤ 65536) (h2 : l2.length ≤ 100000) : RuleOk ⟨dn, ar, secA kROLE ws.tail, cr, aa, l2, cb, al, secA kON (wk2 ws.tail), cz, fr, tt, nd, of⟩ := by
  have h1 := secA_le kROLE ws.tail
  have h3 := secA_le kON (wk2 ws.tail)
  have h4 := (w_le ws.tail).2.1
  rw [List.length_tail] at h1 h4
  exact ⟨hcr, by show (secA kROLE ws.tail).length ≤ _; omega, fun s hs => Nat.le_trans (hl s (secA_mem hs)) (by decide), hcb, by show l2.length ≤ _; omega, hcz, by show (secA kON (wk2 ws.tail)).length ≤ _; omega, fun s hs => Nat.le_trans (hl s (wk2_mem (secA_mem hs))) (by decide), Nat.le_trans ho (by decide)⟩

theorem readRule_ok_c0 {p : Prop} (h : p := by exact ⟨_, rfl, ⟨_, aq45, cq45, actsV (tkP ((wk1 ws.tail).tail)), aA, cA, false, rfl, (hF.perm ((List.Perm.cons _ ((List.Perm.cons _ ((List.Perm.cons _ (List.Perm.refl _)).trans (List.perm_middle (l₁ := [_])).symm)).trans (List.perm_middle (l₁ := [_])).symm)).trans (List.perm_middle (l₁ := [_, _])).symm)), (secR_t hha).symm, (ok2_n hk1 hha (by first | exact .inl rfl | exact .inr (.inl Om) | exact .inr (.inr hact))).symm, hsq45, hcq45, (fun _ => by rw [secA_t hha]), hcA, by rw [actsV_len]; omega⟩, ⟨rfl, rfl, rfl, rfl, trivial⟩⟩) : p := h
theorem readRule_ok_c1 {p : Prop} (h : p := by exact ⟨_, rfl, ⟨_, aq45, cq45, [], none, 0, false, rfl, hF, (secR_t hha).symm, (ok2_n hk1 hha (by first | exact .inl rfl | exact .inr (.inl Om) | exact .inr (.inr hact))).symm, hsq45, hcq45, (fun h => by rw [(ok2_n hk1 hha (by first | exact .inl rfl | exact .inr (.inl Om) | exact .inr (.inr hact)))] at h; cases h), Nat.le_refl _, Nat.zero_le _⟩, ⟨rfl, rfl, rfl, rfl, trivial⟩⟩) : p := h
theorem readRule_ok_c2 {p : Prop} (h : p := by exact ⟨_, rfl, ⟨_, aq62, cq62, _, aq59, _, false, rfl, (hF.perm ((List.Perm.cons _ (List.Perm.refl _)).trans (List.perm_middle (l₁ := [_])).symm)), (secR_t hho).symm, (secA_t hho).symm, (ok3_n hk2 hho (by first | exact .inl rfl | exact .inr Om)).symm, hsq62, hcq62, (hsq59).tk, Nat.le_refl _⟩, ⟨rfl, rfl, rfl, rfl, trivial⟩⟩) : p := h
theorem readRule_ok_c3 {p : Prop} (h : p := by exact ⟨_, rfl, ⟨_, aq74, cq74, 0, 0, false, rfl, (hF.perm ((List.Perm.cons _ (List.Perm.refl _)).trans (List.perm_middle (l₁ := [_])).symm)), (secR_t hht).symm, (ok4_n hk3 hht (by first | exact .inl rfl | exact .inr Om)).symm, hsq74, hcq74, fun h => by rw [(ok4_n hk3 hht (by first | exact .inl rfl | exact .inr Om))] at h; cases h⟩, ⟨rfl, rfl, rfl, rfl, trivial⟩⟩) : p := h
theorem readRule_ok_c4 {p : Prop} (h : p := by exact ⟨_, rfl, ⟨_, aq86, cq86, _, _, false, rfl, (hF.perm ((List.Perm.cons _ (List.Perm.refl _)).trans (List.perm_middle (l₁ := [_])).symm)), (secR_t hhn).symm, (ok5_n hk4 hhn (by first | exact .inl rfl | exact .inr Om)).symm, hsq86, hcq86, (fun h => by rw [(ok5_n hk4 hhn (by first | exact .inl rfl | exact .inr Om))] at h; cases h), by omega, Nat.zero_le _⟩, ⟨rfl, rfl, rfl, rfl, trivial⟩⟩) : p := h
theorem readRule_ok_c5 {p : Prop} (h : p := by exact .inl ⟨ruleT_r (by first | exact restOk_f hk5.symm | exact restOk_l Om), ⟨⟨dn, ar, secA kROLE ws.tail, cr, aa, l2, cb, al, secA kON (wk2 ws.tail), cz, fr, tt, nd, of⟩, rfl⟩, hF.fin⟩) : p := h
set_option maxHeartbeats 4000000 in
theorem readRule_ok (ws : Ws) (a : Option Addr) (c : Nat) (w : World) (hw : Row w a (ws.map sv)) (hc0 : ws.length ≤ c) (hn : ws.length ≤ 100000) (hll : ∀ s ∈ ws.tail, s.length ≤ 65536) (hv : VF w) :
    Ret Tryz.prog 21 [.slice a ws.length c] w (fun v w' => (ruleT ws = none ∧ (∃ r : RuleD, v = .tuple #[.agg r.v.toArray, .bool false]) ∧ St w [] w' []) ∨ (∃ r : RuleD, ruleT ws = some (nrmR r) ∧ RuleOk r ∧ Sub a ws r.ra r.ro ∧ Sub a ws r.la r.las ∧ v = .tuple #[.agg r.v.toArray, .bool true] ∧ St w [] w' [.row (.slice r.aa r.acs.length r.ak) 3 1 r.acs.length (r.acs.map iv)])) := by
  refine enter Tryz.func21 rfl Tryz.ntmps21 rfl ?_
  have hS := St.refl w []
  refine zS<|zR<|zB (v := .slice _ _ _) hS rfl rfl fun b1 w1 hS2=>zA (C := [.bool false, .slice none 0 0, .slice none 0 0, .slice none 0 0, .int .i64 0, .int .i64 0, .int .i64 0, .string ⟨#[]⟩]) hS2 ti51 rfl fun b2 w3 hS4=>zq 1 rfl<|zN<|zT<|zS<|zR<|zV (r_buildZ pl51 ti51)<|zA (C := [.bool false, .slice none 0 0, .slice none 0 0, .slice none 0 0, .int .i64 0, .int .i64 0, .int .i64 0, .string ⟨#[]⟩]) hS4 ti51 rfl fun b4 w5 hS6=>zY (x_storeW [] hS6 ti51 rfl rfl rfl rfl (one_all rfl)) ?_; intro w7 hS8; simp only [ca, na] at hS8; refine zN<|zT ?_
  refine c_cutE [1, 2, 4] (fun e w' => ∃ (dn : Bool) (a1 : Option Addr) (c1 : Nat), St w [] w' [.blk b4 (cl [.bool dn, .slice none 0 0, .slice none 0 0, .slice none 0 0, .int .i64 0, .int .i64 0, .int .i64 0, .string ⟨#[]⟩] 51), .blk b1 (cl [.slice a1 (ws.tail).length c1] 46), .blk b2 (cl [.bool false, .slice none 0 0, .slice none 0 0, .slice none 0 0, .int .i64 0, .int .i64 0, .int .i64 0, .string ⟨#[]⟩] 51)] ∧ (Sub a ws a1 (ws.tail)) ∧ ((ws.tail).length ≤ c1) ∧ (dn = headIs kDENY ws) ∧ (beginOk ws = true)) ?_ ?_
  · refine zS<|zR<|zC fn40 rfl (is_ok w _ _ kDENY a ws (ws) _ _ _ (hS8.perm ((List.Perm.cons _ (List.Perm.refl _)).trans (List.perm_middle (l₁ := [_, _])).symm)) hw (Sub.refl a ws) hc0 Om) ?_
    rintro _ w13 (⟨hhd, rfl, aq14, cq14, hsq14, hcq14, hS15⟩ | ⟨hhd, rfl, hS15⟩)
    · refine zV (r_field fa51_0 rfl)<|zY (x_store1 [_] hS15 ti4 rfl rfl rfl (by simp)) ?_
      intro w16 hS17; simp only [ca, na] at hS17; refine zN<|zT<|zS<|zR<|zF fa51_0 rfl ti4.und rfl (hS17.heap Z1) rfl rfl rfl<|zq 5 rfl<|zN<|zT<|zf rfl<|zK<|zT ?_
      exact ⟨_, rfl, ⟨true, aq14, cq14, (hS17.perm ((List.Perm.cons _ (List.Perm.refl _)).trans (List.perm_middle (l₁ := [_])).symm)), hsq14, hcq14, hhd.symm, begin_d hhd⟩, ⟨rfl, rfl, rfl, trivial⟩⟩
    refine zV (r_field fa51_0 rfl)<|zY (x_store1 [_] hS15 ti4 rfl rfl rfl (by simp)) ?_; intro w18 hS19; simp only [ca, na] at hS19; refine zN<|zT<|zS<|zR<|zF fa51_0 rfl ti4.und rfl (hS19.heap Z1) rfl rfl rfl<|zq 2 rfl<|zC fn40 rfl (is_ok w _ _ kALLOW a ws (ws) _ _ _ hS19 hw (Sub.refl a ws) hc0 Om) ?_
    rintro _ w20 (⟨hhl, rfl, aq21, cq21, hsq21, hcq21, hS22⟩ | ⟨hhl, rfl, hS22⟩)
    · refine zq 2 rfl<|zN<|zT<|zf rfl<|zK<|zT ?_
      exact ⟨_, rfl, ⟨false, aq21, cq21, (hS22.perm ((List.Perm.cons _ (List.Perm.refl _)).trans (List.perm_middle (l₁ := [_])).symm)), hsq21, hcq21, hhd.symm, begin_a hhl⟩, ⟨rfl, rfl, rfl, trivial⟩⟩
    refine zq 2 rfl<|zN<|zT<|zt rfl<|zS<|zR<|zV (r_loadB ti51 ag51 rfl (hS22.heap Z1) Ln) ?_; refine zY (x_storeW [_, _] hS22 ti51 rfl rfl rfl rfl (one_all rfl)) ?_; intro w23 hS24; simp only [ca, na] at hS24; refine zq 1 rfl<|zN<|zT<|zU<|zL<|ret2 Tryz.results21 ⟨_, rfl, run_loadVar_blk ti51 ag51 (hS24.heap Z2) rfl⟩ rfl ?_
    exact .inl ⟨ruleT_b (begin_n hhd hhl), ⟨⟨false, none, [], 0, none, [], 0, none, [], 0, 0, 0, 0, []⟩, rfl⟩, hS24.fin⟩
  · rintro e9 w10 ⟨dn, a1, c1, hS11, hs1, hc1, hdn, hbg⟩ -
    refine zS<|zR<|zq 1 rfl<|zN<|zT ?_
    refine c_cutE [1, 2, 3, 4] (fun e w' => ∃ (u : Ws) (a1 : Option Addr) (c1 : Nat) (l1 : Ws) (ar : Option Addr) (cr : Nat) (k1 : Bool), Kw.look e 5 = .bool k1 ∧ St w [] w' [.blk b4 (cl [.bool dn, .slice ar (l1).length cr, .slice none 0 0, .slice none 0 0, .int .i64 0, .int .i64 0, .int .i64 0, .string ⟨#[]⟩] 51), .blk b1 (cl [.slice a1 (u).length c1] 46), .blk b2 (cl [.bool false, .slice none 0 0, .slice none 0 0, .slice none 0 0, .int .i64 0, .int .i64 0, .int .i64 0, .string ⟨#[]⟩] 51)] ∧ (u = wk1 ws.tail) ∧ (l1 = secA kROLE ws.tail) ∧ (k1 = ok1 ws.tail) ∧ (Sub a ws a1 (u)) ∧ ((u).length ≤ c1) ∧ (Sub a ws ar l1) ∧ (l1.length ≤ cr)) ?_ ?_
    · refine zS ?_
      have hwl := w_le ws.tail
      have htl : ws.tail.length ≤ ws.length := by rw [List.length_tail]; omega
      refine zR<|zC fn40 rfl (is_ok w _ _ kROLE a ws (ws.tail) _ _ _ (hS11.perm ((List.Perm.cons _ (List.Perm.refl _)).trans (List.perm_middle (l₁ := [_])).symm)) hw hs1 hc1 Om) ?_
      rintro _ w29 (⟨hhr, rfl, aq30, cq30, hsq30, hcq30, hS31⟩ | ⟨hhr, rfl, hS31⟩)
      · refine zN<|zT<|zt rfl<|zS<|zR<|zC fn41 rfl (wlist_ok w _ _ a ws ((ws.tail).tail) _ _ _ hS31 hw hsq30 hcq30 (by rw [List.length_tail]; omega)) ?_
        rintro _ w32 ⟨aq33, cq33, rfl, -, hsq33, hcq33, hS34⟩
        have hlr : Row w aq30 ((tkP ((ws.tail).tail)).map sv) := (hsq30).tk w hw
        have htr := tkP_len ((ws.tail).tail)
        have hdr := drP_le ((ws.tail).tail)
        rw [List.length_tail] at htr hdr
        refine zV (r_field fa51_1 rfl)<|zY (x_store1 [_] hS34 ti42 rfl rfl rfl (by simp)) ?_; intro w35 hS36; simp only [ca, na] at hS36; refine zN<|zT<|zR<|zF fa51_1 rfl ti42.und rfl (hS36.heap Z1) rfl rfl rfl<|zV (r_len (T := 42) rfl ti42.und rfl _ rfl) ?_
        refine wl_dec (r_gtr rfl rfl) rfl (fun h8_3 => ?_) (fun h8_3 => ?_)
        · refine zq 1 rfl<|zN<|zT ?_
          exact ⟨_, rfl, ⟨_, aq33, cq33, _, aq30, _, true, rfl, (hS36.perm ((List.Perm.cons _ (List.Perm.refl _)).trans (List.perm_middle (l₁ := [_])).symm)), (secR_t hhr).symm, (secA_t hhr).symm, (secOk_y hhr Om).symm, hsq33, hcq33, (hsq30).tk, Nat.le_refl _⟩, ⟨rfl, rfl, rfl, rfl, trivial⟩⟩
        refine zq 1 rfl<|zN<|zT ?_
        exact ⟨_, rfl, ⟨_, aq33, cq33, _, aq30, _, false, rfl, (hS36.perm ((List.Perm.cons _ (List.Perm.refl _)).trans (List.perm_middle (l₁ := [_])).symm)), (secR_t hhr).symm, (secA_t hhr).symm, (secOk_n hhr Om).symm, hsq33, hcq33, (hsq30).tk, Nat.le_refl _⟩, ⟨rfl, rfl, rfl, rfl, trivial⟩⟩
      refine zN<|zT<|zf rfl<|zK<|zT ?_
      exact ⟨_, rfl, ⟨_, a1, c1, [], none, 0, true, rfl, (hS31.perm ((List.Perm.cons _ (List.Perm.refl _)).trans (List.perm_middle (l₁ := [_])).symm)), (secR_f hhr).symm, (secA_f hhr).symm, (secOk_f hhr).symm, hs1, hc1, Sub.nil, Nat.le_refl _⟩, ⟨rfl, rfl, rfl, rfl, trivial⟩⟩
    · rintro e25 w26 ⟨u, a1, c1, l1, ar, cr, k1, hc28_5, hS27, rfl, rfl, hk1, hs1, hc1, hsr, hcr⟩ -
      refine c_set (d := 5) hc28_5 ?_
      refine c_cutE [1, 2, 3, 4] (fun e w' => ∃ (u : Ws) (a1 : Option Addr) (c1 : Nat) (l2 : List Int) (aa : Option Addr) (cb : Nat) (k2 : Bool), Kw.look e 5 = .bool k2 ∧ St w [] w' [.blk b4 (cl [.bool dn, .slice ar (secA kROLE ws.tail).length cr, .slice aa (l2).length cb, .slice none 0 0, .int .i64 0, .int .i64 0, .int .i64 0, .string ⟨#[]⟩] 51), .blk b1 (cl [.slice a1 (u).length c1] 46), .blk b2 (cl [.bool false, .slice none 0 0, .slice none 0 0, .slice none 0 0, .int .i64 0, .int .i64 0, .int .i64 0, .string ⟨#[]⟩] 51), .row (.slice aa l2.length cb) 3 1 l2.length (l2.map iv)] ∧ (u = wk2 ws.tail) ∧ (k2 = ok2 ws.tail) ∧ (Sub a ws a1 (u)) ∧ ((u).length ≤ c1) ∧ (ok2 ws.tail = true → l2 = actsV (secA kACT (wk1 ws.tail))) ∧ (l2.length ≤ cb) ∧ (l2.length ≤ 100000)) ?_ ?_
      · refine zS ?_
        have hwl := w_le ws.tail
        have htl : ws.tail.length ≤ ws.length := by rw [List.length_tail]; omega
        refine zR<|zC fn40 rfl (is_ok w _ _ kACT a ws (wk1 ws.tail) _ _ _ (hS27.perm ((List.Perm.cons _ (List.Perm.refl _)).trans (List.perm_middle (l₁ := [_])).symm)) hw hs1 hc1 Om) ?_
        rintro _ w41 (⟨hha, rfl, aq42, cq42, hsq42, hcq42, hS43⟩ | ⟨hha, rfl, hS43⟩)
        · refine zN<|zT<|zt rfl<|zS<|zR<|zC fn41 rfl (wlist_ok w _ _ a ws ((wk1 ws.tail).tail) _ _ _ hS43 hw hsq42 hcq42 (by rw [List.length_tail]; omega)) ?_
          rintro _ w44 ⟨aq45, cq45, rfl, -, hsq45, hcq45, hS46⟩
          have hla : Row w aq42 ((tkP ((wk1 ws.tail).tail)).map sv) := (hsq42).tk w hw
          have hta := tkP_len ((wk1 ws.tail).tail)
          have hda := drP_le ((wk1 ws.tail).tail)
          rw [List.length_tail] at hta hda
          refine zC fn42 rfl (acts_ok (tkP ((wk1 ws.tail).tail)) _ _ _ _ (hla.st hS46) rfl Om (hv.st hS46)) ?_
          rintro _ w47 (⟨hact, aA, cA, rfl, hcA, hx48⟩ | ⟨hact, rfl, hx48⟩)
          · have hS49 := hS46.call hx48
            simp only [ca, na] at hS49
            have hal := actsV_len (tkP ((wk1 ws.tail).tail))
            refine zq 5 rfl<|zN<|zT<|zS<|zR<|zq 1 rfl<|zV (r_field fa51_2 rfl)<|zY (x_store1 [_, _] hS49 ti49 rfl rfl rfl (by simp)) ?_; intro w50 hS51; simp only [ca, na] at hS51; refine zN<|zT ?_
            rcases bool_cases k1 with rfl | rfl
            · refine zR<|zq 6 rfl<|wl_val (r_len (T := 49) rfl ti49.und rfl _ rfl) rfl ?_
              refine wl_dec (r_gtr rfl rfl) rfl (fun h12_7 => ?_) (fun h12_7 => ?_)
              · refine zq 2 rfl<|zN<|zT ?_
                exact ⟨_, rfl, ⟨_, aq45, cq45, actsV (tkP ((wk1 ws.tail).tail)), aA, cA, true, rfl, (hS51.perm ((List.Perm.cons _ ((List.Perm.cons _ ((List.Perm.cons _ (List.Perm.refl _)).trans (List.perm_middle (l₁ := [_])).symm)).trans (List.perm_middle (l₁ := [_])).symm)).trans (List.perm_middle (l₁ := [_, _])).symm)), (secR_t hha).symm, (ok2_y hk1 hha Om hact).symm, hsq45, hcq45, (fun _ => by rw [secA_t hha]), hcA, by rw [actsV_len]; omega⟩, ⟨rfl, rfl, rfl, rfl, trivial⟩⟩
              refine zq 2 rfl<|zN<|zT ?_
              have hF := hS51; exact readRule_ok_c0
            refine zR<|zq 10 rfl<|zN<|zT ?_
            have hF := hS51; exact readRule_ok_c0
          have hS49 := hS46.ext hx48; refine zq 5 rfl<|zN<|zT<|zS<|zR<|zq 1 rfl<|zV (r_field fa51_2 rfl)<|zY (x_store1 [_] hS49 ti49 rfl rfl rfl (by simp)) ?_; intro w52 hS53; simp only [ca, na] at hS53; refine zN<|zT ?_
          rcases bool_cases k1 with rfl | rfl
          · refine zR<|zq 10 rfl<|zN<|zT ?_
            have hS97 := nilEnd (E := 3) (sz := 1) (hS53.perm ((List.Perm.cons _ (List.Perm.refl _)).trans (List.perm_middle (l₁ := [_])).symm))
            have hF := hS97; exact readRule_ok_c1
          refine zR<|zq 10 rfl<|zN<|zT ?_
          have hS97 := nilEnd (E := 3) (sz := 1) (hS53.perm ((List.Perm.cons _ (List.Perm.refl _)).trans (List.perm_middle (l₁ := [_])).symm))
          have hF := hS97; exact readRule_ok_c1
        refine zN<|zT<|zf rfl<|zK<|zT ?_
        have hS97 := nilEnd (E := 3) (sz := 1) (hS43.perm ((List.Perm.cons _ (List.Perm.refl _)).trans (List.perm_middle (l₁ := [_])).symm))
        exact ⟨_, rfl, ⟨_, a1, c1, [], none, 0, k1, rfl, hS97, (secR_f hha).symm, (ok2_f hk1 hha).symm, hs1, hc1, (fun _ => by rw [secA_f hha]; rfl), Nat.le_refl _, Nat.zero_le _⟩, ⟨rfl, rfl, rfl, rfl, trivial⟩⟩
      · rintro e37 w38 ⟨u, a1, c1, l2, aa, cb, k2, hc40_5, hS39, rfl, hk2, hs1, hc1, hl2, hcb, hl2n⟩ -
        refine c_set (d := 5) hc40_5 ?_
        refine c_cutE [1, 2, 3, 4] (fun e w' => ∃ (u : Ws) (a1 : Option Addr) (c1 : Nat) (l3 : Ws) (al : Option Addr) (cz : Nat) (k3 : Bool), Kw.look e 5 = .bool k3 ∧ St w [] w' [.blk b4 (cl [.bool dn, .slice ar (secA kROLE ws.tail).length cr, .slice aa (l2).length cb, .slice al (l3).length cz, .int .i64 0, .int .i64 0, .int .i64 0, .string ⟨#[]⟩] 51), .blk b1 (cl [.slice a1 (u).length c1] 46), .blk b2 (cl [.bool false, .slice none 0 0, .slice none 0 0, .slice none 0 0, .int .i64 0, .int .i64 0, .int .i64 0, .string ⟨#[]⟩] 51), .row (.slice aa l2.length cb) 3 1 l2.length (l2.map iv)] ∧ (u = wk3 ws.tail) ∧ (l3 = secA kON (wk2 ws.tail)) ∧ (k3 = ok3 ws.tail) ∧ (Sub a ws a1 (u)) ∧ ((u).length ≤ c1) ∧ (Sub a ws al l3) ∧ (l3.length ≤ cz)) ?_ ?_
        · refine zS ?_
          have hwl := w_le ws.tail
          have htl : ws.tail.length ≤ ws.length := by rw [List.length_tail]; omega
          refine zR<|zC fn40 rfl (is_ok w _ _ kON a ws (wk2 ws.tail) _ _ _ (hS39.perm ((List.Perm.cons _ (List.Perm.refl _)).trans (List.perm_middle (l₁ := [_])).symm)) hw hs1 hc1 Om) ?_
          rintro _ w58 (⟨hho, rfl, aq59, cq59, hsq59, hcq59, hS60⟩ | ⟨hho, rfl, hS60⟩)
          · refine zN<|zT<|zt rfl<|zS<|zR<|zC fn41 rfl (wlist_ok w _ _ a ws ((wk2 ws.tail).tail) _ _ _ hS60 hw hsq59 hcq59 (by rw [List.length_tail]; omega)) ?_
            rintro _ w61 ⟨aq62, cq62, rfl, -, hsq62, hcq62, hS63⟩
            have hlo : Row w aq59 ((tkP ((wk2 ws.tail).tail)).map sv) := (hsq59).tk w hw
            have hto := tkP_len ((wk2 ws.tail).tail)
            have hdo := drP_le ((wk2 ws.tail).tail)
            rw [List.length_tail] at hto hdo
            refine zV (r_field fa51_3 rfl)<|zY (x_store1 [_] hS63 ti42 rfl rfl rfl (by simp)) ?_; intro w64 hS65; simp only [ca, na] at hS65; refine zN<|zT ?_
            rcases bool_cases k2 with rfl | rfl
            · refine zR<|zq 2 rfl<|wl_val (r_field fa51_3 rfl) rfl<|wl_val (r_loadB1 ti42.und rfl rfl (hS65.heap Z1) rfl) rfl<|wl_val (r_len (T := 42) rfl ti42.und rfl _ rfl) rfl ?_
              refine wl_dec (r_gtr rfl rfl) rfl (fun h15_5 => ?_) (fun h15_5 => ?_)
              · refine zq 2 rfl<|zN<|zT ?_
                exact ⟨_, rfl, ⟨_, aq62, cq62, _, aq59, _, true, rfl, (hS65.perm ((List.Perm.cons _ (List.Perm.refl _)).trans (List.perm_middle (l₁ := [_])).symm)), (secR_t hho).symm, (secA_t hho).symm, (ok3_y hk2 hho Om).symm, hsq62, hcq62, (hsq59).tk, Nat.le_refl _⟩, ⟨rfl, rfl, rfl, rfl, trivial⟩⟩
              refine zq 2 rfl<|zN<|zT ?_
              have hF := hS65; exact readRule_ok_c2
            refine zR<|zq 8 rfl<|zN<|zT ?_
            have hF := hS65; exact readRule_ok_c2
          refine zN<|zT<|zf rfl<|zK<|zT ?_
          exact ⟨_, rfl, ⟨_, a1, c1, [], none, 0, k2, rfl, (hS60.perm ((List.Perm.cons _ (List.Perm.refl _)).trans (List.perm_middle (l₁ := [_])).symm)), (secR_f hho).symm, (secA_f hho).symm, (ok3_f hk2 hho).symm, hs1, hc1, Sub.nil, Nat.le_refl _⟩, ⟨rfl, rfl, rfl, rfl, trivial⟩⟩
        · rintro e54 w55 ⟨u, a1, c1, l3, al, cz, k3, hc57_5, hS56, rfl, rfl, hk3, hs1, hc1, hsl, hcz⟩ -
          refine c_set (d := 5) hc57_5 ?_
          refine c_cutE [1, 2, 3, 4] (fun e w' => ∃ (u : Ws) (a1 : Option Addr) (c1 : Nat) (fr tt : Int) (k4 : Bool), Kw.look e 5 = .bool k4 ∧ St w [] w' [.blk b4 (cl [.bool dn, .slice ar (secA kROLE ws.tail).length cr, .slice aa (l2).length cb, .slice al (secA kON (wk2 ws.tail)).length cz, .int .i64 fr, .int .i64 tt, .int .i64 0, .string ⟨#[]⟩] 51), .blk b1 (cl [.slice a1 (u).length c1] 46), .blk b2 (cl [.bool false, .slice none 0 0, .slice none 0 0, .slice none 0 0, .int .i64 0, .int .i64 0, .int .i64 0, .string ⟨#[]⟩] 51), .row (.slice aa l2.length cb) 3 1 l2.length (l2.map iv)] ∧ (u = wk4 ws.tail) ∧ (k4 = ok4 ws.tail) ∧ (Sub a ws a1 (u)) ∧ ((u).length ≤ c1) ∧ (ok4 ws.tail = true → fr = frT ws.tail ∧ tt = toT ws.tail)) ?_ ?_
          · refine zS ?_
            have hwl := w_le ws.tail
            have htl : ws.tail.length ≤ ws.length := by rw [List.length_tail]; omega
            refine zR<|zC fn40 rfl (is_ok w _ _ kAT a ws (wk3 ws.tail) _ _ _ (hS56.perm ((List.Perm.cons _ (List.Perm.refl _)).trans (List.perm_middle (l₁ := [_])).symm)) hw hs1 hc1 Om) ?_
            rintro _ w70 (⟨hht, rfl, aq71, cq71, hsq71, hcq71, hS72⟩ | ⟨hht, rfl, hS72⟩)
            · refine zN<|zT<|zt rfl<|zS<|zR<|zC fn41 rfl (wlist_ok w _ _ a ws ((wk3 ws.tail).tail) _ _ _ hS72 hw hsq71 hcq71 (by rw [List.length_tail]; omega)) ?_
              rintro _ w73 ⟨aq74, cq74, rfl, -, hsq74, hcq74, hS75⟩
              have hlt : Row w aq71 ((tkP ((wk3 ws.tail).tail)).map sv) := (hsq71).tk w hw
              have htt := tkP_len ((wk3 ws.tail).tail)
              have hdt := drP_le ((wk3 ws.tail).tail)
              rw [List.length_tail] at htt hdt
              refine zq 1 rfl<|zN<|zT ?_
              rcases bool_cases k3 with rfl | rfl
              · refine zR<|zq 3 rfl<|wl_val (r_len (T := 42) rfl ti42.und rfl _ rfl) rfl ?_
                refine wl_dec (r_eql rfl rfl) rfl (fun h18_4 => ?_) (fun h18_4 => ?_)
                · refine zq 3 rfl<|wl_val (r_ixS (m := 0) ti42.und ti9 rfl rfl (hlt.st hS75) Sd Ln) rfl ?_
                  refine wl_val (r_loadS1 ti9.und rfl rfl (hlt.st hS75) (by rw [Nat.mul_one]; exact map_gt _ _ _ Sd)) rfl ?_; refine zC fn43 rfl (hours_ok w _ b4 _ _ _ (hS75.perm ((List.Perm.cons _ (List.Perm.refl _)).trans (List.perm_middle (l₁ := [_])).symm)) rfl (Nat.lt_of_le_of_lt (hll _ (wk3_mem (tkP_mem (gt_mem (tkP ((wk3 ws.tail).tail)) 0 Om)))) (by decide)) hv) ?_; rintro _ w76 ⟨rfl, hS77⟩; refine zq 2 rfl<|zN<|zT ?_
                  exact ⟨_, rfl, ⟨_, aq74, cq74, _, _, _, rfl, hS77, (secR_t hht).symm, (ok4_y hk3 hht Om).symm, hsq74, hcq74, fun _ => ⟨(frT_t hht).1.symm, (frT_t hht).2.symm⟩⟩, ⟨rfl, rfl, rfl, rfl, trivial⟩⟩
                refine zq 8 rfl<|zN<|zT ?_
                have hF := hS75; exact readRule_ok_c3
              refine zR<|zq 13 rfl<|zN<|zT ?_
              have hF := hS75; exact readRule_ok_c3
            refine zN<|zT<|zf rfl<|zK<|zT ?_
            exact ⟨_, rfl, ⟨_, a1, c1, 0, 0, k3, rfl, (hS72.perm ((List.Perm.cons _ (List.Perm.refl _)).trans (List.perm_middle (l₁ := [_])).symm)), (secR_f hht).symm, (ok4_f hk3 hht).symm, hs1, hc1, fun _ => ⟨(frT_f hht).1.symm, (frT_f hht).2.symm⟩⟩, ⟨rfl, rfl, rfl, rfl, trivial⟩⟩
          · rintro e66 w67 ⟨u, a1, c1, fr, tt, k4, hc69_5, hS68, rfl, hk4, hs1, hc1, hft⟩ -
            refine c_set (d := 5) hc69_5 ?_
            refine c_cutE [1, 2, 3, 4] (fun e w' => ∃ (u : Ws) (a1 : Option Addr) (c1 : Nat) (nd : Int) (of : List UInt8) (k5 : Bool), Kw.look e 5 = .bool k5 ∧ St w [] w' [.blk b4 (cl [.bool dn, .slice ar (secA kROLE ws.tail).length cr, .slice aa (l2).length cb, .slice al (secA kON (wk2 ws.tail)).length cz, .int .i64 fr, .int .i64 tt, .int .i64 nd, sv of] 51), .blk b1 (cl [.slice a1 (u).length c1] 46), .blk b2 (cl [.bool false, .slice none 0 0, .slice none 0 0, .slice none 0 0, .int .i64 0, .int .i64 0, .int .i64 0, .string ⟨#[]⟩] 51), .row (.slice aa l2.length cb) 3 1 l2.length (l2.map iv)] ∧ (u = wk5 ws.tail) ∧ (k5 = ok5 ws.tail) ∧ (Sub a ws a1 (u)) ∧ ((u).length ≤ c1) ∧ (ok5 ws.tail = true → nd = ndT ws.tail ∧ of = ofT ws.tail) ∧ (0 ≤ nd) ∧ (of.length ≤ 65536)) ?_ ?_
            · refine zS ?_
              have hwl := w_le ws.tail
              have htl : ws.tail.length ≤ ws.length := by rw [List.length_tail]; omega
              refine zR<|zC fn40 rfl (is_ok w _ _ kNEED a ws (wk4 ws.tail) _ _ _ (hS68.perm ((List.Perm.cons _ (List.Perm.refl _)).trans (List.perm_middle (l₁ := [_])).symm)) hw hs1 hc1 Om) ?_
              rintro _ w82 (⟨hhn, rfl, aq83, cq83, hsq83, hcq83, hS84⟩ | ⟨hhn, rfl, hS84⟩)
              · refine zN<|zT<|zt rfl<|zS<|zR<|zC fn41 rfl (wlist_ok w _ _ a ws ((wk4 ws.tail).tail) _ _ _ hS84 hw hsq83 hcq83 (by rw [List.length_tail]; omega)) ?_
                rintro _ w85 ⟨aq86, cq86, rfl, -, hsq86, hcq86, hS87⟩
                have hln : Row w aq83 ((tkP ((wk4 ws.tail).tail)).map sv) := (hsq83).tk w hw
                have htn := tkP_len ((wk4 ws.tail).tail)
                have hdn := drP_le ((wk4 ws.tail).tail)
                rw [List.length_tail] at htn hdn
                refine zq 1 rfl<|zN<|zT<|zS<|zR<|zq 1 rfl<|zV (r_len (T := 42) rfl ti42.und rfl _ rfl) ?_
                refine wl_dec (r_eql rfl rfl) rfl (fun h21_2 => ?_) (fun h21_2 => ?_)
                · refine zq 2 rfl<|zN<|zT<|zS<|zS<|zR<|zq 1 rfl<|zN<|zT<|zt rfl<|zS<|zR<|zq 1 rfl<|zV (r_ixS (m := 0) ti42.und ti9 rfl rfl (hln.st hS87) Sd Ln) ?_
                  refine zV (r_loadS1 ti9.und rfl rfl (hln.st hS87) (by rw [Nat.mul_one]; exact map_gt _ _ _ Sd)) ?_; refine zE fn44 rfl hS87 (pnumber_ok _ _) fun w88 hS90=>zq 5 rfl<|zN<|zT<|zR<|zq 2 rfl<|zV (r_ixS (m := 1) ti42.und ti9 rfl rfl (hln.st hS90) Sd Ln) ?_; refine zV (r_loadS1 ti9.und rfl rfl (hln.st hS90) (by rw [Nat.mul_one]; exact map_gt _ _ _ Sd)) ?_; refine zV (r_field fa51_6 rfl)<|zY (x_store1 [_] hS90 ti3 rfl rfl rfl (by simp)) ?_; intro w91 hS92; simp only [ca, na] at hS92; refine zV (r_field fa51_7 rfl)<|zY (x_store1 [_] hS92 ti9 rfl rfl rfl (by simp)) ?_; intro w93 hS94; simp only [ca, na] at hS94; refine zN<|zT ?_
                  rcases bool_cases k4 with rfl | rfl
                  · refine zR<|zq 5 rfl<|zN<|zT ?_
                    exact ⟨_, rfl, ⟨_, aq86, cq86, _, _, _, rfl, (hS94.perm ((List.Perm.cons _ (List.Perm.refl _)).trans (List.perm_middle (l₁ := [_])).symm)), (secR_t hhn).symm, (ok5_y hk4 hhn Om).symm, hsq86, hcq86, fun _ => ⟨(ndT_t hhn).1.symm, (ndT_t hhn).2.symm⟩, by omega, hll _ (wk4_mem (tkP_mem (gt_mem _ 1 Om)))⟩, ⟨rfl, rfl, rfl, rfl, trivial⟩⟩
                  refine zR<|zq 5 rfl<|zN<|zT ?_
                  exact ⟨_, rfl, ⟨_, aq86, cq86, _, _, false, rfl, (hS94.perm ((List.Perm.cons _ (List.Perm.refl _)).trans (List.perm_middle (l₁ := [_])).symm)), (secR_t hhn).symm, (ok5_n hk4 hhn (by first | exact .inl rfl | exact .inr Om)).symm, hsq86, hcq86, (fun h => by rw [(ok5_n hk4 hhn (by first | exact .inl rfl | exact .inr Om))] at h; cases h), by omega, hll _ (wk4_mem (tkP_mem (gt_mem _ 1 Om)))⟩, ⟨rfl, rfl, rfl, rfl, trivial⟩⟩
                refine zq 2 rfl<|zN<|zT<|zS<|zS<|zR<|zq 1 rfl<|zN<|zT<|zf rfl<|zK<|zT ?_
                rcases bool_cases k4 with rfl | rfl
                · refine zR<|zq 5 rfl<|zN<|zT ?_
                  have hF := hS87; exact readRule_ok_c4
                refine zR<|zq 5 rfl<|zN<|zT ?_
                have hF := hS87; exact readRule_ok_c4
              refine zN<|zT<|zf rfl<|zK<|zT ?_
              exact ⟨_, rfl, ⟨_, a1, c1, 0, [], k4, rfl, (hS84.perm ((List.Perm.cons _ (List.Perm.refl _)).trans (List.perm_middle (l₁ := [_])).symm)), (secR_f hhn).symm, (ok5_f hk4 hhn).symm, hs1, hc1, fun _ => ⟨(ndT_f hhn).1.symm, (ndT_f hhn).2.symm⟩, by omega, Nat.zero_le _⟩, ⟨rfl, rfl, rfl, rfl, trivial⟩⟩
            · rintro e78 w79 ⟨u, a1, c1, nd, of, k5, hc81_5, hS80, rfl, hk5, hs1, hc1, hno, hnd0, hofl⟩ -
              refine c_set (d := 5) hc81_5<|zS ?_
              rcases bool_cases k5 with rfl | rfl
              · have hwl := w_le ws.tail
                have htl : ws.tail.length ≤ ws.length := by rw [List.length_tail]; omega
                refine c_drawSF 8 hMixed hS80 (hS80.perm ((List.Perm.cons _ (List.Perm.refl _)).trans (List.perm_middle (l₁ := [_, _])).symm)).drop1 ?_; intro w95 hS96; refine zG 0 rfl (hS96.perm ((List.Perm.cons _ (List.Perm.refl _)).trans (List.perm_middle (l₁ := [_, _])).symm)).drop1 (fun wF hF => r_loadB ti51 ag51 rfl (hF.heap Z0) Ln) ?_; refine zG 1 rfl (hS96.perm ((List.Perm.cons _ (List.Perm.refl _)).trans (List.perm_middle (l₁ := [_, _])).symm)).drop1 (fun wF hF => r_move (v := .bool _) rfl) ?_; refine zG 2 rfl (hS96.perm ((List.Perm.cons _ (List.Perm.refl _)).trans (List.perm_middle (l₁ := [_, _])).symm)).drop1 (fun wF hF => r_move (v := .bool _) rfl) ?_; refine zG 3 rfl (hS96.perm ((List.Perm.cons _ (List.Perm.refl _)).trans (List.perm_middle (l₁ := [_, _])).symm)).drop1 (fun wF hF => r_loadB1 ti46.und rfl rfl (hF.heap Z1) rfl) ?_; refine zG 4 rfl (hS96.perm ((List.Perm.cons _ (List.Perm.refl _)).trans (List.perm_middle (l₁ := [_, _])).symm)).drop1 (fun wF hF => r_len (T := 46) rfl ti46.und rfl _ rfl) ?_
                refine g_dec 5 rfl (by decide +kernel) rfl (fun _ _ _ _ h => h) (hS96.perm ((List.Perm.cons _ (List.Perm.refl _)).trans (List.perm_middle (l₁ := [_, _])).symm)).drop1 (fun wF hF => r_eql rfl rfl) (fun h26_5 => ?_) (fun h26_5 => ?_)
                · refine zG 6 rfl (hS96.perm ((List.Perm.cons _ (List.Perm.refl _)).trans (List.perm_middle (l₁ := [_, _])).symm)).drop1 (fun wF hF => r_pick_t rfl (v := .bool _) rfl) ?_
                  refine zG1 7 ?_; refine o_exs rfl (x_storeW [_, _] hS96 ti51 rfl rfl rfl rfl (one_all rfl)) rfl ?_; intro w97 hS98; simp only [ca, na] at hS98
                  refine ⟨(hS98.perm ((List.Perm.cons _ (List.Perm.refl _)).trans (List.perm_middle (l₁ := [_, _])).symm)).drop1, ?_⟩
                  refine zGT rfl ?_; refine zq 1 rfl<|zN<|zT<|zU<|ret2 Tryz.results21 ⟨_, rfl, run_loadVar_blk ti51 ag51 (hS98.heap Z2) rfl⟩ rfl ?_
                  exact .inr ⟨⟨dn, ar, secA kROLE ws.tail, cr, aa, l2, cb, al, secA kON (wk2 ws.tail), cz, fr, tt, nd, of⟩, ruleT_some hbg hdn hk5.symm Om hl2 hft hno, rule_okT hsr hsl hcr hcz hcb hll hn hofl hl2n, hsr, hsl, rfl, hS98.drop1.drop1.drop1⟩
                refine zG 6 rfl (hS96.perm ((List.Perm.cons _ (List.Perm.refl _)).trans (List.perm_middle (l₁ := [_, _])).symm)).drop1 (fun wF hF => r_pick_t rfl (v := .bool _) rfl) ?_; refine zG1 7 ?_; refine o_exs rfl (x_storeW [_, _] hS96 ti51 rfl rfl rfl rfl (one_all rfl)) rfl ?_; intro w99 hS100; simp only [ca, na] at hS100
                refine ⟨(hS100.perm ((List.Perm.cons _ (List.Perm.refl _)).trans (List.perm_middle (l₁ := [_, _])).symm)).drop1, ?_⟩
                refine zGT rfl ?_; refine zq 1 rfl<|zN<|zT<|zU<|ret2 Tryz.results21 ⟨_, rfl, run_loadVar_blk ti51 ag51 (hS100.heap Z2) rfl⟩ rfl ?_
                have hF := hS100; exact readRule_ok_c5
              have hwl := w_le ws.tail
              have htl : ws.tail.length ≤ ws.length := by rw [List.length_tail]; omega
              refine c_drawSF 8 hMixed hS80 (hS80.perm ((List.Perm.cons _ (List.Perm.refl _)).trans (List.perm_middle (l₁ := [_, _])).symm)).drop1 ?_; intro w101 hS102; refine zG 0 rfl (hS102.perm ((List.Perm.cons _ (List.Perm.refl _)).trans (List.perm_middle (l₁ := [_, _])).symm)).drop1 (fun wF hF => r_loadB ti51 ag51 rfl (hF.heap Z0) Ln) ?_; refine zG 1 rfl (hS102.perm ((List.Perm.cons _ (List.Perm.refl _)).trans (List.perm_middle (l₁ := [_, _])).symm)).drop1 (fun wF hF => r_move (v := .bool _) rfl) ?_; refine zG 2 rfl (hS102.perm ((List.Perm.cons _ (List.Perm.refl _)).trans (List.perm_middle (l₁ := [_, _])).symm)).drop1 (fun wF hF => r_move (v := .bool _) rfl) ?_; refine zGN 3 rfl rfl (hS102.perm ((List.Perm.cons _ (List.Perm.refl _)).trans (List.perm_middle (l₁ := [_, _])).symm)).drop1 ?_; refine zGN 4 rfl rfl (hS102.perm ((List.Perm.cons _ (List.Perm.refl _)).trans (List.perm_middle (l₁ := [_, _])).symm)).drop1 ?_; refine zGN 5 rfl rfl (hS102.perm ((List.Perm.cons _ (List.Perm.refl _)).trans (List.perm_middle (l₁ := [_, _])).symm)).drop1 ?_; refine zG 6 rfl (hS102.perm ((List.Perm.cons _ (List.Perm.refl _)).trans (List.perm_middle (l₁ := [_, _])).symm)).drop1 (fun wF hF => r_pick_f rfl (v := .bool false) rfl) ?_; refine zG1 7 ?_; refine o_exs rfl (x_storeW [_, _] hS102 ti51 rfl rfl rfl rfl (one_all rfl)) rfl ?_; intro w103 hS104; simp only [ca, na] at hS104
              refine ⟨(hS104.perm ((List.Perm.cons _ (List.Perm.refl _)).trans (List.perm_middle (l₁ := [_, _])).symm)).drop1, ?_⟩
              refine zGT rfl ?_; refine zq 1 rfl<|zN<|zT<|zU<|ret2 Tryz.results21 ⟨_, rfl, run_loadVar_blk ti51 ag51 (hS104.heap Z2) rfl⟩ rfl ?_
              have hF := hS104; exact readRule_ok_c5

end Go.Proofs.YtjnnhlbfgnopiaaGreatDoor
end
