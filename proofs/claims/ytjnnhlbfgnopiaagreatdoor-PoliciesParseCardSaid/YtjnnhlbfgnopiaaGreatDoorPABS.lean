/- What the law's proof leans on. No condition. -/
import Derived.Test.YtjnnhlbfgnopiaaGreatDoorPAAH
import Derived.Test.YtjnnhlbfgnopiaaGreatDoorPABR
import Derived.Test.YtjnnhlbfgnopiaaGreatDoorPAAR
namespace Go.Proofs.YtjnnhlbfgnopiaaGreatDoor
open Go.Kw
set_option linter.unusedVariables false
set_option linter.unusedSimpArgs false
set_option maxRecDepth 100000
theorem indexFuncS_ok_c0 {p : Prop} (h : p := by first | exact .inl ⟨any_here Om hpx, ⟨_, rfl⟩, hF.fin⟩ | (obtain rfl : k = l.length := Om; rw [List.take_length] at hany; exact .inr ⟨hany, rfl, hF.fin⟩)) : p := h
theorem indexFuncS_ok (l : List (List UInt8)) (a : Option Addr) (n c : Nat) (g : Nat) (lb : List Value) (p : List UInt8 → Bool) (w : World) (hb : Row w a (l.map sv)) (hl : l.length = n) (hn : n ≤ 140737488351232) (hg : FnOk Tryz.prog g) (H : ∀ x w', x ∈ l → St w [] w' [] → Ret Tryz.prog g ([sv x] ++ lb) w' (fun v w'' => v = .bool (p x) ∧ St w' [] w'' [])) :
    Ret Tryz.prog 38 [.slice a n c, .func (.func g) #[] lb.toArray] w (fun v w' => (l.any p = true ∧ (∃ i : Nat, v = vi i) ∧ St w [] w' []) ∨ (l.any p = false ∧ v = .int .i64 (-1) ∧ St w [] w' [])) := by
  subst hl
  refine enter Tryz.func38 rfl Tryz.ntmps38 rfl ?_
  have hS := St.refl w []
  refine zS<|zR<|zq 1 rfl<|zN<|zT<|zS<|zS<|zR<|zq 1 rfl<|zV (r_len (T := 42) rfl ti42.und rfl _ rfl)<|zq 1 rfl<|zN<|zT<|zI ?_
  refine c_loopE [0, 1, 7] (fun d e w' => ∃ (k : Nat), Kw.look e 8 = vi k ∧ d = l.length - k ∧ St w [] w' [] ∧ (k ≤ l.length) ∧ ((l.take k).any p = false)) (l.length - 0) ?_ ?_
  · exact ⟨0, rfl, rfl, hS, Nat.zero_le _, rfl⟩
  · rintro d4 e1 w2 ⟨k, hc0_8, rfl, hS3, hk, hany⟩ -
    refine c_set (d := 8) hc0_8<|zS<|zR ?_
    refine wl_dec (r_lss rfl rfl) rfl (fun h2_0 => ?_) (fun h2_0 => ?_)
    · refine zN<|zT<|zS<|zt rfl<|zK<|zT<|zS<|zI<|zS<|zR<|zq 2 rfl<|zN<|zT<|zS<|zR<|zV (r_move rfl)<|zq 2 rfl<|zV (r_ixS ti42.und ti9 rfl rfl (hb.st hS3) Sd Ln) ?_
      refine zV (r_loadS1 ti9.und rfl rfl (hb.st hS3) (by rw [Nat.mul_one]; exact map_gt _ _ _ Sd)) ?_; refine wl_call (r_callDyn hg rfl rfl) rfl ((H (gt l k) _ (gt_mem l k Om) hS3.fin).br) ?_
      rintro _ w5 (⟨hpx, rfl, hx6⟩ | ⟨hpx, rfl, hx6⟩)
      · have hS7 := hS3.ext hx6
        refine zN<|zT<|zt rfl<|zS<|zR<|zq 2 rfl<|zN<|zT<|zU<|zH<|zL<|zL<|zH<|zL<|ret1 Tryz.results38 ?_
        have hF := hS7; exact indexFuncS_ok_c0
      have hS7 := hS3.ext hx6; refine zN<|zT<|zf rfl<|zK<|zJ<|zT<|zR<|zV (r_addn (b := 1) rfl rfl Om)<|zq 1 rfl<|zN<|zT ?_
      exact ⟨l.length - (k + 1), _, by omega, rfl, ⟨k + 1, rfl, rfl, hS7, by omega, any_step Om hany hpx⟩, ⟨rfl, rfl, rfl, trivial⟩⟩
    refine zN<|zT<|zS<|zf rfl<|zO<|zM<|zM<|c_inE<|zT<|zS<|zR<|zq 1 rfl<|zN<|zT<|zU<|ret1 Tryz.results38 ?_
    have hF := hS3; exact indexFuncS_ok_c0

theorem containsFuncS_ok_c0 {p : Prop} (h : p := by first | exact .inl ⟨by assumption, rfl, hF.fin⟩ | exact .inr ⟨by assumption, rfl, hF.fin⟩) : p := h
theorem containsFuncS_ok (l : List (List UInt8)) (a : Option Addr) (n c : Nat) (g : Nat) (lb : List Value) (p : List UInt8 → Bool) (w : World) (hb : Row w a (l.map sv)) (hl : l.length = n) (hn : n ≤ 140737488351232) (hg : FnOk Tryz.prog g) (H : ∀ x w', x ∈ l → St w [] w' [] → Ret Tryz.prog g ([sv x] ++ lb) w' (fun v w'' => v = .bool (p x) ∧ St w' [] w'' [])) :
    Ret Tryz.prog 50 [.slice a n c, .func (.func g) #[] lb.toArray] w (fun v w' => (l.any p = true ∧ v = .bool true ∧ St w [] w' []) ∨ (l.any p = false ∧ v = .bool false ∧ St w [] w' [])) := by
  refine enter Tryz.func50 rfl Tryz.ntmps50 rfl ?_
  have hS := St.refl w []
  refine zS<|zR<|zq 1 rfl<|zN<|zT<|zS<|zR<|zq 1 rfl<|zV (r_move rfl)<|zC fn38 rfl (indexFuncS_ok l a n c g lb p _ (hb.st hS) hl hn hg (fun x w' hx h' => H x w' hx (hS.ext h').fin)) ?_
  rintro _ w1 (⟨hany, ⟨ix, rfl⟩, hx2⟩ | ⟨hany, rfl, hx2⟩)
  · have hS3 := hS.ext hx2
    refine wl_dec_t (r_geq rfl rfl) rfl Om<|zq 1 rfl<|zN<|zT<|zU<|ret1 Tryz.results50 ?_
    have hF := hS3; exact containsFuncS_ok_c0
  have hS3 := hS.ext hx2; refine wl_dec_f (r_geq rfl rfl) rfl (by decide)<|zq 1 rfl<|zN<|zT<|zU<|ret1 Tryz.results50 ?_
  have hF := hS3; exact containsFuncS_ok_c0

theorem indexS_ok_c0 {p : Prop} (h : p := by first | exact .inl ⟨by rw [h4_5]; exact gt_mem l k Om, ⟨_, rfl⟩, hF.fin⟩ | (obtain rfl : k = l.length := Om; rw [List.take_length] at hnm; exact .inr ⟨hnm, rfl, hF.fin⟩)) : p := h
theorem indexS_ok (l : List (List UInt8)) (a : Option Addr) (n c : Nat) (x : List UInt8) (w : World) (hb : Row w a (l.map sv)) (hl : l.length = n) (hn : n ≤ 140737488351232) :
    Ret Tryz.prog 47 [.slice a n c, sv x] w (fun v w' => (x ∈ l ∧ (∃ i : Nat, v = vi i) ∧ St w [] w' []) ∨ (¬ x ∈ l ∧ v = .int .i64 (-1) ∧ St w [] w' [])) := by
  subst hl
  refine enter Tryz.func47 rfl Tryz.ntmps47 rfl ?_
  have hS := St.refl w []
  refine zS<|zR<|zq 1 rfl<|zN<|zT<|zS<|zS<|zR<|zq 1 rfl<|zV (r_len (T := 42) rfl ti42.und rfl _ rfl)<|zq 1 rfl<|zN<|zT<|zI ?_
  refine c_loopE [0, 1, 7] (fun d e w' => ∃ (k : Nat), Kw.look e 8 = vi k ∧ d = l.length - k ∧ St w [] w' [] ∧ (k ≤ l.length) ∧ (¬ x ∈ l.take k)) (l.length - 0) ?_ ?_
  · exact ⟨0, rfl, rfl, hS, Nat.zero_le _, by simp⟩
  · rintro d4 e1 w2 ⟨k, hc0_8, rfl, hS3, hk, hnm⟩ -
    refine c_set (d := 8) hc0_8<|zS<|zR ?_
    refine wl_dec (r_lss rfl rfl) rfl (fun h2_0 => ?_) (fun h2_0 => ?_)
    · refine zN<|zT<|zS<|zt rfl<|zK<|zT<|zS<|zI<|zS<|zR<|zq 2 rfl<|zN<|zT<|zS<|zR<|zq 3 rfl<|zV (r_ixS ti42.und ti9 rfl rfl (hb.st hS3) Sd Ln) ?_
      refine zV (r_loadS1 ti9.und rfl rfl (hb.st hS3) (by rw [Nat.mul_one]; exact map_gt _ _ _ Sd)) ?_
      refine wl_dec (r_eqlStrL rfl rfl) rfl (fun h4_5 => ?_) (fun h4_5 => ?_)
      · refine zN<|zT<|zt rfl<|zS<|zR<|zq 2 rfl<|zN<|zT<|zU<|zH<|zL<|zL<|zH<|zL<|ret1 Tryz.results47 ?_
        have hF := hS3; exact indexS_ok_c0
      refine zN<|zT<|zf rfl<|zK<|zJ<|zT<|zR<|zV (r_addn (b := 1) rfl rfl Om)<|zq 1 rfl<|zN<|zT ?_
      exact ⟨l.length - (k + 1), _, by omega, rfl, ⟨k + 1, rfl, rfl, hS3, by omega, notmem_step Om hnm h4_5⟩, ⟨rfl, rfl, rfl, trivial⟩⟩
    refine zN<|zT<|zS<|zf rfl<|zO<|zM<|zM<|c_inE<|zT<|zS<|zR<|zq 1 rfl<|zN<|zT<|zU<|ret1 Tryz.results47 ?_
    have hF := hS3; exact indexS_ok_c0

theorem containsS_ok_c0 {p : Prop} (h : p := by first | exact .inl ⟨by assumption, rfl, hF.fin⟩ | exact .inr ⟨by assumption, rfl, hF.fin⟩) : p := h
theorem containsS_ok (l : List (List UInt8)) (a : Option Addr) (n c : Nat) (x : List UInt8) (w : World) (hb : Row w a (l.map sv)) (hl : l.length = n) (hn : n ≤ 140737488351232) :
    Ret Tryz.prog 87 [.slice a n c, sv x] w (fun v w' => (x ∈ l ∧ v = .bool true ∧ St w [] w' []) ∨ (¬ x ∈ l ∧ v = .bool false ∧ St w [] w' [])) := by
  refine enter Tryz.func87 rfl Tryz.ntmps87 rfl ?_
  have hS := St.refl w []
  refine zS<|zR<|zq 1 rfl<|zN<|zT<|zS<|zR<|zq 2 rfl<|zC fn47 rfl (indexS_ok l a n c x _ (hb.st hS) hl hn) ?_
  rintro _ w1 (⟨hany, ⟨ix, rfl⟩, hx2⟩ | ⟨hany, rfl, hx2⟩)
  · have hS3 := hS.ext hx2
    refine wl_dec_t (r_geq rfl rfl) rfl Om<|zq 1 rfl<|zN<|zT<|zU<|ret1 Tryz.results87 ?_
    have hF := hS3; exact containsS_ok_c0
  have hS3 := hS.ext hx2; refine wl_dec_f (r_geq rfl rfl) rfl (by decide)<|zq 1 rfl<|zN<|zT<|zU<|ret1 Tryz.results87 ?_
  have hF := hS3; exact containsS_ok_c0

theorem twiceS_ok_c0 {p : Prop} (h : p := by first | exact .inl ⟨nodup_no Om h5_2, rfl, hF.fin⟩ | (obtain rfl : k = l.length := Om; rw [List.take_length] at hnd; exact .inr ⟨hnd, rfl, hF.fin⟩)) : p := h
theorem twiceS_ok (l : List (List UInt8)) (a : Option Addr) (n c : Nat) (w : World) (hb : Row w a (l.map sv)) (hl : l.length = n) (hn : n ≤ 140737488351232) (hc : n ≤ c) :
    Ret Tryz.prog 73 [.slice a n c] w (fun v w' => (¬ l.Nodup ∧ v = .bool true ∧ St w [] w' []) ∨ (l.Nodup ∧ v = .bool false ∧ St w [] w' [])) := by
  subst hl
  refine enter Tryz.func73 rfl Tryz.ntmps73 rfl ?_
  have hS := St.refl w []
  refine zS<|zR<|zq 1 rfl<|zN<|zT<|zS<|zR<|zX (x_makeMap sv hS) ?_; rintro _ w1 ⟨b6, rfl, hS2⟩; refine zq 1 rfl<|zN<|zT<|zS<|zS<|zR<|zq 1 rfl<|zV (r_len (T := 42) rfl ti42.und rfl _ rfl)<|zq 1 rfl<|zN<|zT<|zI ?_
  refine c_loopE [3, 7, 8] (fun d e w' => ∃ (k : Nat), Kw.look e 9 = vi k ∧ d = l.length - k ∧ St w [] w' [.blk b6 (ents sv (l.take k))] ∧ (k ≤ l.length) ∧ ((l.take k).Nodup)) (l.length - 0) ?_ ?_
  · exact ⟨0, rfl, rfl, hS2, Nat.zero_le _, List.nodup_nil⟩
  · rintro d6 e3 w4 ⟨k, hc0_9, rfl, hS5, hk, hnd⟩ -
    refine c_set (d := 9) hc0_9<|zS<|zR ?_
    refine wl_dec (r_lss rfl rfl) rfl (fun h3_0 => ?_) (fun h3_0 => ?_)
    · refine zN<|zT<|zS<|zt rfl<|zK<|zT<|zS<|zI<|zS<|zR<|zV (r_ixS ti42.und ti9 rfl rfl (hb.st hS5) Sd Ln) ?_
      refine zV (r_loadS1 ti9.und rfl rfl (hb.st hS5) (by rw [Nat.mul_one]; exact map_gt _ _ _ Sd)) ?_; refine zq 1 rfl<|zN<|zT<|zS<|zS<|zR<|zq 2 rfl ?_
      refine wl_dec (r_lookupB (f := sv) (d := .string) (fun _ => trivial) (fun _ _ => sv_inj) ti129.und ti9.und ti4 rfl rfl (hS5.heap Z0)) rfl (fun h5_2 => ?_) (fun h5_2 => ?_)
      · refine zN<|zT<|zt rfl<|zS<|zR<|zq 1 rfl<|zN<|zT<|zU<|zL<|zH<|zL<|zL<|zH<|zL<|ret1 Tryz.results73 ?_
        have hF := hS5; exact twiceS_ok_c0
      refine zN<|zT<|zf rfl<|zK<|zT<|zR<|zq 2 rfl<|zY (x_mapAdd (f := sv) (d := .string) [] hS5 (fun _ => trivial) (fun _ _ => sv_inj) ti129.und ti9.und rfl rfl rfl (by assumption)) ?_; intro w7 hS8; simp only [ca, na] at hS8; refine zN<|zJ<|zT<|zR<|zV (r_addn (b := 1) rfl rfl Om)<|zq 1 rfl<|zN<|zT ?_
      rw [← take_gt l k Om] at hS8
      exact ⟨l.length - (k + 1), _, by omega, rfl, ⟨k + 1, rfl, rfl, hS8, by omega, nodup_step Om hnd h5_2⟩, ⟨rfl, rfl, rfl, trivial⟩⟩
    refine zN<|zT<|zS<|zf rfl<|zO<|zM<|zM<|c_inE<|zT<|zS<|zR<|zq 1 rfl<|zN<|zT<|zU<|ret1 Tryz.results73 ?_
    have hF := hS5; exact twiceS_ok_c0

theorem rtwiceS_ok_c0 {p : Prop} (h : p := by first | exact .inl ⟨nodup_no Om hin, rfl, hF.fin⟩ | (obtain rfl : k = l.length := Om; rw [List.take_length] at hnd; exact .inr ⟨hnd, rfl, hF.fin⟩)) : p := h
theorem rtwiceS_ok (l : List (List UInt8)) (a : Option Addr) (n c : Nat) (w : World) (hb : Row w a (l.map sv)) (hl : l.length = n) (hn : n ≤ 140737488351232) (hc : n ≤ c) :
    Ret Tryz.prog 57 [.slice a n c] w (fun v w' => (¬ l.Nodup ∧ v = .bool true ∧ St w [] w' []) ∨ (l.Nodup ∧ v = .bool false ∧ St w [] w' [])) := by
  subst hl
  refine enter Tryz.func57 rfl Tryz.ntmps57 rfl ?_
  have hS := St.refl w []
  refine zS<|zR<|zq 1 rfl<|zN<|zT<|zS<|zS<|zR<|zq 1 rfl<|zV (r_len (T := 42) rfl ti42.und rfl _ rfl)<|zq 1 rfl<|zN<|zT<|zI ?_
  refine c_loopE [0, 5, 6] (fun d e w' => ∃ (k : Nat), Kw.look e 7 = vi k ∧ d = l.length - k ∧ St w [] w' [] ∧ (k ≤ l.length) ∧ ((l.take k).Nodup)) (l.length - 0) ?_ ?_
  · exact ⟨0, rfl, rfl, hS, Nat.zero_le _, List.nodup_nil⟩
  · rintro d4 e1 w2 ⟨k, hc0_7, rfl, hS3, hk, hnd⟩ -
    refine c_set (d := 7) hc0_7<|zS<|zR ?_
    refine wl_dec (r_lss rfl rfl) rfl (fun h2_0 => ?_) (fun h2_0 => ?_)
    · refine zN<|zT<|zS<|zt rfl<|zK<|zT<|zS<|zI<|zS<|zR<|zq 1 rfl<|zV (r_ixS ti42.und ti9 rfl rfl (hb.st hS3) Sd Ln) ?_
      refine zV (r_loadS1 ti9.und rfl rfl (hb.st hS3) (by rw [Nat.mul_one]; exact map_gt _ _ _ Sd)) ?_; refine zq 2 rfl<|zN<|zT<|zS ?_
      have hrk : Row w a ((l.take k).map sv) := by rw [List.map_take]; exact hb.take
      refine zR<|zq 2 rfl<|zV (r_sl_h ti42.und ti9 rfl rfl Om)<|zq 1 rfl<|zC fn87 rfl (containsS_ok (l.take k) a k c (gt l k) _ (hrk.st hS3) (by rw [List.length_take]; omega) Om) ?_
      rintro _ w5 (⟨hin, rfl, hx6⟩ | ⟨hin, rfl, hx6⟩)
      · have hS7 := hS3.ext hx6
        refine zN<|zT<|zt rfl<|zS<|zR<|zq 1 rfl<|zN<|zT<|zU<|zH<|zL<|zL<|zH<|zL<|ret1 Tryz.results57 ?_
        have hF := hS7; exact rtwiceS_ok_c0
      have hS7 := hS3.ext hx6; refine zN<|zT<|zf rfl<|zK<|zJ<|zT<|zR<|zV (r_addn (b := 1) rfl rfl Om)<|zq 1 rfl<|zN<|zT ?_
      exact ⟨l.length - (k + 1), _, by omega, rfl, ⟨k + 1, rfl, rfl, hS7, by omega, nodup_step Om hnd hin⟩, ⟨rfl, rfl, rfl, trivial⟩⟩
    refine zN<|zT<|zS<|zf rfl<|zO<|zM<|zM<|c_inE<|zT<|zS<|zR<|zq 1 rfl<|zN<|zT<|zU<|ret1 Tryz.results57 ?_
    have hF := hS3; exact rtwiceS_ok_c0

theorem indexFuncI_ok_c0 {p : Prop} (h : p := by first | exact .inl ⟨any_here Om hpx, ⟨_, rfl⟩, hF.fin⟩ | (obtain rfl : k = l.length := Om; rw [List.take_length] at hany; exact .inr ⟨hany, rfl, hF.fin⟩)) : p := h
theorem indexFuncI_ok (l : List (Int)) (a : Option Addr) (n c : Nat) (g : Nat) (lb : List Value) (p : Int → Bool) (w : World) (hb : Row w a (l.map iv)) (hl : l.length = n) (hn : n ≤ 140737488351232) (hg : FnOk Tryz.prog g) (H : ∀ x w', x ∈ l → St w [] w' [] → Ret Tryz.prog g ([iv x] ++ lb) w' (fun v w'' => v = .bool (p x) ∧ St w' [] w'' [])) :
    Ret Tryz.prog 92 [.slice a n c, .func (.func g) #[] lb.toArray] w (fun v w' => (l.any p = true ∧ (∃ i : Nat, v = vi i) ∧ St w [] w' []) ∨ (l.any p = false ∧ v = .int .i64 (-1) ∧ St w [] w' [])) := by
  subst hl
  refine enter Tryz.func92 rfl Tryz.ntmps92 rfl ?_
  have hS := St.refl w []
  refine zS<|zR<|zq 1 rfl<|zN<|zT<|zS<|zS<|zR<|zq 1 rfl<|zV (r_len (T := 49) rfl ti49.und rfl _ rfl)<|zq 1 rfl<|zN<|zT<|zI ?_
  refine c_loopE [0, 1, 7] (fun d e w' => ∃ (k : Nat), Kw.look e 8 = vi k ∧ d = l.length - k ∧ St w [] w' [] ∧ (k ≤ l.length) ∧ ((l.take k).any p = false)) (l.length - 0) ?_ ?_
  · exact ⟨0, rfl, rfl, hS, Nat.zero_le _, rfl⟩
  · rintro d4 e1 w2 ⟨k, hc0_8, rfl, hS3, hk, hany⟩ -
    refine c_set (d := 8) hc0_8<|zS<|zR ?_
    refine wl_dec (r_lss rfl rfl) rfl (fun h2_0 => ?_) (fun h2_0 => ?_)
    · refine zN<|zT<|zS<|zt rfl<|zK<|zT<|zS<|zI<|zS<|zR<|zq 2 rfl<|zN<|zT<|zS<|zR<|zV (r_move rfl)<|zq 2 rfl<|zV (r_ixS ti49.und ti3 rfl rfl (hb.st hS3) Sd Ln) ?_
      refine zV (r_loadS1 ti3.und rfl rfl (hb.st hS3) (by rw [Nat.mul_one]; exact map_gt _ _ _ Sd)) ?_; refine wl_call (r_callDyn hg rfl rfl) rfl ((H (gt l k) _ (gt_mem l k Om) hS3.fin).br) ?_
      rintro _ w5 (⟨hpx, rfl, hx6⟩ | ⟨hpx, rfl, hx6⟩)
      · have hS7 := hS3.ext hx6
        refine zN<|zT<|zt rfl<|zS<|zR<|zq 2 rfl<|zN<|zT<|zU<|zH<|zL<|zL<|zH<|zL<|ret1 Tryz.results92 ?_
        have hF := hS7; exact indexFuncI_ok_c0
      have hS7 := hS3.ext hx6; refine zN<|zT<|zf rfl<|zK<|zJ<|zT<|zR<|zV (r_addn (b := 1) rfl rfl Om)<|zq 1 rfl<|zN<|zT ?_
      exact ⟨l.length - (k + 1), _, by omega, rfl, ⟨k + 1, rfl, rfl, hS7, by omega, any_step Om hany hpx⟩, ⟨rfl, rfl, rfl, trivial⟩⟩
    refine zN<|zT<|zS<|zf rfl<|zO<|zM<|zM<|c_inE<|zT<|zS<|zR<|zq 1 rfl<|zN<|zT<|zU<|ret1 Tryz.results92 ?_
    have hF := hS3; exact indexFuncI_ok_c0

theorem containsFuncI_ok_c0 {p : Prop} (h : p := by first | exact .inl ⟨by assumption, rfl, hF.fin⟩ | exact .inr ⟨by assumption, rfl, hF.fin⟩) : p := h
theorem containsFuncI_ok (l : List (Int)) (a : Option Addr) (n c : Nat) (g : Nat) (lb : List Value) (p : Int → Bool) (w : World) (hb : Row w a (l.map iv)) (hl : l.length = n) (hn : n ≤ 140737488351232) (hg : FnOk Tryz.prog g) (H : ∀ x w', x ∈ l → St w [] w' [] → Ret Tryz.prog g ([iv x] ++ lb) w' (fun v w'' => v = .bool (p x) ∧ St w' [] w'' [])) :
    Ret Tryz.prog 53 [.slice a n c, .func (.func g) #[] lb.toArray] w (fun v w' => (l.any p = true ∧ v = .bool true ∧ St w [] w' []) ∨ (l.any p = false ∧ v = .bool false ∧ St w [] w' [])) := by
  refine enter Tryz.func53 rfl Tryz.ntmps53 rfl ?_
  have hS := St.refl w []
  refine zS<|zR<|zq 1 rfl<|zN<|zT<|zS<|zR<|zq 1 rfl<|zV (r_move rfl)<|zC fn92 rfl (indexFuncI_ok l a n c g lb p _ (hb.st hS) hl hn hg (fun x w' hx h' => H x w' hx (hS.ext h').fin)) ?_
  rintro _ w1 (⟨hany, ⟨ix, rfl⟩, hx2⟩ | ⟨hany, rfl, hx2⟩)
  · have hS3 := hS.ext hx2
    refine wl_dec_t (r_geq rfl rfl) rfl Om<|zq 1 rfl<|zN<|zT<|zU<|ret1 Tryz.results53 ?_
    have hF := hS3; exact containsFuncI_ok_c0
  have hS3 := hS.ext hx2; refine wl_dec_f (r_geq rfl rfl) rfl (by decide)<|zq 1 rfl<|zN<|zT<|zU<|ret1 Tryz.results53 ?_
  have hF := hS3; exact containsFuncI_ok_c0

theorem indexI_ok_c0 {p : Prop} (h : p := by first | exact .inl ⟨by rw [h4_5]; exact gt_mem l k Om, ⟨_, rfl⟩, hF.fin⟩ | (obtain rfl : k = l.length := Om; rw [List.take_length] at hnm; exact .inr ⟨hnm, rfl, hF.fin⟩)) : p := h
theorem indexI_ok (l : List (Int)) (a : Option Addr) (n c : Nat) (x : Int) (w : World) (hb : Row w a (l.map iv)) (hl : l.length = n) (hn : n ≤ 140737488351232) :
    Ret Tryz.prog 118 [.slice a n c, iv x] w (fun v w' => (x ∈ l ∧ (∃ i : Nat, v = vi i) ∧ St w [] w' []) ∨ (¬ x ∈ l ∧ v = .int .i64 (-1) ∧ St w [] w' [])) := by
  subst hl
  refine enter Tryz.func118 rfl Tryz.ntmps118 rfl ?_
  have hS := St.refl w []
  refine zS<|zR<|zq 1 rfl<|zN<|zT<|zS<|zS<|zR<|zq 1 rfl<|zV (r_len (T := 49) rfl ti49.und rfl _ rfl)<|zq 1 rfl<|zN<|zT<|zI ?_
  refine c_loopE [0, 1, 7] (fun d e w' => ∃ (k : Nat), Kw.look e 8 = vi k ∧ d = l.length - k ∧ St w [] w' [] ∧ (k ≤ l.length) ∧ (¬ x ∈ l.take k)) (l.length - 0) ?_ ?_
  · exact ⟨0, rfl, rfl, hS, Nat.zero_le _, by simp⟩
  · rintro d4 e1 w2 ⟨k, hc0_8, rfl, hS3, hk, hnm⟩ -
    refine c_set (d := 8) hc0_8<|zS<|zR ?_
    refine wl_dec (r_lss rfl rfl) rfl (fun h2_0 => ?_) (fun h2_0 => ?_)
    · refine zN<|zT<|zS<|zt rfl<|zK<|zT<|zS<|zI<|zS<|zR<|zq 2 rfl<|zN<|zT<|zS<|zR<|zq 3 rfl<|zV (r_ixS ti49.und ti3 rfl rfl (hb.st hS3) Sd Ln) ?_
      refine zV (r_loadS1 ti3.und rfl rfl (hb.st hS3) (by rw [Nat.mul_one]; exact map_gt _ _ _ Sd)) ?_
      refine wl_dec (r_eql rfl rfl) rfl (fun h4_5 => ?_) (fun h4_5 => ?_)
      · refine zN<|zT<|zt rfl<|zS<|zR<|zq 2 rfl<|zN<|zT<|zU<|zH<|zL<|zL<|zH<|zL<|ret1 Tryz.results118 ?_
        have hF := hS3; exact indexI_ok_c0
      refine zN<|zT<|zf rfl<|zK<|zJ<|zT<|zR<|zV (r_addn (b := 1) rfl rfl Om)<|zq 1 rfl<|zN<|zT ?_
      exact ⟨l.length - (k + 1), _, by omega, rfl, ⟨k + 1, rfl, rfl, hS3, by omega, notmem_step Om hnm h4_5⟩, ⟨rfl, rfl, rfl, trivial⟩⟩
    refine zN<|zT<|zS<|zf rfl<|zO<|zM<|zM<|c_inE<|zT<|zS<|zR<|zq 1 rfl<|zN<|zT<|zU<|ret1 Tryz.results118 ?_
    have hF := hS3; exact indexI_ok_c0

theorem containsI_ok_c0 {p : Prop} (h : p := by first | exact .inl ⟨by assumption, rfl, hF.fin⟩ | exact .inr ⟨by assumption, rfl, hF.fin⟩) : p := h
theorem containsI_ok (l : List (Int)) (a : Option Addr) (n c : Nat) (x : Int) (w : World) (hb : Row w a (l.map iv)) (hl : l.length = n) (hn : n ≤ 140737488351232) :
    Ret Tryz.prog 94 [.slice a n c, iv x] w (fun v w' => (x ∈ l ∧ v = .bool true ∧ St w [] w' []) ∨ (¬ x ∈ l ∧ v = .bool false ∧ St w [] w' [])) := by
  refine enter Tryz.func94 rfl Tryz.ntmps94 rfl ?_
  have hS := St.refl w []
  refine zS<|zR<|zq 1 rfl<|zN<|zT<|zS<|zR<|zq 2 rfl<|zC fn118 rfl (indexI_ok l a n c x _ (hb.st hS) hl hn) ?_
  rintro _ w1 (⟨hany, ⟨ix, rfl⟩, hx2⟩ | ⟨hany, rfl, hx2⟩)
  · have hS3 := hS.ext hx2
    refine wl_dec_t (r_geq rfl rfl) rfl Om<|zq 1 rfl<|zN<|zT<|zU<|ret1 Tryz.results94 ?_
    have hF := hS3; exact containsI_ok_c0
  have hS3 := hS.ext hx2; refine wl_dec_f (r_geq rfl rfl) rfl (by decide)<|zq 1 rfl<|zN<|zT<|zU<|ret1 Tryz.results94 ?_
  have hF := hS3; exact containsI_ok_c0

theorem twiceI_ok_c0 {p : Prop} (h : p := by first | exact .inl ⟨nodup_no Om h5_2, rfl, hF.fin⟩ | (obtain rfl : k = l.length := Om; rw [List.take_length] at hnd; exact .inr ⟨hnd, rfl, hF.fin⟩)) : p := h
theorem twiceI_ok (l : List (Int)) (a : Option Addr) (n c : Nat) (w : World) (hb : Row w a (l.map iv)) (hl : l.length = n) (hn : n ≤ 140737488351232) (hc : n ≤ c) :
    Ret Tryz.prog 74 [.slice a n c] w (fun v w' => (¬ l.Nodup ∧ v = .bool true ∧ St w [] w' []) ∨ (l.Nodup ∧ v = .bool false ∧ St w [] w' [])) := by
  subst hl
  refine enter Tryz.func74 rfl Tryz.ntmps74 rfl ?_
  have hS := St.refl w []
  refine zS<|zR<|zq 1 rfl<|zN<|zT<|zS<|zR<|zX (x_makeMap iv hS) ?_; rintro _ w1 ⟨b6, rfl, hS2⟩; refine zq 1 rfl<|zN<|zT<|zS<|zS<|zR<|zq 1 rfl<|zV (r_len (T := 49) rfl ti49.und rfl _ rfl)<|zq 1 rfl<|zN<|zT<|zI ?_
  refine c_loopE [3, 7, 8] (fun d e w' => ∃ (k : Nat), Kw.look e 9 = vi k ∧ d = l.length - k ∧ St w [] w' [.blk b6 (ents iv (l.take k))] ∧ (k ≤ l.length) ∧ ((l.take k).Nodup)) (l.length - 0) ?_ ?_
  · exact ⟨0, rfl, rfl, hS2, Nat.zero_le _, List.nodup_nil⟩
  · rintro d6 e3 w4 ⟨k, hc0_9, rfl, hS5, hk, hnd⟩ -
    refine c_set (d := 9) hc0_9<|zS<|zR ?_
    refine wl_dec (r_lss rfl rfl) rfl (fun h3_0 => ?_) (fun h3_0 => ?_)
    · refine zN<|zT<|zS<|zt rfl<|zK<|zT<|zS<|zI<|zS<|zR<|zV (r_ixS ti49.und ti3 rfl rfl (hb.st hS5) Sd Ln) ?_
      refine zV (r_loadS1 ti3.und rfl rfl (hb.st hS5) (by rw [Nat.mul_one]; exact map_gt _ _ _ Sd)) ?_; refine zq 1 rfl<|zN<|zT<|zS<|zS<|zR<|zq 2 rfl ?_
      refine wl_dec (r_lookupB (f := iv) (d := .int .i64) (fun _ => rfl) (fun _ _ => iv_inj) ti130.und ti3.und ti4 rfl rfl (hS5.heap Z0)) rfl (fun h5_2 => ?_) (fun h5_2 => ?_)
      · refine zN<|zT<|zt rfl<|zS<|zR<|zq 1 rfl<|zN<|zT<|zU<|zL<|zH<|zL<|zL<|zH<|zL<|ret1 Tryz.results74 ?_
        have hF := hS5; exact twiceI_ok_c0
      refine zN<|zT<|zf rfl<|zK<|zT<|zR<|zq 2 rfl<|zY (x_mapAdd (f := iv) (d := .int .i64) [] hS5 (fun _ => rfl) (fun _ _ => iv_inj) ti130.und ti3.und rfl rfl rfl (by assumption)) ?_; intro w7 hS8; simp only [ca, na] at hS8; refine zN<|zJ<|zT<|zR<|zV (r_addn (b := 1) rfl rfl Om)<|zq 1 rfl<|zN<|zT ?_
      rw [← take_gt l k Om] at hS8
      exact ⟨l.length - (k + 1), _, by omega, rfl, ⟨k + 1, rfl, rfl, hS8, by omega, nodup_step Om hnd h5_2⟩, ⟨rfl, rfl, rfl, trivial⟩⟩
    refine zN<|zT<|zS<|zf rfl<|zO<|zM<|zM<|c_inE<|zT<|zS<|zR<|zq 1 rfl<|zN<|zT<|zU<|ret1 Tryz.results74 ?_
    have hF := hS5; exact twiceI_ok_c0

theorem rtwiceI_ok_c0 {p : Prop} (h : p := by first | exact .inl ⟨nodup_no Om hin, rfl, hF.fin⟩ | (obtain rfl : k = l.length := Om; rw [List.take_length] at hnd; exact .inr ⟨hnd, rfl, hF.fin⟩)) : p := h
theorem rtwiceI_ok (l : List (Int)) (a : Option Addr) (n c : Nat) (w : World) (hb : Row w a (l.map iv)) (hl : l.length = n) (hn : n ≤ 140737488351232) (hc : n ≤ c) :
    Ret Tryz.prog 58 [.slice a n c] w (fun v w' => (¬ l.Nodup ∧ v = .bool true ∧ St w [] w' []) ∨ (l.Nodup ∧ v = .bool false ∧ St w [] w' [])) := by
  subst hl
  refine enter Tryz.func58 rfl Tryz.ntmps58 rfl ?_
  have hS := St.refl w []
  refine zS<|zR<|zq 1 rfl<|zN<|zT<|zS<|zS<|zR<|zq 1 rfl<|zV (r_len (T := 49) rfl ti49.und rfl _ rfl)<|zq 1 rfl<|zN<|zT<|zI ?_
  refine c_loopE [0, 5, 6] (fun d e w' => ∃ (k : Nat), Kw.look e 7 = vi k ∧ d = l.length - k ∧ St w [] w' [] ∧ (k ≤ l.length) ∧ ((l.take k).Nodup)) (l.length - 0) ?_ ?_
  · exact ⟨0, rfl, rfl, hS, Nat.zero_le _, List.nodup_nil⟩
  · rintro d4 e1 w2 ⟨k, hc0_7, rfl, hS3, hk, hnd⟩ -
    refine c_set (d := 7) hc0_7<|zS<|zR ?_
    refine wl_dec (r_lss rfl rfl) rfl (fun h2_0 => ?_) (fun h2_0 => ?_)
    · refine zN<|zT<|zS<|zt rfl<|zK<|zT<|zS<|zI<|zS<|zR<|zq 1 rfl<|zV (r_ixS ti49.und ti3 rfl rfl (hb.st hS3) Sd Ln) ?_
      refine zV (r_loadS1 ti3.und rfl rfl (hb.st hS3) (by rw [Nat.mul_one]; exact map_gt _ _ _ Sd)) ?_; refine zq 2 rfl<|zN<|zT<|zS ?_
      have hrk : Row w a ((l.take k).map iv) := by rw [List.map_take]; exact hb.take
      refine zR<|zq 2 rfl<|zV (r_sl_h ti49.und ti3 rfl rfl Om)<|zq 1 rfl<|zC fn94 rfl (containsI_ok (l.take k) a k c (gt l k) _ (hrk.st hS3) (by rw [List.length_take]; omega) Om) ?_
      rintro _ w5 (⟨hin, rfl, hx6⟩ | ⟨hin, rfl, hx6⟩)
      · have hS7 := hS3.ext hx6
        refine zN<|zT<|zt rfl<|zS<|zR<|zq 1 rfl<|zN<|zT<|zU<|zH<|zL<|zL<|zH<|zL<|ret1 Tryz.results58 ?_
        have hF := hS7; exact rtwiceI_ok_c0
      have hS7 := hS3.ext hx6; refine zN<|zT<|zf rfl<|zK<|zJ<|zT<|zR<|zV (r_addn (b := 1) rfl rfl Om)<|zq 1 rfl<|zN<|zT ?_
      exact ⟨l.length - (k + 1), _, by omega, rfl, ⟨k + 1, rfl, rfl, hS7, by omega, nodup_step Om hnd hin⟩, ⟨rfl, rfl, rfl, trivial⟩⟩
    refine zN<|zT<|zS<|zf rfl<|zO<|zM<|zM<|c_inE<|zT<|zS<|zR<|zq 1 rfl<|zN<|zT<|zU<|ret1 Tryz.results58 ?_
    have hF := hS3; exact rtwiceI_ok_c0

end Go.Proofs.YtjnnhlbfgnopiaaGreatDoor
