/- What the law's proof leans on. No condition. -/
import Derived.Test.YtjnnhlbfgnopiaaGreatDoorPCAI
import Derived.Test.YtjnnhlbfgnopiaaGreatDoorPCBO
import Derived.Test.YtjnnhlbfgnopiaaGreatDoorPCAP
section
namespace Go.Proofs.YtjnnhlbfgnopiaaGreatDoor
open Go.Kw
set_option linter.unusedVariables false
set_option linter.unusedSimpArgs false
set_option maxRecDepth 100000
theorem indexFuncS_ok_c0 {p : Prop} (h : p := by first | exact .inl ⟨any_here Om hpx, ⟨_, rfl⟩, hF.fin⟩ | (obtain rfl : k = l.length := Om; rw [List.take_length] at hany; exact .inr ⟨hany, rfl, hF.fin⟩)) : p := h
theorem indexFuncS_ok (l : List (List UInt8)) (a : Option Addr) (n c : Nat) (g : Nat) (lb : List Value) (p : List UInt8 → Bool) (w : World) (hb : Row w a (l.map sv)) (hl : l.length = n) (hn : n ≤ 140737488351232) (hg : FnOk Tryz.prog g) (H : ∀ x w', x ∈ l → St w [] w' [] → Ret Tryz.prog g ([sv x] ++ lb) w' (fun v w'' => v = .bool (p x) ∧ St w' [] w'' [])) :
    Ret Tryz.prog 38 [.slice a n c, .func (.func g) #[] lb.toArray] w (fun v w' => (l.any p = true ∧ (∃ i : Nat, v = vi i) ∧ St w [] w' []) ∨ (l.any p = false ∧ v = .int .i64 (-1) ∧ St w [] w' [])) := by
  subst hl
  refine enter Tryz.func38 rfl Tryz.ntmps38 rfl ?_
  have hS := St.refl w []
  refine zS<|zR<|zq 1 rfl<|zN<|zT<|zS<|zS<|zR<|zq 1 rfl<|zV (r_len (T := 42) rfl ti42.und rfl _ rfl)<|zq 1 rfl<|zN<|zT<|zI ?_
  refine c_loopE [0, 1, 7] (fun d e w' => ∃ (k : Nat), Kw.look e 8 = vi k ∧ d = l.length - k ∧ St w [] w' [] ∧ (k ≤ l.length) ∧ ((l.take k).any p = false)) (l.length - 0) ?_ ?_
  · exact ⟨0, rfl, rfl, hS, Nat.zero_le _, rfl⟩
  · rintro d4 e1 w2 ⟨k, hc0_8, rfl, hS3, hk, hany⟩ -
    refine c_set (d := 8) hc0_8<|zS<|zR ?_
    refine wl_dec (r_lss rfl rfl) rfl (fun h2_0 => ?_) (fun h2_0 => ?_)
    · refine zN<|zT<|zS<|zt rfl<|zK<|zT<|zS<|zI<|zS<|zR<|zq 2 rfl<|zN<|zT<|zS<|zR<|zV (r_move rfl)<|zq 2 rfl<|zV (r_ixS ti42.und ti9 rfl rfl (hb.st hS3) Sd Ln) ?_
      refine zV (r_loadS1 ti9.und rfl rfl (hb.st hS3) (by rw [Nat.mul_one]; exact map_gt _ _ _ Sd)) ?_; refine wl_call (r_callDyn hg rfl rfl) rfl ((H (gt l k) _ (gt_mem l k Om) hS3.fin).br) ?_
      rintro _ w5 (⟨hpx, rfl, hx6⟩ | ⟨hpx, rfl, hx6⟩)
      · have hS7 := hS3.ext hx6
        refine zN<|zT<|zt rfl<|zS<|zR<|zq 2 rfl<|zN<|zT<|zU<|zH<|zL<|zL<|zH<|zL<|ret1 Tryz.results38 ?_
        have hF := hS7; exact indexFuncS_ok_c0
      have hS7 := hS3.ext hx6; refine zN<|zT<|zf rfl<|zK<|zJ<|zT<|zR<|zV (r_addn (b := 1) rfl rfl Om)<|zq 1 rfl<|zN<|zT ?_
      exact ⟨l.length - (k + 1), _, by omega, rfl, ⟨k + 1, rfl, rfl, hS7, by omega, any_step Om hany hpx⟩, ⟨rfl, rfl, rfl, trivial⟩⟩
    refine zN<|zT<|zS<|zf rfl<|zO<|zM<|zM<|c_inE<|zT<|zS<|zR<|zq 1 rfl<|zN<|zT<|zU<|ret1 Tryz.results38 ?_
    have hF := hS3; exact indexFuncS_ok_c0

theorem containsFuncS_ok_c0 {p : Prop} (h : p := by first | exact .inl ⟨by assumption, rfl, hF.fin⟩ | exact .inr ⟨by assumption, rfl, hF.fin⟩) : p := h
theorem containsFuncS_ok (l : List (List UInt8)) (a : Option Addr) (n c : Nat) (g : Nat) (lb : List Value) (p : List UInt8 → Bool) (w : World) (hb : Row w a (l.map sv)) (hl : l.length = n) (hn : n ≤ 140737488351232) (hg : FnOk Tryz.prog g) (H : ∀ x w', x ∈ l → St w [] w' [] → Ret Tryz.prog g ([sv x] ++ lb) w' (fun v w'' => v = .bool (p x) ∧ St w' [] w'' [])) :
    Ret Tryz.prog 50 [.slice a n c, .func (.func g) #[] lb.toArray] w (fun v w' => (l.any p = true ∧ v = .bool true ∧ St w [] w' []) ∨ (l.any p = false ∧ v = .bool false ∧ St w [] w' [])) := by
  refine enter Tryz.func50 rfl Tryz.ntmps50 rfl ?_
  have hS := St.refl w []
  refine zS<|zR<|zq 1 rfl<|zN<|zT<|zS<|zR<|zq 1 rfl<|zV (r_move rfl)<|zC fn38 rfl (indexFuncS_ok l a n c g lb p _ (hb.st hS) hl hn hg (fun x w' hx h' => H x w' hx (hS.ext h').fin)) ?_
  rintro _ w1 (⟨hany, ⟨ix, rfl⟩, hx2⟩ | ⟨hany, rfl, hx2⟩)
  · have hS3 := hS.ext hx2
    refine wl_dec_t (r_geq rfl rfl) rfl Om<|zq 1 rfl<|zN<|zT<|zU<|ret1 Tryz.results50 ?_
    have hF := hS3; exact containsFuncS_ok_c0
  have hS3 := hS.ext hx2; refine wl_dec_f (r_geq rfl rfl) rfl (by decide)<|zq 1 rfl<|zN<|zT<|zU<|ret1 Tryz.results50 ?_
  have hF := hS3; exact containsFuncS_ok_c0

theorem indexS_ok_c0 {p : Prop} (h : p := by first | exact .inl ⟨by rw [h4_5]; exact gt_mem l k Om, ⟨_, rfl⟩, hF.fin⟩ | (obtain rfl : k = l.length := Om; rw [List.take_length] at hnm; exact .inr ⟨hnm, rfl, hF.fin⟩)) : p := h
theorem indexS_ok (l : List (List UInt8)) (a : Option Addr) (n c : Nat) (x : List UInt8) (w : World) (hb : Row w a (l.map sv)) (hl : l.length = n) (hn : n ≤ 140737488351232) :
    Ret Tryz.prog 47 [.slice a n c, sv x] w (fun v w' => (x ∈ l ∧ (∃ i : Nat, v = vi i) ∧ St w [] w' []) ∨ (¬ x ∈ l ∧ v = .int .i64 (-1) ∧ St w [] w' [])) := by
  subst hl
  refine enter Tryz.func47 rfl Tryz.ntmps47 rfl ?_
  have hS := St.refl w []
  refine zS<|zR<|zq 1 rfl<|zN<|zT<|zS<|zS<|zR<|zq 1 rfl<|zV (r_len (T := 42) rfl ti42.und rfl _ rfl)<|zq 1 rfl<|zN<|zT<|zI ?_
  refine c_loopE [0, 1, 7] (fun d e w' => ∃ (k : Nat), Kw.look e 8 = vi k ∧ d = l.length - k ∧ St w [] w' [] ∧ (k ≤ l.length) ∧ (¬ x ∈ l.take k)) (l.length - 0) ?_ ?_
  · exact ⟨0, rfl, rfl, hS, Nat.zero_le _, by simp⟩
  · rintro d4 e1 w2 ⟨k, hc0_8, rfl, hS3, hk, hnm⟩ -
    refine c_set (d := 8) hc0_8<|zS<|zR ?_
    refine wl_dec (r_lss rfl rfl) rfl (fun h2_0 => ?_) (fun h2_0 => ?_)
    · refine zN<|zT<|zS<|zt rfl<|zK<|zT<|zS<|zI<|zS<|zR<|zq 2 rfl<|zN<|zT<|zS<|zR<|zq 3 rfl<|zV (r_ixS ti42.und ti9 rfl rfl (hb.st hS3) Sd Ln) ?_
      refine zV (r_loadS1 ti9.und rfl rfl (hb.st hS3) (by rw [Nat.mul_one]; exact map_gt _ _ _ Sd)) ?_
      refine wl_dec (r_eqlStrL rfl rfl) rfl (fun h4_5 => ?_) (fun h4_5 => ?_)
      · refine zN<|zT<|zt rfl<|zS<|zR<|zq 2 rfl<|zN<|zT<|zU<|zH<|zL<|zL<|zH<|zL<|ret1 Tryz.results47 ?_
        have hF := hS3; exact indexS_ok_c0
      refine zN<|zT<|zf rfl<|zK<|zJ<|zT<|zR<|zV (r_addn (b := 1) rfl rfl Om)<|zq 1 rfl<|zN<|zT ?_
      exact ⟨l.length - (k + 1), _, by omega, rfl, ⟨k + 1, rfl, rfl, hS3, by omega, notmem_step Om hnm h4_5⟩, ⟨rfl, rfl, rfl, trivial⟩⟩
    refine zN<|zT<|zS<|zf rfl<|zO<|zM<|zM<|c_inE<|zT<|zS<|zR<|zq 1 rfl<|zN<|zT<|zU<|ret1 Tryz.results47 ?_
    have hF := hS3; exact indexS_ok_c0

theorem containsS_ok_c0 {p : Prop} (h : p := by first | exact .inl ⟨by assumption, rfl, hF.fin⟩ | exact .inr ⟨by assumption, rfl, hF.fin⟩) : p := h
theorem containsS_ok (l : List (List UInt8)) (a : Option Addr) (n c : Nat) (x : List UInt8) (w : World) (hb : Row w a (l.map sv)) (hl : l.length = n) (hn : n ≤ 140737488351232) :
    Ret Tryz.prog 87 [.slice a n c, sv x] w (fun v w' => (x ∈ l ∧ v = .bool true ∧ St w [] w' []) ∨ (¬ x ∈ l ∧ v = .bool false ∧ St w [] w' [])) := by
  refine enter Tryz.func87 rfl Tryz.ntmps87 rfl ?_
  have hS := St.refl w []
  refine zS<|zR<|zq 1 rfl<|zN<|zT<|zS<|zR<|zq 2 rfl<|zC fn47 rfl (indexS_ok l a n c x _ (hb.st hS) hl hn) ?_
  rintro _ w1 (⟨hany, ⟨ix, rfl⟩, hx2⟩ | ⟨hany, rfl, hx2⟩)
  · have hS3 := hS.ext hx2
    refine wl_dec_t (r_geq rfl rfl) rfl Om<|zq 1 rfl<|zN<|zT<|zU<|ret1 Tryz.results87 ?_
    have hF := hS3; exact containsS_ok_c0
  have hS3 := hS.ext hx2; refine wl_dec_f (r_geq rfl rfl) rfl (by decide)<|zq 1 rfl<|zN<|zT<|zU<|ret1 Tryz.results87 ?_
  have hF := hS3; exact containsS_ok_c0

theorem twiceS_ok_c0 {p : Prop} (h : p := by first | exact .inl ⟨nodup_no Om h5_2, rfl, hF.fin⟩ | (obtain rfl : k = l.length := Om; rw [List.take_length] at hnd; exact .inr ⟨hnd, rfl, hF.fin⟩)) : p := h
theorem twiceS_ok (l : List (List UInt8)) (a : Option Addr) (n c : Nat) (w : World) (hb : Row w a (l.map sv)) (hl : l.length = n) (hn : n ≤ 140737488351232) (hc : n ≤ c) :
    Ret Tryz.prog 73 [.slice a n c] w (fun v w' => (¬ l.Nodup ∧ v = .bool true ∧ St w [] w' []) ∨ (l.Nodup ∧ v = .bool false ∧ St w [] w' [])) := by
  subst hl
  refine enter Tryz.func73 rfl Tryz.ntmps73 rfl ?_
  have hS := St.refl w []
  refine zS<|zR<|zq 1 rfl<|zN<|zT<|zS<|zR<|zX (x_makeMap sv hS) ?_; rintro _ w1 ⟨b6, rfl, hS2⟩; refine zq 1 rfl<|zN<|zT<|zS<|zS<|zR<|zq 1 rfl<|zV (r_len (T := 42) rfl ti42.und rfl _ rfl)<|zq 1 rfl<|zN<|zT<|zI ?_
  refine c_loopE [3, 7, 8] (fun d e w' => ∃ (k : Nat), Kw.look e 9 = vi k ∧ d = l.length - k ∧ St w [] w' [.blk b6 (ents sv (l.take k))] ∧ (k ≤ l.length) ∧ ((l.take k).Nodup)) (l.length - 0) ?_ ?_
  · exact ⟨0, rfl, rfl, hS2, Nat.zero_le _, List.nodup_nil⟩
  · rintro d6 e3 w4 ⟨k, hc0_9, rfl, hS5, hk, hnd⟩ -
    refine c_set (d := 9) hc0_9<|zS<|zR ?_
    refine wl_dec (r_lss rfl rfl) rfl (fun h3_0 => ?_) (fun h3_0 => ?_)
    · refine zN<|zT<|zS<|zt rfl<|zK<|zT<|zS<|zI<|zS<|zR<|zV (r_ixS ti42.und ti9 rfl rfl (hb.st hS5) Sd Ln) ?_
      refine zV (r_loadS1 ti9.und rfl rfl (hb.st hS5) (by rw [Nat.mul_one]; exact map_gt _ _ _ Sd)) ?_; refine zq 1 rfl<|zN<|zT<|zS<|zS<|zR<|zq 2 rfl ?_
      refine wl_dec (r_lookupB (f := sv) (d := .string) (fun _ => trivial) (fun _ _ => sv_inj) ti129.und ti9.und ti4 rfl rfl (hS5.heap Z0)) rfl (fun h5_2 => ?_) (fun h5_2 => ?_)
      · refine zN<|zT<|zt rfl<|zS<|zR<|zq 1 rfl<|zN<|zT<|zU<|zL<|zH<|zL<|zL<|zH<|zL<|ret1 Tryz.results73 ?_
        have hF := hS5; exact twiceS_ok_c0
      refine zN<|zT<|zf rfl<|zK<|zT<|zR<|zq 2 rfl<|zY (x_mapAdd (f := sv) (d := .string) [] hS5 (fun _ => trivial) (fun _ _ => sv_inj) ti129.und ti9.und rfl rfl rfl (by assumption)) ?_; intro w7 hS8; simp only [ca, na] at hS8; refine zN<|zJ<|zT<|zR<|zV (r_addn (b := 1) rfl rfl Om)<|zq 1 rfl<|zN<|zT ?_
      rw [← take_gt l k Om] at hS8
      exact ⟨l.length - (k + 1), _, by omega, rfl, ⟨k + 1, rfl, rfl, hS8, by omega, nodup_step Om hnd h5_2⟩, ⟨rfl, rfl, rfl, trivial⟩⟩
    refine zN<|zT<|zS<|zf rfl<|zO<|zM<|zM<|c_inE<|zT<|zS<|zR<|zq 1 rfl<|zN<|zT<|zU<|ret1 Tryz.results73 ?_
    have hF := hS5; exact twiceS_ok_c0

theorem rtwiceS_ok_c0 {p : Prop} (h : p := by first | exact .inl ⟨nodup_no Om hin, rfl, hF.fin⟩ | (obtain rfl : k = l.length := Om; rw [List.take_length] at hnd; exact .inr ⟨hnd, rfl, hF.fin⟩)) : p := h
theorem rtwiceS_ok (l : List (List UInt8)) (a : Option Addr) (n c : Nat) (w : World) (hb : Row w a (l.map sv)) (hl : l.length = n) (hn : n ≤ 140737488351232) (hc : n ≤ c) :
    Ret Tryz.prog 57 [.slice a n c] w (fun v w' => (¬ l.Nodup ∧ v = .bool true ∧ St w [] w' []) ∨ (l.Nodup ∧ v = .bool false ∧ St w [] w' [])) := by
  subst hl
  refine enter Tryz.func57 rfl Tryz.ntmps57 rfl ?_
  have hS := St.refl w []
  refine zS<|zR<|zq 1 rfl<|zN<|zT<|zS<|zS<|zR<|zq 1 rfl<|zV (r_len (T := 42) rfl ti42.und rfl _ rfl)<|zq 1 rfl<|zN<|zT<|zI ?_
  refine c_loopE [0, 5, 6] (fun d e w' => ∃ (k : Nat), Kw.look e 7 = vi k ∧ d = l.length - k ∧ St w [] w' [] ∧ (k ≤ l.length) ∧ ((l.take k).Nodup)) (l.length - 0) ?_ ?_
  · exact ⟨0, rfl, rfl, hS, Nat.zero_le _, List.nodup_nil⟩
  · rintro d4 e1 w2 ⟨k, hc0_7, rfl, hS3, hk, hnd⟩ -
    refine c_set (d := 7) hc0_7<|zS<|zR ?_
    refine wl_dec (r_lss rfl rfl) rfl (fun h2_0 => ?_) (fun h2_0 => ?_)
    · refine zN<|zT<|zS<|zt rfl<|zK<|zT<|zS<|zI<|zS<|zR<|zq 1 rfl<|zV (r_ixS ti42.und ti9 rfl rfl (hb.st hS3) Sd Ln) ?_
      refine zV (r_loadS1 ti9.und rfl rfl (hb.st hS3) (by rw [Nat.mul_one]; exact map_gt _ _ _ Sd)) ?_; refine zq 2 rfl<|zN<|zT<|zS ?_
      have hrk : Row w a ((l.take k).map sv) := by rw [List.map_take]; exact hb.take
      refine zR<|zq 2 rfl<|zV (r_sl_h ti42.und ti9 rfl rfl Om)<|zq 1 rfl<|zC fn87 rfl (containsS_ok (l.take k) a k c (gt l k) _ (hrk.st hS3) (by rw [List.length_take]; omega) Om) ?_
      rintro _ w5 (⟨hin, rfl, hx6⟩ | ⟨hin, rfl, hx6⟩)
      · have hS7 := hS3.ext hx6
        refine zN<|zT<|zt rfl<|zS<|zR<|zq 1 rfl<|zN<|zT<|zU<|zH<|zL<|zL<|zH<|zL<|ret1 Tryz.results57 ?_
        have hF := hS7; exact rtwiceS_ok_c0
      have hS7 := hS3.ext hx6; refine zN<|zT<|zf rfl<|zK<|zJ<|zT<|zR<|zV (r_addn (b := 1) rfl rfl Om)<|zq 1 rfl<|zN<|zT ?_
      exact ⟨l.length - (k + 1), _, by omega, rfl, ⟨k + 1, rfl, rfl, hS7, by omega, nodup_step Om hnd hin⟩, ⟨rfl, rfl, rfl, trivial⟩⟩
    refine zN<|zT<|zS<|zf rfl<|zO<|zM<|zM<|c_inE<|zT<|zS<|zR<|zq 1 rfl<|zN<|zT<|zU<|ret1 Tryz.results57 ?_
    have hF := hS3; exact rtwiceS_ok_c0

theorem indexFuncI_ok_c0 {p : Prop} (h : p := by first | exact .inl ⟨any_here Om hpx, ⟨_, rfl⟩, hF.fin⟩ | (obtain rfl : k = l.length := Om; rw [List.take_length] at hany; exact .inr ⟨hany, rfl, hF.fin⟩)) : p := h
theorem indexFuncI_ok (l : List (Int)) (a : Option Addr) (n c : Nat) (g : Nat) (lb : List Value) (p : Int → Bool) (w : World) (hb : Row w a (l.map iv)) (hl : l.length = n) (hn : n ≤ 140737488351232) (hg : FnOk Tryz.prog g) (H : ∀ x w', x ∈ l → St w [] w' [] → Ret Tryz.prog g ([iv x] ++ lb) w' (fun v w'' => v = .bool (p x) ∧ St w' [] w'' [])) :
    Ret Tryz.prog 92 [.slice a n c, .func (.func g) #[] lb.toArray] w (fun v w' => (l.any p = true ∧ (∃ i : Nat, v = vi i) ∧ St w [] w' []) ∨ (l.any p = false ∧ v = .int .i64 (-1) ∧ St w [] w' [])) := by
  subst hl
  refine enter Tryz.func92 rfl Tryz.ntmps92 rfl ?_
  have hS := St.refl w []
  refine zS<|zR<|zq 1 rfl<|zN<|zT<|zS<|zS<|zR<|zq 1 rfl<|zV (r_len (T := 49) rfl ti49.und rfl _ rfl)<|zq 1 rfl<|zN<|zT<|zI ?_
  refine c_loopE [0, 1, 7] (fun d e w' => ∃ (k : Nat), Kw.look e 8 = vi k ∧ d = l.length - k ∧ St w [] w' [] ∧ (k ≤ l.length) ∧ ((l.take k).any p = false)) (l.length - 0) ?_ ?_
  · exact ⟨0, rfl, rfl, hS, Nat.zero_le _, rfl⟩
  · rintro d4 e1 w2 ⟨k, hc0_8, rfl, hS3, hk, hany⟩ -
    refine c_set (d := 8) hc0_8<|zS<|zR ?_
    refine wl_dec (r_lss rfl rfl) rfl (fun h2_0 => ?_) (fun h2_0 => ?_)
    · refine zN<|zT<|zS<|zt rfl<|zK<|zT<|zS<|zI<|zS<|zR<|zq 2 rfl<|zN<|zT<|zS<|zR<|zV (r_move rfl)<|zq 2 rfl<|zV (r_ixS ti49.und ti3 rfl rfl (hb.st hS3) Sd Ln) ?_
      refine zV (r_loadS1 ti3.und rfl rfl (hb.st hS3) (by rw [Nat.mul_one]; exact map_gt _ _ _ Sd)) ?_; refine wl_call (r_callDyn hg rfl rfl) rfl ((H (gt l k) _ (gt_mem l k Om) hS3.fin).br) ?_
      rintro _ w5 (⟨hpx, rfl, hx6⟩ | ⟨hpx, rfl, hx6⟩)
      · have hS7 := hS3.ext hx6
        refine zN<|zT<|zt rfl<|zS<|zR<|zq 2 rfl<|zN<|zT<|zU<|zH<|zL<|zL<|zH<|zL<|ret1 Tryz.results92 ?_
        have hF := hS7; exact indexFuncI_ok_c0
      have hS7 := hS3.ext hx6; refine zN<|zT<|zf rfl<|zK<|zJ<|zT<|zR<|zV (r_addn (b := 1) rfl rfl Om)<|zq 1 rfl<|zN<|zT ?_
      exact ⟨l.length - (k + 1), _, by omega, rfl, ⟨k + 1, rfl, rfl, hS7, by omega, any_step Om hany hpx⟩, ⟨rfl, rfl, rfl, trivial⟩⟩
    refine zN<|zT<|zS<|zf rfl<|zO<|zM<|zM<|c_inE<|zT<|zS<|zR<|zq 1 rfl<|zN<|zT<|zU<|ret1 Tryz.results92 ?_
    have hF := hS3; exact indexFuncI_ok_c0

theorem containsFuncI_ok_c0 {p : Prop} (h : p := by first | exact .inl ⟨by assumption, rfl, hF.fin⟩ | exact .inr ⟨by assumption, rfl, hF.fin⟩) : p := h
theorem containsFuncI_ok (l : List (Int)) (a : Option Addr) (n c : Nat) (g : Nat) (lb : List Value) (p : Int → Bool) (w : World) (hb : Row w a (l.map iv)) (hl : l.length = n) (hn : n ≤ 140737488351232) (hg : FnOk Tryz.prog g) (H : ∀ x w', x ∈ l → St w [] w' [] → Ret Tryz.prog g ([iv x] ++ lb) w' (fun v w'' => v = .bool (p x) ∧ St w' [] w'' [])) :
    Ret Tryz.prog 53 [.slice a n c, .func (.func g) #[] lb.toArray] w (fun v w' => (l.any p = true ∧ v = .bool true ∧ St w [] w' []) ∨ (l.any p = false ∧ v = .bool false ∧ St w [] w' [])) := by
  refine enter Tryz.func53 rfl Tryz.ntmps53 rfl ?_
  have hS := St.refl w []
  refine zS<|zR<|zq 1 rfl<|zN<|zT<|zS<|zR<|zq 1 rfl<|zV (r_move rfl)<|zC fn92 rfl (indexFuncI_ok l a n c g lb p _ (hb.st hS) hl hn hg (fun x w' hx h' => H x w' hx (hS.ext h').fin)) ?_
  rintro _ w1 (⟨hany, ⟨ix, rfl⟩, hx2⟩ | ⟨hany, rfl, hx2⟩)
  · have hS3 := hS.ext hx2
    refine wl_dec_t (r_geq rfl rfl) rfl Om<|zq 1 rfl<|zN<|zT<|zU<|ret1 Tryz.results53 ?_
    have hF := hS3; exact containsFuncI_ok_c0
  have hS3 := hS.ext hx2; refine wl_dec_f (r_geq rfl rfl) rfl (by decide)<|zq 1 rfl<|zN<|zT<|zU<|ret1 Tryz.results53 ?_
  have hF := hS3; exact containsFuncI_ok_c0

theorem indexI_ok_c0 {p : Prop} (h : p := by first | exact .inl ⟨by rw [h4_5]; exact gt_mem l k Om, ⟨_, rfl⟩, hF.fin⟩ | (obtain rfl : k = l.length := Om; rw [List.take_length] at hnm; exact .inr ⟨hnm, rfl, hF.fin⟩)) : p := h
theorem indexI_ok (l : List (Int)) (a : Option Addr) (n c : Nat) (x : Int) (w : World) (hb : Row w a (l.map iv)) (hl : l.length = n) (hn : n ≤ 140737488351232) :
    Ret Tryz.prog 118 [.slice a n c, iv x] w (fun v w' => (x ∈ l ∧ (∃ i : Nat, v = vi i) ∧ St w [] w' []) ∨ (¬ x ∈ l ∧ v = .int .i64 (-1) ∧ St w [] w' [])) := by
  subst hl
  refine enter Tryz.func118 rfl Tryz.ntmps118 rfl ?_
  have hS := St.refl w []
  refine zS<|zR<|zq 1 rfl<|zN<|zT<|zS<|zS<|zR<|zq 1 rfl<|zV (r_len (T := 49) rfl ti49.und rfl _ rfl)<|zq 1 rfl<|zN<|zT<|zI ?_
  refine c_loopE [0, 1, 7] (fun d e w' => ∃ (k : Nat), Kw.look e 8 = vi k ∧ d = l.length - k ∧ St w [] w' [] ∧ (k ≤ l.length) ∧ (¬ x ∈ l.take k)) (l.length - 0) ?_ ?_
  · exact ⟨0, rfl, rfl, hS, Nat.zero_le _, by simp⟩
  · rintro d4 e1 w2 ⟨k, hc0_8, rfl, hS3, hk, hnm⟩ -
    refine c_set (d := 8) hc0_8<|zS<|zR ?_
    refine wl_dec (r_lss rfl rfl) rfl (fun h2_0 => ?_) (fun h2_0 => ?_)
    · refine zN<|zT<|zS<|zt rfl<|zK<|zT<|zS<|zI<|zS<|zR<|zq 2 rfl<|zN<|zT<|zS<|zR<|zq 3 rfl<|zV (r_ixS ti49.und ti3 rfl rfl (hb.st hS3) Sd Ln) ?_
      refine zV (r_loadS1 ti3.und rfl rfl (hb.st hS3) (by rw [Nat.mul_one]; exact map_gt _ _ _ Sd)) ?_
      refine wl_dec (r_eql rfl rfl) rfl (fun h4_5 => ?_) (fun h4_5 => ?_)
      · refine zN<|zT<|zt rfl<|zS<|zR<|zq 2 rfl<|zN<|zT<|zU<|zH<|zL<|zL<|zH<|zL<|ret1 Tryz.results118 ?_
        have hF := hS3; exact indexI_ok_c0
      refine zN<|zT<|zf rfl<|zK<|zJ<|zT<|zR<|zV (r_addn (b := 1) rfl rfl Om)<|zq 1 rfl<|zN<|zT ?_
      exact ⟨l.length - (k + 1), _, by omega, rfl, ⟨k + 1, rfl, rfl, hS3, by omega, notmem_step Om hnm h4_5⟩, ⟨rfl, rfl, rfl, trivial⟩⟩
    refine zN<|zT<|zS<|zf rfl<|zO<|zM<|zM<|c_inE<|zT<|zS<|zR<|zq 1 rfl<|zN<|zT<|zU<|ret1 Tryz.results118 ?_
    have hF := hS3; exact indexI_ok_c0

theorem containsI_ok_c0 {p : Prop} (h : p := by first | exact .inl ⟨by assumption, rfl, hF.fin⟩ | exact .inr ⟨by assumption, rfl, hF.fin⟩) : p := h
theorem containsI_ok (l : List (Int)) (a : Option Addr) (n c : Nat) (x : Int) (w : World) (hb : Row w a (l.map iv)) (hl : l.length = n) (hn : n ≤ 140737488351232) :
    Ret Tryz.prog 94 [.slice a n c, iv x] w (fun v w' => (x ∈ l ∧ v = .bool true ∧ St w [] w' []) ∨ (¬ x ∈ l ∧ v = .bool false ∧ St w [] w' [])) := by
  refine enter Tryz.func94 rfl Tryz.ntmps94 rfl ?_
  have hS := St.refl w []
  refine zS<|zR<|zq 1 rfl<|zN<|zT<|zS<|zR<|zq 2 rfl<|zC fn118 rfl (indexI_ok l a n c x _ (hb.st hS) hl hn) ?_
  rintro _ w1 (⟨hany, ⟨ix, rfl⟩, hx2⟩ | ⟨hany, rfl, hx2⟩)
  · have hS3 := hS.ext hx2
    refine wl_dec_t (r_geq rfl rfl) rfl Om<|zq 1 rfl<|zN<|zT<|zU<|ret1 Tryz.results94 ?_
    have hF := hS3; exact containsI_ok_c0
  have hS3 := hS.ext hx2; refine wl_dec_f (r_geq rfl rfl) rfl (by decide)<|zq 1 rfl<|zN<|zT<|zU<|ret1 Tryz.results94 ?_
  have hF := hS3; exact containsI_ok_c0

theorem twiceI_ok_c0 {p : Prop} (h : p := by first | exact .inl ⟨nodup_no Om h5_2, rfl, hF.fin⟩ | (obtain rfl : k = l.length := Om; rw [List.take_length] at hnd; exact .inr ⟨hnd, rfl, hF.fin⟩)) : p := h
theorem twiceI_ok (l : List (Int)) (a : Option Addr) (n c : Nat) (w : World) (hb : Row w a (l.map iv)) (hl : l.length = n) (hn : n ≤ 140737488351232) (hc : n ≤ c) :
    Ret Tryz.prog 74 [.slice a n c] w (fun v w' => (¬ l.Nodup ∧ v = .bool true ∧ St w [] w' []) ∨ (l.Nodup ∧ v = .bool false ∧ St w [] w' [])) := by
  subst hl
  refine enter Tryz.func74 rfl Tryz.ntmps74 rfl ?_
  have hS := St.refl w []
  refine zS<|zR<|zq 1 rfl<|zN<|zT<|zS<|zR<|zX (x_makeMap iv hS) ?_; rintro _ w1 ⟨b6, rfl, hS2⟩; refine zq 1 rfl<|zN<|zT<|zS<|zS<|zR<|zq 1 rfl<|zV (r_len (T := 49) rfl ti49.und rfl _ rfl)<|zq 1 rfl<|zN<|zT<|zI ?_
  refine c_loopE [3, 7, 8] (fun d e w' => ∃ (k : Nat), Kw.look e 9 = vi k ∧ d = l.length - k ∧ St w [] w' [.blk b6 (ents iv (l.take k))] ∧ (k ≤ l.length) ∧ ((l.take k).Nodup)) (l.length - 0) ?_ ?_
  · exact ⟨0, rfl, rfl, hS2, Nat.zero_le _, List.nodup_nil⟩
  · rintro d6 e3 w4 ⟨k, hc0_9, rfl, hS5, hk, hnd⟩ -
    refine c_set (d := 9) hc0_9<|zS<|zR ?_
    refine wl_dec (r_lss rfl rfl) rfl (fun h3_0 => ?_) (fun h3_0 => ?_)
    · refine zN<|zT<|zS<|zt rfl<|zK<|zT<|zS<|zI<|zS<|zR<|zV (r_ixS ti49.und ti3 rfl rfl (hb.st hS5) Sd Ln) ?_
      refine zV (r_loadS1 ti3.und rfl rfl (hb.st hS5) (by rw [Nat.mul_one]; exact map_gt _ _ _ Sd)) ?_; refine zq 1 rfl<|zN<|zT<|zS<|zS<|zR<|zq 2 rfl ?_
      refine wl_dec (r_lookupB (f := iv) (d := .int .i64) (fun _ => rfl) (fun _ _ => iv_inj) ti130.und ti3.und ti4 rfl rfl (hS5.heap Z0)) rfl (fun h5_2 => ?_) (fun h5_2 => ?_)
      · refine zN<|zT<|zt rfl<|zS<|zR<|zq 1 rfl<|zN<|zT<|zU<|zL<|zH<|zL<|zL<|zH<|zL<|ret1 Tryz.results74 ?_
        have hF := hS5; exact twiceI_ok_c0
      refine zN<|zT<|zf rfl<|zK<|zT<|zR<|zq 2 rfl<|zY (x_mapAdd (f := iv) (d := .int .i64) [] hS5 (fun _ => rfl) (fun _ _ => iv_inj) ti130.und ti3.und rfl rfl rfl (by assumption)) ?_; intro w7 hS8; simp only [ca, na] at hS8; refine zN<|zJ<|zT<|zR<|zV (r_addn (b := 1) rfl rfl Om)<|zq 1 rfl<|zN<|zT ?_
      rw [← take_gt l k Om] at hS8
      exact ⟨l.length - (k + 1), _, by omega, rfl, ⟨k + 1, rfl, rfl, hS8, by omega, nodup_step Om hnd h5_2⟩, ⟨rfl, rfl, rfl, trivial⟩⟩
    refine zN<|zT<|zS<|zf rfl<|zO<|zM<|zM<|c_inE<|zT<|zS<|zR<|zq 1 rfl<|zN<|zT<|zU<|ret1 Tryz.results74 ?_
    have hF := hS5; exact twiceI_ok_c0

theorem rtwiceI_ok_c0 {p : Prop} (h : p := by first | exact .inl ⟨nodup_no Om hin, rfl, hF.fin⟩ | (obtain rfl : k = l.length := Om; rw [List.take_length] at hnd; exact .inr ⟨hnd, rfl, hF.fin⟩)) : p := h
theorem rtwiceI_ok (l : List (Int)) (a : Option Addr) (n c : Nat) (w : World) (hb : Row w a (l.map iv)) (hl : l.length = n) (hn : n ≤ 140737488351232) (hc : n ≤ c) :
    Ret Tryz.prog 58 [.slice a n c] w (fun v w' => (¬ l.Nodup ∧ v = .bool true ∧ St w [] w' []) ∨ (l.Nodup ∧ v = .bool false ∧ St w [] w' [])) := by
  subst hl
  refine enter Tryz.func58 rfl Tryz.ntmps58 rfl ?_
  have hS := St.refl w []
  refine zS<|zR<|zq 1 rfl<|zN<|zT<|zS<|zS<|zR<|zq 1 rfl<|zV (r_len (T := 49) rfl ti49.und rfl _ rfl)<|zq 1 rfl<|zN<|zT<|zI ?_
  refine c_loopE [0, 5, 6] (fun d e w' => ∃ (k : Nat), Kw.look e 7 = vi k ∧ d = l.length - k ∧ St w [] w' [] ∧ (k ≤ l.length) ∧ ((l.take k).Nodup)) (l.length - 0) ?_ ?_
  · exact ⟨0, rfl, rfl, hS, Nat.zero_le _, List.nodup_nil⟩
  · rintro d4 e1 w2 ⟨k, hc0_7, rfl, hS3, hk, hnd⟩ -
    refine c_set (d := 7) hc0_7<|zS<|zR ?_
    refine wl_dec (r_lss rfl rfl) rfl (fun h2_0 => ?_) (fun h2_0 => ?_)
    · refine zN<|zT<|zS<|zt rfl<|zK<|zT<|zS<|zI<|zS<|zR<|zq 1 rfl<|zV (r_ixS ti49.und ti3 rfl rfl (hb.st hS3) Sd Ln) ?_
      refine zV (r_loadS1 ti3.und rfl rfl (hb.st hS3) (by rw [Nat.mul_one]; exact map_gt _ _ _ Sd)) ?_; refine zq 2 rfl<|zN<|zT<|zS ?_
      have hrk : Row w a ((l.take k).map iv) := by rw [List.map_take]; exact hb.take
      refine zR<|zq 2 rfl<|zV (r_sl_h ti49.und ti3 rfl rfl Om)<|zq 1 rfl<|zC fn94 rfl (containsI_ok (l.take k) a k c (gt l k) _ (hrk.st hS3) (by rw [List.length_take]; omega) Om) ?_
      rintro _ w5 (⟨hin, rfl, hx6⟩ | ⟨hin, rfl, hx6⟩)
      · have hS7 := hS3.ext hx6
        refine zN<|zT<|zt rfl<|zS<|zR<|zq 1 rfl<|zN<|zT<|zU<|zH<|zL<|zL<|zH<|zL<|ret1 Tryz.results58 ?_
        have hF := hS7; exact rtwiceI_ok_c0
      have hS7 := hS3.ext hx6; refine zN<|zT<|zf rfl<|zK<|zJ<|zT<|zR<|zV (r_addn (b := 1) rfl rfl Om)<|zq 1 rfl<|zN<|zT ?_
      exact ⟨l.length - (k + 1), _, by omega, rfl, ⟨k + 1, rfl, rfl, hS7, by omega, nodup_step Om hnd hin⟩, ⟨rfl, rfl, rfl, trivial⟩⟩
    refine zN<|zT<|zS<|zf rfl<|zO<|zM<|zM<|c_inE<|zT<|zS<|zR<|zq 1 rfl<|zN<|zT<|zU<|ret1 Tryz.results58 ?_
    have hF := hS3; exact rtwiceI_ok_c0

end Go.Proofs.YtjnnhlbfgnopiaaGreatDoor
end
section
namespace Go.Proofs.YtjnnhlbfgnopiaaGreatDoor
open Go.Kw
set_option linter.unusedVariables false
set_option linter.unusedSimpArgs false
set_option maxRecDepth 100000
theorem notNameB_ok (l : List UInt8) (w : World) (hl : l.length ≤ 9223372036854775807) :
    Ret Tryz.prog 68 [.string ⟨(l).toArray⟩] w (fun v w' => v = .bool (!nameE l) ∧ St w [] w' []) := by
  refine enter Tryz.func68 rfl Tryz.ntmps68 rfl ?_
  have hS := St.refl w []
  refine zS<|zR<|zq 1 rfl<|zN<|zT<|zS<|zR<|zq 1 rfl<|zE fn100 rfl hS (isName_ok l _ hl) fun w1 hS3=>zq 2 rfl<|zN<|zT<|zU<|ret1 Tryz.results68 ?_
  exact ⟨rfl, hS3.fin⟩

theorem rnot2_ok (l : List UInt8) (w : World) (hl : l.length ≤ 9223372036854775807) :
    Ret Tryz.prog 51 [.string ⟨(l).toArray⟩] w (fun v w' => v = .bool (!nameE l) ∧ St w [] w' []) := by
  refine enter Tryz.func51 rfl Tryz.ntmps51 rfl ?_
  have hS := St.refl w []
  refine zS<|zR<|zq 1 rfl<|zN<|zT<|zS<|zR<|zq 1 rfl<|zE fn52 rfl hS (risName_ok l _ hl) fun w1 hS3=>zq 2 rfl<|zN<|zT<|zU<|ret1 Tryz.results51 ?_
  exact ⟨rfl, hS3.fin⟩

theorem patB {f : FuncId} {args : List Value} {w : World} {b : Bool} (h : Ret Tryz.prog f args w (fun v w' => (b = true ∧ v = .bool true ∧ St w [] w' []) ∨ (b = false ∧ v = .bool false ∧ St w [] w' []))) : Ret Tryz.prog f args w (fun v w' => v = .bool b ∧ St w [] w' []) :=
  h.mono fun v w' h => by
    rcases h with ⟨hb, h⟩ | ⟨hb, h⟩ <;> rw [hb] <;> exact h

theorem rpattern_ok_c0 {p : Prop} (h : p := by first | exact .inl ⟨patE_name hnm, rfl, hF.fin⟩ | exact .inl ⟨by rw [patE, hs, decide_eq_true h2_6, Bool.and_true, Bool.or_true], rfl, hF.fin⟩ | exact .inr ⟨by rw [patE, hnm, hs, decide_eq_false h2_6]; rfl, rfl, hF.fin⟩ | exact .inr ⟨by rw [patE, hnm, hs]; rfl, rfl, hF.fin⟩) : p := h
theorem rpattern_ok (l : List UInt8) (w : World) (hl : l.length ≤ 9223372036854775807) :
    Ret Tryz.prog 56 [.string ⟨(l).toArray⟩] w (fun v w' => (patE l = true ∧ v = .bool true ∧ St w [] w' []) ∨ (patE l = false ∧ v = .bool false ∧ St w [] w' [])) := by
  refine enter Tryz.func56 rfl Tryz.ntmps56 rfl ?_
  have hS := St.refl w []
  refine zS<|zR<|zq 1 rfl<|zN<|zT<|zS<|zR<|zq 1 rfl<|zC fn93 rfl (cutSuffix_ok l _ hl) ?_
  rintro _ w1 (⟨hs, rfl, hx2⟩ | ⟨hs, rfl, hx2⟩)
  · have hS3 := hS.ext hx2
    refine zq 5 rfl<|zN<|zT<|zS<|zR<|zq 1 rfl<|zC fn52 rfl (risName_br _ _ (Nat.le_trans (headS_le l) hl)) ?_
    rintro _ w4 (⟨hnm, rfl, hx5⟩ | ⟨hnm, rfl, hx5⟩)
    · have hS6 := hS3.ext hx5
      refine zq 8 rfl<|zN<|zT<|zU<|ret1 Tryz.results56 ?_
      have hF := hS6; exact rpattern_ok_c0
    have hS6 := hS3.ext hx5; refine zq 4 rfl ?_
    refine wl_dec (r_eqlStrL rfl rfl) rfl (fun h2_6 => ?_) (fun h2_6 => ?_)
    · refine zq 3 rfl<|zN<|zT<|zU<|ret1 Tryz.results56 ?_
      have hF := hS6; exact rpattern_ok_c0
    refine zq 3 rfl<|zN<|zT<|zU<|ret1 Tryz.results56 ?_
    have hF := hS6; exact rpattern_ok_c0
  have hS3 := hS.ext hx2; refine zq 5 rfl<|zN<|zT<|zS<|zR<|zq 1 rfl<|zC fn52 rfl (risName_br _ _ (Nat.le_trans (headS_le l) hl)) ?_
  rintro _ w7 (⟨hnm, rfl, hx8⟩ | ⟨hnm, rfl, hx8⟩)
  · have hS9 := hS3.ext hx8
    refine zq 8 rfl<|zN<|zT<|zU<|ret1 Tryz.results56 ?_
    have hF := hS9; exact rpattern_ok_c0
  have hS9 := hS3.ext hx8; refine zq 8 rfl<|zN<|zT<|zU<|ret1 Tryz.results56 ?_
  have hF := hS9; exact rpattern_ok_c0

theorem pnot_ok (l : List UInt8) (w : World) (hl : l.length ≤ 9223372036854775807) :
    Ret Tryz.prog 71 [.string ⟨(l).toArray⟩] w (fun v w' => v = .bool (!patE l) ∧ St w [] w' []) := by
  refine enter Tryz.func71 rfl Tryz.ntmps71 rfl ?_
  have hS := St.refl w []
  refine zS<|zR<|zq 1 rfl<|zN<|zT<|zS<|zR<|zq 1 rfl<|zE fn72 rfl hS (patB (isPattern_ok l _ hl)) fun w1 hS3=>zq 2 rfl<|zN<|zT<|zU<|ret1 Tryz.results71 ?_
  exact ⟨rfl, hS3.fin⟩

theorem rpnot_ok (l : List UInt8) (w : World) (hl : l.length ≤ 9223372036854775807) :
    Ret Tryz.prog 55 [.string ⟨(l).toArray⟩] w (fun v w' => v = .bool (!patE l) ∧ St w [] w' []) := by
  refine enter Tryz.func55 rfl Tryz.ntmps55 rfl ?_
  have hS := St.refl w []
  refine zS<|zR<|zq 1 rfl<|zN<|zT<|zS<|zR<|zq 1 rfl<|zE fn56 rfl hS (patB (rpattern_ok l _ hl)) fun w1 hS3=>zq 2 rfl<|zN<|zT<|zU<|ret1 Tryz.results55 ?_
  exact ⟨rfl, hS3.fin⟩

theorem isAct_ok (n : Int) (w : World) :
    Ret Tryz.prog 70 [.int .i64 n] w (fun v w' => ((1 ≤ n ∧ n ≤ 12) ∧ v = .bool true ∧ St w [] w' []) ∨ ((n < 1 ∨ 12 < n) ∧ v = .bool false ∧ St w [] w' [])) := by
  refine enter Tryz.func70 rfl Tryz.ntmps70 rfl ?_
  have hS := St.refl w []
  refine zS<|zR<|zq 1 rfl<|zN<|zT<|zS<|zR<|zq 1 rfl ?_
  refine wl_dec (r_geq rfl rfl) rfl (fun h1_1 => ?_) (fun h1_1 => ?_)
  · refine zq 2 rfl ?_
    refine wl_dec (r_leq rfl rfl) rfl (fun h1_4 => ?_) (fun h1_4 => ?_)
    · refine zq 2 rfl<|zN<|zT<|zU<|ret1 Tryz.results70 ?_
      first | exact .inl ⟨by omega, rfl, hS.fin⟩ | exact .inr ⟨by omega, rfl, hS.fin⟩
    refine zq 2 rfl<|zN<|zT<|zU<|ret1 Tryz.results70 ?_
    first | exact .inl ⟨by omega, rfl, hS.fin⟩ | exact .inr ⟨by omega, rfl, hS.fin⟩
  refine zq 5 rfl<|zN<|zT<|zU<|ret1 Tryz.results70 ?_
  first | exact .inl ⟨by omega, rfl, hS.fin⟩ | exact .inr ⟨by omega, rfl, hS.fin⟩

theorem anot_ok_c0 {p : Prop} (h : p := by first | exact ⟨congrArg Value.bool (decide_eq_true (show n < 1 ∨ 12 < n by omega)).symm, hF.fin⟩ | exact ⟨congrArg Value.bool (decide_eq_false (show ¬ (n < 1 ∨ 12 < n) by omega)).symm, hF.fin⟩) : p := h
theorem anot_ok (n : Int) (w : World) :
    Ret Tryz.prog 69 [.int .i64 n] w (fun v w' => v = .bool (actOut n) ∧ St w [] w' []) := by
  refine enter Tryz.func69 rfl Tryz.ntmps69 rfl ?_
  have hS := St.refl w []
  refine zS<|zR<|zq 1 rfl<|zN<|zT<|zS<|zR<|zq 1 rfl<|zC fn70 rfl (isAct_ok n _) ?_
  rintro _ w1 (⟨hb, rfl, hx2⟩ | ⟨hb, rfl, hx2⟩)
  · have hS3 := hS.ext hx2
    refine zq 2 rfl<|zN<|zT<|zU<|ret1 Tryz.results69 ?_
    have hF := hS3; exact anot_ok_c0
  have hS3 := hS.ext hx2; refine zq 2 rfl<|zN<|zT<|zU<|ret1 Tryz.results69 ?_
  have hF := hS3; exact anot_ok_c0

theorem ranot_ok_c0 {p : Prop} (h : p := by first | exact ⟨congrArg Value.bool (decide_eq_true (show n < 1 ∨ 12 < n by omega)).symm, hF.fin⟩ | exact ⟨congrArg Value.bool (decide_eq_false (show ¬ (n < 1 ∨ 12 < n) by omega)).symm, hF.fin⟩) : p := h
theorem ranot_ok (n : Int) (w : World) :
    Ret Tryz.prog 54 [.int .i64 n] w (fun v w' => v = .bool (actOut n) ∧ St w [] w' []) := by
  refine enter Tryz.func54 rfl Tryz.ntmps54 rfl ?_
  have hS := St.refl w []
  refine zS<|zR<|zq 1 rfl<|zN<|zT<|zS<|zR<|zq 1 rfl ?_
  refine wl_dec (r_lss rfl rfl) rfl (fun h1_1 => ?_) (fun h1_1 => ?_)
  · refine zq 5 rfl<|zN<|zT<|zU<|ret1 Tryz.results54 ?_
    have hF := hS; exact ranot_ok_c0
  refine zq 2 rfl ?_
  refine wl_dec (r_gtr rfl rfl) rfl (fun h1_4 => ?_) (fun h1_4 => ?_)
  · refine zq 2 rfl<|zN<|zT<|zU<|ret1 Tryz.results54 ?_
    have hF := hS; exact ranot_ok_c0
  refine zq 2 rfl<|zN<|zT<|zU<|ret1 Tryz.results54 ?_
  have hF := hS; exact ranot_ok_c0

theorem poutside_ok (n lo hi : Int) (w : World) :
    Ret Tryz.prog 75 [.int .i64 n, .int .i64 lo, .int .i64 hi] w (fun v w' => ((n < lo ∨ hi < n) ∧ v = .bool true ∧ St w [] w' []) ∨ ((lo ≤ n ∧ n ≤ hi) ∧ v = .bool false ∧ St w [] w' [])) := by
  refine enter Tryz.func75 rfl Tryz.ntmps75 rfl ?_
  have hS := St.refl w []
  refine zS<|zR<|zq 1 rfl<|zN<|zT<|zS<|zR<|zq 2 rfl ?_
  refine wl_dec (r_lss rfl rfl) rfl (fun h1_2 => ?_) (fun h1_2 => ?_)
  · refine zq 6 rfl<|zN<|zT<|zU<|ret1 Tryz.results75 ?_
    first | exact .inl ⟨by omega, rfl, hS.fin⟩ | exact .inr ⟨by omega, rfl, hS.fin⟩
  refine zq 3 rfl ?_
  refine wl_dec (r_gtr rfl rfl) rfl (fun h1_6 => ?_) (fun h1_6 => ?_)
  · refine zq 2 rfl<|zN<|zT<|zU<|ret1 Tryz.results75 ?_
    first | exact .inl ⟨by omega, rfl, hS.fin⟩ | exact .inr ⟨by omega, rfl, hS.fin⟩
  refine zq 2 rfl<|zN<|zT<|zU<|ret1 Tryz.results75 ?_
  first | exact .inl ⟨by omega, rfl, hS.fin⟩ | exact .inr ⟨by omega, rfl, hS.fin⟩

end Go.Proofs.YtjnnhlbfgnopiaaGreatDoor
end
section
namespace Go.Proofs.YtjnnhlbfgnopiaaGreatDoor
open Go.Kw
set_option linter.unusedVariables false
set_option linter.unusedSimpArgs false
set_option maxRecDepth 100000
theorem ruleFault_ok_c0 {p : Prop} (h : p := by exact ⟨_, rfl, ⟨_, rfl, hF, (decide_eq_true (show (16 < r.ro.length ∨ 16 < r.acs.length ∨ 16 < r.las.length) from Om)).symm⟩, ⟨rfl, rfl, trivial⟩⟩) : p := h
theorem ruleFault_ok_c1 {p : Prop} (h : p := by exact ⟨_, rfl, ⟨_, rfl, hF, (decide_eq_true (show (r.ro.any (fun s => !nameE s) = true ∨ (¬ r.ofr = [] ∧ nameE r.ofr = false)) from (by first | exact .inl hcf | exact .inr ⟨by assumption, hnn⟩))).symm⟩, ⟨rfl, rfl, trivial⟩⟩) : p := h
theorem ruleFault_ok_c2 {p : Prop} (h : p := by exact ⟨_, rfl, ⟨_, rfl, hF, (decide_eq_false (show ¬ (r.ro.any (fun s => !nameE s) = true ∨ (¬ r.ofr = [] ∧ nameE r.ofr = false)) from (by rintro (h | ⟨h, h'⟩); (rw [hcf] at h; cases h); first | exact h3_6 h | (rw [hnn] at h'; cases h')))).symm⟩, ⟨rfl, rfl, trivial⟩⟩) : p := h
theorem ruleFault_ok_c3 {p : Prop} (h : p := by first | exact ⟨congrArg (Value.int .i64) (rule_4 n1 n2 n3 p4).symm, hF.fin⟩ | exact ⟨congrArg (Value.int .i64) (rule_2 n1 p2).symm, hF.fin⟩ | (exfalso; omega)) : p := h
theorem ruleFault_ok_c4 {p : Prop} (h : p := by exact ⟨_, rfl, ⟨_, rfl, hF, (decide_eq_true (show (¬ r.ro.Nodup ∨ ¬ r.acs.Nodup ∨ ¬ r.las.Nodup) from (by first | exact .inl (by assumption) | exact .inr (.inl (by assumption)) | exact .inr (.inr (by assumption))))).symm⟩, ⟨rfl, rfl, trivial⟩⟩) : p := h
theorem ruleFault_ok_c5 {p : Prop} (h : p := by exact ⟨_, rfl, ⟨_, rfl, hF, (decide_eq_true (show (r.fr < 0 ∨ 24 < r.fr ∨ r.to < 0 ∨ 24 < r.to ∨ (r.fr = r.to ∧ ¬ r.fr = 0) ∨ r.nd < 0 ∨ 16 < r.nd) from Om)).symm⟩, ⟨rfl, rfl, trivial⟩⟩) : p := h
theorem ruleFault_ok_c6 {p : Prop} (h : p := by exact ⟨_, rfl, ⟨_, rfl, hF, (decide_eq_false (show ¬ (r.fr < 0 ∨ 24 < r.fr ∨ r.to < 0 ∨ 24 < r.to ∨ (r.fr = r.to ∧ ¬ r.fr = 0) ∨ r.nd < 0 ∨ 16 < r.nd) from Om)).symm⟩, ⟨rfl, rfl, trivial⟩⟩) : p := h
theorem ruleFault_ok_c7 {p : Prop} (h : p := by first | exact ⟨congrArg (Value.int .i64) (rule_7 n1 n2 n3 n4 n5 n6 (.inl ⟨by omega, (by first | assumption | exact Decidable.of_not_not (by assumption))⟩)).symm, hF.fin⟩ | exact ⟨congrArg (Value.int .i64) (rule_7 n1 n2 n3 n4 n5 n6 (.inr (.inl ⟨by omega, (by first | assumption | exact Decidable.of_not_not (by assumption))⟩))).symm, hF.fin⟩ | exact ⟨congrArg (Value.int .i64) (rule_7 n1 n2 n3 n4 n5 n6 (.inr (.inr ⟨hdn, by omega⟩))).symm, hF.fin⟩ | (exfalso; omega)) : p := h
theorem ruleFault_ok_c8 {p : Prop} (h : p := by first | exact ⟨congrArg (Value.int .i64) (rule_8 n1 n2 n3 n4 n5 n6 (.inl ⟨by omega, (by first | assumption | exact Decidable.of_not_not (by assumption))⟩)).symm, hF.fin⟩ | exact ⟨congrArg (Value.int .i64) (rule_8 n1 n2 n3 n4 n5 n6 (.inr ⟨by omega, (by first | assumption | exact Decidable.of_not_not (by assumption)), hdn⟩)).symm, hF.fin⟩ | (exfalso; omega)) : p := h
set_option maxHeartbeats 4000000 in
theorem ruleFault_ok (r : RuleD) (w : World) (hk : RuleOk r) (h1 : Row w r.ra (r.ro.map sv)) (h2 : Row w r.aa (r.acs.map iv)) (h3 : Row w r.la (r.las.map sv)) :
    Ret Tryz.prog 34 [.agg r.v.toArray] w (fun v w' => v = .int .i64 (ruleE r) ∧ St w [] w' []) := by
  refine enter Tryz.func34 rfl Tryz.ntmps34 rfl ?_
  have hS := St.refl w []
  refine zS<|zR<|zB (v := .agg _) hS rfl rfl fun b1 w1 hS2=>zq 1 rfl<|zN<|zT<|zS<|zI ?_
  refine c_cutE [1, 2] (fun e w' => ∃ (bb : Bool), Kw.look e 3 = .bool bb ∧ St w [] w' [.blk b1 (cl r.v 51)] ∧ (bb = decide (16 < r.ro.length ∨ 16 < r.acs.length ∨ 16 < r.las.length))) ?_ ?_
  · refine zR<|zF fa51_1 rfl ti42.und rfl (hS2.heap Z0) rfl rfl rfl<|zV (r_len (T := 42) rfl ti42.und rfl _ rfl) ?_
    refine wl_dec (r_gtr rfl rfl) rfl (fun h1_3 => ?_) (fun h1_3 => ?_)
    · refine zq 13 rfl<|zN<|zT ?_
      have hF := hS2; exact ruleFault_ok_c0
    refine zq 1 rfl<|wl_val (r_field fa51_2 rfl) rfl<|wl_val (r_loadB1 ti49.und rfl rfl (hS2.heap Z0) rfl) rfl<|wl_val (r_len (T := 49) rfl ti49.und rfl _ rfl) rfl ?_
    refine wl_dec (r_gtr rfl rfl) rfl (fun h1_8 => ?_) (fun h1_8 => ?_)
    · refine zq 8 rfl<|zN<|zT ?_
      have hF := hS2; exact ruleFault_ok_c0
    refine zq 2 rfl<|wl_val (r_field fa51_3 rfl) rfl<|wl_val (r_loadB1 ti42.und rfl rfl (hS2.heap Z0) rfl) rfl<|wl_val (r_len (T := 42) rfl ti42.und rfl _ rfl) rfl ?_
    refine wl_dec (r_gtr rfl rfl) rfl (fun h1_14 => ?_) (fun h1_14 => ?_)
    · refine zq 2 rfl<|zN<|zT ?_
      have hF := hS2; exact ruleFault_ok_c0
    refine zq 2 rfl<|zN<|zT ?_
    exact ⟨_, rfl, ⟨_, rfl, hS2, (decide_eq_false (show ¬ (16 < r.ro.length ∨ 16 < r.acs.length ∨ 16 < r.las.length) from Om)).symm⟩, ⟨rfl, rfl, trivial⟩⟩
  · rintro e3 w4 ⟨bb, hc6_3, hS5, hbb⟩ -
    refine c_set (d := 3) hc6_3 ?_
    rcases dec_or hbb with ⟨rfl, p1⟩ | ⟨rfl, n1⟩
    · refine zt rfl<|zS<|zR<|zq 1 rfl<|zN<|zT<|zU<|zH<|zL<|ret1 Tryz.results34 ?_
      exact ⟨congrArg (Value.int .i64) (rule_1 p1).symm, hS5.fin⟩
    · refine zf rfl ?_
      refine c_cutE [1, 2] (fun e w' => ∃ (bb : Bool), Kw.look e 20 = .bool bb ∧ St w [] w' [.blk b1 (cl r.v 51)] ∧ (bb = decide (r.ro.any (fun s => !nameE s) = true ∨ (¬ r.ofr = [] ∧ nameE r.ofr = false)))) ?_ ?_
      · refine zR<|zF fa51_1 rfl ti42.und rfl (hS5.heap Z0) rfl rfl rfl<|zC fn50 rfl (containsFuncS_ok r.ro r.ra r.ro.length r.rc 68 [] (fun s => !nameE s) _ (h1.st hS5) rfl hk.rn fn68 (fun x w' hx h => notNameB_ok x w' (hk.rl x hx))) ?_
        rintro _ w11 (⟨hcf, rfl, hx12⟩ | ⟨hcf, rfl, hx12⟩)
        · have hS13 := hS5.ext hx12
          refine zq 11 rfl<|zN<|zT ?_
          have hF := hS13; exact ruleFault_ok_c1
        have hS13 := hS5.ext hx12; refine zq 1 rfl<|wl_val (r_field fa51_7 rfl) rfl<|wl_val (r_loadB1 ti9.und rfl rfl (hS13.heap Z0) rfl) rfl ?_
        refine wl_dec (r_neqStrL rfl rfl) rfl (fun h3_6 => ?_) (fun h3_6 => ?_)
        · refine zq 1 rfl<|wl_val (r_field fa51_7 rfl) rfl<|wl_val (r_loadB1 ti9.und rfl rfl (hS13.heap Z0) rfl) rfl<|zC fn68 rfl (notName_ok r.ofr _ hk.ol) ?_
          rintro _ w14 (⟨hnn, rfl, hx15⟩ | ⟨hnn, rfl, hx15⟩)
          · have hS16 := hS13.ext hx15
            refine zq 3 rfl<|zN<|zT ?_
            have hF := hS16; exact ruleFault_ok_c1
          have hS16 := hS13.ext hx15; refine zq 3 rfl<|zN<|zT ?_
          have hF := hS16; exact ruleFault_ok_c2
        refine zq 7 rfl<|zN<|zT ?_
        have hF := hS13; exact ruleFault_ok_c2
      · rintro e7 w8 ⟨bb, hc10_20, hS9, hbb⟩ -
        refine c_set (d := 20) hc10_20 ?_
        rcases dec_or hbb with ⟨rfl, p2⟩ | ⟨rfl, n2⟩
        · refine zt rfl<|zS<|zR<|zq 1 rfl<|zN<|zT<|zU<|zH<|zL<|ret1 Tryz.results34 ?_
          have hF := hS9; exact ruleFault_ok_c3
        · refine zf rfl ?_
          refine c_cutE [1, 2] (fun e w' => ∃ (bb : Bool), Kw.look e 34 = .bool bb ∧ St w [] w' [.blk b1 (cl r.v 51)] ∧ (bb = decide (r.acs.any actOut = true))) ?_ ?_
          · refine zR<|zF fa51_2 rfl ti49.und rfl (hS9.heap Z0) rfl rfl rfl<|zC fn53 rfl (containsFuncI_ok r.acs r.aa r.acs.length r.ak 69 [] actOut _ (h2.st hS9) rfl hk.an fn69 (fun x w' hx h => anot_ok x w')) ?_
            rintro _ w21 (⟨hcf, rfl, hx22⟩ | ⟨hcf, rfl, hx22⟩)
            · have hS23 := hS9.ext hx22
              refine zq 1 rfl<|zN<|zT ?_
              exact ⟨_, rfl, ⟨_, rfl, hS23, (decide_eq_true (show (r.acs.any actOut = true) from hcf)).symm⟩, ⟨rfl, rfl, trivial⟩⟩
            have hS23 := hS9.ext hx22; refine zq 1 rfl<|zN<|zT ?_
            exact ⟨_, rfl, ⟨_, rfl, hS23, (decide_eq_false (show ¬ (r.acs.any actOut = true) from (by rw [hcf]; exact Bool.noConfusion))).symm⟩, ⟨rfl, rfl, trivial⟩⟩
          · rintro e17 w18 ⟨bb, hc20_34, hS19, hbb⟩ -
            refine c_set (d := 34) hc20_34 ?_
            rcases dec_or hbb with ⟨rfl, p3⟩ | ⟨rfl, n3⟩
            · refine zt rfl<|zS<|zR<|zq 1 rfl<|zN<|zT<|zU<|zH<|zL<|ret1 Tryz.results34 ?_
              exact ⟨congrArg (Value.int .i64) (rule_3 n1 n2 p3).symm, hS19.fin⟩
            · refine zf rfl ?_
              refine c_cutE [1, 2] (fun e w' => ∃ (bb : Bool), Kw.look e 38 = .bool bb ∧ St w [] w' [.blk b1 (cl r.v 51)] ∧ (bb = decide (r.las.any (fun s => !patE s) = true))) ?_ ?_
              · refine zR<|zF fa51_3 rfl ti42.und rfl (hS19.heap Z0) rfl rfl rfl<|zC fn50 rfl (containsFuncS_ok r.las r.la r.las.length r.lc 71 [] (fun s => !patE s) _ (h3.st hS19) rfl hk.ln fn71 (fun x w' hx h => pnot_ok x w' (hk.ll x hx))) ?_
                rintro _ w28 (⟨hcf, rfl, hx29⟩ | ⟨hcf, rfl, hx29⟩)
                · have hS30 := hS19.ext hx29
                  refine zq 1 rfl<|zN<|zT ?_
                  exact ⟨_, rfl, ⟨_, rfl, hS30, (decide_eq_true (show (r.las.any (fun s => !patE s) = true) from hcf)).symm⟩, ⟨rfl, rfl, trivial⟩⟩
                have hS30 := hS19.ext hx29; refine zq 1 rfl<|zN<|zT ?_
                exact ⟨_, rfl, ⟨_, rfl, hS30, (decide_eq_false (show ¬ (r.las.any (fun s => !patE s) = true) from (by rw [hcf]; exact Bool.noConfusion))).symm⟩, ⟨rfl, rfl, trivial⟩⟩
              · rintro e24 w25 ⟨bb, hc27_38, hS26, hbb⟩ -
                refine c_set (d := 38) hc27_38 ?_
                rcases dec_or hbb with ⟨rfl, p4⟩ | ⟨rfl, n4⟩
                · refine zt rfl<|zS<|zR<|zq 1 rfl<|zN<|zT<|zU<|zH<|zL<|ret1 Tryz.results34 ?_
                  have hF := hS26; exact ruleFault_ok_c3
                · refine zf rfl ?_
                  refine c_cutE [1, 2] (fun e w' => ∃ (bb : Bool), Kw.look e 42 = .bool bb ∧ St w [] w' [.blk b1 (cl r.v 51)] ∧ (bb = decide (¬ r.ro.Nodup ∨ ¬ r.acs.Nodup ∨ ¬ r.las.Nodup))) ?_ ?_
                  · refine zR<|zF fa51_1 rfl ti42.und rfl (hS26.heap Z0) rfl rfl rfl<|zC fn73 rfl (twiceS_ok r.ro r.ra r.ro.length r.rc _ (h1.st hS26) rfl hk.rn hk.rc) ?_
                    rintro _ w35 (⟨htwro, rfl, hx36⟩ | ⟨htwro, rfl, hx36⟩)
                    · have hS37 := hS26.ext hx36
                      refine zq 11 rfl<|zN<|zT ?_
                      have hF := hS37; exact ruleFault_ok_c4
                    have hS37 := hS26.ext hx36; refine zq 1 rfl<|wl_val (r_field fa51_2 rfl) rfl<|wl_val (r_loadB1 ti49.und rfl rfl (hS37.heap Z0) rfl) rfl<|zC fn74 rfl (twiceI_ok r.acs r.aa r.acs.length r.ak _ (h2.st hS37) rfl hk.an hk.ac) ?_
                    rintro _ w38 (⟨htwacs, rfl, hx39⟩ | ⟨htwacs, rfl, hx39⟩)
                    · have hS40 := hS37.ext hx39
                      refine zq 7 rfl<|zN<|zT ?_
                      have hF := hS40; exact ruleFault_ok_c4
                    have hS40 := hS37.ext hx39; refine zq 2 rfl<|wl_val (r_field fa51_3 rfl) rfl<|wl_val (r_loadB1 ti42.und rfl rfl (hS40.heap Z0) rfl) rfl<|zC fn73 rfl (twiceS_ok r.las r.la r.las.length r.lc _ (h3.st hS40) rfl hk.ln hk.lc) ?_
                    rintro _ w41 (⟨htwlas, rfl, hx42⟩ | ⟨htwlas, rfl, hx42⟩)
                    · have hS43 := hS40.ext hx42
                      refine zq 2 rfl<|zN<|zT ?_
                      have hF := hS43; exact ruleFault_ok_c4
                    have hS43 := hS40.ext hx42; refine zq 2 rfl<|zN<|zT ?_
                    exact ⟨_, rfl, ⟨_, rfl, hS43, (decide_eq_false (show ¬ (¬ r.ro.Nodup ∨ ¬ r.acs.Nodup ∨ ¬ r.las.Nodup) from (by rintro (h | h | h) <;> exact h (by assumption)))).symm⟩, ⟨rfl, rfl, trivial⟩⟩
                  · rintro e31 w32 ⟨bb, hc34_42, hS33, hbb⟩ -
                    refine c_set (d := 42) hc34_42 ?_
                    rcases dec_or hbb with ⟨rfl, p5⟩ | ⟨rfl, n5⟩
                    · refine zt rfl<|zS<|zR<|zq 1 rfl<|zN<|zT<|zU<|zH<|zL<|ret1 Tryz.results34 ?_
                      exact ⟨congrArg (Value.int .i64) (rule_5 n1 n2 n3 n4 p5).symm, hS33.fin⟩
                    · refine zf rfl ?_
                      refine c_cutE [1, 2] (fun e w' => ∃ (bb : Bool), Kw.look e 56 = .bool bb ∧ St w [] w' [.blk b1 (cl r.v 51)] ∧ (bb = decide (r.fr < 0 ∨ 24 < r.fr ∨ r.to < 0 ∨ 24 < r.to ∨ (r.fr = r.to ∧ ¬ r.fr = 0) ∨ r.nd < 0 ∨ 16 < r.nd))) ?_ ?_
                      · refine zR<|zF fa51_4 rfl ti3.und rfl (hS33.heap Z0) rfl rfl rfl<|zC fn75 rfl (poutside_ok r.fr 0 24 _) ?_
                        rintro _ w48 (⟨ho1, rfl, hx49⟩ | ⟨ho1, rfl, hx49⟩)
                        · have hS50 := hS33.ext hx49
                          refine zq 23 rfl<|zN<|zT ?_
                          have hF := hS50; exact ruleFault_ok_c5
                        have hS50 := hS33.ext hx49; refine zq 1 rfl<|wl_val (r_field fa51_5 rfl) rfl<|wl_val (r_loadB1 ti3.und rfl rfl (hS50.heap Z0) rfl) rfl<|zC fn75 rfl (poutside_ok r.to 0 24 _) ?_
                        rintro _ w51 (⟨ho2, rfl, hx52⟩ | ⟨ho2, rfl, hx52⟩)
                        · have hS53 := hS50.ext hx52
                          refine zq 19 rfl<|zN<|zT ?_
                          have hF := hS53; exact ruleFault_ok_c5
                        have hS53 := hS50.ext hx52; refine zq 2 rfl<|wl_val (r_field fa51_4 rfl) rfl<|wl_val (r_loadB1 ti3.und rfl rfl (hS53.heap Z0) rfl) rfl<|wl_val (r_field fa51_5 rfl) rfl<|wl_val (r_loadB1 ti3.und rfl rfl (hS53.heap Z0) rfl) rfl ?_
                        refine wl_dec (r_eql rfl rfl) rfl (fun h11_13 => ?_) (fun h11_13 => ?_)
                        · refine zq 1 rfl<|wl_val (r_field fa51_4 rfl) rfl<|wl_val (r_loadB1 ti3.und rfl rfl (hS53.heap Z0) rfl) rfl ?_
                          refine wl_dec (r_neq rfl rfl) rfl (fun h11_17 => ?_) (fun h11_17 => ?_)
                          · refine zq 8 rfl<|zN<|zT ?_
                            have hF := hS53; exact ruleFault_ok_c5
                          refine zq 3 rfl<|wl_val (r_field fa51_6 rfl) rfl<|wl_val (r_loadB1 ti3.und rfl rfl (hS53.heap Z0) rfl) rfl<|zC fn75 rfl (poutside_ok r.nd 0 16 _) ?_
                          rintro _ w54 (⟨ho3, rfl, hx55⟩ | ⟨ho3, rfl, hx55⟩)
                          · have hS56 := hS53.ext hx55
                            refine zq 2 rfl<|zN<|zT ?_
                            have hF := hS56; exact ruleFault_ok_c5
                          have hS56 := hS53.ext hx55; refine zq 2 rfl<|zN<|zT ?_
                          have hF := hS56; exact ruleFault_ok_c6
                        refine zq 7 rfl<|wl_val (r_field fa51_6 rfl) rfl<|wl_val (r_loadB1 ti3.und rfl rfl (hS53.heap Z0) rfl) rfl<|zC fn75 rfl (poutside_ok r.nd 0 16 _) ?_
                        rintro _ w57 (⟨ho3, rfl, hx58⟩ | ⟨ho3, rfl, hx58⟩)
                        · have hS59 := hS53.ext hx58
                          refine zq 2 rfl<|zN<|zT ?_
                          have hF := hS59; exact ruleFault_ok_c5
                        have hS59 := hS53.ext hx58; refine zq 2 rfl<|zN<|zT ?_
                        have hF := hS59; exact ruleFault_ok_c6
                      · rintro e44 w45 ⟨bb, hc47_56, hS46, hbb⟩ -
                        refine c_set (d := 56) hc47_56 ?_
                        rcases dec_or hbb with ⟨rfl, p6⟩ | ⟨rfl, n6⟩
                        · refine zt rfl<|zS<|zR<|zq 1 rfl<|zN<|zT<|zU<|zH<|zL<|ret1 Tryz.results34 ?_
                          exact ⟨congrArg (Value.int .i64) (rule_6 n1 n2 n3 n4 n5 p6).symm, hS46.fin⟩
                        · refine zf rfl<|zS ?_
                          rcases bool_cases r.dn with hdn | hdn
                          · refine zR<|zF fa51_6 rfl ti3.und rfl (hS46.heap Z0) rfl rfl rfl ?_
                            refine wl_dec (r_eql rfl rfl) rfl (fun h13_2 => ?_) (fun h13_2 => ?_)
                            · refine zF fa51_7 rfl ti9.und rfl (hS46.heap Z0) rfl rfl rfl ?_
                              refine wl_dec (r_eqlStrL rfl rfl) rfl (fun h13_5 => ?_) (fun h13_5 => ?_)
                              · refine wl_dec_f (r_neqBool ti4.und rfl rfl) rfl (by decide)<|zq 1 rfl<|wl_val (r_field fa51_0 rfl) rfl<|wl_val (r_loadB1 ti4.und rfl rfl (hS46.heap Z0) (by first | exact rule_dn_t hdn | exact rule_dn_f hdn)) rfl ?_
                                refine zq 1 rfl<|wl_val (r_field fa51_6 rfl) rfl<|wl_val (r_loadB1 ti3.und rfl rfl (hS46.heap Z0) rfl) rfl ?_
                                refine wl_dec (r_gtr rfl rfl) rfl (fun h13_13 => ?_) (fun h13_13 => ?_)
                                · refine zq 3 rfl<|zN<|zT<|zt rfl<|zS<|zR<|zq 1 rfl<|zN<|zT<|zU<|zH<|zL<|ret1 Tryz.results34 ?_
                                  have hF := hS46; exact ruleFault_ok_c7
                                refine zq 3 rfl<|zN<|zT<|zf rfl<|zK<|zJ<|zT<|zS<|zR<|zq 1 rfl<|zN<|zT<|zU<|ret1 Tryz.results34 ?_
                                have hF := hS46; exact ruleFault_ok_c8
                              refine wl_dec_t (r_neqBool ti4.und rfl rfl) rfl (by decide)<|zq 10 rfl<|zN<|zT<|zt rfl<|zS<|zR<|zq 1 rfl<|zN<|zT<|zU<|zH<|zL<|ret1 Tryz.results34 ?_
                              have hF := hS46; exact ruleFault_ok_c7
                            refine zF fa51_7 rfl ti9.und rfl (hS46.heap Z0) rfl rfl rfl ?_
                            refine wl_dec (r_eqlStrL rfl rfl) rfl (fun h13_5 => ?_) (fun h13_5 => ?_)
                            · refine wl_dec_t (r_neqBool ti4.und rfl rfl) rfl (by decide)<|zq 10 rfl<|zN<|zT<|zt rfl<|zS<|zR<|zq 1 rfl<|zN<|zT<|zU<|zH<|zL<|ret1 Tryz.results34 ?_
                              have hF := hS46; exact ruleFault_ok_c7
                            refine wl_dec_f (r_neqBool ti4.und rfl rfl) rfl (by decide)<|zq 1 rfl<|wl_val (r_field fa51_0 rfl) rfl<|wl_val (r_loadB1 ti4.und rfl rfl (hS46.heap Z0) (by first | exact rule_dn_t hdn | exact rule_dn_f hdn)) rfl ?_; refine zq 1 rfl<|wl_val (r_field fa51_6 rfl) rfl<|wl_val (r_loadB1 ti3.und rfl rfl (hS46.heap Z0) rfl) rfl ?_
                            refine wl_dec (r_gtr rfl rfl) rfl (fun h13_13 => ?_) (fun h13_13 => ?_)
                            · refine zq 3 rfl<|zN<|zT<|zt rfl<|zS<|zR<|zq 1 rfl<|zN<|zT<|zU<|zH<|zL<|ret1 Tryz.results34 ?_
                              have hF := hS46; exact ruleFault_ok_c7
                            refine zq 3 rfl<|zN<|zT<|zf rfl<|zK<|zJ<|zT<|zS<|zR<|zq 1 rfl<|zN<|zT<|zU<|ret1 Tryz.results34 ?_
                            have hF := hS46; exact ruleFault_ok_c8
                          refine zR<|zF fa51_6 rfl ti3.und rfl (hS46.heap Z0) rfl rfl rfl ?_
                          refine wl_dec (r_eql rfl rfl) rfl (fun h13_2 => ?_) (fun h13_2 => ?_)
                          · refine zF fa51_7 rfl ti9.und rfl (hS46.heap Z0) rfl rfl rfl ?_
                            refine wl_dec (r_eqlStrL rfl rfl) rfl (fun h13_5 => ?_) (fun h13_5 => ?_)
                            · refine wl_dec_f (r_neqBool ti4.und rfl rfl) rfl (by decide)<|zq 1 rfl<|wl_val (r_field fa51_0 rfl) rfl<|wl_val (r_loadB1 ti4.und rfl rfl (hS46.heap Z0) (by first | exact rule_dn_t hdn | exact rule_dn_f hdn)) rfl ?_
                              refine zq 7 rfl<|zN<|zT<|zf rfl<|zK<|zJ<|zT<|zS<|zR<|zq 1 rfl<|zN<|zT<|zU<|ret1 Tryz.results34 ?_
                              have hF := hS46; exact ruleFault_ok_c8
                            refine wl_dec_t (r_neqBool ti4.und rfl rfl) rfl (by decide)<|zq 10 rfl<|zN<|zT<|zt rfl<|zS<|zR<|zq 1 rfl<|zN<|zT<|zU<|zH<|zL<|ret1 Tryz.results34 ?_
                            have hF := hS46; exact ruleFault_ok_c7
                          refine zF fa51_7 rfl ti9.und rfl (hS46.heap Z0) rfl rfl rfl ?_
                          refine wl_dec (r_eqlStrL rfl rfl) rfl (fun h13_5 => ?_) (fun h13_5 => ?_)
                          · refine wl_dec_t (r_neqBool ti4.und rfl rfl) rfl (by decide)<|zq 10 rfl<|zN<|zT<|zt rfl<|zS<|zR<|zq 1 rfl<|zN<|zT<|zU<|zH<|zL<|ret1 Tryz.results34 ?_
                            have hF := hS46; exact ruleFault_ok_c7
                          refine wl_dec_f (r_neqBool ti4.und rfl rfl) rfl (by decide)<|zq 1 rfl<|wl_val (r_field fa51_0 rfl) rfl<|wl_val (r_loadB1 ti4.und rfl rfl (hS46.heap Z0) (by first | exact rule_dn_t hdn | exact rule_dn_f hdn)) rfl ?_; refine zq 7 rfl<|zN<|zT<|zf rfl<|zK<|zJ<|zT<|zS<|zR<|zq 1 rfl<|zN<|zT<|zU<|ret1 Tryz.results34 ?_
                          have hF := hS46; exact ruleFault_ok_c8

theorem ruleError_ok_c0 {p : Prop} (h : p := by exact ⟨_, rfl, ⟨_, rfl, hF, (decide_eq_true (show (r.ro.any (fun s => !nameE s) = true ∨ (¬ r.ofr = [] ∧ nameE r.ofr = false)) from (by first | exact .inl hcf | exact .inr ⟨by assumption, hnn⟩))).symm⟩, ⟨rfl, rfl, trivial⟩⟩) : p := h
theorem ruleError_ok_c1 {p : Prop} (h : p := by exact ⟨_, rfl, ⟨_, rfl, hF, (decide_eq_false (show ¬ (r.ro.any (fun s => !nameE s) = true ∨ (¬ r.ofr = [] ∧ nameE r.ofr = false)) from (by rintro (h | ⟨h, h'⟩); (rw [hcf] at h; cases h); first | exact h3_6 h | (rw [hnn] at h'; cases h')))).symm⟩, ⟨rfl, rfl, trivial⟩⟩) : p := h
theorem ruleError_ok_c2 {p : Prop} (h : p := by first | exact ⟨congrArg (Value.int .i64) (rule_4 n1 n2 n3 p4).symm, hF.fin⟩ | exact ⟨congrArg (Value.int .i64) (rule_2 n1 p2).symm, hF.fin⟩ | (exfalso; omega)) : p := h
theorem ruleError_ok_c3 {p : Prop} (h : p := by exact ⟨_, rfl, ⟨_, rfl, hF, (decide_eq_true (show (¬ r.ro.Nodup ∨ ¬ r.acs.Nodup ∨ ¬ r.las.Nodup) from (by first | exact .inl (by assumption) | exact .inr (.inl (by assumption)) | exact .inr (.inr (by assumption))))).symm⟩, ⟨rfl, rfl, trivial⟩⟩) : p := h
theorem ruleError_ok_c4 {p : Prop} (h : p := by exact ⟨_, rfl, ⟨_, rfl, hF, (decide_eq_true (show (r.fr < 0 ∨ 24 < r.fr ∨ r.to < 0 ∨ 24 < r.to ∨ (r.fr = r.to ∧ ¬ r.fr = 0) ∨ r.nd < 0 ∨ 16 < r.nd) from Om)).symm⟩, ⟨rfl, rfl, trivial⟩⟩) : p := h
theorem ruleError_ok_c5 {p : Prop} (h : p := by exact ⟨_, rfl, ⟨_, rfl, hF, (decide_eq_false (show ¬ (r.fr < 0 ∨ 24 < r.fr ∨ r.to < 0 ∨ 24 < r.to ∨ (r.fr = r.to ∧ ¬ r.fr = 0) ∨ r.nd < 0 ∨ 16 < r.nd) from Om)).symm⟩, ⟨rfl, rfl, trivial⟩⟩) : p := h
theorem ruleError_ok_c6 {p : Prop} (h : p := by first | exact ⟨congrArg (Value.int .i64) (rule_7 n1 n2 n3 n4 n5 n6 (.inl ⟨by omega, (by first | assumption | exact Decidable.of_not_not (by assumption))⟩)).symm, hF.fin⟩ | exact ⟨congrArg (Value.int .i64) (rule_7 n1 n2 n3 n4 n5 n6 (.inr (.inl ⟨by omega, (by first | assumption | exact Decidable.of_not_not (by assumption))⟩))).symm, hF.fin⟩ | exact ⟨congrArg (Value.int .i64) (rule_7 n1 n2 n3 n4 n5 n6 (.inr (.inr ⟨hdn, by omega⟩))).symm, hF.fin⟩ | (exfalso; omega)) : p := h
theorem ruleError_ok_c7 {p : Prop} (h : p := by first | exact ⟨congrArg (Value.int .i64) (rule_8 n1 n2 n3 n4 n5 n6 (.inl ⟨by omega, (by first | assumption | exact Decidable.of_not_not (by assumption))⟩)).symm, hF.fin⟩ | exact ⟨congrArg (Value.int .i64) (rule_8 n1 n2 n3 n4 n5 n6 (.inr ⟨by omega, (by first | assumption | exact Decidable.of_not_not (by assumption)), hdn⟩)).symm, hF.fin⟩ | (exfalso; omega)) : p := h
set_option maxHeartbeats 4000000 in
theorem ruleError_ok (r : RuleD) (w : World) (hk : RuleOk r) (h1 : Row w r.ra (r.ro.map sv)) (h2 : Row w r.aa (r.acs.map iv)) (h3 : Row w r.la (r.las.map sv)) :
    Ret Tryz.prog 29 [.agg r.v.toArray] w (fun v w' => v = .int .i64 (ruleE r) ∧ St w [] w' []) := by
  refine enter Tryz.func29 rfl Tryz.ntmps29 rfl ?_
  have hS := St.refl w []
  refine zS<|zR<|zB (v := .agg _) hS rfl rfl fun b1 w1 hS2=>zq 1 rfl<|zN<|zT<|zS ?_
  refine c_cutE [1, 2] (fun e w' => ∃ (bb : Bool), Kw.look e 13 = .bool bb ∧ St w [] w' [.blk b1 (cl r.v 51)] ∧ (bb = decide (16 < r.ro.length ∨ 16 < r.acs.length ∨ 16 < r.las.length))) ?_ ?_
  · refine zR<|zF fa51_1 rfl ti42.und rfl (hS2.heap Z0) rfl rfl rfl<|zV (r_len (T := 42) rfl ti42.und rfl _ rfl)<|zF fa51_2 rfl ti49.und rfl (hS2.heap Z0) rfl rfl rfl<|zV (r_len (T := 49) rfl ti49.und rfl _ rfl)<|zF fa51_3 rfl ti42.und rfl (hS2.heap Z0) rfl rfl rfl<|zV (r_len (T := 42) rfl ti42.und rfl _ rfl)<|zV (r_max3n rfl rfl rfl _ rfl) ?_
    refine wl_dec (r_gtr rfl rfl) rfl (fun h1_10 => ?_) (fun h1_10 => ?_)
    · refine zN<|zT ?_
      exact ⟨_, rfl, ⟨_, rfl, hS2, (decide_eq_true (show (16 < r.ro.length ∨ 16 < r.acs.length ∨ 16 < r.las.length) from Om)).symm⟩, ⟨rfl, rfl, trivial⟩⟩
    refine zN<|zT ?_
    exact ⟨_, rfl, ⟨_, rfl, hS2, (decide_eq_false (show ¬ (16 < r.ro.length ∨ 16 < r.acs.length ∨ 16 < r.las.length) from Om)).symm⟩, ⟨rfl, rfl, trivial⟩⟩
  · rintro e3 w4 ⟨bb, hc6_13, hS5, hbb⟩ -
    refine c_set (d := 13) hc6_13 ?_
    rcases dec_or hbb with ⟨rfl, p1⟩ | ⟨rfl, n1⟩
    · refine zt rfl<|zS<|zR<|zq 1 rfl<|zN<|zT<|zU<|zL<|ret1 Tryz.results29 ?_
      exact ⟨congrArg (Value.int .i64) (rule_1 p1).symm, hS5.fin⟩
    · refine zf rfl<|zK<|zT<|zS ?_
      refine c_cutE [1, 2] (fun e w' => ∃ (bb : Bool), Kw.look e 27 = .bool bb ∧ St w [] w' [.blk b1 (cl r.v 51)] ∧ (bb = decide (r.ro.any (fun s => !nameE s) = true ∨ (¬ r.ofr = [] ∧ nameE r.ofr = false)))) ?_ ?_
      · refine zR<|zF fa51_1 rfl ti42.und rfl (hS5.heap Z0) rfl rfl rfl<|zC fn50 rfl (containsFuncS_ok r.ro r.ra r.ro.length r.rc 51 [] (fun s => !nameE s) _ (h1.st hS5) rfl hk.rn fn51 (fun x w' hx h => rnot2_ok x w' (hk.rl x hx))) ?_
        rintro _ w11 (⟨hcf, rfl, hx12⟩ | ⟨hcf, rfl, hx12⟩)
        · have hS13 := hS5.ext hx12
          refine zq 11 rfl<|zN<|zT ?_
          have hF := hS13; exact ruleError_ok_c0
        have hS13 := hS5.ext hx12; refine zq 1 rfl<|wl_val (r_field fa51_7 rfl) rfl<|wl_val (r_loadB1 ti9.und rfl rfl (hS13.heap Z0) rfl) rfl ?_
        refine wl_dec (r_neqStrL rfl rfl) rfl (fun h3_6 => ?_) (fun h3_6 => ?_)
        · refine zq 1 rfl<|wl_val (r_field fa51_7 rfl) rfl<|wl_val (r_loadB1 ti9.und rfl rfl (hS13.heap Z0) rfl) rfl<|zC fn52 rfl (risName_br r.ofr _ hk.ol) ?_
          rintro _ w14 (⟨hnn, rfl, hx15⟩ | ⟨hnn, rfl, hx15⟩)
          · have hS16 := hS13.ext hx15
            refine zq 3 rfl<|zN<|zT ?_
            have hF := hS16; exact ruleError_ok_c1
          have hS16 := hS13.ext hx15; refine zq 3 rfl<|zN<|zT ?_
          have hF := hS16; exact ruleError_ok_c0
        refine zq 7 rfl<|zN<|zT ?_
        have hF := hS13; exact ruleError_ok_c1
      · rintro e7 w8 ⟨bb, hc10_27, hS9, hbb⟩ -
        refine c_set (d := 27) hc10_27 ?_
        rcases dec_or hbb with ⟨rfl, p2⟩ | ⟨rfl, n2⟩
        · refine zt rfl<|zS<|zR<|zq 1 rfl<|zN<|zT<|zU<|zL<|ret1 Tryz.results29 ?_
          have hF := hS9; exact ruleError_ok_c2
        · refine zf rfl<|zK<|zT<|zS ?_
          refine c_cutE [1, 2] (fun e w' => ∃ (bb : Bool), Kw.look e 30 = .bool bb ∧ St w [] w' [.blk b1 (cl r.v 51)] ∧ (bb = decide (r.acs.any actOut = true))) ?_ ?_
          · refine zR<|zF fa51_2 rfl ti49.und rfl (hS9.heap Z0) rfl rfl rfl<|zC fn53 rfl (containsFuncI_ok r.acs r.aa r.acs.length r.ak 54 [] actOut _ (h2.st hS9) rfl hk.an fn54 (fun x w' hx h => ranot_ok x w')) ?_
            rintro _ w21 (⟨hcf, rfl, hx22⟩ | ⟨hcf, rfl, hx22⟩)
            · have hS23 := hS9.ext hx22
              refine zN<|zT ?_
              exact ⟨_, rfl, ⟨_, rfl, hS23, (decide_eq_true (show (r.acs.any actOut = true) from hcf)).symm⟩, ⟨rfl, rfl, trivial⟩⟩
            have hS23 := hS9.ext hx22; refine zN<|zT ?_
            exact ⟨_, rfl, ⟨_, rfl, hS23, (decide_eq_false (show ¬ (r.acs.any actOut = true) from (by rw [hcf]; exact Bool.noConfusion))).symm⟩, ⟨rfl, rfl, trivial⟩⟩
          · rintro e17 w18 ⟨bb, hc20_30, hS19, hbb⟩ -
            refine c_set (d := 30) hc20_30 ?_
            rcases dec_or hbb with ⟨rfl, p3⟩ | ⟨rfl, n3⟩
            · refine zt rfl<|zS<|zR<|zq 1 rfl<|zN<|zT<|zU<|zL<|ret1 Tryz.results29 ?_
              exact ⟨congrArg (Value.int .i64) (rule_3 n1 n2 p3).symm, hS19.fin⟩
            · refine zf rfl<|zK<|zT<|zS ?_
              refine c_cutE [1, 2] (fun e w' => ∃ (bb : Bool), Kw.look e 33 = .bool bb ∧ St w [] w' [.blk b1 (cl r.v 51)] ∧ (bb = decide (r.las.any (fun s => !patE s) = true))) ?_ ?_
              · refine zR<|zF fa51_3 rfl ti42.und rfl (hS19.heap Z0) rfl rfl rfl<|zC fn50 rfl (containsFuncS_ok r.las r.la r.las.length r.lc 55 [] (fun s => !patE s) _ (h3.st hS19) rfl hk.ln fn55 (fun x w' hx h => rpnot_ok x w' (hk.ll x hx))) ?_
                rintro _ w28 (⟨hcf, rfl, hx29⟩ | ⟨hcf, rfl, hx29⟩)
                · have hS30 := hS19.ext hx29
                  refine zN<|zT ?_
                  exact ⟨_, rfl, ⟨_, rfl, hS30, (decide_eq_true (show (r.las.any (fun s => !patE s) = true) from hcf)).symm⟩, ⟨rfl, rfl, trivial⟩⟩
                have hS30 := hS19.ext hx29; refine zN<|zT ?_
                exact ⟨_, rfl, ⟨_, rfl, hS30, (decide_eq_false (show ¬ (r.las.any (fun s => !patE s) = true) from (by rw [hcf]; exact Bool.noConfusion))).symm⟩, ⟨rfl, rfl, trivial⟩⟩
              · rintro e24 w25 ⟨bb, hc27_33, hS26, hbb⟩ -
                refine c_set (d := 33) hc27_33 ?_
                rcases dec_or hbb with ⟨rfl, p4⟩ | ⟨rfl, n4⟩
                · refine zt rfl<|zS<|zR<|zq 1 rfl<|zN<|zT<|zU<|zL<|ret1 Tryz.results29 ?_
                  have hF := hS26; exact ruleError_ok_c2
                · refine zf rfl<|zK<|zT<|zS<|zI ?_
                  refine c_cutE [1, 2] (fun e w' => ∃ (bb : Bool), Kw.look e 34 = .bool bb ∧ St w [] w' [.blk b1 (cl r.v 51)] ∧ (bb = decide (¬ r.ro.Nodup ∨ ¬ r.acs.Nodup ∨ ¬ r.las.Nodup))) ?_ ?_
                  · refine zR<|zF fa51_1 rfl ti42.und rfl (hS26.heap Z0) rfl rfl rfl<|zC fn57 rfl (rtwiceS_ok r.ro r.ra r.ro.length r.rc _ (h1.st hS26) rfl hk.rn hk.rc) ?_
                    rintro _ w35 (⟨htwro, rfl, hx36⟩ | ⟨htwro, rfl, hx36⟩)
                    · have hS37 := hS26.ext hx36
                      refine zq 11 rfl<|zN<|zT ?_
                      have hF := hS37; exact ruleError_ok_c3
                    have hS37 := hS26.ext hx36; refine zq 1 rfl<|wl_val (r_field fa51_2 rfl) rfl<|wl_val (r_loadB1 ti49.und rfl rfl (hS37.heap Z0) rfl) rfl<|zC fn58 rfl (rtwiceI_ok r.acs r.aa r.acs.length r.ak _ (h2.st hS37) rfl hk.an hk.ac) ?_
                    rintro _ w38 (⟨htwacs, rfl, hx39⟩ | ⟨htwacs, rfl, hx39⟩)
                    · have hS40 := hS37.ext hx39
                      refine zq 7 rfl<|zN<|zT ?_
                      have hF := hS40; exact ruleError_ok_c3
                    have hS40 := hS37.ext hx39; refine zq 2 rfl<|wl_val (r_field fa51_3 rfl) rfl<|wl_val (r_loadB1 ti42.und rfl rfl (hS40.heap Z0) rfl) rfl<|zC fn57 rfl (rtwiceS_ok r.las r.la r.las.length r.lc _ (h3.st hS40) rfl hk.ln hk.lc) ?_
                    rintro _ w41 (⟨htwlas, rfl, hx42⟩ | ⟨htwlas, rfl, hx42⟩)
                    · have hS43 := hS40.ext hx42
                      refine zq 2 rfl<|zN<|zT ?_
                      have hF := hS43; exact ruleError_ok_c3
                    have hS43 := hS40.ext hx42; refine zq 2 rfl<|zN<|zT ?_
                    exact ⟨_, rfl, ⟨_, rfl, hS43, (decide_eq_false (show ¬ (¬ r.ro.Nodup ∨ ¬ r.acs.Nodup ∨ ¬ r.las.Nodup) from (by rintro (h | h | h) <;> exact h (by assumption)))).symm⟩, ⟨rfl, rfl, trivial⟩⟩
                  · rintro e31 w32 ⟨bb, hc34_34, hS33, hbb⟩ -
                    refine c_set (d := 34) hc34_34 ?_
                    rcases dec_or hbb with ⟨rfl, p5⟩ | ⟨rfl, n5⟩
                    · refine zt rfl<|zS<|zR<|zq 1 rfl<|zN<|zT<|zU<|zH<|zL<|ret1 Tryz.results29 ?_
                      exact ⟨congrArg (Value.int .i64) (rule_5 n1 n2 n3 n4 p5).symm, hS33.fin⟩
                    · refine zf rfl ?_
                      refine c_cutE [1, 2] (fun e w' => ∃ (bb : Bool), Kw.look e 48 = .bool bb ∧ St w [] w' [.blk b1 (cl r.v 51)] ∧ (bb = decide (r.fr < 0 ∨ 24 < r.fr ∨ r.to < 0 ∨ 24 < r.to ∨ (r.fr = r.to ∧ ¬ r.fr = 0) ∨ r.nd < 0 ∨ 16 < r.nd))) ?_ ?_
                      · refine zR<|zF fa51_4 rfl ti3.und rfl (hS33.heap Z0) rfl rfl rfl ?_
                        refine wl_dec (r_lss rfl rfl) rfl (fun h11_2 => ?_) (fun h11_2 => ?_)
                        · refine zq 38 rfl<|zN<|zT ?_
                          have hF := hS33; exact ruleError_ok_c4
                        refine zq 1 rfl<|wl_val (r_field fa51_4 rfl) rfl<|wl_val (r_loadB1 ti3.und rfl rfl (hS33.heap Z0) rfl) rfl ?_
                        refine wl_dec (r_gtr rfl rfl) rfl (fun h11_6 => ?_) (fun h11_6 => ?_)
                        · refine zq 34 rfl<|zN<|zT ?_
                          have hF := hS33; exact ruleError_ok_c4
                        refine zq 2 rfl<|wl_val (r_field fa51_5 rfl) rfl<|wl_val (r_loadB1 ti3.und rfl rfl (hS33.heap Z0) rfl) rfl ?_
                        refine wl_dec (r_lss rfl rfl) rfl (fun h11_11 => ?_) (fun h11_11 => ?_)
                        · refine zq 29 rfl<|zN<|zT ?_
                          have hF := hS33; exact ruleError_ok_c4
                        refine zq 2 rfl<|wl_val (r_field fa51_5 rfl) rfl<|wl_val (r_loadB1 ti3.und rfl rfl (hS33.heap Z0) rfl) rfl ?_
                        refine wl_dec (r_gtr rfl rfl) rfl (fun h11_16 => ?_) (fun h11_16 => ?_)
                        · refine zq 24 rfl<|zN<|zT ?_
                          have hF := hS33; exact ruleError_ok_c4
                        refine zq 2 rfl<|wl_val (r_field fa51_4 rfl) rfl<|wl_val (r_loadB1 ti3.und rfl rfl (hS33.heap Z0) rfl) rfl<|wl_val (r_field fa51_5 rfl) rfl<|wl_val (r_loadB1 ti3.und rfl rfl (hS33.heap Z0) rfl) rfl ?_
                        refine wl_dec (r_eql rfl rfl) rfl (fun h11_23 => ?_) (fun h11_23 => ?_)
                        · refine zq 1 rfl<|wl_val (r_field fa51_4 rfl) rfl<|wl_val (r_loadB1 ti3.und rfl rfl (hS33.heap Z0) rfl) rfl ?_
                          refine wl_dec (r_neq rfl rfl) rfl (fun h11_27 => ?_) (fun h11_27 => ?_)
                          · refine zq 13 rfl<|zN<|zT ?_
                            have hF := hS33; exact ruleError_ok_c4
                          refine zq 3 rfl<|wl_val (r_field fa51_6 rfl) rfl<|wl_val (r_loadB1 ti3.und rfl rfl (hS33.heap Z0) rfl) rfl ?_
                          refine wl_dec (r_lss rfl rfl) rfl (fun h11_33 => ?_) (fun h11_33 => ?_)
                          · refine zq 7 rfl<|zN<|zT ?_
                            have hF := hS33; exact ruleError_ok_c4
                          refine zq 2 rfl<|wl_val (r_field fa51_6 rfl) rfl<|wl_val (r_loadB1 ti3.und rfl rfl (hS33.heap Z0) rfl) rfl ?_
                          refine wl_dec (r_gtr rfl rfl) rfl (fun h11_38 => ?_) (fun h11_38 => ?_)
                          · refine zq 2 rfl<|zN<|zT ?_
                            have hF := hS33; exact ruleError_ok_c4
                          refine zq 2 rfl<|zN<|zT ?_
                          have hF := hS33; exact ruleError_ok_c5
                        refine zq 7 rfl<|wl_val (r_field fa51_6 rfl) rfl<|wl_val (r_loadB1 ti3.und rfl rfl (hS33.heap Z0) rfl) rfl ?_
                        refine wl_dec (r_lss rfl rfl) rfl (fun h11_33 => ?_) (fun h11_33 => ?_)
                        · refine zq 7 rfl<|zN<|zT ?_
                          have hF := hS33; exact ruleError_ok_c4
                        refine zq 2 rfl<|wl_val (r_field fa51_6 rfl) rfl<|wl_val (r_loadB1 ti3.und rfl rfl (hS33.heap Z0) rfl) rfl ?_
                        refine wl_dec (r_gtr rfl rfl) rfl (fun h11_38 => ?_) (fun h11_38 => ?_)
                        · refine zq 2 rfl<|zN<|zT ?_
                          have hF := hS33; exact ruleError_ok_c4
                        refine zq 2 rfl<|zN<|zT ?_
                        have hF := hS33; exact ruleError_ok_c5
                      · rintro e44 w45 ⟨bb, hc47_48, hS46, hbb⟩ -
                        refine c_set (d := 48) hc47_48 ?_
                        rcases dec_or hbb with ⟨rfl, p6⟩ | ⟨rfl, n6⟩
                        · refine zt rfl<|zS<|zR<|zq 1 rfl<|zN<|zT<|zU<|zH<|zL<|ret1 Tryz.results29 ?_
                          exact ⟨congrArg (Value.int .i64) (rule_6 n1 n2 n3 n4 n5 p6).symm, hS46.fin⟩
                        · refine zf rfl<|zS ?_
                          rcases bool_cases r.dn with hdn | hdn
                          · refine zR<|zF fa51_6 rfl ti3.und rfl (hS46.heap Z0) rfl rfl rfl ?_
                            refine wl_dec (r_gtr rfl rfl) rfl (fun h13_2 => ?_) (fun h13_2 => ?_)
                            · refine zF fa51_7 rfl ti9.und rfl (hS46.heap Z0) rfl rfl rfl ?_
                              refine wl_dec (r_neqStrL rfl rfl) rfl (fun h13_5 => ?_) (fun h13_5 => ?_)
                              · refine wl_dec_f (r_neqBool ti4.und rfl rfl) rfl (by decide)<|zq 1 rfl<|wl_val (r_field fa51_0 rfl) rfl<|wl_val (r_loadB1 ti4.und rfl rfl (hS46.heap Z0) (by first | exact rule_dn_t hdn | exact rule_dn_f hdn)) rfl ?_
                                refine zq 1 rfl<|wl_val (r_field fa51_6 rfl) rfl<|wl_val (r_loadB1 ti3.und rfl rfl (hS46.heap Z0) rfl) rfl ?_
                                refine wl_dec (r_gtr rfl rfl) rfl (fun h13_13 => ?_) (fun h13_13 => ?_)
                                · refine zq 3 rfl<|zN<|zT<|zt rfl<|zS<|zR<|zq 1 rfl<|zN<|zT<|zU<|zH<|zL<|ret1 Tryz.results29 ?_
                                  have hF := hS46; exact ruleError_ok_c6
                                refine zq 3 rfl<|zN<|zT<|zf rfl<|zK<|zJ<|zT<|zS<|zR<|zq 1 rfl<|zN<|zT<|zU<|ret1 Tryz.results29 ?_
                                have hF := hS46; exact ruleError_ok_c7
                              refine wl_dec_t (r_neqBool ti4.und rfl rfl) rfl (by decide)<|zq 10 rfl<|zN<|zT<|zt rfl<|zS<|zR<|zq 1 rfl<|zN<|zT<|zU<|zH<|zL<|ret1 Tryz.results29 ?_
                              have hF := hS46; exact ruleError_ok_c6
                            refine zF fa51_7 rfl ti9.und rfl (hS46.heap Z0) rfl rfl rfl ?_
                            refine wl_dec (r_neqStrL rfl rfl) rfl (fun h13_5 => ?_) (fun h13_5 => ?_)
                            · refine wl_dec_t (r_neqBool ti4.und rfl rfl) rfl (by decide)<|zq 10 rfl<|zN<|zT<|zt rfl<|zS<|zR<|zq 1 rfl<|zN<|zT<|zU<|zH<|zL<|ret1 Tryz.results29 ?_
                              have hF := hS46; exact ruleError_ok_c6
                            refine wl_dec_f (r_neqBool ti4.und rfl rfl) rfl (by decide)<|zq 1 rfl<|wl_val (r_field fa51_0 rfl) rfl<|wl_val (r_loadB1 ti4.und rfl rfl (hS46.heap Z0) (by first | exact rule_dn_t hdn | exact rule_dn_f hdn)) rfl ?_; refine zq 1 rfl<|wl_val (r_field fa51_6 rfl) rfl<|wl_val (r_loadB1 ti3.und rfl rfl (hS46.heap Z0) rfl) rfl ?_
                            refine wl_dec (r_gtr rfl rfl) rfl (fun h13_13 => ?_) (fun h13_13 => ?_)
                            · refine zq 3 rfl<|zN<|zT<|zt rfl<|zS<|zR<|zq 1 rfl<|zN<|zT<|zU<|zH<|zL<|ret1 Tryz.results29 ?_
                              have hF := hS46; exact ruleError_ok_c6
                            refine zq 3 rfl<|zN<|zT<|zf rfl<|zK<|zJ<|zT<|zS<|zR<|zq 1 rfl<|zN<|zT<|zU<|ret1 Tryz.results29 ?_
                            have hF := hS46; exact ruleError_ok_c7
                          refine zR<|zF fa51_6 rfl ti3.und rfl (hS46.heap Z0) rfl rfl rfl ?_
                          refine wl_dec (r_gtr rfl rfl) rfl (fun h13_2 => ?_) (fun h13_2 => ?_)
                          · refine zF fa51_7 rfl ti9.und rfl (hS46.heap Z0) rfl rfl rfl ?_
                            refine wl_dec (r_neqStrL rfl rfl) rfl (fun h13_5 => ?_) (fun h13_5 => ?_)
                            · refine wl_dec_f (r_neqBool ti4.und rfl rfl) rfl (by decide)<|zq 1 rfl<|wl_val (r_field fa51_0 rfl) rfl<|wl_val (r_loadB1 ti4.und rfl rfl (hS46.heap Z0) (by first | exact rule_dn_t hdn | exact rule_dn_f hdn)) rfl ?_
                              refine zq 7 rfl<|zN<|zT<|zf rfl<|zK<|zJ<|zT<|zS<|zR<|zq 1 rfl<|zN<|zT<|zU<|ret1 Tryz.results29 ?_
                              have hF := hS46; exact ruleError_ok_c7
                            refine wl_dec_t (r_neqBool ti4.und rfl rfl) rfl (by decide)<|zq 10 rfl<|zN<|zT<|zt rfl<|zS<|zR<|zq 1 rfl<|zN<|zT<|zU<|zH<|zL<|ret1 Tryz.results29 ?_
                            have hF := hS46; exact ruleError_ok_c6
                          refine zF fa51_7 rfl ti9.und rfl (hS46.heap Z0) rfl rfl rfl ?_
                          refine wl_dec (r_neqStrL rfl rfl) rfl (fun h13_5 => ?_) (fun h13_5 => ?_)
                          · refine wl_dec_t (r_neqBool ti4.und rfl rfl) rfl (by decide)<|zq 10 rfl<|zN<|zT<|zt rfl<|zS<|zR<|zq 1 rfl<|zN<|zT<|zU<|zH<|zL<|ret1 Tryz.results29 ?_
                            have hF := hS46; exact ruleError_ok_c6
                          refine wl_dec_f (r_neqBool ti4.und rfl rfl) rfl (by decide)<|zq 1 rfl<|wl_val (r_field fa51_0 rfl) rfl<|wl_val (r_loadB1 ti4.und rfl rfl (hS46.heap Z0) (by first | exact rule_dn_t hdn | exact rule_dn_f hdn)) rfl ?_; refine zq 7 rfl<|zN<|zT<|zf rfl<|zK<|zJ<|zT<|zS<|zR<|zq 1 rfl<|zN<|zT<|zU<|ret1 Tryz.results29 ?_
                          have hF := hS46; exact ruleError_ok_c7

end Go.Proofs.YtjnnhlbfgnopiaaGreatDoor
end
section
namespace Go.Proofs.YtjnnhlbfgnopiaaGreatDoor
open Go.Kw
set_option linter.unusedVariables false
set_option linter.unusedSimpArgs false
set_option maxRecDepth 100000
theorem check_ok_c0 {p : Prop} (h : p := by first | exact ⟨congrArg (Value.int .i64) (polE_big Om).symm, hF.fin⟩ | exact ⟨congrArg (Value.int .i64) (polE_at Om Om hok h7_1).symm, hF.fin⟩ | (obtain rfl : k = rs.length := Om; exact ⟨congrArg (Value.int .i64) (polE_ok Om hok).symm, hF.fin⟩)) : p := h
theorem check_ok (rs : List RuleD) (pa : Option Addr) (n pc : Nat) (w : World) (hrs : Row w pa (rs.flatMap RuleD.v)) (hl : rs.length = n) (hn : n ≤ 140737488351232) (hall : ∀ r ∈ rs, RuleAt w r) :
    Ret Tryz.prog 13 [.agg #[.slice pa n pc]] w (fun v w' => v = .int .i64 (polE rs) ∧ St w [] w' []) := by
  subst hl
  refine enter Tryz.func13 rfl Tryz.ntmps13 rfl ?_
  have hS := St.refl w []
  refine zS<|zR<|zB (v := .agg _) hS rfl rfl fun b1 w1 hS2=>zq 1 rfl<|zN<|zT<|zS<|zS<|zR<|zF fa25_0 rfl ti23.und rfl (hS2.heap Z0) rfl rfl rfl<|zV (r_len (T := 23) rfl ti23.und rfl _ rfl) ?_
  refine wl_dec (r_gtr rfl rfl) rfl (fun h1_3 => ?_) (fun h1_3 => ?_)
  · refine zN<|zT<|zt rfl<|zS<|zR<|zq 1 rfl<|zN<|zT<|zU<|zL<|ret1 Tryz.results13 ?_
    have hF := hS2; exact check_ok_c0
  refine zN<|zT<|zf rfl<|zK<|zT<|zS<|zS<|zR<|zF fa25_0 rfl ti23.und rfl (hS2.heap Z0) rfl rfl rfl<|zV (r_len (T := 23) rfl ti23.und rfl _ rfl)<|zq 1 rfl<|zN<|zT<|zI ?_
  refine c_loopE [11, 12] (fun d e w' => ∃ (k : Nat), Kw.look e 13 = vi k ∧ d = rs.length - k ∧ St w [] w' [] ∧ (k ≤ rs.length) ∧ (∀ i, i < k → ruleE (gt rs i) = 0)) (rs.length - 0) ?_ ?_
  · exact ⟨0, rfl, rfl, hS2.fin, Nat.zero_le _, fun i hi => by omega⟩
  · rintro d6 e3 w4 ⟨k, hc0_13, rfl, hS5, hk, hok⟩ -
    refine c_set (d := 13) hc0_13<|zS<|zR ?_
    refine wl_dec (r_lss rfl rfl) rfl (fun h4_0 => ?_) (fun h4_0 => ?_)
    · refine zN<|zT<|zS<|zt rfl<|zK<|zT<|zS<|zI<|zS<|zR<|zV (r_ixF rule_v8 ti23.und ti51 rfl rfl (hrs.st hS5) Ln Sd (by decide)) ?_
      refine zV (r_loadF rule_v8 ti51 ag51 rfl (hrs.st hS5) Sd (by decide)) ?_; refine zA (C := [.bool false, .slice none 0 0, .slice none 0 0, .slice none 0 0, .int .i64 0, .int .i64 0, .int .i64 0, .string ⟨#[]⟩]) hS5 ti51 rfl fun b4 w7 hS8=>zY (x_storeW [] hS8 ti51 rfl rfl rfl rfl (one_rule _)) ?_; intro w9 hS10; simp only [ca, na] at hS10; refine zN<|zT<|zS ?_
      have hgk := (hall (gt rs k) (gt_mem rs k Om)).st hS10
      refine zR<|zV (r_loadB ti51 ag51 rfl (hS10.heap Z0) Ln) ?_; refine zE fn34 rfl hS10 (ruleFault_ok (gt rs k) _ hgk.ok hgk.h1 hgk.h2 hgk.h3) fun w11 hS13=>zq 1 rfl<|zN<|zT<|zS<|zR<|zq 1 rfl ?_
      refine wl_dec (r_neq rfl rfl) rfl (fun h7_1 => ?_) (fun h7_1 => ?_)
      · refine zN<|zT<|zt rfl<|zS<|zR<|zq 2 rfl<|zN<|zT<|zU<|zH<|zL<|zL<|zH<|zL<|ret1 Tryz.results13 ?_
        have hF := hS13; exact check_ok_c0
      refine zN<|zT<|zf rfl<|zK<|zJ<|zT<|zR<|zV (r_addn (b := 1) rfl rfl Om)<|zq 1 rfl<|zN<|zT ?_
      exact ⟨rs.length - (k + 1), _, by omega, rfl, ⟨k + 1, rfl, rfl, hS13.fin, by omega, ok_step hok (Decidable.of_not_not h7_1)⟩, ⟨rfl, rfl, trivial⟩⟩
    refine zN<|zT<|zS<|zf rfl<|zO<|zM<|zM<|c_inE<|zT<|zS<|zR<|zq 1 rfl<|zN<|zT<|zU<|ret1 Tryz.results13 ?_
    have hF := hS5; exact check_ok_c0

theorem rcheck_ok_c0 {p : Prop} (h : p := by first | exact ⟨congrArg (Value.int .i64) (polE_big Om).symm, hF.fin⟩ | exact ⟨congrArg (Value.int .i64) (polE_at Om Om hok h7_1).symm, hF.fin⟩ | (obtain rfl : k = rs.length := Om; exact ⟨congrArg (Value.int .i64) (polE_ok Om hok).symm, hF.fin⟩)) : p := h
theorem rcheck_ok (rs : List RuleD) (pa : Option Addr) (n pc : Nat) (w : World) (hrs : Row w pa (rs.flatMap RuleD.v)) (hl : rs.length = n) (hn : n ≤ 140737488351232) (hall : ∀ r ∈ rs, RuleAt w r) :
    Ret Tryz.prog 9 [.agg #[.slice pa n pc]] w (fun v w' => v = .int .i64 (polE rs) ∧ St w [] w' []) := by
  subst hl
  refine enter Tryz.func9 rfl Tryz.ntmps9 rfl ?_
  have hS := St.refl w []
  refine zS<|zR<|zB (v := .agg _) hS rfl rfl fun b1 w1 hS2=>zq 1 rfl<|zN<|zT<|zS<|zS<|zR<|zF fa25_0 rfl ti23.und rfl (hS2.heap Z0) rfl rfl rfl<|zV (r_len (T := 23) rfl ti23.und rfl _ rfl) ?_
  refine wl_dec (r_gtr rfl rfl) rfl (fun h1_3 => ?_) (fun h1_3 => ?_)
  · refine zN<|zT<|zt rfl<|zS<|zR<|zq 1 rfl<|zN<|zT<|zU<|zL<|ret1 Tryz.results9 ?_
    have hF := hS2; exact rcheck_ok_c0
  refine zN<|zT<|zf rfl<|zK<|zT<|zS<|zS<|zR<|zF fa25_0 rfl ti23.und rfl (hS2.heap Z0) rfl rfl rfl<|zV (r_len (T := 23) rfl ti23.und rfl _ rfl)<|zq 1 rfl<|zN<|zT<|zI ?_
  refine c_loopE [11, 12] (fun d e w' => ∃ (k : Nat), Kw.look e 13 = vi k ∧ d = rs.length - k ∧ St w [] w' [] ∧ (k ≤ rs.length) ∧ (∀ i, i < k → ruleE (gt rs i) = 0)) (rs.length - 0) ?_ ?_
  · exact ⟨0, rfl, rfl, hS2.fin, Nat.zero_le _, fun i hi => by omega⟩
  · rintro d6 e3 w4 ⟨k, hc0_13, rfl, hS5, hk, hok⟩ -
    refine c_set (d := 13) hc0_13<|zS<|zR ?_
    refine wl_dec (r_lss rfl rfl) rfl (fun h4_0 => ?_) (fun h4_0 => ?_)
    · refine zN<|zT<|zS<|zt rfl<|zK<|zT<|zS<|zI<|zS<|zR<|zV (r_ixF rule_v8 ti23.und ti51 rfl rfl (hrs.st hS5) Ln Sd (by decide)) ?_
      refine zV (r_loadF rule_v8 ti51 ag51 rfl (hrs.st hS5) Sd (by decide)) ?_; refine zA (C := [.bool false, .slice none 0 0, .slice none 0 0, .slice none 0 0, .int .i64 0, .int .i64 0, .int .i64 0, .string ⟨#[]⟩]) hS5 ti51 rfl fun b4 w7 hS8=>zY (x_storeW [] hS8 ti51 rfl rfl rfl rfl (one_rule _)) ?_; intro w9 hS10; simp only [ca, na] at hS10; refine zN<|zT<|zS ?_
      have hgk := (hall (gt rs k) (gt_mem rs k Om)).st hS10
      refine zR<|zV (r_loadB ti51 ag51 rfl (hS10.heap Z0) Ln) ?_; refine zE fn29 rfl hS10 (ruleError_ok (gt rs k) _ hgk.ok hgk.h1 hgk.h2 hgk.h3) fun w11 hS13=>zq 1 rfl<|zN<|zT<|zS<|zR<|zq 1 rfl ?_
      refine wl_dec (r_neq rfl rfl) rfl (fun h7_1 => ?_) (fun h7_1 => ?_)
      · refine zN<|zT<|zt rfl<|zS<|zR<|zq 2 rfl<|zN<|zT<|zU<|zH<|zL<|zL<|zH<|zL<|ret1 Tryz.results9 ?_
        have hF := hS13; exact rcheck_ok_c0
      refine zN<|zT<|zf rfl<|zK<|zJ<|zT<|zR<|zV (r_addn (b := 1) rfl rfl Om)<|zq 1 rfl<|zN<|zT ?_
      exact ⟨rs.length - (k + 1), _, by omega, rfl, ⟨k + 1, rfl, rfl, hS13.fin, by omega, ok_step hok (Decidable.of_not_not h7_1)⟩, ⟨rfl, rfl, trivial⟩⟩
    refine zN<|zT<|zS<|zf rfl<|zO<|zM<|zM<|c_inE<|zT<|zS<|zR<|zq 1 rfl<|zN<|zT<|zU<|ret1 Tryz.results9 ?_
    have hF := hS5; exact rcheck_ok_c0

end Go.Proofs.YtjnnhlbfgnopiaaGreatDoor
end
