/- What the law's proof leans on. No condition. -/
import Derived.Test.YtjnnhlbfgnopiaaGreatDoorPCAI
import Derived.Test.YtjnnhlbfgnopiaaGreatDoorPCBH
import Derived.Test.YtjnnhlbfgnopiaaGreatDoorPCAM
namespace Go.Proofs.YtjnnhlbfgnopiaaGreatDoor
open Go.Kw
set_option linter.unusedVariables false
set_option linter.unusedSimpArgs false
set_option maxRecDepth 100000
theorem summed_ok_c0 {p : Prop} (h : p := by first | exact .inl ⟨by omega, rfl, hF.fin⟩ | (rw [joined_len] at hover; exact .inr (.inl ⟨by omega, rfl, hF.fin⟩)) | (obtain rfl : k = ps.length := Om; rw [List.take_length] at hF hkt hr2; exact .inr (.inr ⟨by omega, _, rest, rfl, hr1, hr2, hF⟩))) : p := h
theorem summed_ok (p : Int) (ps : List Piece) (a : Option Addr) (c : Nat) (w : World) (hp1 : -9223372036854775808 ≤ p) (hp2 : p ≤ 9223372036854775807) (hb : Row w a (ps.map Piece.v)) (hr : ∀ q ∈ ps, Row w q.a (q.xs.map b8) ∧ q.xs.length ≤ q.c ∧ q.xs.length ≤ 140737488351232) (hl : ps.length ≤ 4611686018427387904) :
    Ret Tryz.prog 66 [.int .i64 p, .slice a ps.length c] w (fun v w' => ((p < 0 ∨ 255 < p) ∧ v = .tuple #[.pointer none, vi 3] ∧ St w [] w' []) ∨ ((0 ≤ p ∧ p ≤ 255 ∧ 1048576 < total ps) ∧ v = .tuple #[.pointer none, vi 5] ∧ St w [] w' []) ∨ ((0 ≤ p ∧ p ≤ 255 ∧ total ps ≤ 1048576) ∧ ∃ b rest, v = .tuple #[pt b 0, vi 0] ∧ rest.length = 32 ∧ rest.take (left (joined ps)).length = left (joined ps) ∧ St w [] w' [.blk b (cl (sumC (soak (ini (UInt8.ofNat p.toNat)) (joined ps)) rest (left (joined ps)).length (joined ps).length) 148)])) := by
  refine enter Tryz.func66 rfl Tryz.ntmps66 rfl ?_
  have hS := St.refl w []
  refine zS<|zR<|zq 2 rfl<|zN<|zT<|zS<|zR<|zq 1 rfl<|zC fn97 rfl (new_ok p _ hp1 hp2) ?_
  rintro _ w1 (⟨hbad, rfl, hx2⟩ | ⟨hgood, bs, rfl, hx2⟩)
  · have hS3 := hS.ext hx2
    refine zq 5 rfl<|zN<|zT<|zS<|zS<|zR<|zq 1 rfl<|wl_dec_t (r_neq rfl rfl) rfl (by decide)<|zN<|zT<|zt rfl<|zS<|zR<|zq 3 rfl<|zN<|zT<|zU<|zL<|ret2 Tryz.results66 rfl rfl ?_
    have hF := hS3; exact summed_ok_c0
  have hS3 := hS.call hx2
  simp only [ca, na] at hS3; refine zq 5 rfl<|zN<|zT<|zS<|zS<|zR<|zq 1 rfl<|wl_dec_f (r_neq rfl rfl) rfl (by decide)<|zN<|zT<|zf rfl<|zK<|zT<|zS<|zS<|zR<|zq 1 rfl<|zV (r_len (T := 125) rfl ti125.und rfl _ rfl)<|zq 1 rfl<|zN<|zT<|zI ?_
  refine c_loopE [6, 19, 20] (fun d e w' => ∃ (k : Nat) (rest : List UInt8), Kw.look e 21 = vi k ∧ d = ps.length - k ∧ St w [] w' [.blk bs (cl (sumC (soak (ini (UInt8.ofNat p.toNat)) (joined (ps.take k))) rest (left (joined (ps.take k))).length (joined (ps.take k)).length) 148)] ∧ (k ≤ ps.length) ∧ (total (ps.take k) ≤ 1048576) ∧ (rest.length = 32) ∧ (rest.take (left (joined (ps.take k))).length = left (joined (ps.take k)))) (ps.length - 0) ?_ ?_
  · refine ⟨0, List.replicate 32 0, rfl, rfl, ?_, Nat.zero_le _, Nat.zero_le _, by simp, by rw [joined_zero]; rfl⟩
    rw [joined_zero]; exact hS3
  · rintro d7 e4 w5 ⟨k, rest, hc0_21, rfl, hS6, hk, hkt, hr1, hr2⟩ -
    refine c_set (d := 21) hc0_21<|zS<|zR ?_
    refine wl_dec (r_lss rfl rfl) rfl (fun h5_0 => ?_) (fun h5_0 => ?_)
    · refine zN<|zT<|zS<|zt rfl<|zK<|zT<|zS<|zI<|zS ?_
      have hrk := hr (gt ps k) (gt_mem ps k Om)
      have htt := total_take ps k Om
      have htl := total_le ps (k + 1)
      refine zR<|zV (r_ixS ti125.und ti39 rfl rfl (hb.st hS6) Sd Ln) ?_; refine zV (r_loadS1 ti39.und rfl rfl (hb.st hS6) (by rw [Nat.mul_one]; exact map_gt _ _ _ Sd)) ?_; refine zq 1 rfl<|zN<|zT<|zS<|zR<|zq 2 rfl<|zC fn98 rfl (write_ok (ini (UInt8.ofNat p.toNat)) (joined (ps.take k)) rest bs (gt ps k).xs _ _ _ _ (ini_len _) hr1 (hS6.heap Z0) hr2 rfl hrk.2.1 (hrk.1.st hS6) (Sep.old hS6 Z0 hrk.1) Om (by rw [joined_len]; omega)) ?_
      rintro _ w8 (⟨hfit, rfl, rest2, hr1b, hr2b, hx9⟩ | ⟨hover, rfl, hx9⟩)
      · have hS10 := St.callM (X := [_]) (L := []) hS6 hx9 (by simp [Item.id])
        simp only [ca, na] at hS10; refine zq 1 rfl<|zN<|zT<|zS<|zR<|zq 1 rfl<|wl_dec_f (r_neq rfl rfl) rfl (by decide)<|zN<|zT<|zf rfl<|zK<|zJ<|zT<|zR<|zV (r_addn (b := 1) rfl rfl Om)<|zq 1 rfl<|zN<|zT ?_
        rw [← joined_take ps k Om] at hS10 hr2b
        refine ⟨ps.length - (k + 1), _, by omega, rfl, ⟨k + 1, rest2, rfl, rfl, hS10, by omega, ?_, hr1b, hr2b⟩, ⟨rfl, rfl, rfl, trivial⟩⟩
        rw [total_take ps k Om]; rw [joined_len] at hfit; omega
      · have hS10 := St.callM (X := [_]) (L := []) hS6 hx9 (by simp [Item.id])
        simp only [ca, na] at hS10; refine zq 1 rfl<|zN<|zT<|zS<|zR<|zq 1 rfl<|wl_dec_t (r_neq rfl rfl) rfl (by decide)<|zN<|zT<|zt rfl<|zS<|zR<|zq 3 rfl<|zN<|zT<|zU<|zH<|zL<|zL<|zH<|zL<|ret2 Tryz.results66 rfl rfl ?_
        have hF := hS10; exact summed_ok_c0
    refine zN<|zT<|zS<|zf rfl<|zO<|zM<|zM<|c_inE<|zT<|zS<|zR<|zq 3 rfl<|zN<|zT<|zU<|ret2 Tryz.results66 rfl rfl ?_
    have hF := hS6; exact summed_ok_c0

theorem sumOf_ok_c0 {p : Prop} (h : p := by first | exact .inl ⟨hbad, rfl, hF.fin⟩ | (rw [total_one] at hbig; exact .inr (.inl ⟨hbig, rfl, hF.fin⟩)) | (rw [total_one] at hin; simp only [joined_one] at *; exact .inr (.inr ⟨hin, rfl, hF.fin⟩))) : p := h
theorem sumOf_ok (p : Int) (t : List UInt8) (a : Option Addr) (c : Nat) (w : World) (hp1 : -9223372036854775808 ≤ p) (hp2 : p ≤ 9223372036854775807) (hb : Row w a (t.map b8)) (hc : t.length ≤ c) (hn : t.length ≤ 140737488351232) :
    Ret Tryz.prog 33 [.int .i64 p, .slice a t.length c] w (fun v w' => ((p < 0 ∨ 255 < p) ∧ v = .tuple #[.agg ((List.replicate 32 (0 : UInt8)).map b8).toArray, vi 3] ∧ St w [] w' []) ∨ ((0 ≤ p ∧ p ≤ 255 ∧ 1048576 < t.length) ∧ v = .tuple #[.agg ((List.replicate 32 (0 : UInt8)).map b8).toArray, vi 5] ∧ St w [] w' []) ∨ ((0 ≤ p ∧ p ≤ 255 ∧ t.length ≤ 1048576) ∧ v = .tuple #[.agg ((sumL (UInt8.ofNat p.toNat) t).map b8).toArray, vi 0] ∧ St w [] w' [])) := by
  refine enter Tryz.func33 rfl Tryz.ntmps33 rfl ?_
  have hS := St.refl w []
  refine zS<|zR<|zA (C := ((List.replicate 32 (0 : UInt8)).map b8)) hS ti35 rfl fun b4 w1 hS2=>zq 1 rfl<|zN<|zT<|zS<|zR<|zq 2 rfl<|zX (x_lit (vs := [.slice _ _ _]) hS2 ti125.und ti39 rfl rfl rfl (by intro c hc; simp only [List.mem_cons, List.not_mem_nil, or_false] at hc; rcases hc with rfl <;> rfl) (by decide)) ?_; rintro _ w3 ⟨b11, rfl, hS4⟩; refine zC fn66 rfl (summed_ok p [⟨_, _, t⟩] _ _ _ hp1 hp2 (Row.of_at (at_all (hS4.heap Z0))) (by intro q hq; obtain rfl := List.mem_singleton.1 hq; exact ⟨hb.st hS4, hc, hn⟩) (by simp)) ?_
  rintro _ w5 (⟨hbad, rfl, hx6⟩ | ⟨hbig, rfl, hx6⟩ | ⟨hin, bS, rest, rfl, hs1, hs2, hx6⟩)
  · have hS7 := hS4.ext hx6
    refine zq 5 rfl<|zN<|zT<|zS<|zS<|zR<|zq 1 rfl<|wl_dec_t (r_neq rfl rfl) rfl (by decide)<|zN<|zT<|zt rfl<|zS<|zR<|zV (r_build0 (cs := ((List.replicate 32 (0 : UInt8)).map b8)) ti35.und ti35 ti5)<|zq 1 rfl ?_; refine wl_exs (x_storeW [_] hS7 ti35 rfl rfl Ln Ln On) rfl ?_; intro w8 hS9; simp only [ca, na] at hS9; refine zq 1 rfl<|zN<|zT<|zU<|zL<|ret2 Tryz.results33 ⟨_, rfl, run_loadVar_blk ti35 rfl (hS9.heap Z1) Ln⟩ rfl ?_
    have hF := hS9; exact sumOf_ok_c0
  · have hS7 := hS4.ext hx6
    refine zq 5 rfl<|zN<|zT<|zS<|zS<|zR<|zq 1 rfl<|wl_dec_t (r_neq rfl rfl) rfl (by decide)<|zN<|zT<|zt rfl<|zS<|zR<|zV (r_build0 (cs := ((List.replicate 32 (0 : UInt8)).map b8)) ti35.und ti35 ti5)<|zq 1 rfl ?_; refine wl_exs (x_storeW [_] hS7 ti35 rfl rfl Ln Ln On) rfl ?_; intro w10 hS11; simp only [ca, na] at hS11; refine zq 1 rfl<|zN<|zT<|zU<|zL<|ret2 Tryz.results33 ⟨_, rfl, run_loadVar_blk ti35 rfl (hS11.heap Z1) Ln⟩ rfl ?_
    have hF := hS11; exact sumOf_ok_c0
  have hS7 := hS4.call hx6
  simp only [ca, na] at hS7; refine zq 5 rfl<|zN<|zT<|zS<|zS<|zR<|zq 1 rfl<|wl_dec_f (r_neq rfl rfl) rfl (by decide)<|zN<|zT<|zf rfl<|zK<|zT<|zS<|zR<|zq 1 rfl<|zE fn67 rfl hS7 (sum_ok _ _ _ _ _ (ini_len _) hs1 (hS7.heap Z0) hs2 (by rw [joined_len]; omega)) fun w12 hS14=> ?_; refine wl_exs (x_storeW [_, _] hS14 ti35 rfl rfl Ln Ln On) rfl ?_; intro w15 hS16; simp only [ca, na] at hS16; refine zq 1 rfl<|zN<|zT<|zU<|ret2 Tryz.results33 ⟨_, rfl, run_loadVar_blk ti35 rfl (hS16.heap Z2) Ln⟩ rfl ?_
  have hF := hS16; exact sumOf_ok_c0

theorem sumOf_in (p : Nat) (t : List UInt8) (a : Option Addr) (n c : Nat) (w : World) (hp : p ≤ 255) (hb : Row w a (t.map b8)) (hl : t.length = n) (hc : n ≤ c) (ht : n ≤ 1048576) :
    Ret Tryz.prog 33 [vi p, .slice a n c] w (fun v w' => v = .tuple #[.agg ((sumL (UInt8.ofNat p) t).map b8).toArray, vi 0] ∧ St w [] w' []) := by
  subst hl
  refine (sumOf_ok (p : Int) t a c w (by omega) (by omega) hb hc (by omega)).mono fun v w' h => ?_
  rcases h with ⟨h, _⟩ | ⟨h, _⟩ | ⟨_, h⟩
  · omega
  · omega
  · rwa [Int.toNat_natCast] at h

theorem rsum_ok (dn : Nat) (t : List UInt8) (a : Option Addr) (n c : Nat) (w : World) (hb : Row w a (t.map b8)) (hl : t.length = n) (hn : n ≤ 70368744177664) :
    Ret Tryz.prog 14 [vi dn, .slice a n c] w (fun v w' => v = .agg ((sumL (UInt8.ofNat dn) t).map b8).toArray ∧ St w [] w' []) := by
  subst hl
  refine enter Tryz.func14 rfl Tryz.ntmps14 rfl ?_
  have hS := St.refl w []
  refine zS<|zR<|zA (C := ((List.replicate 32 (0 : UInt8)).map b8)) hS ti35 rfl fun b4 w1 hS2=>zN<|zT<|zS<|zR<|zq 2 rfl<|zE fn35 rfl hS2 (rstate_ok dn t _ _ _ (hb.st hS2) hn) fun w3 hS5=>zA (C := ((List.replicate 64 (0 : UInt8)).map b8)) hS5 ti64 rfl fun b5 w6 hS7=> ?_; refine wl_exs (x_storeW [] hS7 ti64 rfl rfl Ln Ln On) rfl ?_; intro w8 hS9; simp only [ca, na] at hS9; refine zN<|zT<|zS<|c_drawS 2 hMixed hS9 ?_; intro w10 hS11; refine zG 0 rfl hS11 (fun wF hF => r_sa1_0 ti35.und ti5 rfl ) ?_; refine zG 1 rfl hS11 (fun wF hF => r_sa1_h (h := 32) ti64.und ti5 rfl rfl Om) ?_; refine zGT rfl ?_; refine zX (x_copym [_] hS11 ti39.und ti5 rfl rfl (Row.of_at (at_takem (n := 32) (hS11.heap Z0))) Ln Sd Ln (fun _ => rfl) _ rfl) ?_; rintro _ w12 ⟨rfl, hS13⟩; simp only [ca, na] at hS13
  rw [splice0 _ _ (by simp)] at hS13
  refine zN<|zT<|zS<|zR<|zV (r_loadB ti35 rfl rfl (hS13.heap Z1) Ln) ?_; refine wl_exs (x_storeW [_] hS13 ti35 rfl rfl Ln Ln On) rfl ?_; intro w14 hS15; simp only [ca, na] at hS15; refine zN<|zT<|zU<|retc Tryz.results14 ⟨_, rfl, run_loadVar_blk ti35 rfl (hS15.heap Z1) Ln⟩ ?_
  exact ⟨rfl, hS15.fin⟩

end Go.Proofs.YtjnnhlbfgnopiaaGreatDoor
