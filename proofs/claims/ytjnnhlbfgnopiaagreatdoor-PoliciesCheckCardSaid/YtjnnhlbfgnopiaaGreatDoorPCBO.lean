/- What the law's proof leans on. No condition. -/
import Derived.Test.YtjnnhlbfgnopiaaGreatDoorPCAI
import Derived.Test.YtjnnhlbfgnopiaaGreatDoorPCBK
import Derived.Test.YtjnnhlbfgnopiaaGreatDoorPCAK
namespace Go.Proofs.YtjnnhlbfgnopiaaGreatDoor
open Go.Kw
set_option linter.unusedVariables false
set_option linter.unusedSimpArgs false
set_option maxRecDepth 100000
theorem hasSuffix_ok_c0 {p : Prop} (h : p := by exact ⟨congrArg Value.bool (sfx_f (fun h => by first | exact absurd h.1 Om | exact absurd h.2 (by assumption))).symm, hF.fin⟩) : p := h
theorem hasSuffix_ok (l t : List UInt8) (w : World) (hl : l.length ≤ 9223372036854775807) :
    Ret Tryz.prog 137 [.string ⟨(l).toArray⟩, .string ⟨(t).toArray⟩] w (fun v w' => v = .bool (sfx l t) ∧ St w [] w' []) := by
  refine enter Tryz.func137 rfl Tryz.ntmps137 rfl ?_
  have hS := St.refl w []
  refine zS<|zR<|zq 1 rfl<|zN<|zT<|zS<|zR<|zq 1 rfl<|zV (r_lenStrL (T := 9) rfl ti9.und rfl _ rfl)<|zq 1 rfl<|zV (r_lenStrL (T := 9) rfl ti9.und rfl _ rfl) ?_
  refine wl_dec (r_geq rfl rfl) rfl (fun h1_4 => ?_) (fun h1_4 => ?_)
  · refine zq 3 rfl<|wl_val (r_lenStrL (T := 9) rfl ti9.und rfl _ rfl) rfl<|zq 1 rfl<|wl_val (r_lenStrL (T := 9) rfl ti9.und rfl _ rfl) rfl<|wl_val (r_subn rfl rfl Om Om) rfl<|wl_val (r_slStr_l ti9.und rfl rfl Om) rfl<|zq 1 rfl ?_
    refine wl_dec (r_eqlStrL rfl rfl) rfl (fun h1_14 => ?_) (fun h1_14 => ?_)
    · refine zq 2 rfl<|zN<|zT<|zU<|ret1 Tryz.results137 ?_
      exact ⟨congrArg Value.bool (sfx_t Om (by assumption)).symm, hS.fin⟩
    refine zq 2 rfl<|zN<|zT<|zU<|ret1 Tryz.results137 ?_
    have hF := hS; exact hasSuffix_ok_c0
  refine zq 12 rfl<|zN<|zT<|zU<|ret1 Tryz.results137 ?_
  have hF := hS; exact hasSuffix_ok_c0

theorem hasSuffix_br (l t : List UInt8) (w : World) (hl : l.length ≤ 9223372036854775807) : Ret Tryz.prog 137 [.string ⟨l.toArray⟩, .string ⟨t.toArray⟩] w (fun v w' => (sfx l t = true ∧ v = .bool true ∧ St w [] w' []) ∨ (sfx l t = false ∧ v = .bool false ∧ St w [] w' [])) :=
  (hasSuffix_ok l t w hl).mono fun v w' h => by
    cases hs : sfx l t with
    | true => rw [hs] at h; exact .inl ⟨rfl, h⟩
    | false => rw [hs] at h; exact .inr ⟨rfl, h⟩

theorem cutSuffix0_ok (l : List UInt8) (w : World) (hl : l.length ≤ 9223372036854775807) :
    Ret Tryz.prog 117 [.string ⟨(l).toArray⟩, .string ⟨[42].toArray⟩] w (fun v w' => (sfx l [42] = true ∧ v = .tuple #[.string ⟨(headS l).toArray⟩, .bool true] ∧ St w [] w' []) ∨ (sfx l [42] = false ∧ v = .tuple #[.string ⟨(headS l).toArray⟩, .bool false] ∧ St w [] w' [])) := by
  refine enter Tryz.func117 rfl Tryz.ntmps117 rfl ?_
  have hS := St.refl w []
  refine zS<|zR<|zq 2 rfl<|zN<|zT<|zS<|zS<|zR<|zq 2 rfl<|zC fn137 rfl (hasSuffix_br l [42] _ hl) ?_
  rintro _ w1 (⟨hs, rfl, hx2⟩ | ⟨hs, rfl, hx2⟩)
  · have hS3 := hS.ext hx2
    refine zq 1 rfl<|zN<|zT<|zf rfl<|zK<|zT<|zS<|zR<|zq 2 rfl<|zV (r_lenStrL (T := 9) rfl ti9.und rfl _ rfl)<|zq 1 rfl<|zV (r_lenStrL (T := 9) rfl ti9.und rfl _ rfl)<|zV (r_subn rfl rfl (by have := sfx_len hs; simp only [List.length_cons, List.length_nil] at this; omega) hl) ?_; refine zV (r_slStr_h ti9.und rfl rfl (Nat.sub_le _ _))<|zq 2 rfl<|zN<|zT<|zU<|ret2 Tryz.results117 rfl rfl ?_
    first | (rw [headS_t hs]; exact .inl ⟨hs, rfl, hS3.fin⟩) | (rw [headS_f hs]; exact .inr ⟨hs, rfl, hS3.fin⟩)
  have hS3 := hS.ext hx2; refine zq 1 rfl<|zN<|zT<|zt rfl<|zS<|zR<|zq 3 rfl<|zN<|zT<|zU<|zL<|ret2 Tryz.results117 rfl rfl ?_
  first | (rw [headS_t hs]; exact .inl ⟨hs, rfl, hS3.fin⟩) | (rw [headS_f hs]; exact .inr ⟨hs, rfl, hS3.fin⟩)

theorem cutSuffix_ok (l : List UInt8) (w : World) (hl : l.length ≤ 9223372036854775807) :
    Ret Tryz.prog 93 [.string ⟨(l).toArray⟩, .string ⟨[42].toArray⟩] w (fun v w' => (sfx l [42] = true ∧ v = .tuple #[.string ⟨(headS l).toArray⟩, .bool true] ∧ St w [] w' []) ∨ (sfx l [42] = false ∧ v = .tuple #[.string ⟨(headS l).toArray⟩, .bool false] ∧ St w [] w' [])) := by
  refine enter Tryz.func93 rfl Tryz.ntmps93 rfl ?_
  have hS := St.refl w []
  refine zS<|zR<|zq 2 rfl<|zN<|zT<|zS<|zR<|zq 2 rfl<|zC fn117 rfl (cutSuffix0_ok l _ hl) ?_
  rintro _ w1 (⟨hs, rfl, hx2⟩ | ⟨hs, rfl, hx2⟩)
  · have hS3 := hS.ext hx2
    refine zq 4 rfl<|zN<|zT<|zU<|ret2 Tryz.results93 rfl rfl ?_
    first | exact .inl ⟨hs, rfl, hS3.fin⟩ | exact .inr ⟨hs, rfl, hS3.fin⟩
  have hS3 := hS.ext hx2; refine zq 4 rfl<|zN<|zT<|zU<|ret2 Tryz.results93 rfl rfl ?_
  first | exact .inl ⟨hs, rfl, hS3.fin⟩ | exact .inr ⟨hs, rfl, hS3.fin⟩

theorem isPattern_ok_c0 {p : Prop} (h : p := by first | exact .inl ⟨patE_name hnm, rfl, hF.fin⟩ | exact .inl ⟨by rw [patE, hs, decide_eq_true h2_6, Bool.and_true, Bool.or_true], rfl, hF.fin⟩ | exact .inr ⟨by rw [patE, hnm, hs, decide_eq_false h2_6]; rfl, rfl, hF.fin⟩ | exact .inr ⟨by rw [patE, hnm, hs]; rfl, rfl, hF.fin⟩) : p := h
theorem isPattern_ok (l : List UInt8) (w : World) (hl : l.length ≤ 9223372036854775807) :
    Ret Tryz.prog 72 [.string ⟨(l).toArray⟩] w (fun v w' => (patE l = true ∧ v = .bool true ∧ St w [] w' []) ∨ (patE l = false ∧ v = .bool false ∧ St w [] w' [])) := by
  refine enter Tryz.func72 rfl Tryz.ntmps72 rfl ?_
  have hS := St.refl w []
  refine zS<|zR<|zq 1 rfl<|zN<|zT<|zS<|zR<|zq 1 rfl<|zC fn93 rfl (cutSuffix_ok l _ hl) ?_
  rintro _ w1 (⟨hs, rfl, hx2⟩ | ⟨hs, rfl, hx2⟩)
  · have hS3 := hS.ext hx2
    refine zq 5 rfl<|zN<|zT<|zS<|zR<|zq 1 rfl<|zC fn100 rfl (isName_br _ _ (Nat.le_trans (headS_le l) hl)) ?_
    rintro _ w4 (⟨hnm, rfl, hx5⟩ | ⟨hnm, rfl, hx5⟩)
    · have hS6 := hS3.ext hx5
      refine zq 8 rfl<|zN<|zT<|zU<|ret1 Tryz.results72 ?_
      have hF := hS6; exact isPattern_ok_c0
    have hS6 := hS3.ext hx5; refine zq 4 rfl ?_
    refine wl_dec (r_eqlStrL rfl rfl) rfl (fun h2_6 => ?_) (fun h2_6 => ?_)
    · refine zq 3 rfl<|zN<|zT<|zU<|ret1 Tryz.results72 ?_
      have hF := hS6; exact isPattern_ok_c0
    refine zq 3 rfl<|zN<|zT<|zU<|ret1 Tryz.results72 ?_
    have hF := hS6; exact isPattern_ok_c0
  have hS3 := hS.ext hx2; refine zq 5 rfl<|zN<|zT<|zS<|zR<|zq 1 rfl<|zC fn100 rfl (isName_br _ _ (Nat.le_trans (headS_le l) hl)) ?_
  rintro _ w7 (⟨hnm, rfl, hx8⟩ | ⟨hnm, rfl, hx8⟩)
  · have hS9 := hS3.ext hx8
    refine zq 8 rfl<|zN<|zT<|zU<|ret1 Tryz.results72 ?_
    have hF := hS9; exact isPattern_ok_c0
  have hS9 := hS3.ext hx8; refine zq 8 rfl<|zN<|zT<|zU<|ret1 Tryz.results72 ?_
  have hF := hS9; exact isPattern_ok_c0

theorem notName_ok (l : List UInt8) (w : World) (hl : l.length ≤ 9223372036854775807) :
    Ret Tryz.prog 68 [.string ⟨(l).toArray⟩] w (fun v w' => (nameE l = false ∧ v = .bool true ∧ St w [] w' []) ∨ (nameE l = true ∧ v = .bool false ∧ St w [] w' [])) := by
  refine enter Tryz.func68 rfl Tryz.ntmps68 rfl ?_
  have hS := St.refl w []
  refine zS<|zR<|zq 1 rfl<|zN<|zT<|zS<|zR<|zq 1 rfl<|zC fn100 rfl (isName_br l _ hl) ?_
  rintro _ w1 (⟨hnm, rfl, hx2⟩ | ⟨hnm, rfl, hx2⟩)
  · have hS3 := hS.ext hx2
    refine zq 2 rfl<|zN<|zT<|zU<|ret1 Tryz.results68 ?_
    first | exact .inl ⟨hnm, rfl, hS3.fin⟩ | exact .inr ⟨hnm, rfl, hS3.fin⟩
  have hS3 := hS.ext hx2; refine zq 2 rfl<|zN<|zT<|zU<|ret1 Tryz.results68 ?_
  first | exact .inl ⟨hnm, rfl, hS3.fin⟩ | exact .inr ⟨hnm, rfl, hS3.fin⟩

end Go.Proofs.YtjnnhlbfgnopiaaGreatDoor
