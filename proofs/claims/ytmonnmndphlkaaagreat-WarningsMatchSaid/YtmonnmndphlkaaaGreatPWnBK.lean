/- What the law's proof leans on. No condition. -/
import Derived.Test.YtmonnmndphlkaaaGreatPWnAI
import Derived.Test.YtmonnmndphlkaaaGreatPWnAT
import Derived.Test.YtmonnmndphlkaaaGreatPWnAU
import Derived.Test.YtmonnmndphlkaaaGreatPWnBJ
section
namespace Go.Proofs.YtmonnmndphlkaaaGreat
open Go.Kw
set_option linter.unusedVariables false
set_option linter.unusedSimpArgs false
set_option maxRecDepth 100000
theorem sortS_ok (l : List (List UInt8)) (a : Option Addr) (n c : Nat) (w : World) (hS : w.ownsRow 0 9 1 (.slice a n c) n (l.map sv)) (hl : l.length = n) (hn : n ≤ 4398046511104) :
    Ret Tryz.prog 29 [.slice a n c] w (fun v w' => v = .tuple #[] ∧ St w (Value.slice a n c).ownBlock.toList w' [.row (.slice a n c) 9 1 n ((l.mergeSort leS).map sv)]) :=
  sort_row (le := leS) (fun p cap w => Any.slices_Sort_string_none Tryz.laysSortS p cap w) (fun blk cap l w h1 h2 h3 => Any.slices_Sort_string Tryz.laysSortS blk 0 cap l w h1 h2 h3) l a n c w hS hl hn

theorem sortI_ok (l : List Int) (a : Option Addr) (n c : Nat) (w : World) (hS : w.ownsRow 0 3 1 (.slice a n c) n (l.map iv)) (hl : l.length = n) (hn : n ≤ 4398046511104) :
    Ret Tryz.prog 31 [.slice a n c] w (fun v w' => v = .tuple #[] ∧ St w (Value.slice a n c).ownBlock.toList w' [.row (.slice a n c) 3 1 n ((l.mergeSort leI).map iv)]) :=
  sort_row (le := leI) (fun p cap w => Any.slices_Sort_int_none Tryz.laysSortI p cap w) (fun blk cap l w h1 h2 h3 => Any.slices_Sort_int Tryz.laysSortI blk 0 cap l w h1 h2 h3) l a n c w hS hl hn

end Go.Proofs.YtmonnmndphlkaaaGreat
end
section
namespace Go.Proofs.YtmonnmndphlkaaaGreat
open Go.Kw
set_option linter.unusedVariables false
set_option linter.unusedSimpArgs false
set_option maxRecDepth 100000
set_option maxHeartbeats 1000000 in
theorem appendSeqS_ok (bs bm clock : Nat) (E : List (MB (List UInt8))) (w : World) (hAs : At w bs 0 [.map (some bm)]) (hm : w.heap[bm]? = some (mobj sv E clock)) (hwf : WfM E clock) (hE : E.length ≤ 1000000) :
    Ret Tryz.prog 152 [.slice none 0 0, .func (.func 146) #[] #[pt bs 0]] w (fun v w' => ∃ (D : List (List UInt8)) (a' : Option Addr) (c' : Nat), D.Perm (E.map (·.k)) ∧ v = .slice a' D.length c' ∧ D.length ≤ c' ∧ St w [] w' [.row (.slice a' D.length c') 9 1 D.length ((D).map sv)]) := by
  refine enterM 0 Tryz.func152 rfl Tryz.ntmps152 rfl ?_
  have hS := St.refl w []
  refine zS<|zR<|zB (v := .slice _ _ _) hS rfl rfl fun b2 w1 hS2=>zq 1 rfl<|zN<|zT<|zS<|zS<|zR<|zV (r_move rfl)<|zN<|zT<|zI ?_
  have hS3 := St.nilRow (E := 9) (sz := 1) hS2
  refine c_rangeM (lb := [pt bs 0]) sv (fun D q => q ∈ (E.map (·.k)) ∧ ¬ q ∈ D ∧ D.length < (E.map (·.k)).length) (fun D => D.Perm (E.map (·.k))) rfl fn146 (fun D Y => ∃ (a' : Option Addr) (c' : Nat), D.length ≤ c' ∧ Y = [.blk b2 (cl [.slice a' D.length c'] 36), .row (.slice a' D.length c') 9 1 D.length ((D).map sv)]) ⟨none, 0, Nat.zero_le _, rfl⟩ (hS3.perm ((List.Perm.cons _ (List.Perm.refl _)).trans (List.perm_middle (l₁ := [_])).symm)) (keysIterS w bs bm clock E hAs hm hwf) ?_ ?_
  · rintro l D q w5 _ B ⟨hq1, hq2, hq3⟩ ⟨a', c', hkc, rfl⟩ hS4
    simp only [ca, na] at hS4
    rw [List.length_map] at hq3
    have el : (D ++ [q]).length = D.length + 1 := by simp
    have est : D.map sv ++ [sv q] = (D ++ [q]).map sv := by simp
    refine i_region<|wi_val (lets_round _) rfl (r_assign (v := .string _) rfl) rfl<|wi_nil0<|zT ?_
    refine ⟨_, [_, _], rfl, hS4, ?_⟩
    intro w6 B2 hS7; simp only [ca, na] at hS7; refine wpIn_block<|i_region<|wi_val (lets_round _) rfl (r_loadB1 ti36.und rfl rfl (hS7.heap Z0) rfl) rfl<|wi_val (lets_round _) rfl (r_move (v := .string _) rfl) rfl<|wi_exv (lets_round _) rfl (x_lit (vs := [.string _]) hS7 ti36.und ti9 rfl rfl rfl (by intro c hc; simp only [List.mem_cons, List.not_mem_nil, or_false] at hc; rcases hc with rfl <;> rfl) (by decide)) rfl ?_; rintro _ w8 ⟨b10, rfl, hS9⟩; refine wi_exv (lets_round _) rfl (x_append [_, _] hS9 ti36.und ti9 rfl (by decide) rfl rfl (Row.of_at (at_all (hS9.heap Z0))) Ln Oc Sd Sd _ rfl) rfl ?_; rintro _ w10 ⟨aq12, cq12, rfl, hcq12, hS11⟩; simp only [ca, na] at hS11; refine wi_exs (lets_round _) rfl (x_store1 [_] hS11 ti36 rfl rfl rfl (by simp)) rfl ?_; intro w13 hS14; simp only [ca, na] at hS14; refine wi_nil0<|zJ ?_
    refine ⟨rfl, _, ⟨aq12, cq12, by rw [el]; exact hcq12, rfl⟩, ?_⟩
    rw [el, ← est]
    exact hS14.drop1
  · rintro bD D w15 _ hF ⟨a', c', hkc, rfl⟩ hS16
    simp only [ca, na] at hS16; refine zJ<|zT<|zS ?_
    refine c_wideD (m := 0) (i_region ?_)
    refine wi_val lets_wide rfl (r_loadB1 ti36.und rfl rfl (hS16.heap Z0) rfl) rfl<|wi_val lets_wide rfl (r_assign (v := .slice _ _ _) rfl) rfl<|wi_nil<|zT<|zU ?_
    have hSz := St.putObj (.deferred none) (l1 := [_, _]) hS16
    refine retM Tryz.results152 (hS16.heap Z2) rfl ?_
    exact ⟨D, _, _, hF, rfl, hkc, (hSz.perm (List.Perm.cons _ ((List.Perm.cons _ (List.Perm.refl _)).trans (List.perm_middle (l₁ := [_])).symm))).drop1.drop1⟩

theorem collectS_ok (bs bm clock : Nat) (E : List (MB (List UInt8))) (w : World) (hAs : At w bs 0 [.map (some bm)]) (hm : w.heap[bm]? = some (mobj sv E clock)) (hwf : WfM E clock) (hE : E.length ≤ 1000000) :
    Ret Tryz.prog 145 [.func (.func 146) #[] #[pt bs 0]] w (fun v w' => ∃ (D : List (List UInt8)) (a' : Option Addr) (c' : Nat), D.Perm (E.map (·.k)) ∧ v = .slice a' D.length c' ∧ D.length ≤ c' ∧ St w [] w' [.row (.slice a' D.length c') 9 1 D.length ((D).map sv)]) := by
  refine enter Tryz.func145 rfl Tryz.ntmps145 rfl ?_
  have hS := St.refl w []
  refine zS<|zR<|zq 1 rfl<|zN<|zT<|zS<|zR<|zV (r_move rfl)<|zC fn152 rfl (appendSeqS_ok bs bm clock E _ hAs hm hwf hE) ?_; rintro _ w1 ⟨D, a4, c4, hF, rfl, hc4, hx2⟩
  have hS3 := hS.call hx2
  simp only [ca, na] at hS3; refine zq 1 rfl<|zN<|zT<|zU<|ret1 Tryz.results145 ?_
  exact ⟨D, _, _, hF, rfl, hc4, hS3⟩

theorem sortedS_ok (bs bm clock : Nat) (E : List (MB (List UInt8))) (w : World) (hAs : At w bs 0 [.map (some bm)]) (hm : w.heap[bm]? = some (mobj sv E clock)) (hwf : WfM E clock) (hE : E.length ≤ 1000000) :
    Ret Tryz.prog 122 [.func (.func 146) #[] #[pt bs 0]] w (fun v w' => ∃ (D : List (List UInt8)) (a' : Option Addr) (c' : Nat), D.Perm (E.map (·.k)) ∧ v = .slice a' D.length c' ∧ D.length ≤ c' ∧ St w [] w' [.row (.slice a' D.length c') 9 1 D.length ((D.mergeSort leS).map sv)]) := by
  refine enter Tryz.func122 rfl Tryz.ntmps122 rfl ?_
  have hS := St.refl w []
  refine zS<|zR<|zq 1 rfl<|zN<|zT<|zS<|zR<|zV (r_move rfl)<|zC fn145 rfl (collectS_ok bs bm clock E _ hAs hm hwf hE) ?_; rintro _ w1 ⟨D, a4, c4, hF, rfl, hc4, hx2⟩
  have hS3 := hS.call hx2
  simp only [ca, na] at hS3
  have hDl := hF.length_eq
  rw [List.length_map] at hDl
  refine zq 1 rfl<|zN<|zT<|zS<|zR<|zq 1 rfl ?_
  have hownhS6 := (St.get hS3 Z0).1
  refine zC fn29 rfl (sortS_ok D _ _ _ _ hownhS6 rfl Om) ?_; rintro _ w4 ⟨rfl, hx5⟩
  have hS6 := St.callM (X := [_]) (L := []) hS3 hx5 (fun k hk => ⟨_, List.mem_singleton.2 rfl, by simpa [Item.id] using hk⟩)
  simp only [ca, na] at hS6; refine zN<|zT<|zS<|zR<|zq 2 rfl<|zN<|zT<|zU<|ret1 Tryz.results122 ?_
  exact ⟨D, _, _, hF, rfl, hc4, hS6⟩

set_option maxHeartbeats 1000000 in
theorem appendSeqI_ok (bs bm clock : Nat) (E : List (MB Int)) (w : World) (hAs : At w bs 0 [.map (some bm)]) (hm : w.heap[bm]? = some (mobj iv E clock)) (hwf : WfM E clock) (hE : E.length ≤ 1000000) :
    Ret Tryz.prog 153 [.slice none 0 0, .func (.func 148) #[] #[pt bs 0]] w (fun v w' => ∃ (D : List Int) (a' : Option Addr) (c' : Nat), D.Perm (E.map (·.k)) ∧ v = .slice a' D.length c' ∧ D.length ≤ c' ∧ St w [] w' [.row (.slice a' D.length c') 3 1 D.length ((D).map iv)]) := by
  refine enterM 0 Tryz.func153 rfl Tryz.ntmps153 rfl ?_
  have hS := St.refl w []
  refine zS<|zR<|zB (v := .slice _ _ _) hS rfl rfl fun b2 w1 hS2=>zq 1 rfl<|zN<|zT<|zS<|zS<|zR<|zV (r_move rfl)<|zN<|zT<|zI ?_
  have hS3 := St.nilRow (E := 3) (sz := 1) hS2
  refine c_rangeM (lb := [pt bs 0]) iv (fun D q => q ∈ (E.map (·.k)) ∧ ¬ q ∈ D ∧ D.length < (E.map (·.k)).length) (fun D => D.Perm (E.map (·.k))) rfl fn148 (fun D Y => ∃ (a' : Option Addr) (c' : Nat), D.length ≤ c' ∧ Y = [.blk b2 (cl [.slice a' D.length c'] 48), .row (.slice a' D.length c') 3 1 D.length ((D).map iv)]) ⟨none, 0, Nat.zero_le _, rfl⟩ (hS3.perm ((List.Perm.cons _ (List.Perm.refl _)).trans (List.perm_middle (l₁ := [_])).symm)) (keysIterI w bs bm clock E hAs hm hwf) ?_ ?_
  · rintro l D q w5 _ B ⟨hq1, hq2, hq3⟩ ⟨a', c', hkc, rfl⟩ hS4
    simp only [ca, na] at hS4
    rw [List.length_map] at hq3
    have el : (D ++ [q]).length = D.length + 1 := by simp
    have est : D.map iv ++ [iv q] = (D ++ [q]).map iv := by simp
    refine i_region<|wi_val (lets_round _) rfl (r_assign (v := .int .i64 _) rfl) rfl<|wi_nil0<|zT ?_
    refine ⟨_, [_, _], rfl, hS4, ?_⟩
    intro w6 B2 hS7; simp only [ca, na] at hS7; refine wpIn_block<|i_region<|wi_val (lets_round _) rfl (r_loadB1 ti48.und rfl rfl (hS7.heap Z0) rfl) rfl<|wi_val (lets_round _) rfl (r_move (v := .int .i64 _) rfl) rfl<|wi_exv (lets_round _) rfl (x_lit (vs := [.int .i64 _]) hS7 ti48.und ti3 rfl rfl rfl (by intro c hc; simp only [List.mem_cons, List.not_mem_nil, or_false] at hc; rcases hc with rfl <;> rfl) (by decide)) rfl ?_; rintro _ w8 ⟨b10, rfl, hS9⟩; refine wi_exv (lets_round _) rfl (x_append [_, _] hS9 ti48.und ti3 rfl (by decide) rfl rfl (Row.of_at (at_all (hS9.heap Z0))) Ln Oc Sd Sd _ rfl) rfl ?_; rintro _ w10 ⟨aq12, cq12, rfl, hcq12, hS11⟩; simp only [ca, na] at hS11; refine wi_exs (lets_round _) rfl (x_store1 [_] hS11 ti48 rfl rfl rfl (by simp)) rfl ?_; intro w13 hS14; simp only [ca, na] at hS14; refine wi_nil0<|zJ ?_
    refine ⟨rfl, _, ⟨aq12, cq12, by rw [el]; exact hcq12, rfl⟩, ?_⟩
    rw [el, ← est]
    exact hS14.drop1
  · rintro bD D w15 _ hF ⟨a', c', hkc, rfl⟩ hS16
    simp only [ca, na] at hS16; refine zJ<|zT<|zS ?_
    refine c_wideD (m := 0) (i_region ?_)
    refine wi_val lets_wide rfl (r_loadB1 ti48.und rfl rfl (hS16.heap Z0) rfl) rfl<|wi_val lets_wide rfl (r_assign (v := .slice _ _ _) rfl) rfl<|wi_nil<|zT<|zU ?_
    have hSz := St.putObj (.deferred none) (l1 := [_, _]) hS16
    refine retM Tryz.results153 (hS16.heap Z2) rfl ?_
    exact ⟨D, _, _, hF, rfl, hkc, (hSz.perm (List.Perm.cons _ ((List.Perm.cons _ (List.Perm.refl _)).trans (List.perm_middle (l₁ := [_])).symm))).drop1.drop1⟩

theorem collectI_ok (bs bm clock : Nat) (E : List (MB Int)) (w : World) (hAs : At w bs 0 [.map (some bm)]) (hm : w.heap[bm]? = some (mobj iv E clock)) (hwf : WfM E clock) (hE : E.length ≤ 1000000) :
    Ret Tryz.prog 147 [.func (.func 148) #[] #[pt bs 0]] w (fun v w' => ∃ (D : List Int) (a' : Option Addr) (c' : Nat), D.Perm (E.map (·.k)) ∧ v = .slice a' D.length c' ∧ D.length ≤ c' ∧ St w [] w' [.row (.slice a' D.length c') 3 1 D.length ((D).map iv)]) := by
  refine enter Tryz.func147 rfl Tryz.ntmps147 rfl ?_
  have hS := St.refl w []
  refine zS<|zR<|zq 1 rfl<|zN<|zT<|zS<|zR<|zV (r_move rfl)<|zC fn153 rfl (appendSeqI_ok bs bm clock E _ hAs hm hwf hE) ?_; rintro _ w1 ⟨D, a4, c4, hF, rfl, hc4, hx2⟩
  have hS3 := hS.call hx2
  simp only [ca, na] at hS3; refine zq 1 rfl<|zN<|zT<|zU<|ret1 Tryz.results147 ?_
  exact ⟨D, _, _, hF, rfl, hc4, hS3⟩

theorem sortedI_ok (bs bm clock : Nat) (E : List (MB Int)) (w : World) (hAs : At w bs 0 [.map (some bm)]) (hm : w.heap[bm]? = some (mobj iv E clock)) (hwf : WfM E clock) (hE : E.length ≤ 1000000) :
    Ret Tryz.prog 127 [.func (.func 148) #[] #[pt bs 0]] w (fun v w' => ∃ (D : List Int) (a' : Option Addr) (c' : Nat), D.Perm (E.map (·.k)) ∧ v = .slice a' D.length c' ∧ D.length ≤ c' ∧ St w [] w' [.row (.slice a' D.length c') 3 1 D.length ((D.mergeSort leI).map iv)]) := by
  refine enter Tryz.func127 rfl Tryz.ntmps127 rfl ?_
  have hS := St.refl w []
  refine zS<|zR<|zq 1 rfl<|zN<|zT<|zS<|zR<|zV (r_move rfl)<|zC fn147 rfl (collectI_ok bs bm clock E _ hAs hm hwf hE) ?_; rintro _ w1 ⟨D, a4, c4, hF, rfl, hc4, hx2⟩
  have hS3 := hS.call hx2
  simp only [ca, na] at hS3
  have hDl := hF.length_eq
  rw [List.length_map] at hDl
  refine zq 1 rfl<|zN<|zT<|zS<|zR<|zq 1 rfl ?_
  have hownhS6 := (St.get hS3 Z0).1
  refine zC fn31 rfl (sortI_ok D _ _ _ _ hownhS6 rfl Om) ?_; rintro _ w4 ⟨rfl, hx5⟩
  have hS6 := St.callM (X := [_]) (L := []) hS3 hx5 (fun k hk => ⟨_, List.mem_singleton.2 rfl, by simpa [Item.id] using hk⟩)
  simp only [ca, na] at hS6; refine zN<|zT<|zS<|zR<|zq 2 rfl<|zN<|zT<|zU<|ret1 Tryz.results127 ?_
  exact ⟨D, _, _, hF, rfl, hc4, hS6⟩

end Go.Proofs.YtmonnmndphlkaaaGreat
end
