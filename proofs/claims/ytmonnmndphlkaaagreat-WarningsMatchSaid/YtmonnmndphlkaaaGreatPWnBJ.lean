/- What the law's proof leans on. No condition. -/
import Derived.Test.YtmonnmndphlkaaaGreatPWnAI
import Derived.Test.YtmonnmndphlkaaaGreatPWnBH
import Derived.Test.YtmonnmndphlkaaaGreatPWnAS
import Derived.Test.YtmonnmndphlkaaaGreatPWnBI
namespace Go.Proofs.YtmonnmndphlkaaaGreat
open Go.Kw
set_option linter.unusedVariables false
set_option linter.unusedSimpArgs false
set_option maxRecDepth 100000
theorem heap_st {w0 w : World} {L : List Kw.Item} {b : Nat} {o : Obj} (h : w0.heap[b]? = some o) (hS : St w0 [] w L) : w.heap[b]? = some o :=
  (hS.old b (Array.getElem?_eq_some_iff.1 h).1 (by simp)).trans h
theorem key_new {α : Type} {E D : List (MB α)} {clock : Nat} {e : MB α} (hwf : WfM E clock) (hsub : ∀ x ∈ D, x ∈ E) (he : e ∈ E) (hnd : ¬ e ∈ D) : ¬ e.k ∈ D.map (·.k) := fun h => by
  obtain ⟨x, hx, hk⟩ := List.mem_map.1 h
  obtain ⟨i, hi, hie⟩ := List.mem_iff_getElem.1 (hsub x hx)
  obtain ⟨j, hj, hje⟩ := List.mem_iff_getElem.1 he
  have : i = j := nodup_at hwf.keys (by simpa using hi) (by simpa using hj) (by simp [hie, hje, hk])
  subst this
  rw [hie] at hje
  exact hnd (hje ▸ hx)
theorem done_perm {α : Type} {E D : List (MB α)} {clock : Nat} (hwf : WfM E clock) (hn : D.Nodup) (hs : ∀ x ∈ D, x ∈ E) (ha : ∀ x ∈ E, x ∈ D) : (D.map (·.k)).Perm (E.map (·.k)) :=
  ((List.perm_ext_iff_of_nodup hn (wf_nodup hwf)).2 fun x => ⟨hs x, ha x⟩).map _

set_option maxHeartbeats 1000000 in
theorem keysItS_ok (we w : World) (l : Nat) (bs bm clock : Nat) (E : List (MB (List UInt8))) (X : List (List UInt8) → List Kw.Item → Prop) (Y0 LL : List Kw.Item) (hAs : At we bs 0 [.map (some bm)]) (hm : we.heap[bm]? = some (mobj sv E clock)) (hwf : WfM E clock) (hY : ∀ D q W Y B, (q ∈ (E.map (·.k)) ∧ ¬ q ∈ D ∧ D.length < (E.map (·.k)).length) → X D Y → St we [] W (Y ++ (B ++ LL)) → YieldAt Fence.wide 0 Tryz.prog l #[sv q] W fun en W' => en = .returned (.bool true) ∧ ∃ Y', X (D ++ [q]) Y' ∧ St we [] W' (Y' ++ (B ++ LL))) (hX0 : X [] Y0) (hS0 : St we [] w (Y0 ++ LL)) :
    Ret Tryz.prog 146 [.func (.yield l) #[] #[], pt bs 0] w (fun _ w' => ∃ D Y', D.Perm (E.map (·.k)) ∧ X D Y' ∧ St we [] w' (Y' ++ LL)) := by
  refine enter Tryz.func146 rfl Tryz.ntmps146 rfl ?_
  have hS := hS0
  refine zS<|zR<|zV (r_loadAt1 (j := 0) ti142.und rfl rfl (hAs.st hS) rfl rfl)<|zX (x_range (E := E) hS ti142.und rfl (heap_st hm hS)) ?_; rintro _ w1 ⟨it, rfl, hS2⟩; refine zN<|zT<|zI ?_
  refine c_loopE [0, 5] (fun d e w' => ∃ (D : List (MB (List UInt8))) (Y : List Kw.Item), d = E.length - D.length ∧ St we [] w' (.blk it (iterO bm clock D) :: (Y ++ LL)) ∧ (X (D.map (·.k)) Y) ∧ (D.Nodup) ∧ (∀ x ∈ D, x ∈ E)) (E.length - 0) ?_ ?_
  · exact ⟨[], Y0, rfl, hS2, hX0, List.nodup_nil, fun x h => by cases h⟩
  · rintro d6 e3 w4 ⟨D, Y, rfl, hS5, hX, hdn, hsub⟩ -
    refine zS<|zR<|zX (x_next (E := E) (E0 := E) (done := D) (b := bm) (f := sv) [] hS5 hwf (fun _ h => h) rfl (heap_st hm hS5) hsub) ?_
    rintro _ w7 (⟨rfl, hall, hS8⟩ | ⟨e, he, hnd, rfl, hS8⟩)
    · simp only [ca, na] at hS8
      refine zq 1 rfl<|zN<|zT<|zS<|zf rfl<|zO<|zM<|zM<|c_inE<|ret0n Tryz.results146 ?_
      exact ⟨D.map (·.k), Y, done_perm hwf hdn hsub hall, hX, (hS8).drop1⟩
    · simp only [ca, na] at hS8
      refine zq 1 rfl<|zN<|zT<|zS<|zt rfl<|zK<|zT<|zI<|zS<|zR<|zV (r_entry (e := e) (done := D) (b := bm) (f := sv) hwf rfl (hS8.heap Z0) (heap_st hm hS8) he)<|zq 2 rfl<|zN<|zT<|zS ?_
      refine c_wide (m := 1) (i_region (ds := []) ?_)
      refine wi_val lets_wide rfl (r_move rfl) rfl<|wi_val lets_wide rfl (r_move (v := .string _) rfl) rfl ?_
      have hlt := done_lt hdn hsub he hnd
      obtain ⟨fnY, tmY, asY, boY, hyY, hRY⟩ := hY (D.map (·.k)) e.k _ Y [.blk it (iterO bm clock (D ++ [e]))] ⟨List.mem_map.2 ⟨e, he, rfl⟩, key_new hwf hsub he hnd, by simpa using hlt⟩ hX (hS8.perm List.perm_middle)
      refine wi_round lets_wide rfl (r_yield rfl rfl hyY) rfl hRY ?_; rintro _ w9 ⟨rfl, Y2, hX2, hS2⟩
      refine ⟨_, rfl, ?_⟩
      have hS10 : St we [] w9 (.blk it (iterO bm clock (D ++ [e])) :: (Y2 ++ LL)) := hS2.perm List.perm_middle.symm
      refine wi_val lets_wide rfl (r_not rfl) rfl<|wi_nil0<|zT<|zf rfl<|zK<|zJ<|zT ?_
      exact ⟨E.length - (D ++ [e]).length, _, by rw [List.length_append, List.length_singleton]; omega, rfl, ⟨D ++ [e], Y2, rfl, hS10, by simpa using hX2, List.nodup_append.2 ⟨hdn, by simp, fun a ha b hb h => hnd ((List.mem_singleton.1 hb) ▸ h ▸ ha)⟩, fun x hx => (List.mem_append.1 hx).elim (hsub x) (fun h => (List.mem_singleton.1 h) ▸ he)⟩, ⟨rfl, rfl, trivial⟩⟩

theorem keysIterS (we : World) (bs bm clock : Nat) (E : List (MB (List UInt8))) (hAs : At we bs 0 [.map (some bm)]) (hm : we.heap[bm]? = some (mobj sv E clock)) (hwf : WfM E clock) : IterM Tryz.prog 146 [pt bs 0] we sv (fun D q => q ∈ (E.map (·.k)) ∧ ¬ q ∈ D ∧ D.length < (E.map (·.k)).length) (fun D => D.Perm (E.map (·.k))) :=
  fun l W X Y0 LL hY hX0 hS0 => keysItS_ok we W l bs bm clock E X Y0 LL hAs hm hwf hY hX0 hS0

theorem keysFS_ok (bm : Nat) (w : World) :
    Ret Tryz.prog 123 [.map (some bm)] w (fun v w' => ∃ bs, v = .func (.func 146) #[] #[pt bs 0] ∧ St w [] w' [.blk bs (cl [.map (some bm)] 142)]) := by
  refine enter Tryz.func123 rfl Tryz.ntmps123 rfl ?_
  have hS := St.refl w []
  refine zS<|zR<|zB (v := .map _) hS rfl rfl fun b1 w1 hS2=>zV (r_assign (v := .nilFunc) rfl)<|zN<|zT<|zS<|zR<|zV (r_makeF (vs := [pt b1 0]) rfl)<|zV (r_assign rfl)<|zN<|zT<|zU<|ret1 Tryz.results123 ?_
  exact ⟨_, rfl, hS2⟩

set_option maxHeartbeats 1000000 in
theorem keysItI_ok (we w : World) (l : Nat) (bs bm clock : Nat) (E : List (MB Int)) (X : List Int → List Kw.Item → Prop) (Y0 LL : List Kw.Item) (hAs : At we bs 0 [.map (some bm)]) (hm : we.heap[bm]? = some (mobj iv E clock)) (hwf : WfM E clock) (hY : ∀ D q W Y B, (q ∈ (E.map (·.k)) ∧ ¬ q ∈ D ∧ D.length < (E.map (·.k)).length) → X D Y → St we [] W (Y ++ (B ++ LL)) → YieldAt Fence.wide 0 Tryz.prog l #[iv q] W fun en W' => en = .returned (.bool true) ∧ ∃ Y', X (D ++ [q]) Y' ∧ St we [] W' (Y' ++ (B ++ LL))) (hX0 : X [] Y0) (hS0 : St we [] w (Y0 ++ LL)) :
    Ret Tryz.prog 148 [.func (.yield l) #[] #[], pt bs 0] w (fun _ w' => ∃ D Y', D.Perm (E.map (·.k)) ∧ X D Y' ∧ St we [] w' (Y' ++ LL)) := by
  refine enter Tryz.func148 rfl Tryz.ntmps148 rfl ?_
  have hS := hS0
  refine zS<|zR<|zV (r_loadAt1 (j := 0) ti149.und rfl rfl (hAs.st hS) rfl rfl)<|zX (x_range (E := E) hS ti149.und rfl (heap_st hm hS)) ?_; rintro _ w1 ⟨it, rfl, hS2⟩; refine zN<|zT<|zI ?_
  refine c_loopE [0, 5] (fun d e w' => ∃ (D : List (MB Int)) (Y : List Kw.Item), d = E.length - D.length ∧ St we [] w' (.blk it (iterO bm clock D) :: (Y ++ LL)) ∧ (X (D.map (·.k)) Y) ∧ (D.Nodup) ∧ (∀ x ∈ D, x ∈ E)) (E.length - 0) ?_ ?_
  · exact ⟨[], Y0, rfl, hS2, hX0, List.nodup_nil, fun x h => by cases h⟩
  · rintro d6 e3 w4 ⟨D, Y, rfl, hS5, hX, hdn, hsub⟩ -
    refine zS<|zR<|zX (x_next (E := E) (E0 := E) (done := D) (b := bm) (f := iv) [] hS5 hwf (fun _ h => h) rfl (heap_st hm hS5) hsub) ?_
    rintro _ w7 (⟨rfl, hall, hS8⟩ | ⟨e, he, hnd, rfl, hS8⟩)
    · simp only [ca, na] at hS8
      refine zq 1 rfl<|zN<|zT<|zS<|zf rfl<|zO<|zM<|zM<|c_inE<|ret0n Tryz.results148 ?_
      exact ⟨D.map (·.k), Y, done_perm hwf hdn hsub hall, hX, (hS8).drop1⟩
    · simp only [ca, na] at hS8
      refine zq 1 rfl<|zN<|zT<|zS<|zt rfl<|zK<|zT<|zI<|zS<|zR<|zV (r_entry (e := e) (done := D) (b := bm) (f := iv) hwf rfl (hS8.heap Z0) (heap_st hm hS8) he)<|zq 2 rfl<|zN<|zT<|zS ?_
      refine c_wide (m := 1) (i_region (ds := []) ?_)
      refine wi_val lets_wide rfl (r_move rfl) rfl<|wi_val lets_wide rfl (r_move (v := .int .i64 _) rfl) rfl ?_
      have hlt := done_lt hdn hsub he hnd
      obtain ⟨fnY, tmY, asY, boY, hyY, hRY⟩ := hY (D.map (·.k)) e.k _ Y [.blk it (iterO bm clock (D ++ [e]))] ⟨List.mem_map.2 ⟨e, he, rfl⟩, key_new hwf hsub he hnd, by simpa using hlt⟩ hX (hS8.perm List.perm_middle)
      refine wi_round lets_wide rfl (r_yield rfl rfl hyY) rfl hRY ?_; rintro _ w9 ⟨rfl, Y2, hX2, hS2⟩
      refine ⟨_, rfl, ?_⟩
      have hS10 : St we [] w9 (.blk it (iterO bm clock (D ++ [e])) :: (Y2 ++ LL)) := hS2.perm List.perm_middle.symm
      refine wi_val lets_wide rfl (r_not rfl) rfl<|wi_nil0<|zT<|zf rfl<|zK<|zJ<|zT ?_
      exact ⟨E.length - (D ++ [e]).length, _, by rw [List.length_append, List.length_singleton]; omega, rfl, ⟨D ++ [e], Y2, rfl, hS10, by simpa using hX2, List.nodup_append.2 ⟨hdn, by simp, fun a ha b hb h => hnd ((List.mem_singleton.1 hb) ▸ h ▸ ha)⟩, fun x hx => (List.mem_append.1 hx).elim (hsub x) (fun h => (List.mem_singleton.1 h) ▸ he)⟩, ⟨rfl, rfl, trivial⟩⟩

theorem keysIterI (we : World) (bs bm clock : Nat) (E : List (MB Int)) (hAs : At we bs 0 [.map (some bm)]) (hm : we.heap[bm]? = some (mobj iv E clock)) (hwf : WfM E clock) : IterM Tryz.prog 148 [pt bs 0] we iv (fun D q => q ∈ (E.map (·.k)) ∧ ¬ q ∈ D ∧ D.length < (E.map (·.k)).length) (fun D => D.Perm (E.map (·.k))) :=
  fun l W X Y0 LL hY hX0 hS0 => keysItI_ok we W l bs bm clock E X Y0 LL hAs hm hwf hY hX0 hS0

theorem keysFI_ok (bm : Nat) (w : World) :
    Ret Tryz.prog 128 [.map (some bm)] w (fun v w' => ∃ bs, v = .func (.func 148) #[] #[pt bs 0] ∧ St w [] w' [.blk bs (cl [.map (some bm)] 149)]) := by
  refine enter Tryz.func128 rfl Tryz.ntmps128 rfl ?_
  have hS := St.refl w []
  refine zS<|zR<|zB (v := .map _) hS rfl rfl fun b1 w1 hS2=>zV (r_assign (v := .nilFunc) rfl)<|zN<|zT<|zS<|zR<|zV (r_makeF (vs := [pt b1 0]) rfl)<|zV (r_assign rfl)<|zN<|zT<|zU<|ret1 Tryz.results128 ?_
  exact ⟨_, rfl, hS2⟩

end Go.Proofs.YtmonnmndphlkaaaGreat
