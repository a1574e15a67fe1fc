/- What the law's proof leans on. No condition. -/
import Derived.Test.YtfohfnpehfcaaaaPMcAH
import Derived.Test.YtfohfnpehfcaaaaPMcAV
import Derived.Test.YtfohfnpehfcaaaaPMcBJ
namespace Go.Proofs.Ytfohfnpehfcaaaa
open Go.Kw
set_option linter.unusedVariables false
set_option linter.unusedSimpArgs false
set_option maxRecDepth 100000
theorem delF0_ok (E : List MapE) (clock : Nat) (hwf : WfM E clock) (q : Sum32) (bk : Nat) (a : Option Addr) (n c : Nat) (w : World) (hb : Row w a ((entsL E).flatten.map b8)) (hl : E.length = n) (hn : n ≤ 1000) (hk : w.heap[bk]? = some (cl (q.1.map b8) 49)) (hg : getM E q = none) :
    Ret Try.prog 106 [.slice a n c, .func (.func 107) #[] #[pt bk 0]] w (fun x w' => x = .slice a n c ∧ St w [] w' []) := by
  have hbk := (Array.getElem?_eq_some_iff.1 hk).1
  refine enter Try.func106 rfl Try.ntmps106 rfl ?_
  have hS := St.refl w []
  refine c_seq ?_; refine c_region ?_; refine wl_val (r_assign (v := .slice none 0 0) rfl) rfl ?_; refine wl_nil ?_; refine c_then ?_; refine c_seq ?_; refine c_region ?_; refine wl_val (r_move (v := .slice _ _ _) rfl) rfl ?_; refine wl_val (r_move rfl) rfl ?_; refine wl_call (r_call fn103 rfl rfl) rfl (idxC_ok E q bk _ n _ _ (hb.st hS) hl hn ((hS.old bk hbk (by simp)).trans hk)) ?_; rintro _ w1 ⟨z, rfl, hz, hx2⟩
  have hS3 := hS.ext hx2
  refine wl_val (r_assign (v := .int .i64 _) rfl) rfl ?_; refine wl_nil ?_; refine c_then ?_; refine c_seq ?_; refine c_seq ?_
  rcases hz with ⟨hg', rfl⟩ | ⟨j, rfl, hj, hjk⟩
  · refine c_region ?_
    refine wl_val (r_move (v := .int .i64 _) rfl) rfl ?_; refine wl_dec_t (r_eql rfl rfl) rfl (by decide) ?_; refine wl_nil ?_; refine c_then ?_; refine c_true rfl ?_; refine c_seq ?_; refine c_region ?_; refine wl_val (r_move (v := .slice _ _ _) rfl) rfl ?_; refine wl_val (r_assign (v := .slice _ _ _) rfl) rfl ?_; refine wl_nil ?_; refine c_then ?_; refine wp_ret ?_; refine c_thenR ?_; refine ret1 Try.results106 ?_
    exact ⟨rfl, hS3.fin⟩
  exact absurd hjk (getM_none.1 hg _ (gt_mem E j hj))

theorem delF1_ok (E : List MapE) (clock : Nat) (hwf : WfM E clock) (q : Sum32) (bk : Nat) (D : List Value) (g n c : Nat) (w : World) (hb : w.heap[g]? = some (cl ((entsL E).flatten.map b8 ++ D) 131)) (hl : E.length = n) (hnc : n ≤ c) (hn : n ≤ 1000) (hC : ((entsL E).flatten.map b8 ++ D).length = c * 64) (hk : w.heap[bk]? = some (cl (q.1.map b8) 49)) (hbg : ¬ bk = g) (hg : ∃ v0, getM E q = some v0) :
    Ret Try.prog 106 [.slice (some ⟨g, 0, none⟩) n c, .func (.func 107) #[] #[pt bk 0]] w (fun x w' => ∃ D', x = .slice (some ⟨g, 0, none⟩) (dropM E q).length c ∧ ((entsL (dropM E q)).flatten.map b8 ++ D').length = c * 64 ∧ St w [g] w' [.blk g (cl ((entsL (dropM E q)).flatten.map b8 ++ D') 131)]) := by
  have hbk := (Array.getElem?_eq_some_iff.1 hk).1
  have hE64 := entsL_64 E
  have hel := entsL_len E
  refine enter Try.func106 rfl Try.ntmps106 rfl ?_
  have hS : St w [g] w [.blk g (cl ((entsL E).flatten.map b8 ++ D) 131)] := St.own hb
  refine c_seq ?_; refine c_region ?_; refine wl_val (r_assign (v := .slice none 0 0) rfl) rfl ?_; refine wl_nil ?_; refine c_then ?_; refine c_seq ?_; refine c_region ?_; refine wl_val (r_move (v := .slice _ _ _) rfl) rfl ?_; refine wl_val (r_move rfl) rfl ?_; refine wl_call (r_call fn103 rfl rfl) rfl (idxC_ok E q bk _ n _ _ (Row.ahead (hS.heap (.head _))) hl hn ((hS.old bk hbk (by simp [hbg])).trans hk)) ?_; rintro _ w1 ⟨z, rfl, hz, hx2⟩
  have hS3 := hS.ext hx2
  refine wl_val (r_assign (v := .int .i64 _) rfl) rfl ?_; refine wl_nil ?_; refine c_then ?_; refine c_seq ?_; refine c_seq ?_
  rcases hz with ⟨hg', rfl⟩ | ⟨j, rfl, hj, hjk⟩
  · obtain ⟨v0, hg⟩ := hg
    exact absurd (hg'.symm.trans hg) (by simp)
  refine c_region ?_; refine wl_val (r_move (v := .int .i64 _) rfl) rfl ?_; refine wl_dec_f (r_eql rfl rfl) rfl (by omega) ?_; refine wl_nil ?_; refine c_then ?_; refine c_false rfl ?_; refine wp_skip ?_; refine c_then ?_; refine c_seq ?_; refine c_seq ?_; refine c_region ?_; refine wl_val (r_move (v := .int .i64 _) rfl) rfl ?_; refine wl_val (r_addn (b := 1) rfl rfl (by omega)) rfl ?_; refine wl_val (r_assign (v := .int .i64 _) rfl) rfl ?_; refine wl_nil ?_; refine c_then ?_; refine c_block ?_; refine c_loopE [0, 1, 4] (fun d e w' => ∃ (t : Nat) (lq : List (List UInt8)), Kw.look e 5 = vi t ∧ Kw.look e 6 = vi (t + 1) ∧ d = n - (t + 1) ∧ St w [g] w' [.blk g (cl (lq.flatten.map b8 ++ D) 131)] ∧ (j ≤ t) ∧ (t + 1 ≤ n) ∧ (SN 64 lq) ∧ (lq.length = n) ∧ (∀ u, u < j → gt lq u = gt (entsL E) u) ∧ (∀ u, j ≤ u → u < t → gt lq u = gt (entsL E) (u + 1)) ∧ (∀ u, t < u → gt lq u = gt (entsL E) u)) (n - (j + 1)) ?_ ?_
  · exact ⟨j, entsL E, rfl, rfl, rfl, hS3, Nat.le_refl _, by omega, hE64, by omega, fun _ _ => rfl, fun u h1 h2 => by omega, fun _ _ => rfl⟩
  · rintro d7 e4 w5 ⟨t, lq, hc0_5, hc0_6, rfl, hS6, hjt, htn, h64, hlq, h1, h2, hrest⟩ -
    refine c_set (d := 5) hc0_5 ?_; refine c_set (d := 6) hc0_6 ?_; refine c_seq ?_; refine c_seq ?_; refine c_region ?_; refine wl_val (r_move (v := .int .i64 _) rfl) rfl ?_; refine wl_val (r_move (v := .slice _ _ _) rfl) rfl ?_; refine wl_val (r_len (T := 124) rfl ti124.und rfl _ rfl) rfl ?_
    refine wl_dec (r_lss rfl rfl) rfl (fun h5_3 => ?_) (fun h5_3 => ?_)
    · refine wl_nil ?_
      refine c_then ?_; refine c_true rfl ?_; refine wp_skip ?_; refine c_then ?_; refine c_seq ?_; refine c_block ?_; refine c_seq ?_; refine c_region ?_; refine wl_val (r_move (v := .slice _ _ _) rfl) rfl ?_; refine wl_val (r_move (v := .int .i64 _) rfl) rfl ?_; refine wl_val (r_ixZ ti124.und ti131 rfl rfl (by omega)) rfl ?_; refine wl_val (r_loadZ ti131 ag131 rfl (hS6.heap (.head _)) h64 (by omega)) rfl ?_; refine wl_exv (x_alloc (C := ((List.replicate 64 (0 : UInt8)).map b8)) hS6 ti131 rfl) rfl ?_; rintro _ w8 ⟨b7, rfl, hS9⟩; refine wl_exs (x_storeW [] hS9 ti131 rfl rfl (by rw [List.length_map, h64.gt (by omega)]) (by simp) (one_b8 _)) rfl ?_; intro w10 hS11; simp only [List.cons_append, List.nil_append] at hS11; refine wl_nil ?_; refine c_then ?_; refine c_seq ?_; refine c_region ?_; refine wl_val (r_move rfl) rfl ?_; refine wl_val (r_loadB ti131 ag131 rfl (hS11.heap (.head _)) (by rw [List.length_map, h64.gt (by omega)])) rfl ?_; refine wl_call (r_callDyn fn107 rfl rfl) rfl ((cloC_ok (gt lq (t + 1)) (h64.gt (by omega)) q bk _ ((hS11.old bk hbk (by simp [hbg])).trans hk)).br) ?_
      rintro _ w12 (⟨he, rfl, hx13⟩ | ⟨he, rfl, hx13⟩)
      · exact absurd (ent_uniq (i := t + 1) hwf (by omega) hj ((ent_is (j := t + 1) (by omega)).1 (by rw [← hrest _ (by omega)]; exact of_decide_eq_true he)) hjk) (by omega)
      have hS14 := hS11.ext hx13
      refine wl_val (r_not rfl) rfl ?_; refine wl_nil ?_; refine c_then ?_; refine c_true rfl ?_; refine c_seq ?_; refine c_region ?_; refine wl_val (r_move (v := .slice _ _ _) rfl) rfl ?_; refine wl_val (r_move (v := .int .i64 _) rfl) rfl ?_; refine wl_val (r_loadB ti131 ag131 rfl (hS14.heap (.head _)) (by rw [List.length_map, h64.gt (by omega)])) rfl ?_; refine wl_val (r_ixZ ti124.und ti131 rfl rfl (by omega)) rfl ?_; refine wl_exs (x_storeZ [_] hS14 ti131 rfl rfl h64 (h64.gt (by omega)) (by omega)) rfl ?_; intro w15 hS16; simp only [List.cons_append, List.nil_append] at hS16; refine wl_nil ?_; refine c_then ?_; refine c_region ?_; refine wl_val (r_move (v := .int .i64 _) rfl) rfl ?_; refine wl_val (r_addn (b := 1) rfl rfl (by omega)) rfl ?_; refine wl_val (r_assign (v := .int .i64 _) rfl) rfl ?_; refine wl_nil ?_; refine c_inN ?_; refine c_then ?_; refine c_region ?_; refine wl_val (r_move (v := .int .i64 _) rfl) rfl ?_; refine wl_val (r_addn (b := 1) rfl rfl (by omega)) rfl ?_; refine wl_val (r_assign (v := .int .i64 _) rfl) rfl ?_; refine wl_nil ?_; refine c_then ?_
      exact ⟨n - (t + 1 + 1), _, by omega, rfl, ⟨t + 1, lq.set t (gt lq (t + 1)), rfl, rfl, rfl, hS16.drop1, by omega, by omega, h64.set (h64.gt (by omega)) _, by rw [List.length_set]; exact hlq, fun u hu => by rw [gt_set, if_neg (by omega)]; exact h1 u hu, fun u hu1 hu2 => by rw [gt_set]; by_cases e : t = u; (subst e; rw [if_pos ⟨rfl, by omega⟩]; exact hrest _ (by omega)); rw [if_neg (fun h => e h.1)]; exact h2 u hu1 (by omega), fun u hu => by rw [gt_set, if_neg (by omega)]; exact hrest u (by omega)⟩, ⟨rfl, rfl, rfl, trivial⟩⟩
    refine wl_nil ?_; refine c_then ?_; refine c_false rfl ?_; refine wp_exit ?_; refine c_thenE ?_; refine c_thenE ?_; refine c_inE ?_; refine c_then ?_; refine c_seq ?_
    rw [splitN lq D t] at hS6
    refine c_region ?_; refine wl_val (r_move (v := .slice _ _ _) rfl) rfl ?_; refine wl_val (r_move (v := .int .i64 _) rfl) rfl ?_; refine wl_val (r_slZ (m := t) ti124.und ti131 rfl rfl (by omega) (by omega)) rfl ?_; refine wl_exv (x_clearQ (T := 124) (n := n - t) (c := c - t) (o := t * 64) (sz := 64) (X := (lq.take t).flatten.map b8) (Y := (lq.drop t).flatten.map b8 ++ D) [] hS6 rfl ti124.und ti131 (one_b8 (List.replicate 64 (0 : UInt8))) rfl rfl (by rw [flatN_lenV (h64.take _), List.length_take, Nat.min_eq_left (by omega)]) (by rw [List.length_append, flatN_lenV (h64.drop _), List.length_drop, hlq]; omega) _ rfl) rfl ?_; rintro _ w17 ⟨rfl, D', hD', hS18⟩; simp only [List.cons_append, List.nil_append] at hS18; refine wl_nil ?_; refine c_then ?_; refine c_seq ?_; refine c_region ?_; refine wl_val (r_move (v := .slice _ _ _) rfl) rfl ?_; refine wl_val (r_move (v := .int .i64 _) rfl) rfl ?_; refine wl_val (r_sl_h ti124.und ti131 rfl rfl (by omega)) rfl ?_; refine wl_val (r_assign (v := .slice _ _ _) rfl) rfl ?_; refine wl_nil ?_; refine c_then ?_; refine wp_ret ?_; refine ret1 Try.results106 ?_
    have htk : lq.take t = entsL (dropM E q) := by rw [del_list (l := entsL E) (by omega) hlq hjt (by omega) h1 h2]; exact ents_drop hwf hj hjk
    have hdl := dropM_len hwf hj hjk
    rw [htk] at hS18
    exact ⟨_, congrArg (fun z => Value.slice (some ⟨g, 0, none⟩) z c) (by omega), by rw [List.length_append, hD', flatN_lenV (entsL_64 _), entsL_len, hdl, List.length_append, flatN_lenV (h64.drop _), List.length_drop]; rw [List.length_append, flatN_lenV hE64, hel] at hC; omega, hS18⟩

theorem mroot3_ok (E : List MapE) (clock bm bv : Nat) (w : World) (hm : w.heap[bm]? = some (cl [.map (some bv)] 198)) (hb : w.heap[bv]? = some (mobj E clock)) (hwf : WfM E clock) (hne : bm ≠ bv) (hsz : E.length < 1000) : Ret Try.prog 91 [pt bm 0] w (fun x w' => x = .agg ((mapRootF 256 (entsL E) 0).map b8).toArray ∧ St w [] w' []) :=
  (mroot2_ok E clock bm bv w hm hb hwf hne hsz).mono fun x w' ⟨hx, h⟩ => ⟨hx, St.unM (L := []) (X := [.blk bm (cl [.map (some bv)] 198), .blk bv (mobj E clock)]) h (by intro k hk; simp only [List.mem_cons, List.not_mem_nil, or_false] at hk; rcases hk with rfl | rfl <;> first | exact ⟨_, by simp, hm⟩ | exact ⟨_, by simp, hb⟩)⟩
theorem mapProve3_ok (E : List MapE) (clock bm bv : Nat) (k : Sum32) (w : World) (hm : w.heap[bm]? = some (cl [.map (some bv)] 198)) (hb : w.heap[bv]? = some (mobj E clock)) (hwf : WfM E clock) (hne : bm ≠ bv) (hsz : E.length < 1000) : Ret Try.prog 101 [pt bm 0, suv k] w (fun x w' => ∃ (T : Nat) (pa : Option Addr) (pn pc : Nat), x = .agg ((marksTo (entsL E) k.1 T).map b8 ++ [Value.slice pa pn pc]).toArray ∧ EndsAt (entsL E) k.1 T ∧ (fullP (entsL E) k.1 T).length = pn ∧ pn ≤ pc ∧ St w [] w' [.row (.slice pa pn pc) 49 32 pn ((fullP (entsL E) k.1 T).flatten.map b8)]) :=
  (mapProve2_ok E clock bm bv k w hm hb hwf hne hsz).mono fun x w' ⟨T, pa, pn, pc, hx, hT, hn, hc, h⟩ => ⟨T, pa, pn, pc, hx, hT, hn, hc, St.unM (L := [.row (.slice pa pn pc) 49 32 pn ((fullP (entsL E) k.1 T).flatten.map b8)]) (X := [.blk bm (cl [.map (some bv)] 198), .blk bv (mobj E clock)]) h (by intro k hk; simp only [List.mem_cons, List.not_mem_nil, or_false] at hk; rcases hk with rfl | rfl <;> first | exact ⟨_, by simp, hm⟩ | exact ⟨_, by simp, hb⟩)⟩
theorem mget2_ok (E : List MapE) (clock bm bv : Nat) (q : Sum32) (w : World) (hm : w.heap[bm]? = some (cl [.map (some bv)] 198)) (hb : w.heap[bv]? = some (mobj E clock)) (hwf : WfM E clock) (hne : bm ≠ bv) : Ret Try.prog 105 [pt bm 0, suv q] w (fun x w' => ∃ (old : List UInt8) (e : Nat), x = .tuple #[.agg (old.map b8).toArray, vi e] ∧ ((∃ v0, getM E q = some v0 ∧ old = v0.1) ∨ (getM E q = none ∧ old = Z32L)) ∧ old.length = 32 ∧ St w [] w' []) :=
  (mget_ok E clock bm bv q w hm hb hwf hne).mono fun x w' hx => by
    rcases hx with ⟨hg, hx, h⟩ | ⟨v0, hg, hx, h⟩
    · exact ⟨Z32L, 7, hx, .inr ⟨hg, rfl⟩, by simp, St.unM (L := []) (X := [.blk bm (cl [.map (some bv)] 198), .blk bv (mobj E clock)]) h (by intro k hk; simp only [List.mem_cons, List.not_mem_nil, or_false] at hk; rcases hk with rfl | rfl <;> first | exact ⟨_, by simp, hm⟩ | exact ⟨_, by simp, hb⟩)⟩
    · exact ⟨v0.1, 0, hx, .inl ⟨v0, hg, rfl⟩, v0.2, St.unM (L := []) (X := [.blk bm (cl [.map (some bv)] 198), .blk bv (mobj E clock)]) h (by intro k hk; simp only [List.mem_cons, List.not_mem_nil, or_false] at hk; rcases hk with rfl | rfl <;> first | exact ⟨_, by simp, hm⟩ | exact ⟨_, by simp, hb⟩)⟩
theorem changed_n (root k old v : List UInt8) (lv : List UInt8) (pa : Option Addr) (pc : Nat) (pl : List (List UInt8)) (n : Nat) (w : World) (hn : pl.length = n) (hr : root.length = 32) (hk : k.length = 32) (ho : old.length = 32) (hv : v.length = 32) (hlv : lv.length = 32) (hp : Row w pa (pl.flatten.map b8)) (h32 : S32 pl) (hpc : n ≤ pc) (hpm : n ≤ 4398046511104) :
    Ret Try.prog 69 [.agg (root.map b8).toArray, .agg (k.map b8).toArray, .agg (old.map b8).toArray, .agg (v.map b8).toArray, .agg (lv.map b8 ++ [Value.slice pa n pc]).toArray] w (fun x w' => x = .tuple #[.agg ((changedL root k old v lv pl).1.map b8).toArray, vi (changedL root k old v lv pl).2] ∧ St w [] w' []) := by
  subst hn
  exact changed_ok root k old v lv pa pc pl w hr hk ho hv hlv hp h32 hpc hpm

end Go.Proofs.Ytfohfnpehfcaaaa
