/- What the law's proof leans on. No condition. -/
import Derived.Test.YtfohfnpehfcaaaaPMcAH
import Derived.Test.YtfohfnpehfcaaaaPMcBH
import Derived.Test.YtfohfnpehfcaaaaPMcAT
section
namespace Go.Proofs.Ytfohfnpehfcaaaa
open Go.Kw
set_option linter.unusedVariables false
set_option linter.unusedSimpArgs false
set_option maxRecDepth 100000
theorem part_step (E : List MapE) (clock bm bv : Nat) (hwf : WfM E clock) (f : Nat) (IH : ∀ g, f = g + 1 → ∀ (ds : List Sum32) (lev : Nat) (a : Option Addr) (n c : Nat) (w : World), lev + g = 256 → Row w a ((rawL ds).flatten.map b8) → ds.length = n → n ≤ c → n ≤ 1000 → (rawL ds).Pairwise LtB → Kw.Alike lev (rawL ds) → (∀ k ∈ ds, ∃ v, getM E k = some v) → w.heap[bm]? = some (cl [.map (some bv)] 198) → w.heap[bv]? = some (mobj E clock) → Ret Try.prog 159 [pt bm 0, .slice a n c, vi lev] w (fun v w' => v = .agg ((mapRootF g (entM E ds) lev).map b8).toArray ∧ St w [] w' [])) (ds : List Sum32) (lev : Nat) (a : Option Addr) (n c : Nat) (w : World) (hlf : lev + f = 256) (hr : Row w a ((rawL ds).flatten.map b8)) (hl : ds.length = n) (hc : n ≤ c) (hn : n ≤ 1000) (hs : (rawL ds).Pairwise LtB) (hal : Kw.Alike lev (rawL ds)) (hgs : ∀ k ∈ ds, ∃ v, getM E k = some v) (hm : w.heap[bm]? = some (cl [.map (some bv)] 198)) (hb : w.heap[bv]? = some (mobj E clock)) :
    Ret Try.prog 159 [pt bm 0, .slice a n c, vi lev] w (fun v w' => v = .agg ((mapRootF f (entM E ds) lev).map b8).toArray ∧ St w [] w' []) := by
  have hbm := (Array.getElem?_eq_some_iff.1 hm).1
  have hbv := (Array.getElem?_eq_some_iff.1 hb).1
  have h32 := rawL_32 ds
  have hrl := rawL_len ds
  refine enter Try.func159 rfl Try.ntmps159 rfl ?_
  have hS := St.refl w []
  refine c_seq ?_; refine c_region ?_; refine wl_exv (x_alloc (C := ((List.replicate 32 (0 : UInt8)).map b8)) hS ti49 rfl) rfl ?_; rintro _ w1 ⟨b6, rfl, hS2⟩; refine wl_nil ?_; refine c_then ?_; refine c_seq ?_; refine c_seq ?_; refine c_region ?_; refine wl_val (r_move (v := .slice _ _ _) rfl) rfl ?_; refine wl_val (r_len (T := 53) rfl ti53.und rfl _ rfl) rfl ?_; refine wl_nil ?_; refine c_then ?_; refine c_block ?_; refine c_seq ?_; refine c_region ?_
  refine wl_dec (r_eql rfl rfl) rfl (fun h2_0 => ?_) (fun h2_0 => ?_)
  · refine wl_val (r_assign (v := .bool _) rfl) rfl ?_
    refine wl_nil ?_; refine c_then ?_; refine c_true rfl ?_; refine c_seq ?_; refine c_region ?_; refine wl_val (r_build0 (cs := ((List.replicate 32 (0 : UInt8)).map b8)) ti49.und ti49 ti5) rfl ?_; refine wl_exs (x_storeW [] hS2 ti49 rfl rfl (by first | (simp [*]; done) | (simp [*] <;> omega) | omega) (by first | (simp [*]; done) | (simp [*] <;> omega) | omega) (by repeat' first | exact one_nil | exact one_b8 _ | exact one_v32 _ | exact one_all rfl | refine one_cons rfl ?_ | refine one_app ?_ ?_)) rfl ?_; intro w3 hS4; simp only [List.cons_append, List.nil_append] at hS4; refine wl_nil ?_; refine c_then ?_; refine wp_ret ?_; refine c_inR ?_; refine c_thenR ?_; refine retc Try.results159 ⟨_, rfl, run_loadVar_blk ti49 rfl (hS4.heap (.head _)) (by first | (simp; done) | (rw [List.length_map]; exact leafM_len _) | (rw [List.length_map]; exact nodeL_len _ _))⟩ ?_
    exact ⟨by rw [part_zero (by omega)], hS4.fin⟩
  refine wl_val (r_assign (v := .bool _) rfl) rfl ?_; refine wl_nil ?_; refine c_then ?_; refine c_false rfl ?_; refine c_seq ?_; refine c_region ?_
  refine wl_dec (r_eql rfl rfl) rfl (fun h4_0 => ?_) (fun h4_0 => ?_)
  · refine wl_val (r_assign (v := .bool _) rfl) rfl ?_
    refine wl_nil ?_; refine c_then ?_; refine c_true rfl ?_; refine c_seq ?_
    obtain ⟨v0, hg⟩ := hgs _ (gt_mem ds 0 (by omega))
    refine c_drawS 11 hMixed hS2 ?_; intro w5 hS6; refine g_take 0 rfl (by decide +kernel) rfl (fun _ _ _ h => h) hS6 (fun wF hF => r_move (v := .slice _ _ _) rfl) ?_; refine g_take 1 rfl (by decide +kernel) rfl (fun _ _ _ h => h) hS6 (fun wF hF => r_ix32 (m := 0) ti53.und ti49 rfl rfl (hr.st hF) h32 (by rw [rawL_len]; exact hl) (by omega)) ?_; refine g_take 2 rfl (by decide +kernel) rfl (fun _ _ _ h => h) hS6 (fun wF hF => r_load32 ti49 rfl rfl (hr.st hF) h32 (by rw [rawL_len]; omega)) ?_; refine g_take 3 rfl (by decide +kernel) rfl (fun _ _ _ h => h) hS6 (fun wF hF => r_move (v := .pointer _) rfl) ?_; refine g_take 4 rfl (by decide +kernel) rfl (fun _ _ _ h => h) hS6 (fun wF hF => r_nilCheck rfl) ?_; refine g_take 5 rfl (by decide +kernel) rfl (fun _ _ _ h => h) hS6 (fun wF hF => r_field fa198_0 rfl) ?_; refine g_take 6 rfl (by decide +kernel) rfl (fun _ _ _ h => h) hS6 (fun wF hF => r_loadB1 ti196.und rfl rfl ((hF.old bm hbm (by simp)).trans hm) rfl) ?_; refine g_take 7 rfl (by decide +kernel) rfl (fun _ _ _ h => h) hS6 (fun wF hF => r_move (v := .slice _ _ _) rfl) ?_; refine g_take 8 rfl (by decide +kernel) rfl (fun _ _ _ h => h) hS6 (fun wF hF => r_ix32 (m := 0) ti53.und ti49 rfl rfl (hr.st hF) h32 (by rw [rawL_len]; exact hl) (by omega)) ?_; refine g_take 9 rfl (by decide +kernel) rfl (fun _ _ _ h => h) hS6 (fun wF hF => r_load32 ti49 rfl rfl (hr.st hF) h32 (by rw [rawL_len]; omega)) ?_; refine g_one 10 (by decide +kernel) (by decide +kernel) ?_; refine o_val rfl (r_lookup1_some (q := gt ds 0) sumKeys hwf ti196.und rfl (congrArg (fun z : List UInt8 => Value.agg (z.map b8).toArray) (rawL_gt (by omega))) ((hS6.old bv hbv (by simp)).trans hb) hg) rfl ?_
    refine ⟨hS6, ?_⟩
    refine g_tail (by decide +kernel) rfl (by decide +kernel) ?_; refine wl_call (r_call fn140 rfl rfl) rfl (single_ok _ v0.1 _ (h32.gt (by rw [rawL_len]; omega)) v0.2) ?_; rintro _ w7 ⟨rfl, hx8⟩
    have hS9 := hS6.ext hx8
    refine wl_exs (x_storeW [] hS9 ti49 rfl rfl (by first | (simp; done) | (rw [List.length_map]; exact leafM_len _) | (rw [List.length_map]; exact nodeL_len _ _)) (by simp) (one_b8 _)) rfl ?_; intro w10 hS11; simp only [List.cons_append, List.nil_append] at hS11; refine wl_nil ?_; refine c_then ?_; refine wp_ret ?_; refine c_inR ?_; refine c_thenR ?_; refine retc Try.results159 ⟨_, rfl, run_loadVar_blk ti49 rfl (hS11.heap (.head _)) (by first | (simp; done) | (rw [List.length_map]; exact leafM_len _) | (rw [List.length_map]; exact nodeL_len _ _))⟩ ?_
    exact ⟨by rw [part_one (by omega) hg, ← rawL_gt (by omega)], hS11.fin⟩
  refine wl_val (r_assign (v := .bool _) rfl) rfl ?_; refine wl_nil ?_; refine c_then ?_; refine c_false rfl ?_; refine wp_skip ?_; refine c_inN ?_; refine c_then ?_; refine c_seq ?_
  have hlev : lev < 256 := by rcases Nat.lt_or_ge lev 256 with h | h; (exact h); (exfalso; have hs9 := alike_short h32 (by rw [show 256 = lev by omega]; exact hal) (hs.imp fun {a b} h e => by subst e; have h : Go.Lib.compareBytes a a < 0 := h; rw [cmp_self] at h; omega); rw [rawL_len] at hs9; omega)
  obtain ⟨g, rfl⟩ : ∃ g, f = g + 1 := ⟨f - 1, by omega⟩
  refine c_region ?_; refine wl_val (r_move (v := .slice _ _ _) rfl) rfl ?_; refine wl_val (r_move (v := .int .i64 _) rfl) rfl ?_; refine wl_call (r_call fn164 rfl rfl) rfl (halves_ok (rawL ds) _ _ _ lev _ (hr.st hS2) h32 (by rw [rawL_len]; exact hl) hc (by omega) hlev) ?_; rintro _ w12 ⟨i, hi, hz, hnz, rfl, hx13⟩
  have hS14 := hS2.ext hx13
  refine wl_val (r_move (v := .tuple _) rfl) rfl ?_; refine wl_val (r_extract (v := .slice _ _ _) rfl rfl) rfl ?_; refine wl_val (r_extract (v := .slice _ _ _) rfl rfl) rfl ?_; refine wl_val (r_assign (v := .slice _ _ _) rfl) rfl ?_; refine wl_val (r_assign (v := .slice _ _ _) rfl) rfl ?_; refine wl_nil ?_; refine c_then ?_; refine c_seq ?_
  have hf9 := halves_filter h32 hlev hal hs (by rw [rawL_len]; omega) hz (by rw [rawL_len]; intro h; exact hnz (by omega))
  have hpt : (rawL (ds.take i)).Pairwise LtB := by have := hs.sublist (List.take_sublist i _); simpa [rawL, List.map_take] using this
  have hpd : (rawL (ds.drop i)).Pairwise LtB := by have := hs.sublist (List.drop_sublist i _); simpa [rawL, List.map_drop] using this
  have hat : Kw.Alike (lev + 1) (rawL (ds.take i)) := by have e : rawL (ds.take i) = (rawL ds).take i := (by simp [rawL, List.map_take]); exact hal.next (v := 0) (fun x hx => List.mem_of_mem_take (by rwa [e] at hx)) (fun x hx => by rw [e, ← hf9.1] at hx; simpa using (List.mem_filter.1 hx).2)
  have had : Kw.Alike (lev + 1) (rawL (ds.drop i)) := by have e : rawL (ds.drop i) = (rawL ds).drop i := (by simp [rawL, List.map_drop]); exact hal.next (v := 1) (fun x hx => List.mem_of_mem_drop (by rwa [e] at hx)) (fun x hx => by rw [e, ← hf9.2] at hx; have h9 := (List.mem_filter.1 hx).2; have h8 := bitL_01 x lev; simp at h9; omega)
  have ht : Row w a ((rawL (ds.take i)).flatten.map b8) := by have := hr.take32 h32 i; simpa [rawL, List.map_take] using this
  have hd : Row w (sub a c i 32) ((rawL (ds.drop i)).flatten.map b8) := by have := hr.from32 (c := c) h32 (by rw [rawL_len]; omega) i; simpa [rawL, List.map_drop] using this
  refine c_region ?_; refine wl_val (r_move (v := .pointer _) rfl) rfl ?_; refine wl_val (r_move (v := .slice _ _ _) rfl) rfl ?_; refine wl_val (r_move (v := .int .i64 _) rfl) rfl ?_; refine wl_val (r_addn (b := 1) rfl rfl (by omega)) rfl ?_; refine wl_call (r_call fn159 rfl rfl) rfl (IH g rfl (ds.take i) (lev + 1) _ _ _ _ (by omega) (ht.st hS14) (by simp; omega) (by omega) (by omega) (hpt) (hat) (fun k hk => hgs k (List.mem_of_mem_take hk)) ((hS14.old bm hbm (by simp)).trans hm) ((hS14.old bv hbv (by simp)).trans hb)) ?_; rintro _ w15 ⟨rfl, hx16⟩
  have hS17 := hS14.ext hx16
  refine wl_val (r_move (v := .pointer _) rfl) rfl ?_; refine wl_val (r_move (v := .slice _ _ _) rfl) rfl ?_; refine wl_val (r_move (v := .int .i64 _) rfl) rfl ?_; refine wl_val (r_addn (b := 1) rfl rfl (by omega)) rfl ?_; refine wl_call (r_call fn159 rfl rfl) rfl (IH g rfl (ds.drop i) (lev + 1) _ _ _ _ (by omega) (hd.st hS17) (by simp; omega) (by omega) (by omega) (hpd) (had) (fun k hk => hgs k (List.mem_of_mem_drop hk)) ((hS17.old bm hbm (by simp)).trans hm) ((hS17.old bv hbv (by simp)).trans hb)) ?_; rintro _ w18 ⟨rfl, hx19⟩
  have hS20 := hS17.ext hx19
  refine wl_call (r_call fn52 rfl rfl) rfl (node_ok _ _ _ (mapRootF_len _ _ _) (mapRootF_len _ _ _)) ?_; rintro _ w21 ⟨rfl, hx22⟩
  have hS23 := hS20.ext hx22
  refine wl_exs (x_storeW [] hS23 ti49 rfl rfl (by first | (simp; done) | (rw [List.length_map]; exact leafM_len _) | (rw [List.length_map]; exact nodeL_len _ _)) (by simp) (one_b8 _)) rfl ?_; intro w24 hS25; simp only [List.cons_append, List.nil_append] at hS25; refine wl_nil ?_; refine c_then ?_; refine wp_ret ?_; refine retc Try.results159 ⟨_, rfl, run_loadVar_blk ti49 rfl (hS25.heap (.head _)) (by first | (simp; done) | (rw [List.length_map]; exact leafM_len _) | (rw [List.length_map]; exact nodeL_len _ _))⟩ ?_
  exact ⟨by rw [part_more (i := i) (by omega) hlev hal hs (by omega) hz (fun h => hnz (by omega))], hS25.fin⟩

theorem part_ok (E : List MapE) (clock bm bv : Nat) (hwf : WfM E clock) : ∀ (f : Nat) (ds : List Sum32) (lev : Nat) (a : Option Addr) (n c : Nat) (w : World), lev + f = 256 → Row w a ((rawL ds).flatten.map b8) → ds.length = n → n ≤ c → n ≤ 1000 → (rawL ds).Pairwise LtB → Kw.Alike lev (rawL ds) → (∀ k ∈ ds, ∃ v, getM E k = some v) → w.heap[bm]? = some (cl [.map (some bv)] 198) → w.heap[bv]? = some (mobj E clock) → Ret Try.prog 159 [pt bm 0, .slice a n c, vi lev] w (fun v w' => v = .agg ((mapRootF f (entM E ds) lev).map b8).toArray ∧ St w [] w' []) := by
  intro f
  induction f with
  | zero => exact fun ds lev a n c w h1 h2 h3 h4 h5 h6 h7 h8 h9 h10 => part_step E clock bm bv hwf 0 (fun g hg => by omega) ds lev a n c w h1 h2 h3 h4 h5 h6 h7 h8 h9 h10
  | succ f ih => exact fun ds lev a n c w h1 h2 h3 h4 h5 h6 h7 h8 h9 h10 => part_step E clock bm bv hwf (f + 1) (fun g hg => (Nat.succ.inj hg) ▸ ih) ds lev a n c w h1 h2 h3 h4 h5 h6 h7 h8 h9 h10

end Go.Proofs.Ytfohfnpehfcaaaa
end
section
namespace Go.Proofs.Ytfohfnpehfcaaaa
open Go.Kw
set_option linter.unusedVariables false
set_option linter.unusedSimpArgs false
set_option maxRecDepth 100000
theorem mroot_ok (E : List MapE) (clock bm bv : Nat) (w : World) (hm : w.heap[bm]? = some (cl [.map (some bv)] 198)) (hb : w.heap[bv]? = some (mobj E clock)) (hwf : WfM E clock) (hne : bm ≠ bv) (hsz : E.length < 1000) :
    Ret Try.prog 91 [pt bm 0] w (fun x w' => x = .agg ((mapRootF 256 (entM E (keysD E)) 0).map b8).toArray ∧ St w [bm, bv] w' [.blk bm (cl [.map (some bv)] 198), .blk bv (mobj E clock)]) := by
  refine enter Try.func91 rfl Try.ntmps91 rfl ?_
  have hS : St w [bm, bv] w [.blk bm (cl [.map (some bv)] 198), .blk bv (mobj E clock)] := St.own2 hm hb hne
  refine c_seq ?_; refine c_region ?_; refine wl_exv (x_alloc (C := ((List.replicate 32 (0 : UInt8)).map b8)) hS ti49 rfl) rfl ?_; rintro _ w1 ⟨b2, rfl, hS2⟩; refine wl_nil ?_; refine c_then ?_; refine c_seq ?_; refine c_region ?_; refine wl_val (r_move (v := .pointer _) rfl) rfl ?_; refine wl_val (r_move (v := .pointer _) rfl) rfl ?_; refine wl_call (r_call fn99 rfl rfl) rfl (mkeys_ok E clock bm bv _ (hS2.heap (.tail _ (.head _))) (hS2.heap (.tail _ (.tail _ (.head _)))) hwf hne hsz) ?_; rintro _ w3 ⟨a5, c5, rfl, hc5, hx4⟩
  have hS5 := St.callM (X := [_, _]) (L := [_]) (hS2.perm ((List.Perm.cons _ ((List.Perm.cons _ (List.Perm.refl _)).trans (List.perm_middle (l₁ := [_])).symm)).trans (List.perm_middle (l₁ := [_])).symm)) hx4 (by simp [Item.id])
  simp only [List.cons_append, List.nil_append] at hS5; refine wl_call (r_call fn159 rfl rfl) rfl (part_ok E clock bm bv hwf 256 (keysD E) 0 _ E.length _ _ rfl (by rw [keysD_raw]; exact (St.rowAt hS5 (.head _))) (keysD_len E) hc5 (by omega) (keysD_lt hwf) (alike0 _) (keysD_get E) (hS5.heap (.tail _ (.head _))) (hS5.heap (.tail _ (.tail _ (.head _))))) ?_; rintro _ w6 ⟨rfl, hx7⟩
  have hS8 := hS5.ext hx7
  refine wl_exs (x_storeW [_, _, _] hS8 ti49 rfl rfl (by rw [List.length_map, mapRootF_len]) (by simp) (one_b8 _)) rfl ?_; intro w9 hS10; simp only [List.cons_append, List.nil_append] at hS10; refine wl_nil ?_; refine c_then ?_; refine wp_ret ?_; refine retc Try.results91 ⟨_, rfl, run_loadVar_blk ti49 rfl (hS10.heap (.tail _ (.tail _ (.tail _ (.head _))))) (by rw [List.length_map, mapRootF_len])⟩ ?_
  exact ⟨rfl, (hS10.perm (List.Perm.cons _ ((List.Perm.cons _ (List.Perm.refl _)).trans (List.perm_middle (l₁ := [_, _])).symm))).drop1.drop1⟩

end Go.Proofs.Ytfohfnpehfcaaaa
end
