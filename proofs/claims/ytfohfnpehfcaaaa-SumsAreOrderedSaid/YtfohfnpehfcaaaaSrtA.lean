/- Sums sorted, each once. No condition. -/
import Derived.Test.YtfohfnpehfcaaaaFacts
import Derived.Test.YtfohfnpehfcaaaaSrtLay
import Derived.Test.YtfohfnpehfcaaaaComp
import Derived.Test.YtfohfnpehfcaaaaTreeE
namespace Go.Proofs.Ytfohfnpehfcaaaa
open Go.Kw
set_option linter.unusedVariables false
set_option linter.unusedSimpArgs false
set_option maxRecDepth 100000
theorem compact_small (a : Option Addr) (n c : Nat) (w : World) (hn : n < 2) :
    Ret Try.prog 154 [.slice a n c] w (fun v w' => v = .slice a n c ∧ St w [] w' []) := by
  refine enter Try.func154 rfl Try.ntmps154 rfl ?_
  have hS := St.refl w []
  refine c_seq ?_; refine c_region ?_; refine wl_val (r_assign (v := .slice none 0 0) rfl) rfl ?_; refine wl_nil ?_; refine c_then ?_; refine c_seq ?_; refine c_seq ?_; refine c_region ?_; refine wl_val (r_move (v := .slice _ _ _) rfl) rfl ?_; refine wl_val (r_len (T := 53) rfl ti53.und rfl _ rfl) rfl ?_; refine wl_dec_t (r_lss rfl rfl) rfl (by omega) ?_; refine wl_nil ?_; refine c_then ?_; refine c_true rfl ?_; refine c_seq ?_; refine c_region ?_; refine wl_val (r_move (v := .slice _ _ _) rfl) rfl ?_; refine wl_val (r_assign (v := .slice _ _ _) rfl) rfl ?_; refine wl_nil ?_; refine c_then ?_; refine wp_ret ?_; refine c_thenR ?_; refine ret1 Try.results154 ?_
  exact ⟨rfl, hS.fin⟩

theorem compact_ok (l : List (List UInt8)) (D : List Value) (g n c : Nat) (w : World) (hb : w.heap[g]? = some (cl (l.flatten.map b8 ++ D) 49)) (h32 : S32 l) (hl : l.length = n) (hn2 : 2 ≤ n) (hc : n ≤ c) (hn : n ≤ 4398046511104) :
    Ret Try.prog 154 [.slice (some ⟨g, 0, none⟩) n c] w (fun v w' => ∃ D', v = .slice (some ⟨g, 0, none⟩) (compL l).length c ∧ ((compL l).flatten.map b8 ++ D').length = (l.flatten.map b8 ++ D).length ∧ St w [g] w' [.blk g (cl ((compL l).flatten.map b8 ++ D') 49)]) := by
  subst hl
  refine enter Try.func154 rfl Try.ntmps154 rfl ?_
  have hS : St w [g] w [.blk g (cl (l.flatten.map b8 ++ D) 49)] := St.own hb
  refine c_seq ?_; refine c_region ?_; refine wl_val (r_assign (v := .slice none 0 0) rfl) rfl ?_; refine wl_nil ?_; refine c_then ?_; refine c_seq ?_; refine c_seq ?_; refine c_region ?_; refine wl_val (r_move (v := .slice _ _ _) rfl) rfl ?_; refine wl_val (r_len (T := 53) rfl ti53.und rfl _ rfl) rfl ?_; refine wl_dec_f (r_lss rfl rfl) rfl (by omega) ?_; refine wl_nil ?_; refine c_then ?_; refine c_false rfl ?_; refine wp_skip ?_; refine c_then ?_; refine c_seq ?_; refine c_seq ?_; refine c_region ?_; refine wl_val (r_assign (v := .int .i64 1) rfl) rfl ?_; refine wl_nil ?_; refine c_then ?_; refine c_block ?_; refine c_loopE [0] (fun d e w' => ∃ (k : Nat), Kw.look e 3 = vi k ∧ d = l.length - k ∧ St w [g] w' [.blk g (cl (l.flatten.map b8 ++ D) 49)] ∧ (1 ≤ k ∧ k ≤ l.length) ∧ (compTo l k = l.take k)) (l.length - 1) ?_ ?_
  · exact ⟨1, rfl, rfl, hS, by omega, by rw [compTo_ne (.inl rfl), take_gt l 0 (by omega)]; rfl⟩
  · rintro d4 e1 w2 ⟨k, hc0_3, rfl, hS3, hk, hcm⟩ -
    refine c_set (d := 3) hc0_3 ?_; refine c_seq ?_; refine c_seq ?_; refine c_region ?_; refine wl_val (r_move (v := .int .i64 _) rfl) rfl ?_; refine wl_val (r_move (v := .slice _ _ _) rfl) rfl ?_; refine wl_val (r_len (T := 53) rfl ti53.und rfl _ rfl) rfl ?_
    refine wl_dec (r_lss rfl rfl) rfl (fun h4_3 => ?_) (fun h4_3 => ?_)
    · refine wl_nil ?_
      refine c_then ?_; refine c_true rfl ?_; refine wp_skip ?_; refine c_then ?_; refine c_seq ?_; refine c_block ?_; refine c_seq ?_; refine c_drawS 9 hMixed hS3 ?_; intro w5 hS6; refine g_take 0 rfl (by decide +kernel) rfl (fun _ _ _ h => h) hS6 (fun wF hF => r_move (v := .slice _ _ _) rfl) ?_; refine g_take 1 rfl (by decide +kernel) rfl (fun _ _ _ h => h) hS6 (fun wF hF => r_move (v := .int .i64 _) rfl) ?_; refine g_take 2 rfl (by decide +kernel) rfl (fun _ _ _ h => h) hS6 (fun wF hF => r_ixQ0 ti53.und ti49 rfl rfl (by omega)) ?_; refine g_take 3 rfl (by decide +kernel) rfl (fun _ _ _ h => h) hS6 (fun wF hF => r_loadQ ti49 rfl rfl (hF.heap (.head _)) h32 (by omega)) ?_; refine g_take 4 rfl (by decide +kernel) rfl (fun _ _ _ h => h) hS6 (fun wF hF => r_move (v := .slice _ _ _) rfl) ?_; refine g_take 5 rfl (by decide +kernel) rfl (fun _ _ _ h => h) hS6 (fun wF hF => r_move (v := .int .i64 _) rfl) ?_; refine g_take 6 rfl (by decide +kernel) rfl (fun _ _ _ h => h) hS6 (fun wF hF => r_subn (b := 1) rfl rfl (by omega) (by omega)) ?_; refine g_take 7 rfl (by decide +kernel) rfl (fun _ _ _ h => h) hS6 (fun wF hF => r_ixQ0 ti53.und ti49 rfl rfl (by omega)) ?_; refine g_take 8 rfl (by decide +kernel) rfl (fun _ _ _ h => h) hS6 (fun wF hF => r_loadQ ti49 rfl rfl (hF.heap (.head _)) h32 (by omega)) ?_; refine g_tail (by decide +kernel) rfl (by decide +kernel) ?_
      refine wl_dec (r_eqlA (u := undef) eg49 rfl rfl (eqIs_b8 ti49.und ti5 _ _ (h32.gt (by omega)) (h32.gt (by omega)))) rfl (fun h6_9 => ?_) (fun h6_9 => ?_)
      · refine wl_nil ?_
        refine c_then ?_; refine c_true rfl ?_; refine c_seq ?_; refine c_region ?_; refine wl_val (r_move (v := .slice _ _ _) rfl) rfl ?_; refine wl_val (r_move (v := .int .i64 _) rfl) rfl ?_; refine wl_val (r_slQ ti53.und ti49 rfl rfl (by omega) (by omega) (by omega)) rfl ?_; refine wl_val (r_assign (v := .slice _ _ _) rfl) rfl ?_; refine wl_nil ?_; refine c_then ?_; refine c_seq ?_; refine c_seq ?_; refine c_region ?_; refine wl_val (r_assign (v := .int .i64 1) rfl) rfl ?_; refine wl_nil ?_; refine c_then ?_; refine c_block ?_; refine c_loopE [0, 2, 4] (fun d e w' => ∃ (j : Nat) (m : Nat) (xs : List (List UInt8)), Kw.look e 5 = vi j ∧ Kw.look e 3 = vi m ∧ d = l.length - k - j ∧ St w [g] w' [.blk g (cl (xs.flatten.map b8 ++ D) 49)] ∧ (S32 xs) ∧ (xs.length = l.length) ∧ (xs.take m = compTo l (k + j)) ∧ (∀ i, k + j - 1 ≤ i → gt xs i = gt l i) ∧ (1 ≤ j ∧ k + j ≤ l.length ∧ 1 ≤ m ∧ m ≤ k + j - 1)) (l.length - k - 1) ?_ ?_
        · exact ⟨1, k, l, rfl, rfl, rfl, hS6, h32, rfl, by rw [compTo_eq (by omega) h6_9, hcm], fun _ _ => rfl, by omega⟩
        · rintro d10 e7 w8 ⟨j, m, xs, hc1_5, hc1_3, rfl, hS9, hx32, hxl, hxt, hxi, hjm⟩ -
          refine c_set (d := 5) hc1_5 ?_; refine c_set (d := 3) hc1_3 ?_; refine c_seq ?_; refine c_seq ?_; refine c_region ?_; refine wl_val (r_move (v := .int .i64 _) rfl) rfl ?_; refine wl_val (r_move (v := .slice _ _ _) rfl) rfl ?_; refine wl_val (r_len (T := 53) rfl ti53.und rfl _ rfl) rfl ?_
          refine wl_dec (r_lss rfl rfl) rfl (fun h9_3 => ?_) (fun h9_3 => ?_)
          · refine wl_nil ?_
            refine c_then ?_; refine c_true rfl ?_; refine wp_skip ?_; refine c_then ?_; refine c_seq ?_; refine c_block ?_; refine c_seq ?_; refine c_drawS 9 hMixed hS9 ?_; intro w11 hS12; refine g_take 0 rfl (by decide +kernel) rfl (fun _ _ _ h => h) hS12 (fun wF hF => r_move (v := .slice _ _ _) rfl) ?_; refine g_take 1 rfl (by decide +kernel) rfl (fun _ _ _ h => h) hS12 (fun wF hF => r_move (v := .int .i64 _) rfl) ?_; refine g_take 2 rfl (by decide +kernel) rfl (fun _ _ _ h => h) hS12 (fun wF hF => r_ixQ ti53.und ti49 rfl rfl (by omega)) ?_; refine g_take 3 rfl (by decide +kernel) rfl (fun _ _ _ h => h) hS12 (fun wF hF => r_loadQ ti49 rfl rfl (hF.heap (.head _)) hx32 (by omega)) ?_; refine g_take 4 rfl (by decide +kernel) rfl (fun _ _ _ h => h) hS12 (fun wF hF => r_move (v := .slice _ _ _) rfl) ?_; refine g_take 5 rfl (by decide +kernel) rfl (fun _ _ _ h => h) hS12 (fun wF hF => r_move (v := .int .i64 _) rfl) ?_; refine g_take 6 rfl (by decide +kernel) rfl (fun _ _ _ h => h) hS12 (fun wF hF => r_subn (b := 1) rfl rfl (by omega) (by omega)) ?_; refine g_take 7 rfl (by decide +kernel) rfl (fun _ _ _ h => h) hS12 (fun wF hF => r_ixQ ti53.und ti49 rfl rfl (by omega)) ?_; refine g_take 8 rfl (by decide +kernel) rfl (fun _ _ _ h => h) hS12 (fun wF hF => r_loadQ ti49 rfl rfl (hF.heap (.head _)) hx32 (by omega)) ?_; refine g_tail (by decide +kernel) rfl (by decide +kernel) ?_
            refine wl_dec (r_neqA (u := undef) eg49 rfl rfl (eqIs_b8 ti49.und ti5 _ _ (hx32.gt (by omega)) (hx32.gt (by omega)))) rfl (fun h11_9 => ?_) (fun h11_9 => ?_)
            · refine wl_nil ?_
              refine c_then ?_; refine c_true rfl ?_; refine c_seq ?_; refine c_region ?_; refine wl_val (r_move (v := .slice _ _ _) rfl) rfl ?_; refine wl_val (r_move (v := .int .i64 _) rfl) rfl ?_; refine wl_val (r_move (v := .slice _ _ _) rfl) rfl ?_; refine wl_val (r_move (v := .int .i64 _) rfl) rfl ?_; refine wl_val (r_ixQ ti53.und ti49 rfl rfl (by omega)) rfl ?_; refine wl_val (r_loadQ ti49 rfl rfl (hS12.heap (.head _)) hx32 (by omega)) rfl ?_; refine wl_val (r_ixQ0 ti53.und ti49 rfl rfl (by omega)) rfl ?_; refine wl_exs (x_storeQ [] hS12 ti49 rfl rfl hx32 (hx32.gt (by omega)) (by omega)) rfl ?_; intro w13 hS14; simp only [List.cons_append, List.nil_append] at hS14; refine wl_nil ?_; refine c_then ?_; refine c_region ?_; refine wl_val (r_move (v := .int .i64 _) rfl) rfl ?_; refine wl_val (r_addn (b := 1) rfl rfl (by omega)) rfl ?_; refine wl_val (r_assign (v := .int .i64 _) rfl) rfl ?_; refine wl_nil ?_; refine c_inN ?_; refine c_then ?_; refine c_region ?_; refine wl_val (r_move (v := .int .i64 _) rfl) rfl ?_; refine wl_val (r_addn (b := 1) rfl rfl (by omega)) rfl ?_; refine wl_val (r_assign (v := .int .i64 _) rfl) rfl ?_; refine wl_nil ?_; refine c_then ?_
              have e1 : gt xs (k + j) = gt l (k + j) := hxi _ (by omega)
              have e2 : gt xs (k + (j - 1)) = gt l (k + j - 1) := by rw [show k + (j - 1) = k + j - 1 by omega]; exact hxi _ (by omega)
              rw [e1, e2] at h11_9
              rw [e1] at hS14
              exact ⟨l.length - k - (j + 1), _, by omega, rfl, ⟨j + 1, m + 1, _, rfl, rfl, rfl, hS14, hx32.set (h32.gt (by omega)) m, by rw [List.length_set]; exact hxl, comp_step (by omega) hxt (by omega) h11_9, fun i hi => comp_keep (j := k + j - 1) hxi (by omega) i (by omega), by omega⟩, ⟨rfl, rfl, rfl, trivial⟩⟩
            refine wl_nil ?_; refine c_then ?_; refine c_false rfl ?_; refine wp_skip ?_; refine c_inN ?_; refine c_then ?_; refine c_region ?_; refine wl_val (r_move (v := .int .i64 _) rfl) rfl ?_; refine wl_val (r_addn (b := 1) rfl rfl (by omega)) rfl ?_; refine wl_val (r_assign (v := .int .i64 _) rfl) rfl ?_; refine wl_nil ?_; refine c_then ?_
            have e1 : gt xs (k + j) = gt l (k + j) := hxi _ (by omega)
            have e2 : gt xs (k + (j - 1)) = gt l (k + j - 1) := by rw [show k + (j - 1) = k + j - 1 by omega]; exact hxi _ (by omega)
            rw [e1, e2] at h11_9
            exact ⟨l.length - k - (j + 1), _, by omega, rfl, ⟨j + 1, m, xs, rfl, rfl, rfl, hS12, hx32, hxl, by rw [hxt]; exact (compTo_eq (k := k + j) (by omega) (Classical.not_not.1 h11_9)).symm, fun i hi => hxi i (by omega), by omega⟩, ⟨rfl, rfl, rfl, trivial⟩⟩
          refine wl_nil ?_; refine c_then ?_; refine c_false rfl ?_; refine wp_exit ?_; refine c_thenE ?_; refine c_thenE ?_; refine c_inE ?_; refine c_then ?_; refine c_seq ?_; refine c_region ?_; refine wl_val (r_move (v := .slice _ _ _) rfl) rfl ?_; refine wl_val (r_move (v := .int .i64 _) rfl) rfl ?_; refine wl_val (r_slQ ti53.und ti49 rfl rfl (by omega) (by omega) (by omega)) rfl ?_
          rw [split32 xs D m] at hS9
          refine wl_exv (x_clearQ (T := 53) (n := l.length - m) (c := c - m) (sz := 32) [] hS9 rfl ti53.und ti49 (one_b8 (List.replicate 32 (0 : UInt8))) rfl rfl (by rw [flat32_lenV (hx32.take _), List.length_take, Nat.min_eq_left (by omega)]) (by rw [List.length_append, flat32_lenV (hx32.drop _), List.length_drop]; omega) _ rfl) rfl ?_; rintro _ w15 ⟨rfl, D', hD', hS16⟩; simp only [List.cons_append, List.nil_append] at hS16; refine wl_nil ?_; refine c_then ?_; refine c_seq ?_; refine c_region ?_; refine wl_val (r_move (v := .slice _ _ _) rfl) rfl ?_; refine wl_val (r_move (v := .int .i64 _) rfl) rfl ?_; refine wl_val (r_sl_h ti53.und ti49 rfl rfl (by omega)) rfl ?_; refine wl_val (r_assign (v := .slice _ _ _) rfl) rfl ?_; refine wl_nil ?_; refine c_then ?_; refine wp_ret ?_; refine c_inR ?_; refine c_thenR ?_; refine c_thenR ?_; refine c_inR ?_; refine c_thenR ?_; refine ret1 Try.results154 ?_
          have hxe : xs.take m = compL l := by rw [hxt, compL]; congr 1; omega
          rw [hxe] at hS16
          have hml : m = (compL l).length := by rw [← hxe, List.length_take]; omega
          have hln : ((compL l).flatten.map b8 ++ D').length = (l.flatten.map b8 ++ D).length := by have hsp := congrArg List.length (split32 xs D m); rw [hxe] at hsp; rw [List.length_append, hD', ← List.length_append, ← hsp, List.length_append, List.length_append, flat32_lenV hx32, flat32_lenV h32, hxl]
          exact ⟨_, congrArg (fun z => Value.slice (some ⟨g, 0, none⟩) z c) hml, hln, hS16⟩
      refine wl_nil ?_; refine c_then ?_; refine c_false rfl ?_; refine wp_skip ?_; refine c_inN ?_; refine c_then ?_; refine c_region ?_; refine wl_val (r_move (v := .int .i64 _) rfl) rfl ?_; refine wl_val (r_addn (b := 1) rfl rfl (by omega)) rfl ?_; refine wl_val (r_assign (v := .int .i64 _) rfl) rfl ?_; refine wl_nil ?_; refine c_then ?_
      exact ⟨l.length - (k + 1), _, by omega, rfl, ⟨k + 1, rfl, rfl, hS6, by omega, by rw [compTo_ne (.inr h6_9), take_gt l k (by omega), hcm]⟩, ⟨rfl, trivial⟩⟩
    refine wl_nil ?_; refine c_then ?_; refine c_false rfl ?_; refine wp_exit ?_; refine c_thenE ?_; refine c_thenE ?_; refine c_inE ?_; refine c_then ?_; refine c_seq ?_; refine c_region ?_; refine wl_val (r_move (v := .slice _ _ _) rfl) rfl ?_; refine wl_val (r_assign (v := .slice _ _ _) rfl) rfl ?_; refine wl_nil ?_; refine c_then ?_; refine wp_ret ?_; refine ret1 Try.results154 ?_
    obtain rfl : k = l.length := by omega
    rw [List.take_length] at hcm
    have hcl : compL l = l := hcm
    exact ⟨D, congrArg (fun z : List (List UInt8) => Value.slice (some ⟨g, 0, none⟩) z.length c) hcl.symm, by rw [hcl], by rw [hcl]; exact hS3⟩

theorem sorted_ok (l : List (List UInt8)) (a : Option Addr) (n c : Nat) (w : World) (hb : Row w a (l.flatten.map b8)) (h32 : S32 l) (hl : l.length = n) (hn : n ≤ 4398046511104) :
    Ret Try.prog 85 [.slice a n c] w (fun v w' => ∃ a' c', v = .slice a' (compL (sortL l)).length c' ∧ (compL (sortL l)).length ≤ c' ∧ St w [] w' [.row (.slice a' (compL (sortL l)).length c') 49 32 (compL (sortL l)).length ((compL (sortL l)).flatten.map b8)]) := by
  refine enter Try.func85 rfl Try.ntmps85 rfl ?_
  have hS := St.refl w []
  refine c_seq ?_; refine c_region ?_; refine wl_val (r_assign (v := .slice none 0 0) rfl) rfl ?_; refine wl_nil ?_; refine c_then ?_; refine c_seq ?_; refine c_region ?_; refine wl_val (r_move (v := .slice _ _ _) rfl) rfl ?_; refine wl_call (r_call fn78 rfl rfl) rfl (clones_ok l _ _ _ _ (hb.st hS) h32 hl hn) ?_; rintro _ w1 ⟨a5, c5, rfl, hc5, hx2⟩
  have hS3 := hS.call hx2
  simp only [List.cons_append, List.nil_append] at hS3; refine wl_val (r_assign (v := .slice _ _ _) rfl) rfl ?_; refine wl_nil ?_; refine c_then ?_; refine c_seq ?_; refine c_region ?_; refine wl_val (r_move (v := .slice _ _ _) rfl) rfl ?_
  have hown := (St.get hS3 (.head _)).1
  refine wl_call (r_call fn96 rfl rfl) rfl (sortF_ok l _ _ _ _ hown h32 hl hn) ?_; rintro _ w4 ⟨rfl, hx5⟩
  have hS6 := St.callM (X := [_]) (L := []) hS3 hx5 (fun k hk => ⟨_, List.mem_singleton.2 rfl, by simpa [Item.id] using hk⟩)
  simp only [List.cons_append, List.nil_append] at hS6; refine wl_nil ?_; refine c_then ?_; refine c_seq ?_
  rcases Nat.lt_or_ge n 2 with h2 | h2
  · refine c_region ?_
    refine wl_val (r_move (v := .slice _ _ _) rfl) rfl ?_; refine wl_call (r_call fn154 rfl rfl) rfl (compact_small _ _ _ _ h2) ?_; rintro _ w7 ⟨rfl, hx8⟩
    have hS9 := hS6.ext hx8
    refine wl_val (r_assign (v := .slice _ _ _) rfl) rfl ?_; refine wl_nil ?_; refine c_then ?_; refine wp_ret ?_; refine ret1 Try.results85 ?_
    have hcs : compL (sortL l) = sortL l := comp_small (by rw [sortL_len, hl]; exact h2)
    rw [hcs, sortL_len, hl]
    exact ⟨_, _, rfl, hc5, hS9⟩
  obtain ⟨g, D, hga, hCl, hcc, hcm, hS10⟩ := St.rowBlkQ (l1 := []) hS6 (by omega)
  subst hga
  simp only [List.nil_append] at hS10
  refine c_region ?_; refine wl_val (r_move (v := .slice _ _ _) rfl) rfl ?_; refine wl_call (r_call fn154 rfl rfl) rfl (compact_ok (sortL l) D g n _ _ (hS10.heap (.head _)) (sort_32 h32) (by rw [sortL_len, hl]) h2 hcc hn) ?_; rintro _ w11 ⟨D', rfl, hD', hx12⟩
  have hS13 := St.callM (X := [_]) (L := []) hS10 hx12 (by simp [Item.id])
  simp only [List.cons_append, List.nil_append] at hS13; refine wl_val (r_assign (v := .slice _ _ _) rfl) rfl ?_; refine wl_nil ?_; refine c_then ?_; refine wp_ret ?_; refine ret1 Try.results85 ?_
  have hCS := compL_32 (sort_32 h32)
  have hcl : (compL (sortL l)).length ≤ n := by have := compTo_len (sortL l) (sortL l).length; rw [sortL_len, hl] at this; rw [compL, sortL_len, hl]; exact this
  have hT := St.toRow (l1 := []) (sz := 32) (n := (compL (sortL l)).length) (cap := c5) hS13 (by omega) hcm (by rw [hD', hCl])
  rw [List.take_left' (flat32_lenV hCS)] at hT
  exact ⟨_, _, rfl, by omega, hT⟩

end Go.Proofs.Ytfohfnpehfcaaaa
