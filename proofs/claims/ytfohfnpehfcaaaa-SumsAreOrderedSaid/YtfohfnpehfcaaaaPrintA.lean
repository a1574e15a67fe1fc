/- Proofs, printed. No condition. -/
import Derived.Test.YtfohfnpehfcaaaaFacts
import Derived.Test.YtfohfnpehfcaaaaNameB
import Derived.Test.YtfohfnpehfcaaaaTreeE
namespace Go.Proofs.Ytfohfnpehfcaaaa
open Go.Kw
set_option linter.unusedVariables false
set_option linter.unusedSimpArgs false
set_option maxRecDepth 100000
def pbase (ix sz : Int) (m : Nat) : List UInt8 := (octs8 (UInt64.ofNat ix.toNat) ++ octs8 (UInt64.ofNat sz.toNat)) ++ octs (UInt32.ofNat m)
theorem pbase_len (ix sz : Int) (m : Nat) : (pbase ix sz m).length = 20 := by simp [pbase]
/-- A proof, printed. -/
def printL (ix sz : Int) (pl : List (List UInt8)) : List UInt8 := pbase ix sz pl.length ++ pl.flatten
theorem putN_nat {x : Int} (h0 : 0 ≤ x) (h1 : x ≤ 65536) : putN x = x.toNat := by
  have := putN_in (n := x) (by omega) (by omega)
  omega
theorem flat32_len {pl : List (List UInt8)} (h : S32 pl) : pl.flatten.length = 32 * pl.length := by
  induction pl with
  | nil => rfl
  | cons a l ih => simp only [List.flatten_cons, List.length_append, List.length_cons, h a (by simp), ih (fun s hs => h s (by simp [hs]))]; omega
theorem printL_len {ix sz : Int} {pl : List (List UInt8)} (h : S32 pl) : (printL ix sz pl).length = 20 + 32 * pl.length := by rw [printL, List.length_append, pbase_len, flat32_len h]
theorem rlong_row (n : Nat) (w : World) (hn : n ≤ 9223372036854775807) : Ret Try.prog 117 [vi n] w (fun v w' => ∃ a c, v = .slice a 8 c ∧ 8 ≤ c ∧ St w [] w' [.row (.slice a 8 c) 5 1 8 ((octs8 (UInt64.ofNat n)).map b8)]) :=
  (rlong_ok n w hn).mono fun v w' h => by
    obtain ⟨b, rfl, hS⟩ := h
    have := St.toRow (l1 := []) (sz := 1) (n := 8) (cap := 8) hS (Nat.le_refl _) (by decide) (by simp)
    have e : ((octs8 (UInt64.ofNat n)).map b8).take (8 * 1) = (octs8 (UInt64.ofNat n)).map b8 := List.take_of_length_le (by simp)
    rw [e] at this
    exact ⟨_, _, rfl, Nat.le_refl _, this⟩
theorem short_at {w : World} {b n : Nat} {E : TypeId} {fr : Nat × Nat} (h : w.heap[b]? = some (.cells ((octs8 (UInt64.ofNat n)).map b8).toArray E fr)) : At w b 4 ((octs (UInt32.ofNat n)).map b8) := by
  have h2 := at_part (off := 4) (n := 4) h
  have e : (((octs8 (UInt64.ofNat n)).map b8).drop 4).take 4 = (octs (UInt32.ofNat n)).map b8 := by
    have : (UInt64.ofNat n).toUInt32 = UInt32.ofNat n := by simp
    rw [← this]; rfl
  rwa [e] at h2

theorem proofFault_ok (ix sz : Int) (pa : Option Addr) (pn pc : Nat) (w : World) :
    Ret Try.prog 114 [.agg #[.int .i64 ix, .int .i64 sz, .slice pa pn pc]] w (fun v w' => ((ix < 0 ∨ 65536 < ix ∨ sz < 0 ∨ 65536 < sz) ∧ v = vi 4 ∧ St w [] w' []) ∨ ((0 ≤ ix ∧ ix ≤ 65536 ∧ 0 ≤ sz ∧ sz ≤ 65536 ∧ 64 < pn) ∧ v = vi 5 ∧ St w [] w' []) ∨ ((0 ≤ ix ∧ ix ≤ 65536 ∧ 0 ≤ sz ∧ sz ≤ 65536 ∧ pn ≤ 64) ∧ v = vi 0 ∧ St w [] w' [])) := by
  refine enter Try.func114 rfl Try.ntmps114 rfl ?_
  have hS := St.refl w []
  refine c_seq ?_; refine c_region ?_; refine wl_exv (x_box hS (v := .agg _) rfl rfl) rfl ?_; rintro _ w1 ⟨b1, rfl, hS2⟩; refine wl_val (r_assign (v := .int .i64 0) rfl) rfl ?_; refine wl_nil ?_; refine c_then ?_; refine c_seq ?_; refine c_seq ?_; refine c_region ?_; refine wl_val (r_field fa55_0 rfl) rfl ?_; refine wl_val (r_loadB1 ti3.und rfl rfl (hS2.heap (.head _)) rfl) rfl ?_
  refine wl_dec (r_lss rfl rfl) rfl (fun h1_2 => ?_) (fun h1_2 => ?_)
  · refine wl_val (r_move (v := .bool _) rfl) rfl ?_
    refine wl_not rfl ?_; refine wl_not rfl ?_; refine wl_not rfl ?_; refine wl_val (r_pick_t rfl (v := .bool true) rfl) rfl ?_; refine wl_val (r_move (v := .bool _) rfl) rfl ?_; refine wl_not rfl ?_; refine wl_not rfl ?_; refine wl_not rfl ?_; refine wl_val (r_pick_t rfl (v := .bool true) rfl) rfl ?_; refine wl_val (r_move (v := .bool _) rfl) rfl ?_; refine wl_not rfl ?_; refine wl_not rfl ?_; refine wl_not rfl ?_; refine wl_val (r_pick_t rfl (v := .bool true) rfl) rfl ?_; refine wl_nil ?_; refine c_then ?_; refine c_true rfl ?_; refine c_seq ?_; refine c_region ?_; refine wl_val (r_assign (v := .int .i64 4) rfl) rfl ?_; refine wl_nil ?_; refine c_then ?_; refine wp_ret ?_; refine c_thenR ?_; refine ret1 Try.results114 ?_
    first | exact .inl ⟨by omega, rfl, hS2.fin⟩ | exact .inr (.inl ⟨by omega, rfl, hS2.fin⟩) | exact .inr (.inr ⟨by omega, rfl, hS2.fin⟩)
  refine wl_val (r_move (v := .bool _) rfl) rfl ?_; refine wl_val (r_field fa55_0 rfl) rfl ?_; refine wl_val (r_loadB1 ti3.und rfl rfl (hS2.heap (.head _)) rfl) rfl ?_
  refine wl_dec (r_gtr rfl rfl) rfl (fun h1_6 => ?_) (fun h1_6 => ?_)
  · refine wl_val (r_pick_f rfl (v := .bool _) rfl) rfl ?_
    refine wl_val (r_move (v := .bool _) rfl) rfl ?_; refine wl_not rfl ?_; refine wl_not rfl ?_; refine wl_not rfl ?_; refine wl_val (r_pick_t rfl (v := .bool true) rfl) rfl ?_; refine wl_val (r_move (v := .bool _) rfl) rfl ?_; refine wl_not rfl ?_; refine wl_not rfl ?_; refine wl_not rfl ?_; refine wl_val (r_pick_t rfl (v := .bool true) rfl) rfl ?_; refine wl_nil ?_; refine c_then ?_; refine c_true rfl ?_; refine c_seq ?_; refine c_region ?_; refine wl_val (r_assign (v := .int .i64 4) rfl) rfl ?_; refine wl_nil ?_; refine c_then ?_; refine wp_ret ?_; refine c_thenR ?_; refine ret1 Try.results114 ?_
    first | exact .inl ⟨by omega, rfl, hS2.fin⟩ | exact .inr (.inl ⟨by omega, rfl, hS2.fin⟩) | exact .inr (.inr ⟨by omega, rfl, hS2.fin⟩)
  refine wl_val (r_pick_f rfl (v := .bool _) rfl) rfl ?_; refine wl_val (r_move (v := .bool _) rfl) rfl ?_; refine wl_val (r_field fa55_1 rfl) rfl ?_; refine wl_val (r_loadB1 ti3.und rfl rfl (hS2.heap (.head _)) rfl) rfl ?_
  refine wl_dec (r_lss rfl rfl) rfl (fun h1_11 => ?_) (fun h1_11 => ?_)
  · refine wl_val (r_pick_f rfl (v := .bool _) rfl) rfl ?_
    refine wl_val (r_move (v := .bool _) rfl) rfl ?_; refine wl_not rfl ?_; refine wl_not rfl ?_; refine wl_not rfl ?_; refine wl_val (r_pick_t rfl (v := .bool true) rfl) rfl ?_; refine wl_nil ?_; refine c_then ?_; refine c_true rfl ?_; refine c_seq ?_; refine c_region ?_; refine wl_val (r_assign (v := .int .i64 4) rfl) rfl ?_; refine wl_nil ?_; refine c_then ?_; refine wp_ret ?_; refine c_thenR ?_; refine ret1 Try.results114 ?_
    first | exact .inl ⟨by omega, rfl, hS2.fin⟩ | exact .inr (.inl ⟨by omega, rfl, hS2.fin⟩) | exact .inr (.inr ⟨by omega, rfl, hS2.fin⟩)
  refine wl_val (r_pick_f rfl (v := .bool _) rfl) rfl ?_; refine wl_val (r_move (v := .bool _) rfl) rfl ?_; refine wl_val (r_field fa55_1 rfl) rfl ?_; refine wl_val (r_loadB1 ti3.und rfl rfl (hS2.heap (.head _)) rfl) rfl ?_
  refine wl_dec (r_gtr rfl rfl) rfl (fun h1_16 => ?_) (fun h1_16 => ?_)
  · refine wl_val (r_pick_f rfl (v := .bool _) rfl) rfl ?_
    refine wl_nil ?_; refine c_then ?_; refine c_true rfl ?_; refine c_seq ?_; refine c_region ?_; refine wl_val (r_assign (v := .int .i64 4) rfl) rfl ?_; refine wl_nil ?_; refine c_then ?_; refine wp_ret ?_; refine c_thenR ?_; refine ret1 Try.results114 ?_
    first | exact .inl ⟨by omega, rfl, hS2.fin⟩ | exact .inr (.inl ⟨by omega, rfl, hS2.fin⟩) | exact .inr (.inr ⟨by omega, rfl, hS2.fin⟩)
  refine wl_val (r_pick_f rfl (v := .bool _) rfl) rfl ?_; refine wl_nil ?_; refine c_then ?_; refine c_false rfl ?_; refine wp_skip ?_; refine c_then ?_; refine c_seq ?_; refine c_seq ?_; refine c_region ?_; refine wl_val (r_field fa55_2 rfl) rfl ?_; refine wl_val (r_loadB1 ti53.und rfl rfl (hS2.heap (.head _)) rfl) rfl ?_; refine wl_val (r_len (T := 53) rfl ti53.und rfl _ rfl) rfl ?_
  refine wl_dec (r_gtr rfl rfl) rfl (fun h3_3 => ?_) (fun h3_3 => ?_)
  · refine wl_nil ?_
    refine c_then ?_; refine c_true rfl ?_; refine c_seq ?_; refine c_region ?_; refine wl_val (r_assign (v := .int .i64 5) rfl) rfl ?_; refine wl_nil ?_; refine c_then ?_; refine wp_ret ?_; refine c_thenR ?_; refine ret1 Try.results114 ?_
    first | exact .inl ⟨by omega, rfl, hS2.fin⟩ | exact .inr (.inl ⟨by omega, rfl, hS2.fin⟩) | exact .inr (.inr ⟨by omega, rfl, hS2.fin⟩)
  refine wl_nil ?_; refine c_then ?_; refine c_false rfl ?_; refine wp_skip ?_; refine c_then ?_; refine c_seq ?_; refine c_region ?_; refine wl_val (r_assign (v := .int .i64 0) rfl) rfl ?_; refine wl_nil ?_; refine c_then ?_; refine wp_ret ?_; refine ret1 Try.results114 ?_
  first | exact .inl ⟨by omega, rfl, hS2.fin⟩ | exact .inr (.inl ⟨by omega, rfl, hS2.fin⟩) | exact .inr (.inr ⟨by omega, rfl, hS2.fin⟩)

theorem printProof_ok (ix sz : Int) (pa : Option Addr) (pc : Nat) (pl : List (List UInt8)) (w : World) (hp : Row w pa (pl.flatten.map b8)) (h32 : S32 pl) (hpc : pl.length ≤ pc) :
    Ret Try.prog 34 [.agg #[.int .i64 ix, .int .i64 sz, .slice pa pl.length pc]] w (fun v w' => ((ix < 0 ∨ 65536 < ix ∨ sz < 0 ∨ 65536 < sz) ∧ v = .tuple #[.slice none 0 0, vi 4] ∧ St w [] w' []) ∨ ((0 ≤ ix ∧ ix ≤ 65536 ∧ 0 ≤ sz ∧ sz ≤ 65536 ∧ 64 < pl.length) ∧ v = .tuple #[.slice none 0 0, vi 5] ∧ St w [] w' []) ∨ ((0 ≤ ix ∧ ix ≤ 65536 ∧ 0 ≤ sz ∧ sz ≤ 65536 ∧ pl.length ≤ 64) ∧ ∃ a' c', v = .tuple #[.slice a' (20 + 32 * pl.length) c', vi 0] ∧ (20 + 32 * pl.length) ≤ c' ∧ St w [] w' [.row (.slice a' (20 + 32 * pl.length) c') 5 1 (20 + 32 * pl.length) ((printL ix sz pl).map b8)])) := by
  refine enter Try.func34 rfl Try.ntmps34 rfl ?_
  have hS := St.refl w []
  refine c_seq ?_; refine c_region ?_; refine wl_exv (x_box hS (v := .agg _) rfl rfl) rfl ?_; rintro _ w1 ⟨b1, rfl, hS2⟩; refine wl_val (r_assign (v := .slice none 0 0) rfl) rfl ?_; refine wl_val (r_assign (v := .int .i64 0) rfl) rfl ?_; refine wl_nil ?_; refine c_then ?_; refine c_seq ?_; refine c_seq ?_; refine c_region ?_; refine wl_val (r_loadB ti55 ag55 rfl (hS2.heap (.head _)) (by first | (simp [*]; done) | (simp [*] <;> omega) | omega)) rfl ?_; refine wl_call (r_call fn114 rfl rfl) rfl (proofFault_ok ix sz pa pl.length pc _) ?_
  rintro _ w3 (⟨hf, rfl, hx4⟩ | ⟨hf, rfl, hx4⟩ | ⟨hf, rfl, hx4⟩)
  · have hS5 := hS2.ext hx4
    refine wl_val (r_assign (v := .int .i64 _) rfl) rfl ?_; refine wl_nil ?_; refine c_then ?_; refine c_seq ?_; refine c_region ?_; refine wl_val (r_move (v := .int .i64 _) rfl) rfl ?_; refine wl_dec_t (r_neq rfl rfl) rfl (by decide) ?_; refine wl_nil ?_; refine c_then ?_; refine c_true rfl ?_; refine c_seq ?_; refine c_region ?_; refine wl_val (r_move (v := .int .i64 _) rfl) rfl ?_; refine wl_val (r_assign (v := .slice none 0 0) rfl) rfl ?_; refine wl_val (r_assign (v := .int .i64 _) rfl) rfl ?_; refine wl_nil ?_; refine c_then ?_; refine wp_ret ?_; refine c_thenR ?_; refine ret2 Try.results34 rfl rfl ?_
    first | exact .inl ⟨by omega, rfl, hS5.fin⟩ | exact .inr (.inl ⟨by omega, rfl, hS5.fin⟩) | skip
  · have hS5 := hS2.ext hx4
    refine wl_val (r_assign (v := .int .i64 _) rfl) rfl ?_; refine wl_nil ?_; refine c_then ?_; refine c_seq ?_; refine c_region ?_; refine wl_val (r_move (v := .int .i64 _) rfl) rfl ?_; refine wl_dec_t (r_neq rfl rfl) rfl (by decide) ?_; refine wl_nil ?_; refine c_then ?_; refine c_true rfl ?_; refine c_seq ?_; refine c_region ?_; refine wl_val (r_move (v := .int .i64 _) rfl) rfl ?_; refine wl_val (r_assign (v := .slice none 0 0) rfl) rfl ?_; refine wl_val (r_assign (v := .int .i64 _) rfl) rfl ?_; refine wl_nil ?_; refine c_then ?_; refine wp_ret ?_; refine c_thenR ?_; refine ret2 Try.results34 rfl rfl ?_
    first | exact .inl ⟨by omega, rfl, hS5.fin⟩ | exact .inr (.inl ⟨by omega, rfl, hS5.fin⟩) | skip
  have hS5 := hS2.ext hx4
  refine wl_val (r_assign (v := .int .i64 _) rfl) rfl ?_; refine wl_nil ?_; refine c_then ?_; refine c_seq ?_; refine c_region ?_; refine wl_val (r_move (v := .int .i64 _) rfl) rfl ?_; refine wl_dec_f (r_neq rfl rfl) rfl (by decide) ?_; refine wl_nil ?_; refine c_then ?_; refine c_false rfl ?_; refine wp_skip ?_; refine c_then ?_; refine c_seq ?_; refine c_drawS 5 hMixed hS5 ?_; intro w6 hS7; refine g_take 0 rfl (by decide +kernel) rfl (fun _ _ _ h => h) hS7 (fun wF hF => r_field fa55_0 rfl) ?_; refine g_take 1 rfl (by decide +kernel) rfl (fun _ _ _ h => h) hS7 (fun wF hF => r_loadB1 ti3.und rfl rfl (hF.heap (.head _)) rfl) ?_; refine g_take 3 rfl (by decide +kernel) rfl (fun _ _ _ h => h) hS7 (fun wF hF => r_field fa55_1 rfl) ?_; refine g_take 4 rfl (by decide +kernel) rfl (fun _ _ _ h => h) hS7 (fun wF hF => r_loadB1 ti3.und rfl rfl (hF.heap (.head _)) rfl) ?_; refine g_one 2 (by decide +kernel) (by decide +kernel) ?_; refine o_call rfl (r_call fn115 rfl rfl) rfl (putLong_ok [] none 0 ix _ Row.nil (by decide)) ?_; rintro _ w8 ⟨a15, c15, rfl, hc15, hx9⟩
  have hS10 := hS7.call hx9
  simp only [List.cons_append, List.nil_append] at hS10
  refine ⟨hS10.drop1, ?_⟩
  refine g_tail (by decide +kernel) rfl (by decide +kernel) ?_; refine wl_call (r_call fn115 rfl rfl) rfl (putLong_ok _ _ _ _ _ (St.rowAt hS10 (.head _)) (by first | (simp [*]; done) | (simp [*] <;> omega) | omega)) ?_; rintro _ w11 ⟨a18, c18, rfl, hc18, hx12⟩
  have hS13 := hS10.call hx12
  simp only [List.cons_append, List.nil_append] at hS13; refine wl_val (r_assign (v := .slice _ _ _) rfl) rfl ?_; refine wl_nil ?_; refine c_then ?_; refine c_seq ?_; refine c_region ?_; refine wl_val (r_move (v := .slice _ _ _) rfl) rfl ?_; refine wl_val (r_field fa55_2 rfl) rfl ?_; refine wl_val (r_loadB1 ti53.und rfl rfl (hS13.heap (.tail _ (.tail _ (.head _)))) rfl) rfl ?_; refine wl_val (r_len (T := 53) rfl ti53.und rfl _ rfl) rfl ?_; refine wl_val (c_i64_u32 ti155.und ⟨_, ti3.und⟩ rfl (by omega)) rfl ?_; refine wl_call (r_call fn116 rfl rfl) rfl (putNumber_ok _ _ _ _ _ (St.rowAt hS13 (.head _)) (by first | (simp [*]; done) | (simp [*] <;> omega) | omega)) ?_; rintro _ w14 ⟨a24, c24, rfl, hc24, hx15⟩
  have hS16 := hS13.call hx15
  simp only [List.cons_append, List.nil_append] at hS16; refine wl_val (r_assign (v := .slice _ _ _) rfl) rfl ?_; refine wl_nil ?_; refine c_then ?_; refine c_seq ?_; refine c_seq ?_; refine c_region ?_; refine wl_val (r_field fa55_2 rfl) rfl ?_; refine wl_val (r_loadB1 ti53.und rfl rfl (hS16.heap (.tail _ (.tail _ (.tail _ (.head _))))) rfl) rfl ?_; refine wl_val (r_len (T := 53) rfl ti53.und rfl _ rfl) rfl ?_; refine wl_val (r_move (v := .int .i64 0) rfl) rfl ?_; refine wl_nil ?_; refine c_then ?_; refine c_block ?_
  obtain ⟨LT17, hLT17, hS18⟩ := St.frame [_] [_, _, _] hS16
  simp only [List.cons_append, List.nil_append] at hS18
  have hm17_r18 := inL hLT17 (.head _)
  have hm17_r15 := inL hLT17 (.tail _ (.head _))
  have hm17_b1 := inL hLT17 (.tail _ (.tail _ (.head _)))
  refine c_loopE [2, 3, 26, 27] (fun d e w' => ∃ (k : Nat) (a5 : Option Addr) (n5 : Nat) (c5 : Nat), Kw.look e 28 = vi k ∧ Kw.look e 5 = .slice a5 n5 c5 ∧ d = pl.length - k ∧ St w [] w' (.row (.slice a5 n5 c5) 5 1 n5 ((pbase ix sz pl.length ++ (pl.take k).flatten).map b8) :: LT17) ∧ (k ≤ pl.length) ∧ (n5 = 20 + 32 * k) ∧ (n5 ≤ c5)) (pl.length - 0) ?_ ?_
  have hpb : (octs8 (UInt64.ofNat (putN ix)) ++ octs8 (UInt64.ofNat (putN sz))) ++ octs (UInt32.ofNat pl.length) = pbase ix sz pl.length ++ (pl.take 0).flatten := by simp [pbase, putN_nat hf.1 hf.2.1, putN_nat hf.2.2.1 hf.2.2.2.1]
  rw [hpb] at hS18
  · exact ⟨0, _, _, _, rfl, congrArg (fun n => Value.slice a24 n c24) (by rw [← hpb]; rfl), rfl, hS18, Nat.zero_le _, by simp [pbase_len], by rw [← hpb]; exact hc24⟩
  · rintro d22 e19 w20 ⟨k, a5, n5, c5, hc0_28, hc0_5, rfl, hS21, hk, hn5, hc5⟩ -
    refine c_set (d := 28) hc0_28 ?_; refine c_set (d := 5) hc0_5 ?_; refine c_seq ?_; refine c_region ?_
    refine wl_dec (r_lss rfl rfl) rfl (fun h7_0 => ?_) (fun h7_0 => ?_)
    · refine wl_nil ?_
      refine c_then ?_; refine c_seq ?_; refine c_true rfl ?_; refine wp_skip ?_; refine c_then ?_; refine c_seq ?_; refine c_block ?_; refine c_seq ?_; refine c_region ?_; refine wl_val (r_ix32 ti53.und ti49 rfl rfl (hp.st hS21) h32 (by first | (simp [*]; done) | (simp [*] <;> omega) | omega) (by first | omega | (simp [*]; done) | (simp [*] <;> omega))) rfl ?_; refine wl_val (r_load32 ti49 rfl rfl (hp.st hS21) h32 (by first | omega | (simp [*]; done) | (simp [*] <;> omega))) rfl ?_; refine wl_exv (x_alloc (C := ((List.replicate 32 (0 : UInt8)).map b8)) hS21 ti49 rfl) rfl ?_; rintro _ w23 ⟨b7, rfl, hS24⟩; refine wl_exs (x_storeW [] hS24 ti49 rfl rfl (by rw [List.length_map]; exact h32.gt (by omega)) (by simp) (one_b8 _)) rfl ?_; intro w25 hS26; simp only [List.cons_append, List.nil_append] at hS26; refine wl_nil ?_; refine c_then ?_; refine c_region ?_; refine wl_val (r_move (v := .slice _ _ _) rfl) rfl ?_; refine wl_val (r_sa1_0 ti49.und ti5 rfl ) rfl ?_; refine wl_exv (x_append [_] hS26 ti22.und ti5 rfl (by decide) rfl rfl (Row.of_at (at_all (hS26.heap (.head _)))) (by rw [List.length_map, h32.gt (by omega)]) (by first | exact one_b8 _ | exact one_v32 _ | (intro c hc; simp only [List.mem_cons, List.not_mem_nil, or_false] at hc; (first | subst hc | rcases hc with rfl | rfl) <;> rfl)) (by omega) (by omega) _ rfl) rfl ?_; rintro _ w27 ⟨aq29, cq29, rfl, hcq29, hS28⟩; simp only [List.cons_append, List.nil_append] at hS28; refine wl_val (r_assign (v := .slice _ _ _) rfl) rfl ?_; refine wl_nil ?_
      refine c_inN ?_; refine c_then ?_; refine c_region ?_; refine wl_val (r_addn (b := 1) rfl rfl (by omega)) rfl ?_; refine wl_val (r_move (v := .int .i64 _) rfl) rfl ?_; refine wl_nil ?_; refine c_then ?_
      rw [← List.map_append, List.append_assoc, ← flat_take1 pl k (by omega)] at hS28
      exact ⟨pl.length - (k + 1), _, by omega, rfl, ⟨k + 1, _, _, _, rfl, rfl, rfl, hS28.drop1, by omega, by omega, by assumption⟩, ⟨rfl, rfl, rfl, rfl, trivial⟩⟩
    refine wl_nil ?_; refine c_then ?_; refine c_seq ?_; refine c_false rfl ?_; refine wp_exit ?_; refine c_thenE ?_; refine c_thenE ?_; refine c_inE ?_; refine c_then ?_; refine c_seq ?_; refine c_region ?_; refine wl_val (r_move (v := .slice _ _ _) rfl) rfl ?_; refine wl_val (r_assign (v := .slice _ _ _) rfl) rfl ?_; refine wl_val (r_assign (v := .int .i64 0) rfl) rfl ?_; refine wl_nil ?_; refine c_then ?_; refine wp_ret ?_; refine ret2 Try.results34 rfl rfl ?_
    obtain rfl : k = pl.length := by omega
    subst hn5
    rw [List.take_length] at hS21
    exact .inr (.inr ⟨by omega, _, _, rfl, hc5, (St.front [_] hS21)⟩)

theorem rshort_ok (n : Nat) (w : World) (hn : n ≤ 9223372036854775807) :
    Ret Try.prog 118 [vi n] w (fun v w' => ∃ b, v = .slice (some ⟨b, 4, none⟩) 4 4 ∧ St w [] w' [.blk b (cl ((octs8 (UInt64.ofNat n)).map b8) 5)]) := by
  refine enter Try.func118 rfl Try.ntmps118 rfl ?_
  have hS := St.refl w []
  refine c_seq ?_; refine c_region ?_; refine wl_val (r_assign (v := .slice none 0 0) rfl) rfl ?_; refine wl_nil ?_; refine c_then ?_; refine c_seq ?_; refine c_region ?_; refine wl_val (r_move (v := .int .i64 _) rfl) rfl ?_; refine wl_call (r_call fn117 rfl rfl) rfl (rlong_ok _ _ (by omega)) ?_; rintro _ w1 ⟨b4, rfl, hx2⟩
  have hS3 := hS.call hx2
  simp only [List.cons_append, List.nil_append] at hS3; refine wl_val (r_sl_l (l := 4) ti22.und ti5 rfl rfl (by omega)) rfl ?_; refine wl_val (r_assign (v := .slice _ _ _) rfl) rfl ?_; refine wl_nil ?_; refine c_then ?_; refine wp_ret ?_; refine ret1 Try.results118 ?_
  exact ⟨_, rfl, hS3⟩

theorem rprintProof_ok (ix sz : Int) (pa : Option Addr) (pc : Nat) (pl : List (List UInt8)) (w : World) (hp : Row w pa (pl.flatten.map b8)) (h32 : S32 pl) (hpc : pl.length ≤ pc) :
    Ret Try.prog 35 [.agg #[.int .i64 ix, .int .i64 sz, .slice pa pl.length pc]] w (fun v w' => ((ix < 0 ∨ 65536 < ix ∨ sz < 0 ∨ 65536 < sz) ∧ v = .tuple #[.slice none 0 0, vi 4] ∧ St w [] w' []) ∨ ((0 ≤ ix ∧ ix ≤ 65536 ∧ 0 ≤ sz ∧ sz ≤ 65536 ∧ 64 < pl.length) ∧ v = .tuple #[.slice none 0 0, vi 5] ∧ St w [] w' []) ∨ ((0 ≤ ix ∧ ix ≤ 65536 ∧ 0 ≤ sz ∧ sz ≤ 65536 ∧ pl.length ≤ 64) ∧ ∃ a' c', v = .tuple #[.slice a' (20 + 32 * pl.length) c', vi 0] ∧ (20 + 32 * pl.length) ≤ c' ∧ St w [] w' [.row (.slice a' (20 + 32 * pl.length) c') 5 1 (20 + 32 * pl.length) ((printL ix sz pl).map b8)])) := by
  refine enter Try.func35 rfl Try.ntmps35 rfl ?_
  have hS := St.refl w []
  refine c_seq ?_; refine c_region ?_; refine wl_exv (x_box hS (v := .agg _) rfl rfl) rfl ?_; rintro _ w1 ⟨b1, rfl, hS2⟩; refine wl_val (r_assign (v := .slice none 0 0) rfl) rfl ?_; refine wl_val (r_assign (v := .int .i64 0) rfl) rfl ?_; refine wl_nil ?_; refine c_then ?_; refine c_seq ?_; refine c_seq ?_; refine c_region ?_; refine wl_val (r_field fa55_0 rfl) rfl ?_; refine wl_val (r_loadB1 ti3.und rfl rfl (hS2.heap (.head _)) rfl) rfl ?_
  refine wl_dec (r_lss rfl rfl) rfl (fun h1_2 => ?_) (fun h1_2 => ?_)
  · refine wl_val (r_move (v := .bool _) rfl) rfl ?_
    refine wl_not rfl ?_; refine wl_not rfl ?_; refine wl_not rfl ?_; refine wl_val (r_pick_t rfl (v := .bool true) rfl) rfl ?_; refine wl_val (r_move (v := .bool _) rfl) rfl ?_; refine wl_not rfl ?_; refine wl_not rfl ?_; refine wl_not rfl ?_; refine wl_val (r_pick_t rfl (v := .bool true) rfl) rfl ?_; refine wl_val (r_move (v := .bool _) rfl) rfl ?_; refine wl_not rfl ?_; refine wl_not rfl ?_; refine wl_not rfl ?_; refine wl_val (r_pick_t rfl (v := .bool true) rfl) rfl ?_; refine wl_nil ?_; refine c_then ?_; refine c_true rfl ?_; refine c_seq ?_; refine c_region ?_; refine wl_val (r_assign (v := .slice none 0 0) rfl) rfl ?_; refine wl_val (r_assign (v := .int .i64 4) rfl) rfl ?_; refine wl_nil ?_; refine c_then ?_; refine wp_ret ?_; refine c_thenR ?_; refine ret2 Try.results35 rfl rfl ?_
    first | exact .inl ⟨by omega, rfl, hS2.fin⟩ | exact .inr (.inl ⟨by omega, rfl, hS2.fin⟩) | skip
  refine wl_val (r_move (v := .bool _) rfl) rfl ?_; refine wl_val (r_field fa55_0 rfl) rfl ?_; refine wl_val (r_loadB1 ti3.und rfl rfl (hS2.heap (.head _)) rfl) rfl ?_
  refine wl_dec (r_gtr rfl rfl) rfl (fun h1_6 => ?_) (fun h1_6 => ?_)
  · refine wl_val (r_pick_f rfl (v := .bool _) rfl) rfl ?_
    refine wl_val (r_move (v := .bool _) rfl) rfl ?_; refine wl_not rfl ?_; refine wl_not rfl ?_; refine wl_not rfl ?_; refine wl_val (r_pick_t rfl (v := .bool true) rfl) rfl ?_; refine wl_val (r_move (v := .bool _) rfl) rfl ?_; refine wl_not rfl ?_; refine wl_not rfl ?_; refine wl_not rfl ?_; refine wl_val (r_pick_t rfl (v := .bool true) rfl) rfl ?_; refine wl_nil ?_; refine c_then ?_; refine c_true rfl ?_; refine c_seq ?_; refine c_region ?_; refine wl_val (r_assign (v := .slice none 0 0) rfl) rfl ?_; refine wl_val (r_assign (v := .int .i64 4) rfl) rfl ?_; refine wl_nil ?_; refine c_then ?_; refine wp_ret ?_; refine c_thenR ?_; refine ret2 Try.results35 rfl rfl ?_
    first | exact .inl ⟨by omega, rfl, hS2.fin⟩ | exact .inr (.inl ⟨by omega, rfl, hS2.fin⟩) | skip
  refine wl_val (r_pick_f rfl (v := .bool _) rfl) rfl ?_; refine wl_val (r_move (v := .bool _) rfl) rfl ?_; refine wl_val (r_field fa55_1 rfl) rfl ?_; refine wl_val (r_loadB1 ti3.und rfl rfl (hS2.heap (.head _)) rfl) rfl ?_
  refine wl_dec (r_lss rfl rfl) rfl (fun h1_11 => ?_) (fun h1_11 => ?_)
  · refine wl_val (r_pick_f rfl (v := .bool _) rfl) rfl ?_
    refine wl_val (r_move (v := .bool _) rfl) rfl ?_; refine wl_not rfl ?_; refine wl_not rfl ?_; refine wl_not rfl ?_; refine wl_val (r_pick_t rfl (v := .bool true) rfl) rfl ?_; refine wl_nil ?_; refine c_then ?_; refine c_true rfl ?_; refine c_seq ?_; refine c_region ?_; refine wl_val (r_assign (v := .slice none 0 0) rfl) rfl ?_; refine wl_val (r_assign (v := .int .i64 4) rfl) rfl ?_; refine wl_nil ?_; refine c_then ?_; refine wp_ret ?_; refine c_thenR ?_; refine ret2 Try.results35 rfl rfl ?_
    first | exact .inl ⟨by omega, rfl, hS2.fin⟩ | exact .inr (.inl ⟨by omega, rfl, hS2.fin⟩) | skip
  refine wl_val (r_pick_f rfl (v := .bool _) rfl) rfl ?_; refine wl_val (r_move (v := .bool _) rfl) rfl ?_; refine wl_val (r_field fa55_1 rfl) rfl ?_; refine wl_val (r_loadB1 ti3.und rfl rfl (hS2.heap (.head _)) rfl) rfl ?_
  refine wl_dec (r_gtr rfl rfl) rfl (fun h1_16 => ?_) (fun h1_16 => ?_)
  · refine wl_val (r_pick_f rfl (v := .bool _) rfl) rfl ?_
    refine wl_nil ?_; refine c_then ?_; refine c_true rfl ?_; refine c_seq ?_; refine c_region ?_; refine wl_val (r_assign (v := .slice none 0 0) rfl) rfl ?_; refine wl_val (r_assign (v := .int .i64 4) rfl) rfl ?_; refine wl_nil ?_; refine c_then ?_; refine wp_ret ?_; refine c_thenR ?_; refine ret2 Try.results35 rfl rfl ?_
    first | exact .inl ⟨by omega, rfl, hS2.fin⟩ | exact .inr (.inl ⟨by omega, rfl, hS2.fin⟩) | skip
  refine wl_val (r_pick_f rfl (v := .bool _) rfl) rfl ?_; refine wl_nil ?_; refine c_then ?_; refine c_false rfl ?_; refine wp_skip ?_; refine c_then ?_; refine c_seq ?_; refine c_seq ?_; refine c_region ?_; refine wl_val (r_field fa55_2 rfl) rfl ?_; refine wl_val (r_loadB1 ti53.und rfl rfl (hS2.heap (.head _)) rfl) rfl ?_; refine wl_val (r_len (T := 53) rfl ti53.und rfl _ rfl) rfl ?_
  refine wl_dec (r_gtr rfl rfl) rfl (fun h3_3 => ?_) (fun h3_3 => ?_)
  · refine wl_nil ?_
    refine c_then ?_; refine c_true rfl ?_; refine c_seq ?_; refine c_region ?_; refine wl_val (r_assign (v := .slice none 0 0) rfl) rfl ?_; refine wl_val (r_assign (v := .int .i64 5) rfl) rfl ?_; refine wl_nil ?_; refine c_then ?_; refine wp_ret ?_; refine c_thenR ?_; refine ret2 Try.results35 rfl rfl ?_
    first | exact .inl ⟨by omega, rfl, hS2.fin⟩ | exact .inr (.inl ⟨by omega, rfl, hS2.fin⟩) | skip
  refine wl_nil ?_; refine c_then ?_; refine c_false rfl ?_; refine wp_skip ?_; refine c_then ?_; refine c_seq ?_
  obtain ⟨sz', rfl⟩ : ∃ i : Nat, sz = (i : Int) := ⟨sz.toNat, (by omega)⟩
  obtain ⟨ix', rfl⟩ : ∃ i : Nat, ix = (i : Int) := ⟨ix.toNat, (by omega)⟩
  refine c_drawS 10 hMixed hS2 ?_; intro w3 hS4; refine g_take 0 rfl (by decide +kernel) rfl (fun _ _ _ h => h) hS4 (fun wF hF => r_field fa55_0 rfl) ?_; refine g_take 1 rfl (by decide +kernel) rfl (fun _ _ _ h => h) hS4 (fun wF hF => r_loadB1 ti3.und rfl rfl (hF.heap (.head _)) rfl) ?_; refine g_take 3 rfl (by decide +kernel) rfl (fun _ _ _ h => h) hS4 (fun wF hF => r_field fa55_1 rfl) ?_; refine g_take 4 rfl (by decide +kernel) rfl (fun _ _ _ h => h) hS4 (fun wF hF => r_loadB1 ti3.und rfl rfl (hF.heap (.head _)) rfl) ?_; refine g_take 7 rfl (by decide +kernel) rfl (fun _ _ _ h => h) hS4 (fun wF hF => r_field fa55_2 rfl) ?_; refine g_take 8 rfl (by decide +kernel) rfl (fun _ _ _ h => h) hS4 (fun wF hF => r_loadB1 ti53.und rfl rfl (hF.heap (.head _)) rfl) ?_; refine g_take 9 rfl (by decide +kernel) rfl (fun _ _ _ h => h) hS4 (fun wF hF => r_len (T := 53) rfl ti53.und rfl _ rfl) ?_; refine g_one 2 (by decide +kernel) (by decide +kernel) ?_; refine o_call rfl (r_call fn117 rfl rfl) rfl (rlong_row ix' _ (by omega)) ?_; rintro _ w5 ⟨a31, c31, rfl, hc31, hx6⟩
  have hS7 := hS4.call hx6
  simp only [List.cons_append, List.nil_append] at hS7
  refine ⟨hS7.drop1, ?_⟩
  refine g_one 5 (by decide +kernel) (by decide +kernel) ?_; refine o_call rfl (r_call fn117 rfl rfl) rfl (rlong_ok sz' _ (by omega)) ?_; rintro _ w8 ⟨b34, rfl, hx9⟩
  have hS10 := hS7.call hx9
  simp only [List.cons_append, List.nil_append] at hS10
  refine ⟨hS10.drop1.drop1, ?_⟩
  refine g_one 6 (by decide +kernel) (by decide +kernel) ?_; refine o_exv rfl (x_append [_] hS10 ti22.und ti5 rfl (by decide) rfl rfl (Row.of_at (at_all (hS10.heap (.head _)))) (by first | (simp [*]; done) | (simp [*] <;> omega) | omega) (by first | exact one_b8 _ | exact one_v32 _ | (intro c hc; simp only [List.mem_cons, List.not_mem_nil, or_false] at hc; (first | subst hc | rcases hc with rfl | rfl) <;> rfl)) (by first | omega | (simp [*]; done) | (simp [*] <;> omega)) (by first | omega | (simp [*]; done) | (simp [*] <;> omega)) _ rfl) rfl ?_; rintro _ w11 ⟨aq13, cq13, rfl, hcq13, hS12⟩; simp only [List.cons_append, List.nil_append] at hS12
  refine ⟨hS12.drop1.drop1, ?_⟩
  refine g_tail (by decide +kernel) rfl (by decide +kernel) ?_; refine wl_call (r_call fn118 rfl rfl) rfl (rshort_ok pl.length _ (by omega)) ?_; rintro _ w14 ⟨b39, rfl, hx15⟩
  have hS16 := hS12.call hx15
  simp only [List.cons_append, List.nil_append] at hS16; refine wl_exv (x_append [_, _] hS16 ti22.und ti5 rfl (by decide) rfl rfl (Row.of_at (short_at (hS16.heap (.head _)))) (by first | (simp [*]; done) | (simp [*] <;> omega) | omega) (by first | exact one_b8 _ | exact one_v32 _ | (intro c hc; simp only [List.mem_cons, List.not_mem_nil, or_false] at hc; (first | subst hc | rcases hc with rfl | rfl) <;> rfl)) (by first | omega | (simp [*]; done) | (simp [*] <;> omega)) (by first | omega | (simp [*]; done) | (simp [*] <;> omega)) _ rfl) rfl ?_; rintro _ w17 ⟨aq19, cq19, rfl, hcq19, hS18⟩; simp only [List.cons_append, List.nil_append] at hS18; refine wl_val (r_assign (v := .slice _ _ _) rfl) rfl ?_; refine wl_nil ?_; refine c_then ?_; refine c_seq ?_; refine c_seq ?_; refine c_region ?_; refine wl_val (r_field fa55_2 rfl) rfl ?_; refine wl_val (r_loadB1 ti53.und rfl rfl (hS18.heap (.tail _ (.tail _ (.tail _ (.head _))))) rfl) rfl ?_; refine wl_val (r_len (T := 53) rfl ti53.und rfl _ rfl) rfl ?_; refine wl_val (r_move (v := .int .i64 0) rfl) rfl ?_; refine wl_nil ?_; refine c_then ?_; refine c_block ?_
  obtain ⟨LT20, hLT20, hS21⟩ := St.frame [_] [_, _, _] (hS18.perm ((List.Perm.cons _ (List.Perm.refl _)).trans (List.perm_middle (l₁ := [_, _])).symm))
  simp only [List.cons_append, List.nil_append] at hS21
  have hm20_b39 := inL hLT20 (.head _)
  have hm20_b34 := inL hLT20 (.tail _ (.head _))
  have hm20_b1 := inL hLT20 (.tail _ (.tail _ (.head _)))
  refine c_loopE [2, 3, 42, 43] (fun d e w' => ∃ (k : Nat) (a5 : Option Addr) (n5 : Nat) (c5 : Nat), Kw.look e 44 = vi k ∧ Kw.look e 4 = .slice a5 n5 c5 ∧ d = pl.length - k ∧ St w [] w' (.row (.slice a5 n5 c5) 5 1 n5 ((pbase ix' sz' pl.length ++ (pl.take k).flatten).map b8) :: LT20) ∧ (k ≤ pl.length) ∧ (n5 = 20 + 32 * k) ∧ (n5 ≤ c5)) (pl.length - 0) ?_ ?_
  have hpb : ((octs8 (UInt64.ofNat ix')).map b8 ++ (octs8 (UInt64.ofNat sz')).map b8) ++ (octs (UInt32.ofNat pl.length)).map b8 = (pbase ix' sz' pl.length ++ (pl.take 0).flatten).map b8 := by simp [pbase]
  rw [hpb] at hS21
  · exact ⟨0, _, _, _, rfl, rfl, rfl, hS21, Nat.zero_le _, rfl, hcq19⟩
  · rintro d25 e22 w23 ⟨k, a5, n5, c5, hc0_44, hc0_4, rfl, hS24, hk, hn5, hc5⟩ -
    refine c_set (d := 44) hc0_44 ?_; refine c_set (d := 4) hc0_4 ?_; refine c_seq ?_; refine c_region ?_
    refine wl_dec (r_lss rfl rfl) rfl (fun h7_0 => ?_) (fun h7_0 => ?_)
    · refine wl_nil ?_
      refine c_then ?_; refine c_seq ?_; refine c_true rfl ?_; refine wp_skip ?_; refine c_then ?_; refine c_seq ?_; refine c_block ?_; refine c_seq ?_; refine c_region ?_; refine wl_val (r_ix32 ti53.und ti49 rfl rfl (hp.st hS24) h32 (by first | (simp [*]; done) | (simp [*] <;> omega) | omega) (by first | omega | (simp [*]; done) | (simp [*] <;> omega))) rfl ?_; refine wl_val (r_load32 ti49 rfl rfl (hp.st hS24) h32 (by first | omega | (simp [*]; done) | (simp [*] <;> omega))) rfl ?_; refine wl_exv (x_alloc (C := ((List.replicate 32 (0 : UInt8)).map b8)) hS24 ti49 rfl) rfl ?_; rintro _ w26 ⟨b6, rfl, hS27⟩; refine wl_exs (x_storeW [] hS27 ti49 rfl rfl (by rw [List.length_map]; exact h32.gt (by omega)) (by simp) (one_b8 _)) rfl ?_; intro w28 hS29; simp only [List.cons_append, List.nil_append] at hS29; refine wl_nil ?_; refine c_then ?_; refine c_region ?_; refine wl_val (r_move (v := .slice _ _ _) rfl) rfl ?_; refine wl_val (r_sa1_0 ti49.und ti5 rfl ) rfl ?_; refine wl_exv (x_append [_] hS29 ti22.und ti5 rfl (by decide) rfl rfl (Row.of_at (at_all (hS29.heap (.head _)))) (by rw [List.length_map, h32.gt (by omega)]) (by first | exact one_b8 _ | exact one_v32 _ | (intro c hc; simp only [List.mem_cons, List.not_mem_nil, or_false] at hc; (first | subst hc | rcases hc with rfl | rfl) <;> rfl)) (by omega) (by omega) _ rfl) rfl ?_; rintro _ w30 ⟨aq32, cq32, rfl, hcq32, hS31⟩; simp only [List.cons_append, List.nil_append] at hS31; refine wl_val (r_assign (v := .slice _ _ _) rfl) rfl ?_; refine wl_nil ?_
      refine c_inN ?_; refine c_then ?_; refine c_region ?_; refine wl_val (r_addn (b := 1) rfl rfl (by omega)) rfl ?_; refine wl_val (r_move (v := .int .i64 _) rfl) rfl ?_; refine wl_nil ?_; refine c_then ?_
      rw [← List.map_append, List.append_assoc, ← flat_take1 pl k (by omega)] at hS31
      exact ⟨pl.length - (k + 1), _, by omega, rfl, ⟨k + 1, _, _, _, rfl, rfl, rfl, hS31.drop1, by omega, by omega, by assumption⟩, ⟨rfl, rfl, rfl, rfl, trivial⟩⟩
    refine wl_nil ?_; refine c_then ?_; refine c_seq ?_; refine c_false rfl ?_; refine wp_exit ?_; refine c_thenE ?_; refine c_thenE ?_; refine c_inE ?_; refine c_then ?_; refine c_seq ?_; refine c_region ?_; refine wl_val (r_move (v := .slice _ _ _) rfl) rfl ?_; refine wl_val (r_assign (v := .slice _ _ _) rfl) rfl ?_; refine wl_val (r_assign (v := .int .i64 0) rfl) rfl ?_; refine wl_nil ?_; refine c_then ?_; refine wp_ret ?_; refine ret2 Try.results35 rfl rfl ?_
    obtain rfl : k = pl.length := by omega
    subst hn5
    rw [List.take_length] at hS24
    exact .inr (.inr ⟨by omega, _, _, rfl, hc5, (St.front [_] hS24)⟩)

end Go.Proofs.Ytfohfnpehfcaaaa
