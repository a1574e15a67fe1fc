/- For every octets and numbers that are together no bulkier than the bound: chunks that are proved are put together in any order, and one of another text is refused, unless by the reference it leads to the same root; the law's function returns true and turns nothing. Its condition is the statement's own bound on the bulk of what comes in. -/
import Derived.Test.YtflfocmfdlmjiaaPTcAF
import Derived.Test.YtflfocmfdlmjiaaPTcAW
import Derived.Test.YtflfocmfdlmjiaaRows
import Derived.Deep.CondSized
import Derived.JoinedCond
namespace Go.Proofs.Ytflfocmfdlmjiaa.lawTopChunks
open Go.Kw Go.Proofs.Ytflfocmfdlmjiaa
open Go.ChangeShapes Go.WideShapes Go.ChangeAt Go.RowKit
set_option linter.unusedVariables false
set_option linter.unusedSimpArgs false
set_option maxRecDepth 100000
set_option maxHeartbeats 20000000

theorem one_le {H : Type} (d : DataW H) : 1 ≤ Rows.uptoBulk d := by
  cases d with
  | lit l => cases l <;> simp [Rows.uptoBulk]
  | nil => simp [Rows.uptoBulk]
  | ptr d => simp [Rows.uptoBulk]
  | slice elems spare => simp [Rows.uptoBulk]
  | agg parts => simp [Rows.uptoBulk]
  | iface t d => simp [Rows.uptoBulk]
  | map entries => simp [Rows.uptoBulk]
  | held h => simp [Rows.uptoBulk]
theorem length_le {H : Type} (l : List (DataW H)) : l.length ≤ Rows.uptoBulkAll l := by
  induction l with
  | nil => simp [Rows.uptoBulkAll]
  | cons x r ih => have := one_le x; simp only [Rows.uptoBulkAll, List.length_cons]; omega
section
variable {H : Type} {enc : TypeId × Value → H} {P : Program} {W : World} {t e q : TypeId}
/-- A slice's reading is at least as bulky as the slice is long. -/
theorem bulk_slice {fuel n c : Nat} {a : Option Addr} {x : DataW H × List MemPlace} (hu : P.underlying t = some (.slice e)) (h : DataW.trod enc P W 0 (fun _ => true) true fuel t [.slice a n c] = some x) : n + 1 ≤ Rows.uptoBulk x.1 := by
  rcases DataW.trod_slice hu h with ⟨hcs, _⟩ | ⟨a', len, cap, elems, rest, m, _, hcs, hxe, hb, hl, hm, hel, hget, hrest, _⟩
  · simp only [List.cons.injEq, Value.slice.injEq, and_true] at hcs
    have := one_le x.1
    omega
  · simp only [List.cons.injEq, Value.slice.injEq, and_true] at hcs
    subst hxe
    have h2 := length_le (elems.map (·.1))
    simp only [List.length_map] at h2
    simp only [Rows.uptoBulk]
    omega
end
set_option maxHeartbeats 8000000 in
theorem walk (b t : List UInt8) (xs : List Int) (a a2 a3 : Option Addr) (n c n2 c2 c3 : Nat) (w : World) (hb : Row w a (b.map b8)) (hl : b.length = n) (hc : n ≤ c) (ht : Row w a2 (t.map b8)) (hl2 : t.length = n2) (hc2 : n2 ≤ c2) (ho : Row w a3 (xs.map iz)) (hm : xs.length ≤ 1048576) :
    Ret Try.prog 3 [.slice a n c, .slice a2 n2 c2, .slice a3 xs.length c3] w (fun v w' => v = .bool true ∧ St w [] w' []) := by
  refine enter Try.func3 rfl Try.ntmps3 rfl ?_
  have hS := St.refl w []
  refine c_seq ?_; refine c_region ?_; refine wl_val (r_assign (v := .bool false) rfl) rfl ?_; refine wl_nil ?_; refine c_then ?_; refine c_seq ?_; refine c_seq ?_; refine c_region ?_; refine wl_call (r_call fn4 rfl rfl) rfl (landedT_ok _) ?_; rintro _ w1 ⟨rfl, hx2⟩
  have hS3 := hS.ext hx2
  refine wl_val (r_not rfl) rfl ?_; refine wl_nil ?_; refine c_then ?_; refine c_false rfl ?_; refine wp_skip ?_; refine c_then ?_; refine c_seq ?_; refine c_region ?_; refine wl_val (r_move (v := .slice _ _ _) rfl) rfl ?_; refine wl_call (r_call fn5 rfl rfl) rfl (rootOfV_ok n c a b _ (hb.st hS3) hl hc) ?_
  rintro _ w4 (⟨hq, rfl, hx5⟩ | ⟨hq, rfl, hx5⟩ | ⟨hq, rfl, hx5⟩)
  · have hS6 := hS3.ext hx5
    refine wl_val (r_move (v := .tuple _) rfl) rfl ?_; refine wl_val (r_extract (v := .agg _) rfl rfl) rfl ?_; refine wl_val (r_extract (v := .int .i64 _) rfl rfl) rfl ?_; refine wl_val (r_extract (v := .int .i64 _) rfl rfl) rfl ?_; refine wl_exv (x_alloc (C := ((List.replicate 32 (0 : UInt8)).map b8)) hS6 ti26 rfl) rfl ?_; rintro _ w7 ⟨b7, rfl, hS8⟩; refine wl_exs (x_storeW [] hS8 ti26 rfl rfl (by rw [List.length_map]; first | exact rootL_len _ (chLv_32 b) (by rw [chLv_len, hl]; unfold chN; omega) | simp) (by simp) (one_b8 _)) rfl ?_; intro w9 hS10; simp only [List.cons_append, List.nil_append] at hS10; refine wl_val (r_assign (v := .int .i64 _) rfl) rfl ?_; refine wl_val (r_assign (v := .int .i64 _) rfl) rfl ?_; refine wl_nil ?_; refine c_then ?_; refine c_seq ?_; refine c_seq ?_; refine c_region ?_; refine wl_val (r_move (v := .int .i64 _) rfl) rfl ?_; refine wl_dec_t (r_neq rfl rfl) rfl (by decide) ?_; refine wl_val (r_move (v := .bool _) rfl) rfl ?_; refine wl_not rfl ?_; refine wl_not rfl ?_; refine wl_val (r_pick_t rfl (v := .bool true) rfl) rfl ?_; refine wl_nil ?_; refine c_then ?_; refine c_true rfl ?_; refine c_seq ?_; refine c_region ?_; refine wl_val (r_assign (v := .bool true) rfl) rfl ?_; refine wl_nil ?_; refine c_then ?_; refine wp_ret ?_; refine c_thenR ?_; refine ret1 Try.results3 ?_
    exact ⟨rfl, hS10.fin⟩
  · have hS6 := hS3.ext hx5
    refine wl_val (r_move (v := .tuple _) rfl) rfl ?_; refine wl_val (r_extract (v := .agg _) rfl rfl) rfl ?_; refine wl_val (r_extract (v := .int .i64 _) rfl rfl) rfl ?_; refine wl_val (r_extract (v := .int .i64 _) rfl rfl) rfl ?_; refine wl_exv (x_alloc (C := ((List.replicate 32 (0 : UInt8)).map b8)) hS6 ti26 rfl) rfl ?_; rintro _ w11 ⟨b7, rfl, hS12⟩; refine wl_exs (x_storeW [] hS12 ti26 rfl rfl (by rw [List.length_map]; first | exact rootL_len _ (chLv_32 b) (by rw [chLv_len, hl]; unfold chN; omega) | simp) (by simp) (one_b8 _)) rfl ?_; intro w13 hS14; simp only [List.cons_append, List.nil_append] at hS14; refine wl_val (r_assign (v := .int .i64 _) rfl) rfl ?_; refine wl_val (r_assign (v := .int .i64 _) rfl) rfl ?_; refine wl_nil ?_; refine c_then ?_; refine c_seq ?_; refine c_seq ?_; refine c_region ?_; refine wl_val (r_move (v := .int .i64 _) rfl) rfl ?_; refine wl_dec_t (r_neq rfl rfl) rfl (by decide) ?_; refine wl_val (r_move (v := .bool _) rfl) rfl ?_; refine wl_not rfl ?_; refine wl_not rfl ?_; refine wl_val (r_pick_t rfl (v := .bool true) rfl) rfl ?_; refine wl_nil ?_; refine c_then ?_; refine c_true rfl ?_; refine c_seq ?_; refine c_region ?_; refine wl_val (r_assign (v := .bool true) rfl) rfl ?_; refine wl_nil ?_; refine c_then ?_; refine wp_ret ?_; refine c_thenR ?_; refine ret1 Try.results3 ?_
    exact ⟨rfl, hS14.fin⟩
  have hS6 := hS3.ext hx5
  refine wl_val (r_move (v := .tuple _) rfl) rfl ?_; refine wl_val (r_extract (v := .agg _) rfl rfl) rfl ?_; refine wl_val (r_extract (v := .int .i64 _) rfl rfl) rfl ?_; refine wl_val (r_extract (v := .int .i64 _) rfl rfl) rfl ?_; refine wl_exv (x_alloc (C := ((List.replicate 32 (0 : UInt8)).map b8)) hS6 ti26 rfl) rfl ?_; rintro _ w15 ⟨b7, rfl, hS16⟩; refine wl_exs (x_storeW [] hS16 ti26 rfl rfl (by rw [List.length_map]; first | exact rootL_len _ (chLv_32 b) (by rw [chLv_len, hl]; unfold chN; omega) | simp) (by simp) (one_b8 _)) rfl ?_; intro w17 hS18; simp only [List.cons_append, List.nil_append] at hS18; refine wl_val (r_assign (v := .int .i64 _) rfl) rfl ?_; refine wl_val (r_assign (v := .int .i64 _) rfl) rfl ?_; refine wl_nil ?_; refine c_then ?_; refine c_seq ?_; refine c_seq ?_; refine c_region ?_; refine wl_val (r_move (v := .int .i64 _) rfl) rfl ?_; refine wl_dec_f (r_neq rfl rfl) rfl (by decide) ?_; refine wl_val (r_move (v := .bool _) rfl) rfl ?_; refine wl_val (r_move (v := .int .i64 _) rfl) rfl ?_
  refine wl_dec (r_gtr rfl rfl) rfl (fun h4_4 => ?_) (fun h4_4 => ?_)
  · refine wl_val (r_pick_f rfl (v := .bool _) rfl) rfl ?_
    refine wl_nil ?_; refine c_then ?_; refine c_true rfl ?_; refine c_seq ?_; refine c_region ?_; refine wl_val (r_assign (v := .bool true) rfl) rfl ?_; refine wl_nil ?_; refine c_then ?_; refine wp_ret ?_; refine c_thenR ?_; refine ret1 Try.results3 ?_
    exact ⟨rfl, hS18.fin⟩
  refine wl_val (r_pick_f rfl (v := .bool _) rfl) rfl ?_; refine wl_nil ?_; refine c_then ?_; refine c_false rfl ?_; refine wp_skip ?_; refine c_then ?_; refine c_seq ?_
  have hL32 := chLv_32 b
  have hLl : (chLv b).length = (chN n) := by rw [chLv_len, hl]
  have hN0 : 0 < (chN n) ∧ (chN n) ≤ 20 := by unfold chN at *; omega
  have hRl : (rootL (chLv b)).length = 32 := rootL_len _ hL32 (by omega)
  refine c_region ?_; refine wl_val (r_assign (v := .slice none 0 0) rfl) rfl ?_; refine wl_nil ?_; refine c_then ?_; refine c_seq ?_; refine c_region ?_; refine wl_val (r_assign (v := .slice none 0 0) rfl) rfl ?_; refine wl_nil ?_; refine c_then ?_; refine c_seq ?_; refine c_seq ?_; refine c_region ?_; refine wl_val (r_move (v := .slice _ _ _) rfl) rfl ?_; refine wl_call (r_call fn6 rfl rfl) rfl (cloneI_ok xs a3 xs.length c3 _ (ho.st hS18) rfl (by omega)) ?_; rintro _ w19 ⟨a36, c36, rfl, hc36, hx20⟩
  have hS21 := hS18.call hx20
  simp only [List.cons_append, List.nil_append] at hS21; refine wl_val (r_move (v := .int .i64 _) rfl) rfl ?_; refine wl_call (r_call fn7 rfl rfl) rfl (rangeOf_ok (chN n) _ (by omega)) ?_; rintro _ w22 ⟨a38, c38, rfl, hc38, hx23⟩
  have hS24 := hS21.call hx23
  simp only [List.cons_append, List.nil_append] at hS24; refine wl_exv (x_append [_] hS24 ti23.und ti3 rfl (by decide) rfl rfl (St.rowAt hS24 (.head _)) (by first | (simp [*]; done) | (simp [*] <;> omega) | omega) (one_map _ fun _ => rfl) (by first | omega | (simp [*]; done) | (simp [*] <;> omega)) (by first | omega | (simp [*]; done) | (simp [*] <;> omega)) _ rfl) rfl ?_; rintro _ w25 ⟨aq27, cq27, rfl, hcq27, hS26⟩; simp only [List.cons_append, List.nil_append] at hS26
  obtain ⟨ao, rfl⟩ : ∃ z, z = aq27 := ⟨_, rfl⟩
  obtain ⟨co, rfl⟩ : ∃ z, z = cq27 := ⟨_, rfl⟩
  refine wl_val (r_len (T := 23) rfl ti23.und rfl _ rfl) rfl ?_; refine wl_val (r_move (v := .int .i64 0) rfl) rfl ?_; refine wl_nil ?_; refine c_then ?_; refine c_block ?_; refine c_loopE [0, 1, 7, 8, 39, 40] (fun d e w' => ∃ (k : Nat) (ps : List Piece) (qs : List PfD) (al : Option Addr) (kl : Nat) (ap : Option Addr) (kp : Nat) (LT : List Kw.Item), Kw.look e 41 = vi k ∧ Kw.look e 10 = .slice al k kl ∧ Kw.look e 11 = .slice ap k kp ∧ d = xs.length + (chN n) - k ∧ St w [] w' (.row (.slice al k kl) 22 1 k ((ps).map Piece.v) :: .row (.slice ap k kp) 37 3 k ((qs).flatMap PfD.v) :: .row (.slice ao (xs.length + (chN n)) co) 3 1 (xs.length + (chN n)) ((ordL xs (chN n)).map iz) :: .blk b7 (cl ((rootL (chLv b)).map b8) 26) :: LT) ∧ (k ≤ xs.length + (chN n)) ∧ (ps.length = k) ∧ (qs.length = k) ∧ (Tail w b (chN n) LT ps qs (gx (ordL xs (chN n)) (chN n)) k)) (xs.length + (chN n) - 0) ?_ ?_
  have hS32 := St.nilRow (E := 22) (sz := 1) hS26
  have hS33 := St.nilRow (E := 37) (sz := 3) hS32
  have hS34 := St.reRow1 (k := xs.length + (chN n)) (zs := (ordL xs (chN n)).map iz) (hS33.perm ((List.Perm.cons _ (List.Perm.refl _)).trans (List.perm_middle (l₁ := [_, _, _])).symm)) rfl (by rw [ordL, List.map_append, List.map_map]; rfl)
  · exact ⟨0, [], [], none, 0, none, 0, [], rfl, rfl, rfl, rfl, (hS34.perm ((List.Perm.cons _ ((List.Perm.cons _ ((List.Perm.cons _ (List.Perm.refl _)).trans (List.perm_middle (l₁ := [_])).symm)).trans (List.perm_middle (l₁ := [_, _])).symm)).trans (List.perm_middle (l₁ := [_, _, _])).symm)).drop1, Nat.zero_le _, rfl, rfl, Tail.zero⟩
  · rintro d31 e28 w29 ⟨k, ps, qs, al, kl, ap, kp, LT, hc0_41, hc0_10, hc0_11, rfl, hS30, hk, hps, hqs, hT⟩ -
    refine c_set (d := 41) hc0_41 ?_; refine c_set (d := 10) hc0_10 ?_; refine c_set (d := 11) hc0_11 ?_; refine c_seq ?_; refine c_region ?_
    refine wl_dec (r_lss rfl rfl) rfl (fun h9_0 => ?_) (fun h9_0 => ?_)
    · refine wl_nil ?_
      refine c_then ?_; refine c_seq ?_; refine c_true rfl ?_; refine wp_skip ?_; refine c_then ?_; refine c_seq ?_; refine c_block ?_; refine c_seq ?_; refine c_region ?_; refine wl_val (r_ixS ti23.und ti3 rfl rfl (St.rowAt hS30 (.tail _ (.tail _ (.head _)))) (by omega) (by rw [List.length_map, ordL_len]; omega)) rfl ?_; refine wl_val (r_loadS1 ti3.und rfl rfl (St.rowAt hS30 (.tail _ (.tail _ (.head _)))) (by rw [Nat.mul_one]; exact map_gt _ _ _ (by rw [ordL_len]; omega))) rfl ?_; refine wl_val (r_assign (v := .int .i64 _) rfl) rfl ?_; refine wl_nil ?_; refine c_then ?_; refine c_seq ?_; refine c_region ?_; refine wl_val (r_move (v := .int .i64 _) rfl) rfl ?_; refine wl_val (r_toU ti34.und ⟨_, ti3.und⟩ rfl) rfl ?_; refine wl_val (r_move (v := .int .i64 _) rfl) rfl ?_; refine wl_val (r_toUn ti34.und ⟨_, ti3.und⟩ rfl (by omega)) rfl ?_; refine wl_val (r_remU rfl rfl (by omega)) rfl ?_; refine wl_val (r_fromU ti3.und ⟨_, ti34.und⟩ rfl (by have := gx_lt (ol := (ordL xs (chN n))) (N := (chN n)) (j := k) (by omega); unfold gx at this; omega)) rfl ?_; refine wl_val (r_assign (v := .int .i64 _) rfl) rfl ?_; refine wl_nil ?_; refine c_then ?_; refine c_seq ?_; refine c_set (d := 13) (v := vi (gx (ordL xs (chN n)) (chN n) k)) rfl ?_
      have hcl := chL_le b (gx (ordL xs (chN n)) (chN n) k)
      have hsl := steps_le (chN n) (gx (ordL xs (chN n)) (chN n) k) (chN n) (Nat.le_refl _)
      refine c_region ?_; refine wl_val (r_move (v := .slice _ _ _) rfl) rfl ?_; refine wl_val (r_move (v := .int .i64 _) rfl) rfl ?_; refine wl_call (r_call fn8 rfl rfl) rfl (chunkV_ok n c (gx (ordL xs (chN n)) (chN n) k) a b _ (hb.st hS30) hl hc (fun _ => gx_lt (by omega))) ?_
      rintro _ w35 (⟨hq2, rfl, hx36⟩ | ⟨hq2, rfl, hx36⟩ | ⟨hq2, aC, cC, aQ, cQ, rfl, ⟨hcC, hcQ⟩, hx36⟩)
      · exfalso; omega
      · exfalso; omega
      have hS37 := hS30.call hx36
      simp only [List.cons_append, List.nil_append] at hS37; refine wl_val (r_move (v := .tuple _) rfl) rfl ?_; refine wl_val (r_extract (v := .slice _ _ _) rfl rfl) rfl ?_; refine wl_val (r_extract (v := .agg _) rfl rfl) rfl ?_; refine wl_val (r_extract (v := .int .i64 _) rfl rfl) rfl ?_; refine wl_exv (x_alloc (C := [.int .i64 0, .int .i64 0, .slice none 0 0]) hS37 ti37 rfl) rfl ?_; rintro _ w38 ⟨b15, rfl, hS39⟩; refine wl_val (r_assign (v := .slice _ _ _) rfl) rfl ?_; refine wl_exs (x_storeW [] hS39 ti37 rfl rfl (by first | (simp [*]; done) | (simp [*] <;> omega) | omega) (by first | (simp [*]; done) | (simp [*] <;> omega) | omega) (by repeat' first | exact one_nil | exact one_b8 _ | exact one_v32 _ | exact one_all rfl | refine one_cons rfl ?_ | refine one_app ?_ ?_)) rfl ?_; intro w40 hS41; simp only [List.cons_append, List.nil_append] at hS41; refine wl_val (r_assign (v := .int .i64 _) rfl) rfl ?_; refine wl_nil ?_; refine c_then ?_; refine c_seq ?_; refine c_seq ?_; refine c_region ?_; refine wl_val (r_move (v := .int .i64 _) rfl) rfl ?_; refine wl_dec_f (r_neq rfl rfl) rfl (by decide) ?_; refine wl_nil ?_; refine c_then ?_; refine c_false rfl ?_; refine wp_skip ?_; refine c_then ?_; refine c_drawSF 7 hMixed hS41 (hS41.perm ((List.Perm.cons _ (List.Perm.refl _)).trans (List.perm_middle (l₁ := [_, _, _])).symm)).drop1 ?_; intro w42 hS43; refine g_take 0 rfl (by decide +kernel) rfl (fun _ _ _ h => h) (hS43.perm ((List.Perm.cons _ (List.Perm.refl _)).trans (List.perm_middle (l₁ := [_, _, _])).symm)).drop1 (fun wF hF => r_move (v := .slice _ _ _) rfl) ?_
      refine g_take 1 rfl (by decide +kernel) rfl (fun _ _ _ h => h) (hS43.perm ((List.Perm.cons _ (List.Perm.refl _)).trans (List.perm_middle (l₁ := [_, _, _])).symm)).drop1 (fun wF hF => r_move (v := .slice _ _ _) rfl) ?_; refine g_take 4 rfl (by decide +kernel) rfl (fun _ _ _ h => h) (hS43.perm ((List.Perm.cons _ (List.Perm.refl _)).trans (List.perm_middle (l₁ := [_, _, _])).symm)).drop1 (fun wF hF => r_move (v := .slice _ _ _) rfl) ?_; refine g_take 5 rfl (by decide +kernel) rfl (fun _ _ _ h => h) (hS43.perm ((List.Perm.cons _ (List.Perm.refl _)).trans (List.perm_middle (l₁ := [_, _, _])).symm)).drop1 (fun wF hF => r_loadB ti37 ag37 rfl (hF.heap (.head _)) (by first | (simp [*]; done) | (simp [*] <;> omega) | omega)) ?_; refine g_all (rs := [2, 6]) (by decide +kernel) (by decide +kernel) rfl ?_
      simp only [List.forall_mem_cons, List.not_mem_nil, false_imp_iff, implies_true, and_true]
      refine ⟨?_, ?_⟩
      · refine o_exv rfl (x_lit (vs := [.slice _ _ _]) hS43 ti30.und ti22 rfl rfl rfl (by intro c hc; simp only [List.mem_cons, List.not_mem_nil, or_false] at hc; rcases hc with rfl <;> rfl) (by decide)) rfl ?_
        rintro _ w44 ⟨b62, rfl, hS45⟩
        refine ⟨(hS45.perm (List.Perm.cons _ ((List.Perm.cons _ (List.Perm.refl _)).trans (List.perm_middle (l₁ := [_, _, _])).symm))).drop1.drop1, ?_⟩
        refine g_all (rs := [3, 6]) (by decide +kernel) (by decide +kernel) rfl ?_
        simp only [List.forall_mem_cons, List.not_mem_nil, false_imp_iff, implies_true, and_true]
        refine ⟨?_, ?_⟩
        · refine o_exv rfl (x_append [_, _, _, _] hS45 ti30.und ti22 rfl (by decide) rfl rfl (Row.of_at (at_all (hS45.heap (.head _)))) (by first | (simp [*]; done) | (simp [*] <;> omega) | omega) (by first | exact one_b8 _ | exact one_v32 _ | (intro c hc; simp only [List.mem_cons, List.not_mem_nil, or_false] at hc; (first | subst hc | rcases hc with rfl | rfl) <;> rfl)) (by first | omega | (simp [*]; done) | (simp [*] <;> omega)) (by first | omega | (simp [*]; done) | (simp [*] <;> omega)) _ rfl) rfl ?_
          rintro _ w46 ⟨aq48, cq48, rfl, hcq48, hS47⟩; simp only [List.cons_append, List.nil_append] at hS47
          refine ⟨(hS47.perm (List.Perm.cons _ ((List.Perm.cons _ (List.Perm.refl _)).trans (List.perm_middle (l₁ := [_, _, _])).symm))).drop1.drop1, ?_⟩
          refine g_one 6 (by decide +kernel) (by decide +kernel) ?_; refine o_exv rfl (x_litA1 hS47 ti31.und ti37 rfl (by first | (simp [*]; done) | (simp [*] <;> omega) | omega) rfl (by decide) (by decide)) rfl ?_; rintro _ w49 ⟨b66, rfl, hS50⟩
          refine ⟨(hS50.perm (List.Perm.cons _ (List.Perm.cons _ ((List.Perm.cons _ (List.Perm.refl _)).trans (List.perm_middle (l₁ := [_, _, _])).symm)))).drop1.drop1.drop1, ?_⟩
          refine g_tail (by decide +kernel) rfl (by decide +kernel) ?_; refine wl_exv (x_append [_, _, _, _, _, _] hS50 ti31.und ti37 rfl (by decide) rfl rfl (Row.of_at (at_all (hS50.heap (.head _)))) (by first | (simp [*]; done) | (simp [*] <;> omega) | omega) (by intro c hc; simp only [List.mem_cons, List.not_mem_nil, or_false] at hc; rcases hc with rfl | rfl | rfl <;> rfl) (by first | omega | (simp [*]; done) | (simp [*] <;> omega)) (by first | omega | (simp [*]; done) | (simp [*] <;> omega)) _ rfl) rfl ?_; rintro _ w51 ⟨aq53, cq53, rfl, hcq53, hS52⟩; simp only [List.cons_append, List.nil_append] at hS52; refine wl_val (r_assign (v := .slice _ _ _) rfl) rfl ?_; refine wl_val (r_assign (v := .slice _ _ _) rfl) rfl ?_; refine wl_nil ?_; refine c_inN ?_; refine c_then ?_; refine c_region ?_; refine wl_val (r_addn (b := 1) rfl rfl (by omega)) rfl ?_; refine wl_val (r_move (v := .int .i64 _) rfl) rfl ?_; refine wl_nil ?_; refine c_then ?_
          have hS54 := St.reRow1 (zs := (ps ++ [(⟨aC, cC, chL b (gx (ordL xs (chN n)) (chN n) k)⟩ : Piece)]).map Piece.v) (hS52.perm (List.Perm.cons _ (List.Perm.cons _ (List.Perm.cons _ ((List.Perm.cons _ ((List.Perm.cons _ ((List.Perm.cons _ ((List.Perm.cons _ (List.Perm.refl _)).trans (List.perm_middle (l₁ := [_, _])).symm)).trans (List.perm_middle (l₁ := [_, _])).symm)).trans (List.perm_middle (l₁ := [_, _])).symm)).trans (List.perm_middle (l₁ := [_, _])).symm))))).drop1.drop1.drop1 rfl (by rw [List.map_append]; rfl)
          have hS55 := St.reRow1 (zs := (qs ++ [(⟨(gx (ordL xs (chN n)) (chN n) k), (chN n), aQ, stepsL (gx (ordL xs (chN n)) (chN n) k) (chN n), cQ⟩ : PfD)]).flatMap PfD.v) (hS54.perm ((List.Perm.cons _ (List.Perm.refl _)).trans (List.perm_middle (l₁ := [_])).symm)) rfl (by rw [List.flatMap_append]; rfl)
          have hT2 := hT.step (p := ⟨aC, cC, chL b (gx (ordL xs (chN n)) (chN n) k)⟩) (q := ⟨(gx (ordL xs (chN n)) (chN n) k), (chN n), aQ, stepsL (gx (ordL xs (chN n)) (chN n) k) (chN n), cQ⟩) (r1 := .row (.slice aC (chL b (gx (ordL xs (chN n)) (chN n) k)).length cC) 5 1 (chL b (gx (ordL xs (chN n)) (chN n) k)).length ((chL b (gx (ordL xs (chN n)) (chN n) k)).map b8)) (r2 := .row (.slice aQ (stepsL (gx (ordL xs (chN n)) (chN n) k) (chN n)) cQ) 26 32 (stepsL (gx (ordL xs (chN n)) (chN n) k) (chN n)) ((pathL (chLv b) (gx (ordL xs (chN n)) (chN n) k)).flatten.map b8)) hps hqs (fun W h => ⟨⟨rfl, hcC, St.rowAt h (.head _)⟩, ⟨rfl, rfl, rfl, hcQ, St.rowAt h (.tail _ (.head _))⟩⟩)
          exact ⟨xs.length + (chN n) - (k + 1), _, by omega, rfl, ⟨k + 1, _, _, _, _, _, _, _, rfl, rfl, rfl, rfl, (hS55.perm ((List.Perm.cons _ (List.Perm.refl _)).trans (List.perm_middle (l₁ := [_])).symm)), by omega, by rw [List.length_append, hps]; rfl, by rw [List.length_append, hqs]; rfl, hT2⟩, ⟨rfl, rfl, rfl, rfl, rfl, rfl, trivial⟩⟩
        · refine o_exv rfl (x_litA1 hS45 ti31.und ti37 rfl (by first | (simp [*]; done) | (simp [*] <;> omega) | omega) rfl (by decide) (by decide)) rfl ?_
          rintro _ w56 ⟨b66, rfl, hS57⟩
          refine ⟨(hS57.perm (List.Perm.cons _ (List.Perm.cons _ ((List.Perm.cons _ (List.Perm.refl _)).trans (List.perm_middle (l₁ := [_, _, _])).symm)))).drop1.drop1.drop1, ?_⟩
          refine g_one 3 (by decide +kernel) (by decide +kernel) ?_; refine o_exv rfl (x_append [_, _, _, _, _] hS57 ti30.und ti22 rfl (by decide) rfl rfl (Row.of_at (at_all (hS57.heap (.tail _ (.head _))))) (by first | (simp [*]; done) | (simp [*] <;> omega) | omega) (by first | exact one_b8 _ | exact one_v32 _ | (intro c hc; simp only [List.mem_cons, List.not_mem_nil, or_false] at hc; (first | subst hc | rcases hc with rfl | rfl) <;> rfl)) (by first | omega | (simp [*]; done) | (simp [*] <;> omega)) (by first | omega | (simp [*]; done) | (simp [*] <;> omega)) _ rfl) rfl ?_; rintro _ w58 ⟨aq60, cq60, rfl, hcq60, hS59⟩; simp only [List.cons_append, List.nil_append] at hS59
          refine ⟨(hS59.perm (List.Perm.cons _ (List.Perm.cons _ ((List.Perm.cons _ (List.Perm.refl _)).trans (List.perm_middle (l₁ := [_, _, _])).symm)))).drop1.drop1.drop1, ?_⟩
          refine g_tail (by decide +kernel) rfl (by decide +kernel) ?_; refine wl_exv (x_append [_, _, _, _, _, _] hS59 ti31.und ti37 rfl (by decide) rfl rfl (Row.of_at (at_all (hS59.heap (.head _)))) (by first | (simp [*]; done) | (simp [*] <;> omega) | omega) (by intro c hc; simp only [List.mem_cons, List.not_mem_nil, or_false] at hc; rcases hc with rfl | rfl | rfl <;> rfl) (by first | omega | (simp [*]; done) | (simp [*] <;> omega)) (by first | omega | (simp [*]; done) | (simp [*] <;> omega)) _ rfl) rfl ?_; rintro _ w61 ⟨aq63, cq63, rfl, hcq63, hS62⟩; simp only [List.cons_append, List.nil_append] at hS62; refine wl_val (r_assign (v := .slice _ _ _) rfl) rfl ?_; refine wl_val (r_assign (v := .slice _ _ _) rfl) rfl ?_; refine wl_nil ?_; refine c_inN ?_; refine c_then ?_; refine c_region ?_; refine wl_val (r_addn (b := 1) rfl rfl (by omega)) rfl ?_; refine wl_val (r_move (v := .int .i64 _) rfl) rfl ?_; refine wl_nil ?_; refine c_then ?_
          have hS64 := St.reRow1 (zs := (ps ++ [(⟨aC, cC, chL b (gx (ordL xs (chN n)) (chN n) k)⟩ : Piece)]).map Piece.v) (hS62.perm (List.Perm.cons _ (List.Perm.cons _ (List.Perm.cons _ ((List.Perm.cons _ ((List.Perm.cons _ ((List.Perm.cons _ ((List.Perm.cons _ (List.Perm.refl _)).trans (List.perm_middle (l₁ := [_, _])).symm)).trans (List.perm_middle (l₁ := [_, _])).symm)).trans (List.perm_middle (l₁ := [_, _])).symm)).trans (List.perm_middle (l₁ := [_, _])).symm))))).drop1.drop1.drop1 rfl (by rw [List.map_append]; rfl)
          have hS65 := St.reRow1 (zs := (qs ++ [(⟨(gx (ordL xs (chN n)) (chN n) k), (chN n), aQ, stepsL (gx (ordL xs (chN n)) (chN n) k) (chN n), cQ⟩ : PfD)]).flatMap PfD.v) (hS64.perm ((List.Perm.cons _ (List.Perm.refl _)).trans (List.perm_middle (l₁ := [_])).symm)) rfl (by rw [List.flatMap_append]; rfl)
          have hT2 := hT.step (p := ⟨aC, cC, chL b (gx (ordL xs (chN n)) (chN n) k)⟩) (q := ⟨(gx (ordL xs (chN n)) (chN n) k), (chN n), aQ, stepsL (gx (ordL xs (chN n)) (chN n) k) (chN n), cQ⟩) (r1 := .row (.slice aC (chL b (gx (ordL xs (chN n)) (chN n) k)).length cC) 5 1 (chL b (gx (ordL xs (chN n)) (chN n) k)).length ((chL b (gx (ordL xs (chN n)) (chN n) k)).map b8)) (r2 := .row (.slice aQ (stepsL (gx (ordL xs (chN n)) (chN n) k) (chN n)) cQ) 26 32 (stepsL (gx (ordL xs (chN n)) (chN n) k) (chN n)) ((pathL (chLv b) (gx (ordL xs (chN n)) (chN n) k)).flatten.map b8)) hps hqs (fun W h => ⟨⟨rfl, hcC, St.rowAt h (.head _)⟩, ⟨rfl, rfl, rfl, hcQ, St.rowAt h (.tail _ (.head _))⟩⟩)
          exact ⟨xs.length + (chN n) - (k + 1), _, by omega, rfl, ⟨k + 1, _, _, _, _, _, _, _, rfl, rfl, rfl, rfl, (hS65.perm ((List.Perm.cons _ (List.Perm.refl _)).trans (List.perm_middle (l₁ := [_])).symm)), by omega, by rw [List.length_append, hps]; rfl, by rw [List.length_append, hqs]; rfl, hT2⟩, ⟨rfl, rfl, rfl, rfl, rfl, rfl, trivial⟩⟩
      · refine o_exv rfl (x_litA1 hS43 ti31.und ti37 rfl (by first | (simp [*]; done) | (simp [*] <;> omega) | omega) rfl (by decide) (by decide)) rfl ?_
        rintro _ w66 ⟨b66, rfl, hS67⟩
        refine ⟨(hS67.perm (List.Perm.cons _ ((List.Perm.cons _ (List.Perm.refl _)).trans (List.perm_middle (l₁ := [_, _, _])).symm))).drop1.drop1, ?_⟩
        refine g_one 2 (by decide +kernel) (by decide +kernel) ?_; refine o_exv rfl (x_lit (vs := [.slice _ _ _]) hS67 ti30.und ti22 rfl rfl rfl (by intro c hc; simp only [List.mem_cons, List.not_mem_nil, or_false] at hc; rcases hc with rfl <;> rfl) (by decide)) rfl ?_; rintro _ w68 ⟨b62, rfl, hS69⟩
        refine ⟨(hS69.perm (List.Perm.cons _ (List.Perm.cons _ ((List.Perm.cons _ (List.Perm.refl _)).trans (List.perm_middle (l₁ := [_, _, _])).symm)))).drop1.drop1.drop1, ?_⟩
        refine g_one 3 (by decide +kernel) (by decide +kernel) ?_; refine o_exv rfl (x_append [_, _, _, _, _] hS69 ti30.und ti22 rfl (by decide) rfl rfl (Row.of_at (at_all (hS69.heap (.head _)))) (by first | (simp [*]; done) | (simp [*] <;> omega) | omega) (by first | exact one_b8 _ | exact one_v32 _ | (intro c hc; simp only [List.mem_cons, List.not_mem_nil, or_false] at hc; (first | subst hc | rcases hc with rfl | rfl) <;> rfl)) (by first | omega | (simp [*]; done) | (simp [*] <;> omega)) (by first | omega | (simp [*]; done) | (simp [*] <;> omega)) _ rfl) rfl ?_; rintro _ w70 ⟨aq72, cq72, rfl, hcq72, hS71⟩; simp only [List.cons_append, List.nil_append] at hS71
        refine ⟨(hS71.perm (List.Perm.cons _ (List.Perm.cons _ ((List.Perm.cons _ (List.Perm.refl _)).trans (List.perm_middle (l₁ := [_, _, _])).symm)))).drop1.drop1.drop1, ?_⟩
        refine g_tail (by decide +kernel) rfl (by decide +kernel) ?_; refine wl_exv (x_append [_, _, _, _, _, _] hS71 ti31.und ti37 rfl (by decide) rfl rfl (Row.of_at (at_all (hS71.heap (.tail _ (.head _))))) (by first | (simp [*]; done) | (simp [*] <;> omega) | omega) (by intro c hc; simp only [List.mem_cons, List.not_mem_nil, or_false] at hc; rcases hc with rfl | rfl | rfl <;> rfl) (by first | omega | (simp [*]; done) | (simp [*] <;> omega)) (by first | omega | (simp [*]; done) | (simp [*] <;> omega)) _ rfl) rfl ?_; rintro _ w73 ⟨aq75, cq75, rfl, hcq75, hS74⟩; simp only [List.cons_append, List.nil_append] at hS74; refine wl_val (r_assign (v := .slice _ _ _) rfl) rfl ?_; refine wl_val (r_assign (v := .slice _ _ _) rfl) rfl ?_; refine wl_nil ?_; refine c_inN ?_; refine c_then ?_; refine c_region ?_; refine wl_val (r_addn (b := 1) rfl rfl (by omega)) rfl ?_; refine wl_val (r_move (v := .int .i64 _) rfl) rfl ?_; refine wl_nil ?_; refine c_then ?_
        have hS76 := St.reRow1 (zs := (ps ++ [(⟨aC, cC, chL b (gx (ordL xs (chN n)) (chN n) k)⟩ : Piece)]).map Piece.v) (hS74.perm (List.Perm.cons _ (List.Perm.cons _ (List.Perm.cons _ ((List.Perm.cons _ ((List.Perm.cons _ ((List.Perm.cons _ ((List.Perm.cons _ (List.Perm.refl _)).trans (List.perm_middle (l₁ := [_, _])).symm)).trans (List.perm_middle (l₁ := [_, _])).symm)).trans (List.perm_middle (l₁ := [_, _])).symm)).trans (List.perm_middle (l₁ := [_, _])).symm))))).drop1.drop1.drop1 rfl (by rw [List.map_append]; rfl)
        have hS77 := St.reRow1 (zs := (qs ++ [(⟨(gx (ordL xs (chN n)) (chN n) k), (chN n), aQ, stepsL (gx (ordL xs (chN n)) (chN n) k) (chN n), cQ⟩ : PfD)]).flatMap PfD.v) (hS76.perm ((List.Perm.cons _ (List.Perm.refl _)).trans (List.perm_middle (l₁ := [_])).symm)) rfl (by rw [List.flatMap_append]; rfl)
        have hT2 := hT.step (p := ⟨aC, cC, chL b (gx (ordL xs (chN n)) (chN n) k)⟩) (q := ⟨(gx (ordL xs (chN n)) (chN n) k), (chN n), aQ, stepsL (gx (ordL xs (chN n)) (chN n) k) (chN n), cQ⟩) (r1 := .row (.slice aC (chL b (gx (ordL xs (chN n)) (chN n) k)).length cC) 5 1 (chL b (gx (ordL xs (chN n)) (chN n) k)).length ((chL b (gx (ordL xs (chN n)) (chN n) k)).map b8)) (r2 := .row (.slice aQ (stepsL (gx (ordL xs (chN n)) (chN n) k) (chN n)) cQ) 26 32 (stepsL (gx (ordL xs (chN n)) (chN n) k) (chN n)) ((pathL (chLv b) (gx (ordL xs (chN n)) (chN n) k)).flatten.map b8)) hps hqs (fun W h => ⟨⟨rfl, hcC, St.rowAt h (.head _)⟩, ⟨rfl, rfl, rfl, hcQ, St.rowAt h (.tail _ (.head _))⟩⟩)
        exact ⟨xs.length + (chN n) - (k + 1), _, by omega, rfl, ⟨k + 1, _, _, _, _, _, _, _, rfl, rfl, rfl, rfl, (hS77.perm ((List.Perm.cons _ (List.Perm.refl _)).trans (List.perm_middle (l₁ := [_])).symm)), by omega, by rw [List.length_append, hps]; rfl, by rw [List.length_append, hqs]; rfl, hT2⟩, ⟨rfl, rfl, rfl, rfl, rfl, rfl, trivial⟩⟩
    refine wl_nil ?_; refine c_then ?_; refine c_seq ?_; refine c_false rfl ?_; refine wp_exit ?_; refine c_thenE ?_; refine c_thenE ?_; refine c_inE ?_; refine c_then ?_; refine c_seq ?_
    obtain rfl : k = xs.length + (chN n) := by omega
    refine c_region ?_; refine wl_val (r_loadB ti26 rfl rfl (hS30.heap (.tail _ (.tail _ (.tail _ (.head _))))) (by rw [List.length_map]; exact hRl)) rfl ?_; refine wl_val (r_move (v := .int .i64 _) rfl) rfl ?_; refine wl_val (r_move (v := .slice _ _ _) rfl) rfl ?_; refine wl_val (r_move (v := .slice _ _ _) rfl) rfl ?_; refine wl_call (r_call fn9 rfl rfl) rfl (assemble_ok b (chN n) ps qs (gx (ordL xs (chN n)) (chN n)) _ _ (xs.length + (chN n)) _ _ _ (St.rowAt hS30 (.head _)) (St.rowAt hS30 (.tail _ (.head _))) hps hqs (fun j hj => gx_lt (by omega)) (fun j hj => (hT _ [_, _, _, _] hS30 j hj).1) (fun j hj => (hT _ [_, _, _, _] hS30 j hj).2) (ord_all (by omega)) (by rw [hl]) (by omega) (by omega) (by omega)) ?_; rintro _ w78 ⟨aX, cX, rfl, hx79⟩
    have hS80 := hS30.call hx79
    simp only [List.cons_append, List.nil_append] at hS80; refine wl_val (r_move (v := .tuple _) rfl) rfl ?_; refine wl_val (r_extract (v := .slice _ _ _) rfl rfl) rfl ?_; refine wl_val (r_extract (v := .int .i64 _) rfl rfl) rfl ?_; refine wl_val (r_assign (v := .slice _ _ _) rfl) rfl ?_; refine wl_val (r_assign (v := .int .i64 _) rfl) rfl ?_; refine wl_nil ?_; refine c_then ?_; refine c_seq ?_; refine c_seq ?_; refine c_region ?_; refine wl_val (r_move (v := .int .i64 _) rfl) rfl ?_; refine wl_dec_f (r_neq rfl rfl) rfl (by decide) ?_; refine wl_val (r_move (v := .bool _) rfl) rfl ?_; refine wl_val (r_move (v := .slice _ _ _) rfl) rfl ?_; refine wl_val (r_move (v := .slice _ _ _) rfl) rfl ?_; refine wl_call (r_call fn10 rfl rfl) rfl (equal_t b b _ _ _ _ _ _ _ (St.rowAt hS80 (.head _)) (hb.st hS80) rfl hl rfl) ?_; rintro _ w81 ⟨rfl, hx82⟩
    have hS83 := hS80.ext hx82
    refine wl_val (r_not rfl) rfl ?_; refine wl_val (r_pick_f rfl (v := .bool _) rfl) rfl ?_; refine wl_nil ?_; refine c_then ?_; refine c_false rfl ?_; refine wp_skip ?_; refine c_then ?_; refine c_seq ?_; refine c_region ?_; refine wl_val (r_move (v := .slice _ _ _) rfl) rfl ?_; refine wl_call (r_call fn8 rfl rfl) rfl (chunkV_ok n2 c2 0 a2 t _ (ht.st hS83) hl2 hc2 (fun h => by unfold chN; omega)) ?_
    rintro _ w84 (⟨hq3, rfl, hx85⟩ | ⟨hq3, rfl, hx85⟩ | ⟨hq3, aD, cD, aE, cE, rfl, ⟨hcD, hcE⟩, hx85⟩)
    · have hS86 := hS83.ext hx85
      refine wl_val (r_move (v := .tuple _) rfl) rfl ?_; refine wl_val (r_extract (v := .slice _ _ _) rfl rfl) rfl ?_; refine wl_val (r_extract (v := .agg _) rfl rfl) rfl ?_; refine wl_val (r_extract (v := .int .i64 _) rfl rfl) rfl ?_; refine wl_exv (x_alloc (C := [.int .i64 0, .int .i64 0, .slice none 0 0]) hS86 ti37 rfl) rfl ?_; rintro _ w87 ⟨b19, rfl, hS88⟩; refine wl_val (r_assign (v := .slice _ _ _) rfl) rfl ?_; refine wl_exs (x_storeW [] hS88 ti37 rfl rfl (by first | (simp [*]; done) | (simp [*] <;> omega) | omega) (by first | (simp [*]; done) | (simp [*] <;> omega) | omega) (by repeat' first | exact one_nil | exact one_b8 _ | exact one_v32 _ | exact one_all rfl | refine one_cons rfl ?_ | refine one_app ?_ ?_)) rfl ?_; intro w89 hS90; simp only [List.cons_append, List.nil_append] at hS90; refine wl_val (r_assign (v := .int .i64 _) rfl) rfl ?_; refine wl_nil ?_; refine c_then ?_; refine c_seq ?_; refine c_seq ?_
      have htb : Row w a ((b.take (min n 1024)).map b8) := by have := hb.take (n := min n 1024); rwa [← List.map_take] at this
      refine c_region ?_; refine wl_val (r_move (v := .int .i64 _) rfl) rfl ?_; refine wl_dec_t (r_neq rfl rfl) rfl (by decide) ?_; refine wl_val (r_move (v := .bool _) rfl) rfl ?_; refine wl_not rfl ?_; refine wl_not rfl ?_; refine wl_not rfl ?_; refine wl_not rfl ?_; refine wl_not rfl ?_; refine wl_not rfl ?_; refine wl_not rfl ?_; refine wl_val (r_pick_t rfl (v := .bool true) rfl) rfl ?_; refine wl_nil ?_; refine c_then ?_; refine c_true rfl ?_; refine c_seq ?_; refine c_region ?_; refine wl_val (r_assign (v := .bool true) rfl) rfl ?_; refine wl_nil ?_; refine c_then ?_; refine wp_ret ?_; refine c_thenR ?_; refine ret1 Try.results3 ?_
      exact ⟨rfl, hS90.fin⟩
    · have hS86 := hS83.ext hx85
      refine wl_val (r_move (v := .tuple _) rfl) rfl ?_; refine wl_val (r_extract (v := .slice _ _ _) rfl rfl) rfl ?_; refine wl_val (r_extract (v := .agg _) rfl rfl) rfl ?_; refine wl_val (r_extract (v := .int .i64 _) rfl rfl) rfl ?_; refine wl_exv (x_alloc (C := [.int .i64 0, .int .i64 0, .slice none 0 0]) hS86 ti37 rfl) rfl ?_; rintro _ w91 ⟨b19, rfl, hS92⟩; refine wl_val (r_assign (v := .slice _ _ _) rfl) rfl ?_; refine wl_exs (x_storeW [] hS92 ti37 rfl rfl (by first | (simp [*]; done) | (simp [*] <;> omega) | omega) (by first | (simp [*]; done) | (simp [*] <;> omega) | omega) (by repeat' first | exact one_nil | exact one_b8 _ | exact one_v32 _ | exact one_all rfl | refine one_cons rfl ?_ | refine one_app ?_ ?_)) rfl ?_; intro w93 hS94; simp only [List.cons_append, List.nil_append] at hS94; refine wl_val (r_assign (v := .int .i64 _) rfl) rfl ?_; refine wl_nil ?_; refine c_then ?_; refine c_seq ?_; refine c_seq ?_
      have htb : Row w a ((b.take (min n 1024)).map b8) := by have := hb.take (n := min n 1024); rwa [← List.map_take] at this
      refine c_region ?_; refine wl_val (r_move (v := .int .i64 _) rfl) rfl ?_; refine wl_dec_t (r_neq rfl rfl) rfl (by decide) ?_; refine wl_val (r_move (v := .bool _) rfl) rfl ?_; refine wl_not rfl ?_; refine wl_not rfl ?_; refine wl_not rfl ?_; refine wl_not rfl ?_; refine wl_not rfl ?_; refine wl_not rfl ?_; refine wl_not rfl ?_; refine wl_val (r_pick_t rfl (v := .bool true) rfl) rfl ?_; refine wl_nil ?_; refine c_then ?_; refine c_true rfl ?_; refine c_seq ?_; refine c_region ?_; refine wl_val (r_assign (v := .bool true) rfl) rfl ?_; refine wl_nil ?_; refine c_then ?_; refine wp_ret ?_; refine c_thenR ?_; refine ret1 Try.results3 ?_
      exact ⟨rfl, hS94.fin⟩
    have hS86 := hS83.call hx85
    simp only [List.cons_append, List.nil_append] at hS86; refine wl_val (r_move (v := .tuple _) rfl) rfl ?_; refine wl_val (r_extract (v := .slice _ _ _) rfl rfl) rfl ?_; refine wl_val (r_extract (v := .agg _) rfl rfl) rfl ?_; refine wl_val (r_extract (v := .int .i64 _) rfl rfl) rfl ?_; refine wl_exv (x_alloc (C := [.int .i64 0, .int .i64 0, .slice none 0 0]) hS86 ti37 rfl) rfl ?_; rintro _ w95 ⟨b19, rfl, hS96⟩; refine wl_val (r_assign (v := .slice _ _ _) rfl) rfl ?_; refine wl_exs (x_storeW [] hS96 ti37 rfl rfl (by first | (simp [*]; done) | (simp [*] <;> omega) | omega) (by first | (simp [*]; done) | (simp [*] <;> omega) | omega) (by repeat' first | exact one_nil | exact one_b8 _ | exact one_v32 _ | exact one_all rfl | refine one_cons rfl ?_ | refine one_app ?_ ?_)) rfl ?_; intro w97 hS98; simp only [List.cons_append, List.nil_append] at hS98; refine wl_val (r_assign (v := .int .i64 _) rfl) rfl ?_; refine wl_nil ?_; refine c_then ?_; refine c_seq ?_; refine c_seq ?_
    have htb : Row w a ((b.take (min n 1024)).map b8) := by have := hb.take (n := min n 1024); rwa [← List.map_take] at this
    refine c_region ?_; refine wl_val (r_move (v := .int .i64 _) rfl) rfl ?_; refine wl_dec_f (r_neq rfl rfl) rfl (by decide) ?_; refine wl_val (r_move (v := .bool _) rfl) rfl ?_; refine wl_val (r_move (v := .slice _ _ _) rfl) rfl ?_; refine wl_val (r_move (v := .slice _ _ _) rfl) rfl ?_; refine wl_val (r_move (v := .slice _ _ _) rfl) rfl ?_; refine wl_val (r_len (T := 22) rfl ti22.und rfl _ rfl) rfl ?_; refine wl_val (r_min2n (b := 1024) rfl rfl _ rfl) rfl ?_; refine wl_val (r_sl_h ti22.und ti5 rfl rfl (by omega)) rfl ?_; refine wl_call (r_call fn10 rfl rfl) rfl (equal_br (chL t 0) (b.take (min n 1024)) _ _ _ _ _ _ _ (St.rowAt hS98 (.tail _ (.head _))) (htb.st hS98) rfl (by rw [List.length_take, hl]; omega)) ?_
    rintro _ w99 (⟨rfl, heq, hx100⟩ | ⟨rfl, heq, hx100⟩)
    · have hS101 := hS98.ext hx100
      refine wl_val (r_pick_f rfl (v := .bool _) rfl) rfl ?_; refine wl_nil ?_; refine c_then ?_; refine c_true rfl ?_; refine c_seq ?_; refine c_region ?_; refine wl_val (r_assign (v := .bool true) rfl) rfl ?_; refine wl_nil ?_; refine c_then ?_; refine wp_ret ?_; refine c_thenR ?_; refine ret1 Try.results3 ?_
      exact ⟨rfl, hS101.fin⟩
    have hS101 := hS98.ext hx100
    refine wl_val (r_pick_f rfl (v := .bool _) rfl) rfl ?_; refine wl_nil ?_; refine c_then ?_; refine c_false rfl ?_; refine wp_skip ?_; refine c_then ?_; refine c_seq ?_
    have hg0 : gx (ordL xs (chN n)) (chN n) (xs.length + (chN n) - (chN n)) = 0 := by rw [Nat.add_sub_cancel]; exact ord_back (i := 0) (by omega) (by omega)
    have hQm := (hT _ [_, _, _, _, _, _, _, _] hS101 (xs.length + (chN n) - (chN n)) (by omega)).2
    rw [hg0] at hQm
    have hTm : ∀ W A, St w [] W (A ++ LT) → Row W (gt qs (xs.length + (chN n) - (chN n))).a ((pathL (chLv b) 0).flatten.map b8) := fun W A h => by have := (hT W A h (xs.length + (chN n) - (chN n)) (by omega)).2.row; rw [hg0] at this; exact this
    have hP32 : S32 (pathL (chLv b) 0) := pathL_32 _ _ _ (Nat.le_refl _) hL32
    have hPl : (pathL (chLv b) 0).length = (gt qs (xs.length + (chN n) - (chN n))).n := by rw [hQm.n]; exact pathL_len _ _ _ (chN n) (Nat.le_refl _) hLl
    have hQc := hQm.cap
    have hQn := hQm.n
    have hsl := steps_le (chN n) 0 (chN n) (Nat.le_refl _)
    have hcl := chL_le t 0
    have hcp := chL_pos (b := t) (k := 0) (by unfold chN; omega)
    refine c_drawSF 11 hMixed hS101 hS101.drop1 ?_; intro w102 hS103; refine g_take 0 rfl (by decide +kernel) rfl (fun _ _ _ h => h) hS103.drop1 (fun wF hF => r_move (v := .int .i64 _) rfl) ?_; refine g_take 1 rfl (by decide +kernel) rfl (fun _ _ _ h => h) hS103.drop1 (fun wF hF => r_move (v := .slice _ _ _) rfl) ?_; refine g_take 2 rfl (by decide +kernel) rfl (fun _ _ _ h => h) hS103.drop1 (fun wF hF => r_move (v := .slice _ _ _) rfl) ?_; refine g_take 3 rfl (by decide +kernel) rfl (fun _ _ _ h => h) hS103.drop1 (fun wF hF => r_len (T := 31) rfl ti31.und rfl _ rfl) ?_; refine g_take 4 rfl (by decide +kernel) rfl (fun _ _ _ h => h) hS103.drop1 (fun wF hF => r_move (v := .int .i64 _) rfl) ?_; refine g_take 5 rfl (by decide +kernel) rfl (fun _ _ _ h => h) hS103.drop1 (fun wF hF => r_subn rfl rfl (by omega) (by omega)) ?_; refine g_take 6 rfl (by decide +kernel) rfl (fun _ _ _ h => h) hS103.drop1 (fun wF hF => r_ixF PfD.len ti31.und ti37 rfl rfl (St.rowAt hF (.tail _ (.tail _ (.tail _ (.tail _ (.head _)))))) hqs (by omega) (by decide)) ?_; refine g_take 7 rfl (by decide +kernel) rfl (fun _ _ _ h => h) hS103.drop1 (fun wF hF => r_fieldF PfD.len fa37_2 rfl (St.rowAt hF (.tail _ (.tail _ (.tail _ (.tail _ (.head _)))))) (by first | omega | (simp [*]; done) | (simp [*] <;> omega)) (by decide)) ?_; refine g_take 8 rfl (by decide +kernel) rfl (fun _ _ _ h => h) hS103.drop1 (fun wF hF => r_loadFF (off := 2) PfD.len ti35.und rfl rfl (St.rowAt hF (.tail _ (.tail _ (.tail _ (.tail _ (.head _)))))) (by first | omega | (simp [*]; done) | (simp [*] <;> omega)) (by decide) rfl) ?_
    refine g_take 9 rfl (by decide +kernel) rfl (fun _ _ _ h => h) hS103.drop1 (fun wF hF => r_field fa37_1 rfl) ?_; refine g_one 10 (by decide +kernel) (by decide +kernel) ?_; refine o_exs rfl (x_store1 [] hS103 ti3 rfl rfl rfl (by simp)) rfl ?_; intro w104 hS105; simp only [List.cons_append, List.nil_append] at hS105
    refine ⟨hS105.drop1, ?_⟩
    refine g_tail (by decide +kernel) rfl (by decide +kernel) ?_; refine wl_val (r_field fa37_2 rfl) rfl ?_; refine wl_exs (x_store1 [] hS105 ti35 rfl rfl rfl (by simp)) rfl ?_; intro w106 hS107; simp only [List.cons_append, List.nil_append] at hS107; refine wl_nil ?_; refine c_then ?_; refine c_seq ?_; refine c_drawS 9 hMixed hS107 ?_; intro w108 hS109; refine g_take 0 rfl (by decide +kernel) rfl (fun _ _ _ h => h) hS109 (fun wF hF => r_move (v := .slice _ _ _) rfl) ?_; refine g_take 2 rfl (by decide +kernel) rfl (fun _ _ _ h => h) hS109 (fun wF hF => r_loadB ti37 ag37 rfl (hF.heap (.head _)) (by first | (simp [*]; done) | (simp [*] <;> omega) | omega)) ?_; refine g_all (rs := [1, 7]) (by decide +kernel) (by decide +kernel) rfl ?_
    simp only [List.forall_mem_cons, List.not_mem_nil, false_imp_iff, implies_true, and_true]
    refine ⟨?_, ?_⟩
    · refine o_call rfl (r_call fn12 rfl rfl) rfl (rleaf_ok (chL t 0) _ _ _ _ (St.rowAt hS109 (.tail _ (.head _))) rfl hcD (by omega)) ?_
      rintro _ w110 ⟨rfl, hx111⟩
      have hS112 := hS109.ext hx111
      refine ⟨hS112, ?_⟩
      refine g_all (rs := [3, 7]) (by decide +kernel) (by decide +kernel) rfl ?_
      simp only [List.forall_mem_cons, List.not_mem_nil, false_imp_iff, implies_true, and_true]
      refine ⟨?_, ?_⟩
      · refine o_call rfl (r_call fn11 rfl rfl) rfl (rrootBy_n (leafL (chL t 0)) 0 (chN n) (gt qs (xs.length + (chN n) - (chN n))).a (gt qs (xs.length + (chN n) - (chN n))).n (gt qs (xs.length + (chN n) - (chN n))).c (pathL (chLv b) 0) _ (leafL_len _) (hTm _ [_, _, _, _, _, _, _, _] hS112) hP32 hPl hQc (by omega) (by omega) (by omega) (by omega) (by omega)) ?_
        rintro _ w113 ⟨rfl, hx114⟩
        have hS115 := hS112.ext hx114
        refine ⟨hS115, ?_⟩
        refine g_take 4 rfl (by decide +kernel) rfl (fun _ _ _ h => h) hS115 (fun wF hF => r_move (v := .tuple _) rfl) ?_; refine g_take 5 rfl (by decide +kernel) rfl (fun _ _ _ h => h) hS115 (fun wF hF => r_extract (v := .agg _) rfl rfl) ?_; refine g_take 6 rfl (by decide +kernel) rfl (fun _ _ _ h => h) hS115 (fun wF hF => r_extract (v := .int .i64 _) rfl rfl) ?_; refine g_one 7 (by decide +kernel) (by decide +kernel) ?_; refine o_exv rfl (x_alloc (C := ((List.replicate 32 (0 : UInt8)).map b8)) hS115 ti26 rfl) rfl ?_; rintro _ w116 ⟨b20, rfl, hS117⟩
        refine ⟨hS117.drop1, ?_⟩
        refine g_one 8 (by decide +kernel) (by decide +kernel) ?_; refine o_exs rfl (x_storeW [] hS117 ti26 rfl rfl (by rw [List.length_map]; exact rootByL_len _ _ _ _ (leafL_len _)) (by simp) (one_b8 _)) rfl ?_; intro w118 hS119; simp only [List.cons_append, List.nil_append] at hS119
        refine ⟨hS119.drop1, ?_⟩
        refine g_tail (by decide +kernel) rfl (by decide +kernel) ?_; refine wl_val (r_assign (v := .int .i64 _) rfl) rfl ?_; refine wl_nil ?_; refine c_then ?_; refine c_seq ?_; refine c_region ?_; refine wl_val (r_loadB ti26 rfl rfl (hS119.heap (.tail _ (.tail _ (.tail _ (.tail _ (.tail _ (.tail _ (.tail _ (.tail _ (.head _)))))))))) (by rw [List.length_map]; exact hRl)) rfl ?_; refine wl_val (r_move (v := .slice _ _ _) rfl) rfl ?_; refine wl_val (r_loadB ti37 ag37 rfl (hS119.heap (.tail _ (.head _))) (by first | (simp [*]; done) | (simp [*] <;> omega) | omega)) rfl ?_; refine wl_call (r_call fn13 rfl rfl) rfl (checkChunk_ok (rootL (chLv b)) hRl (chL t 0) _ _ _ 0 (chN n) (gt qs (xs.length + (chN n) - (chN n))).a (gt qs (xs.length + (chN n) - (chN n))).n (gt qs (xs.length + (chN n) - (chN n))).c (pathL (chLv b) 0) _ (St.rowAt hS119 (.tail _ (.tail _ (.head _)))) rfl hcD (hTm _ [_, _, _, _, _, _, _, _, _] hS119) hP32 hPl hQc (by omega) (by omega) (by omega) (by omega) (by omega)) ?_
        rintro _ w120 (⟨hz, rfl, hx121⟩ | ⟨hz, rfl, hx121⟩)
        · exfalso; omega
        have hS122 := hS119.ext hx121
        refine wl_dec (r_neq rfl rfl) rfl (fun h25_4 => ?_) (fun h25_4 => ?_)
        · refine wl_val (r_move (v := .bool _) rfl) rfl ?_
          refine wl_not rfl ?_; refine wl_not rfl ?_; refine wl_not rfl ?_; refine wl_not rfl ?_; refine wl_not rfl ?_; refine wl_not rfl ?_; refine wl_not rfl ?_; refine wl_val (r_pick_t rfl (v := .bool true) rfl) rfl ?_; refine wl_val (r_assign (v := .bool _) rfl) rfl ?_; refine wl_nil ?_; refine c_then ?_; refine wp_ret ?_; refine ret1 Try.results3 ?_
          exact ⟨rfl, hS122.fin⟩
        refine wl_val (r_move (v := .bool _) rfl) rfl ?_; refine wl_val (r_move (v := .int .i64 _) rfl) rfl ?_; refine wl_dec_t (r_eql rfl rfl) rfl (provedE_zero (Classical.not_not.1 h25_4)).1 ?_; refine wl_val (r_move (v := .bool _) rfl) rfl ?_; refine wl_val (r_loadB ti26 rfl rfl (hS122.heap (.head _)) (by rw [List.length_map]; exact rootByL_len _ _ _ _ (leafL_len _))) rfl ?_; refine wl_val (r_loadB ti26 rfl rfl (hS122.heap (.tail _ (.tail _ (.tail _ (.tail _ (.tail _ (.tail _ (.tail _ (.tail _ (.head _)))))))))) (by rw [List.length_map]; exact hRl)) rfl ?_; refine wl_dec_t (r_eqlA (u := undef) eg26 rfl rfl (eqIs_b8 ti26.und ti5 _ _ (rootByL_len _ _ _ _ (leafL_len _)) hRl)) rfl (provedE_zero (Classical.not_not.1 h25_4)).2 ?_; refine wl_val (r_pick_t rfl (v := .bool _) rfl) rfl ?_; refine wl_val (r_pick_f rfl (v := .bool _) rfl) rfl ?_; refine wl_val (r_assign (v := .bool _) rfl) rfl ?_; refine wl_nil ?_; refine c_then ?_; refine wp_ret ?_; refine ret1 Try.results3 ?_
        exact ⟨rfl, hS122.fin⟩
      · refine o_exv rfl (x_alloc (C := ((List.replicate 32 (0 : UInt8)).map b8)) hS112 ti26 rfl) rfl ?_
        rintro _ w123 ⟨b20, rfl, hS124⟩
        refine ⟨hS124.drop1, ?_⟩
        refine g_one 3 (by decide +kernel) (by decide +kernel) ?_; refine o_call rfl (r_call fn11 rfl rfl) rfl (rrootBy_n (leafL (chL t 0)) 0 (chN n) (gt qs (xs.length + (chN n) - (chN n))).a (gt qs (xs.length + (chN n) - (chN n))).n (gt qs (xs.length + (chN n) - (chN n))).c (pathL (chLv b) 0) _ (leafL_len _) (hTm _ [_, _, _, _, _, _, _, _, _] hS124) hP32 hPl hQc (by omega) (by omega) (by omega) (by omega) (by omega)) ?_; rintro _ w125 ⟨rfl, hx126⟩
        have hS127 := hS124.ext hx126
        refine ⟨hS127.drop1, ?_⟩
        refine g_take 4 rfl (by decide +kernel) rfl (fun _ _ _ h => h) hS127.drop1 (fun wF hF => r_move (v := .tuple _) rfl) ?_; refine g_take 5 rfl (by decide +kernel) rfl (fun _ _ _ h => h) hS127.drop1 (fun wF hF => r_extract (v := .agg _) rfl rfl) ?_; refine g_take 6 rfl (by decide +kernel) rfl (fun _ _ _ h => h) hS127.drop1 (fun wF hF => r_extract (v := .int .i64 _) rfl rfl) ?_; refine g_one 8 (by decide +kernel) (by decide +kernel) ?_; refine o_exs rfl (x_storeW [] hS127 ti26 rfl rfl (by rw [List.length_map]; exact rootByL_len _ _ _ _ (leafL_len _)) (by simp) (one_b8 _)) rfl ?_; intro w128 hS129; simp only [List.cons_append, List.nil_append] at hS129
        refine ⟨hS129.drop1, ?_⟩
        refine g_tail (by decide +kernel) rfl (by decide +kernel) ?_; refine wl_val (r_assign (v := .int .i64 _) rfl) rfl ?_; refine wl_nil ?_; refine c_then ?_; refine c_seq ?_; refine c_region ?_; refine wl_val (r_loadB ti26 rfl rfl (hS129.heap (.tail _ (.tail _ (.tail _ (.tail _ (.tail _ (.tail _ (.tail _ (.tail _ (.head _)))))))))) (by rw [List.length_map]; exact hRl)) rfl ?_; refine wl_val (r_move (v := .slice _ _ _) rfl) rfl ?_; refine wl_val (r_loadB ti37 ag37 rfl (hS129.heap (.tail _ (.head _))) (by first | (simp [*]; done) | (simp [*] <;> omega) | omega)) rfl ?_; refine wl_call (r_call fn13 rfl rfl) rfl (checkChunk_ok (rootL (chLv b)) hRl (chL t 0) _ _ _ 0 (chN n) (gt qs (xs.length + (chN n) - (chN n))).a (gt qs (xs.length + (chN n) - (chN n))).n (gt qs (xs.length + (chN n) - (chN n))).c (pathL (chLv b) 0) _ (St.rowAt hS129 (.tail _ (.tail _ (.head _)))) rfl hcD (hTm _ [_, _, _, _, _, _, _, _, _] hS129) hP32 hPl hQc (by omega) (by omega) (by omega) (by omega) (by omega)) ?_
        rintro _ w130 (⟨hz, rfl, hx131⟩ | ⟨hz, rfl, hx131⟩)
        · exfalso; omega
        have hS132 := hS129.ext hx131
        refine wl_dec (r_neq rfl rfl) rfl (fun h25_4 => ?_) (fun h25_4 => ?_)
        · refine wl_val (r_move (v := .bool _) rfl) rfl ?_
          refine wl_not rfl ?_; refine wl_not rfl ?_; refine wl_not rfl ?_; refine wl_not rfl ?_; refine wl_not rfl ?_; refine wl_not rfl ?_; refine wl_not rfl ?_; refine wl_val (r_pick_t rfl (v := .bool true) rfl) rfl ?_; refine wl_val (r_assign (v := .bool _) rfl) rfl ?_; refine wl_nil ?_; refine c_then ?_; refine wp_ret ?_; refine ret1 Try.results3 ?_
          exact ⟨rfl, hS132.fin⟩
        refine wl_val (r_move (v := .bool _) rfl) rfl ?_; refine wl_val (r_move (v := .int .i64 _) rfl) rfl ?_; refine wl_dec_t (r_eql rfl rfl) rfl (provedE_zero (Classical.not_not.1 h25_4)).1 ?_; refine wl_val (r_move (v := .bool _) rfl) rfl ?_; refine wl_val (r_loadB ti26 rfl rfl (hS132.heap (.head _)) (by rw [List.length_map]; exact rootByL_len _ _ _ _ (leafL_len _))) rfl ?_; refine wl_val (r_loadB ti26 rfl rfl (hS132.heap (.tail _ (.tail _ (.tail _ (.tail _ (.tail _ (.tail _ (.tail _ (.tail _ (.head _)))))))))) (by rw [List.length_map]; exact hRl)) rfl ?_; refine wl_dec_t (r_eqlA (u := undef) eg26 rfl rfl (eqIs_b8 ti26.und ti5 _ _ (rootByL_len _ _ _ _ (leafL_len _)) hRl)) rfl (provedE_zero (Classical.not_not.1 h25_4)).2 ?_; refine wl_val (r_pick_t rfl (v := .bool _) rfl) rfl ?_; refine wl_val (r_pick_f rfl (v := .bool _) rfl) rfl ?_; refine wl_val (r_assign (v := .bool _) rfl) rfl ?_; refine wl_nil ?_; refine c_then ?_; refine wp_ret ?_; refine ret1 Try.results3 ?_
        exact ⟨rfl, hS132.fin⟩
    · refine o_exv rfl (x_alloc (C := ((List.replicate 32 (0 : UInt8)).map b8)) hS109 ti26 rfl) rfl ?_
      rintro _ w133 ⟨b20, rfl, hS134⟩
      refine ⟨hS134.drop1, ?_⟩
      refine g_one 1 (by decide +kernel) (by decide +kernel) ?_; refine o_call rfl (r_call fn12 rfl rfl) rfl (rleaf_ok (chL t 0) _ _ _ _ (St.rowAt hS134 (.tail _ (.tail _ (.head _)))) rfl hcD (by omega)) ?_; rintro _ w135 ⟨rfl, hx136⟩
      have hS137 := hS134.ext hx136
      refine ⟨hS137.drop1, ?_⟩
      refine g_one 3 (by decide +kernel) (by decide +kernel) ?_; refine o_call rfl (r_call fn11 rfl rfl) rfl (rrootBy_n (leafL (chL t 0)) 0 (chN n) (gt qs (xs.length + (chN n) - (chN n))).a (gt qs (xs.length + (chN n) - (chN n))).n (gt qs (xs.length + (chN n) - (chN n))).c (pathL (chLv b) 0) _ (leafL_len _) (hTm _ [_, _, _, _, _, _, _, _, _] hS137) hP32 hPl hQc (by omega) (by omega) (by omega) (by omega) (by omega)) ?_; rintro _ w138 ⟨rfl, hx139⟩
      have hS140 := hS137.ext hx139
      refine ⟨hS140.drop1, ?_⟩
      refine g_take 4 rfl (by decide +kernel) rfl (fun _ _ _ h => h) hS140.drop1 (fun wF hF => r_move (v := .tuple _) rfl) ?_; refine g_take 5 rfl (by decide +kernel) rfl (fun _ _ _ h => h) hS140.drop1 (fun wF hF => r_extract (v := .agg _) rfl rfl) ?_; refine g_take 6 rfl (by decide +kernel) rfl (fun _ _ _ h => h) hS140.drop1 (fun wF hF => r_extract (v := .int .i64 _) rfl rfl) ?_; refine g_one 8 (by decide +kernel) (by decide +kernel) ?_; refine o_exs rfl (x_storeW [] hS140 ti26 rfl rfl (by rw [List.length_map]; exact rootByL_len _ _ _ _ (leafL_len _)) (by simp) (one_b8 _)) rfl ?_; intro w141 hS142; simp only [List.cons_append, List.nil_append] at hS142
      refine ⟨hS142.drop1, ?_⟩
      refine g_tail (by decide +kernel) rfl (by decide +kernel) ?_; refine wl_val (r_assign (v := .int .i64 _) rfl) rfl ?_; refine wl_nil ?_; refine c_then ?_; refine c_seq ?_; refine c_region ?_; refine wl_val (r_loadB ti26 rfl rfl (hS142.heap (.tail _ (.tail _ (.tail _ (.tail _ (.tail _ (.tail _ (.tail _ (.tail _ (.head _)))))))))) (by rw [List.length_map]; exact hRl)) rfl ?_; refine wl_val (r_move (v := .slice _ _ _) rfl) rfl ?_; refine wl_val (r_loadB ti37 ag37 rfl (hS142.heap (.tail _ (.head _))) (by first | (simp [*]; done) | (simp [*] <;> omega) | omega)) rfl ?_; refine wl_call (r_call fn13 rfl rfl) rfl (checkChunk_ok (rootL (chLv b)) hRl (chL t 0) _ _ _ 0 (chN n) (gt qs (xs.length + (chN n) - (chN n))).a (gt qs (xs.length + (chN n) - (chN n))).n (gt qs (xs.length + (chN n) - (chN n))).c (pathL (chLv b) 0) _ (St.rowAt hS142 (.tail _ (.tail _ (.head _)))) rfl hcD (hTm _ [_, _, _, _, _, _, _, _, _] hS142) hP32 hPl hQc (by omega) (by omega) (by omega) (by omega) (by omega)) ?_
      rintro _ w143 (⟨hz, rfl, hx144⟩ | ⟨hz, rfl, hx144⟩)
      · exfalso; omega
      have hS145 := hS142.ext hx144
      refine wl_dec (r_neq rfl rfl) rfl (fun h25_4 => ?_) (fun h25_4 => ?_)
      · refine wl_val (r_move (v := .bool _) rfl) rfl ?_
        refine wl_not rfl ?_; refine wl_not rfl ?_; refine wl_not rfl ?_; refine wl_not rfl ?_; refine wl_not rfl ?_; refine wl_not rfl ?_; refine wl_not rfl ?_; refine wl_val (r_pick_t rfl (v := .bool true) rfl) rfl ?_; refine wl_val (r_assign (v := .bool _) rfl) rfl ?_; refine wl_nil ?_; refine c_then ?_; refine wp_ret ?_; refine ret1 Try.results3 ?_
        exact ⟨rfl, hS145.fin⟩
      refine wl_val (r_move (v := .bool _) rfl) rfl ?_; refine wl_val (r_move (v := .int .i64 _) rfl) rfl ?_; refine wl_dec_t (r_eql rfl rfl) rfl (provedE_zero (Classical.not_not.1 h25_4)).1 ?_; refine wl_val (r_move (v := .bool _) rfl) rfl ?_; refine wl_val (r_loadB ti26 rfl rfl (hS145.heap (.head _)) (by rw [List.length_map]; exact rootByL_len _ _ _ _ (leafL_len _))) rfl ?_; refine wl_val (r_loadB ti26 rfl rfl (hS145.heap (.tail _ (.tail _ (.tail _ (.tail _ (.tail _ (.tail _ (.tail _ (.tail _ (.head _)))))))))) (by rw [List.length_map]; exact hRl)) rfl ?_; refine wl_dec_t (r_eqlA (u := undef) eg26 rfl rfl (eqIs_b8 ti26.und ti5 _ _ (rootByL_len _ _ _ _ (leafL_len _)) hRl)) rfl (provedE_zero (Classical.not_not.1 h25_4)).2 ?_; refine wl_val (r_pick_t rfl (v := .bool _) rfl) rfl ?_; refine wl_val (r_pick_f rfl (v := .bool _) rfl) rfl ?_; refine wl_val (r_assign (v := .bool _) rfl) rfl ?_; refine wl_nil ?_; refine c_then ?_; refine wp_ret ?_; refine ret1 Try.results3 ?_
      exact ⟨rfl, hS145.fin⟩


theorem own : ownKnob Try.prog.godebug = none := by kernel_rfl
theorem laidOut : laidOutB Try.prog = true := by kernel_rfl
theorem readable22 : Try.prog.readableRec 22 = true := by kernel_rfl
theorem inside22 : decide (22 < Try.prog.types.size) = true := by kernel_rfl
theorem readable23 : Try.prog.readableRec 23 = true := by kernel_rfl
theorem inside23 : decide (23 < Try.prog.types.size) = true := by kernel_rfl
theorem lifted (os : Os) (started : os.Started) (H : Type) (enc : TypeId × Value → H) (F : Stop.Interp) :
    ReturnsInHanded {} Try.checked os 3 .any ((Rows.OpenSpec.upto Rows.topChunksSpec).pre6 enc Try.prog Try.f3 Rows.topChunksUptoRow.domain false) (((Rows.OpenSpec.upto Rows.topChunksSpec).at F).post enc Try.prog Try.f3 false true false false) := by
  refine returnsInHanded_of_cond_sized (C := Try.checked) (s := (Rows.OpenSpec.upto Rows.topChunksSpec)) (k := Rows.uptoSmall) rfl own started (by kernel_rfl) Try.func3
    (OpenSpec.witness (enc := enc) (C := Try.checked) (s := (Rows.OpenSpec.upto Rows.topChunksSpec)) (k := Rows.uptoSmall) rfl false ⟨#[], #[.slice none 0 0, .slice none 0 0, .slice none 0 0], []⟩ 8 (by kernel_rfl) (by kernel_rfl) (by kernel_rfl)
      (x := ([.nil, .nil, .nil], [], [])) (by kernel_rfl) rfl (by kernel_rfl)) ?_
  intro W base args ds gs before hval0 hW hcnd hk0 hsz0 _
  have hval : ∀ (j : Nat) t v, Try.f3.params[j]? = some t → args[j]? = some v → Value.okWide Try.prog W .any base t v := hval0
  have hW' := hW
  obtain ⟨p, q, hA0, hV, rfl, hfz, hnd⟩ := hW
  have hA : DataW.TrodAll enc Try.prog W 0 (fun _ => true) true Try.f3.params.toList args.toList ds p := hA0
  have hsz : (DataW.weightsEach Try.prog (Try.f3.params.toList ++ Rows.topChunksSpec.plain.varTypes Try.prog) (ds ++ gs)).all (· ≤ reachBytes) = true := hsz0
  rw [Try.params3] at hA hval hsz
  obtain ⟨v0, vs0, d0, ds0, p0, q0, hargs, rfl, rfl, h0, r0⟩ := trodAll_cons hA
  obtain ⟨v1, vs1, d1, ds1, p1, q1, rfl, rfl, rfl, h1, r1⟩ := trodAll_cons r0
  obtain ⟨v2, vs2, d2, ds2, p2, q2, rfl, rfl, rfl, h2, r2⟩ := trodAll_cons r1
  obtain ⟨rfl, rfl, rfl⟩ := trodAll_nil r2
  obtain rfl : args = #[v0, v1, v2] := by cases args; simp_all
  obtain ⟨rfl, rfl⟩ := trodVars_none hV
  have lt0 : ∀ x ∈ p0, x.block < W.heap.size := by obtain ⟨m, hm⟩ := h0; exact DataW.trod_lt m _ _ _ hm
  have lt1 : ∀ x ∈ p1, x.block < W.heap.size := by obtain ⟨m, hm⟩ := h1; exact DataW.trod_lt m _ _ _ hm
  have lt2 : ∀ x ∈ p2, x.block < W.heap.size := by obtain ⟨m, hm⟩ := h2; exact DataW.trod_lt m _ _ _ hm
  have ok0 := hval 0 22 v0 rfl rfl
  obtain ⟨ab, b, cb, rfl, rb, lcb, hcb⟩ := open_bytesS (j := 0) Try.underlying22 Try.underlying5 (by kernel_rfl) (by kernel_rfl) ok0 h0 hsz rfl rfl
  have ok1 := hval 1 22 v1 rfl rfl
  obtain ⟨aot, ot, cot, rfl, rot, lcot, hcot⟩ := open_bytesS (j := 1) Try.underlying22 Try.underlying5 (by kernel_rfl) (by kernel_rfl) ok1 h1 hsz rfl rfl
  have ok2 := hval 2 23 v2 rfl rfl
  obtain ⟨⟨axs, cxs, xs⟩, rfl, rxs, lcxs, _, _⟩ := open_slice (j := 2) Try.underlying23 (opens_slice1 (g := iz) (bts := 8) Try.underlying23 (by kernel_rfl) (by kernel_rfl) (opens_i64 Try.underlying3)) ok2 h2 hsz rfl rfl
  simp only [] at rxs lcxs
  have hk1 : Rows.uptoBulkAll _ ≤ 1048576 := of_decide_eq_true hk0
  simp only [List.append_nil, List.cons_append, List.nil_append, Rows.uptoBulkAll] at hk1
  have hbk2 : xs.length + 1 ≤ Rows.uptoBulk d2 := by
    obtain ⟨fuel, hf⟩ := h2
    have hf2 : DataW.trod enc Try.prog W 0 (fun _ => true) true fuel 23 [.slice axs xs.length cxs] = some (d2, p2) := hf
    exact bulk_slice Try.underlying23 hf2
  refine Calls.mono (walk b ot xs ab aot axs b.length cb ot.length cot cxs W rb rfl lcb rot rfl lcot rxs (by omega)) fun e W' ⟨v, he, hv, hs⟩ => ?_
  subst hv; subst he
  have bel := hs.below
  exact ⟨_, rfl, _, _, _, [], _, [], hW', trodAll_mk1 (shut_bool Try.underlying4 _), (trodAll_cons_mk (Below.trod laidOut readable22 (of_decide_eq_true inside22) h0 bel lt0) (trodAll_cons_mk (Below.trod laidOut readable22 (of_decide_eq_true inside22) h1 bel lt1) (trodAll_cons_mk (Below.trod laidOut readable23 (of_decide_eq_true inside23) h2 bel lt2) trodAll_mk0))), rfl, bel.frame _, fun h => by cases h⟩
theorem over : Rows.topChunksUptoRow.holds Try.pinned (Rows.OpenSpec.upto Rows.topChunksSpec) :=
  OpenClaim.holds_of_cond 3 Try.f3 rfl rfl rfl rfl rfl rfl rfl ⟨rfl, rfl, rfl, rfl, rfl⟩ rfl rfl rfl rfl rfl (by kernel_rfl) Try.func3 (by kernel_rfl)
    (of_decide_eq_true (by kernel_rfl)) (by unfold Func.isWrapper; first | (rw [if_pos (by decide +kernel)]; kernel_rfl) | (rw [if_neg (by decide +kernel)]; exact ⟨rfl, rfl⟩))
    (fun os started H enc _ F => lifted os started H enc F)
theorem proved : Rows.TopChunksUptoSaid := over
#print axioms proved
end Go.Proofs.Ytflfocmfdlmjiaa.lawTopChunks
