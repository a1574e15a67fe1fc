/- For every domain, text and parts that are together no bulkier than the bound: SumOf and Sums are the reference's sums; the law's function returns true and turns nothing. Its condition is the statement's own bound on the bulk of what comes in. -/
import Derived.Test.YtfohfnpehfcaaaaRows
import Derived.Test.YtfohfnpehfcaaaaOpen
import Derived.Test.YtfohfnpehfcaaaaFrameA
import Derived.Deep.CondSized
import Derived.JoinedCond
namespace Go.Proofs.Ytfohfnpehfcaaaa.lawSumsMatch
open Go.Kw Go.Proofs.Ytfohfnpehfcaaaa
open Go.ChangeShapes Go.WideShapes Go.ChangeAt Go.RowKit
set_option linter.unusedVariables false
set_option linter.unusedSimpArgs false
set_option maxRecDepth 100000
set_option maxHeartbeats 20000000


theorem one_le {H : Type} (d : DataW H) : 1 ≤ Rows.uptoBulk d := by
  cases d with
  | lit l => cases l <;> simp [Rows.uptoBulk]
  | nil => simp [Rows.uptoBulk]
  | ptr d => simp [Rows.uptoBulk]
  | slice elems spare => simp [Rows.uptoBulk]
  | agg parts => simp [Rows.uptoBulk]
  | iface t d => simp [Rows.uptoBulk]
  | map entries => simp [Rows.uptoBulk]
  | held h => simp [Rows.uptoBulk]
theorem length_le {H : Type} (l : List (DataW H)) : l.length ≤ Rows.uptoBulkAll l := by
  induction l with
  | nil => simp [Rows.uptoBulkAll]
  | cons x r ih => have := one_le x; simp only [Rows.uptoBulkAll, List.length_cons]; omega
section
variable {H : Type} {enc : TypeId × Value → H} {P : Program} {W : World} {t e q : TypeId}
/-- A slice's reading is at least as bulky as the slice is long. -/
theorem bulk_slice {fuel n c : Nat} {a : Option Addr} {x : DataW H × List MemPlace} (hu : P.underlying t = some (.slice e)) (h : DataW.trod enc P W 0 (fun _ => true) true fuel t [.slice a n c] = some x) : n + 1 ≤ Rows.uptoBulk x.1 := by
  rcases DataW.trod_slice hu h with ⟨hcs, _⟩ | ⟨a', len, cap, elems, rest, m, _, hcs, hxe, hb, hl, hm, hel, hget, hrest, _⟩
  · simp only [List.cons.injEq, Value.slice.injEq, and_true] at hcs
    have := one_le x.1
    omega
  · simp only [List.cons.injEq, Value.slice.injEq, and_true] at hcs
    subst hxe
    have h2 := length_le (elems.map (·.1))
    simp only [List.length_map] at h2
    simp only [Rows.uptoBulk]
    omega
theorem bulk_sum : ∀ (l : List (DataW H × List MemPlace)) (ps : List Piece), l.length = ps.length → (∀ i (h1 : i < l.length) (h2 : i < ps.length), ps[i].xs.length + 1 ≤ Rows.uptoBulk l[i].1) → total ps + ps.length ≤ Rows.uptoBulkAll (l.map (·.1))
  | [], [], _, _ => by simp [total]
  | [], _ :: _, h, _ => by simp at h
  | _ :: _, [], h, _ => by simp at h
  | x :: l, p :: ps, h, hi => by
    have ih := bulk_sum l ps (by simpa using h) (fun i h1 h2 => by
      have := hi (i + 1) (by simpa using h1) (by simpa using h2)
      simp only [List.getElem_cons_succ] at this
      exact this)
    have h0 := hi 0 (by simp) (by simp)
    simp only [List.getElem_cons_zero] at h0
    have e : total (p :: ps) = p.xs.length + total ps := by simp [total]
    simp only [List.map_cons, Rows.uptoBulkAll, List.length_cons]
    omega
/-- .. and a slice of texts as all of them are together. -/
theorem bulk_parts {v : Value} {d : DataW H} {pl : List MemPlace} (hu : P.underlying t = some (.slice e)) (he : P.underlying e = some (.slice q)) (hc : P.cellsOf e = 1) (s : Sl Piece) (hr : Row W s.a (s.xs.map Piece.v)) (h : DataW.Trod enc P W 0 (fun _ => true) true t s.v d pl) : total s.xs + s.xs.length ≤ Rows.uptoBulk d := by
  obtain ⟨fuel, h⟩ := h
  have h : DataW.trod enc P W 0 (fun _ => true) true fuel t [s.v] = some (d, pl) := by simpa [Sl.v, Value.cells] using h
  rcases DataW.trod_slice hu h with ⟨hcs, _⟩ | ⟨a', len, cap, elems, rest, m, _, hcs, hxe, hb, hl, hm, hel, hget, hrest, _⟩
  · simp only [Sl.v, List.cons.injEq, Value.slice.injEq, and_true] at hcs
    have h0 : s.xs = [] := List.eq_nil_of_length_eq_zero (by omega)
    rw [h0]; simp [total]
  · simp only [Sl.v, List.cons.injEq, Value.slice.injEq, and_true] at hcs
    obtain ⟨hsa, hsl, hsc⟩ := hcs
    simp only [Prod.mk.injEq] at hxe
    obtain ⟨rfl, _⟩ := hxe
    have hsum := bulk_sum elems s.xs (by omega) (fun i h1 h2 => by
      have h3 := hget i (by omega)
      rw [List.getElem?_eq_getElem h1, hc] at h3
      obtain ⟨cs', h4, h5⟩ := Option.bind_eq_some_iff.1 h3
      obtain ⟨b, off, hab, hA⟩ := hr.some_of (by rw [List.length_map]; omega)
      rw [hab] at hsa
      simp only [Option.some.injEq] at hsa
      subst hsa
      have h6 := hA i (Piece.v s.xs[i]) (by simp [h2])
      have h7 := (World.cells?_some h4).2.2 0 (by decide)
      rw [add_lit, add_lit, Nat.mul_one, Nat.add_zero, h6] at h7
      have h8 : cs'.length = 1 := (World.cells?_some h4).2.1
      have h9 : cs' = [Piece.v s.xs[i]] := by
        match cs', h7, h8 with
        | [y], h7, _ => simpa using h7.symm
        | [], h7, _ => simp at h7
        | _ :: _ :: _, _, h8 => simp at h8
      subst h9
      exact bulk_slice he h5)
    simp only [Rows.uptoBulk]
    omega
end
theorem walk (p : Int) (t : List UInt8) (at' : Option Addr) (ct : Nat) (ps : List Piece) (a : Option Addr) (n c : Nat) (w : World) (hp1 : -9223372036854775808 ≤ p) (hp2 : p ≤ 9223372036854775807) (ht : Row w at' (t.map b8)) (htc : t.length ≤ ct) (htn : t.length ≤ 1048576) (hb : Row w a (ps.map Piece.v)) (hl : ps.length = n) (hr : ∀ q ∈ ps, Row w q.a (q.xs.map b8) ∧ q.xs.length ≤ q.c ∧ q.xs.length ≤ 140737488351232) (hps : ps.length ≤ 1048576) (hpt : total ps ≤ 1048576) :
    Ret Try.prog 7 [.int .i64 p, .slice at' t.length ct, .slice a n c] w (fun v w' => v = .bool true ∧ St w [] w' []) := by
  refine enter Try.func7 rfl Try.ntmps7 rfl ?_
  have hS := St.refl w []
  refine c_seq ?_
  refine c_region ?_
  refine wl_val (r_assign (v := .bool false) rfl) rfl ?_
  refine wl_nil ?_
  refine c_then ?_
  refine c_seq ?_
  refine c_seq ?_
  refine c_region ?_
  refine wl_call (r_call fn20 rfl rfl) rfl (landed_ok _) ?_
  rintro _ w1 ⟨rfl, hx2⟩
  have hS3 := hS.ext hx2
  refine wl_val (r_not rfl) rfl ?_
  refine wl_nil ?_
  refine c_then ?_
  refine c_false rfl ?_
  refine wp_skip ?_
  refine c_then ?_
  refine c_seq ?_
  refine c_region ?_
  refine wl_val (r_move (v := .int .i64 _) rfl) rfl ?_
  refine wl_val (r_move (v := .slice _ _ _) rfl) rfl ?_
  refine wl_call (r_call fn44 rfl rfl) rfl (sumOf_ok p t at' ct _ hp1 hp2 (ht.st hS3) htc (by omega)) ?_
  rintro _ w4 (⟨hd, rfl, hx5⟩ | ⟨hd, rfl, hx5⟩ | ⟨hd, rfl, hx5⟩)
  · have hS6 := hS3.ext hx5
    refine wl_val (r_move (v := .tuple _) rfl) rfl ?_
    refine wl_val (r_extract (v := .agg _) rfl rfl) rfl ?_
    refine wl_val (r_extract (v := .int .i64 _) rfl rfl) rfl ?_
    refine wl_exv (x_alloc (C := ((List.replicate 32 (0 : UInt8)).map b8)) hS6 ti49 rfl) rfl ?_
    rintro _ w7 ⟨b7, rfl, hS8⟩
    refine wl_exs (x_storeW [] hS8 ti49 rfl rfl (by first | (simp [*]; done) | (simp [*] <;> omega) | omega) (by first | (simp [*]; done) | (simp [*] <;> omega) | omega) (by repeat' first | exact one_nil | exact one_b8 _ | exact one_v32 _ | exact one_all rfl | refine one_cons rfl ?_ | refine one_app ?_ ?_)) rfl ?_
    intro w9 hS10
    simp only [List.cons_append, List.nil_append] at hS10
    refine wl_val (r_assign (v := .int .i64 _) rfl) rfl ?_
    refine wl_nil ?_
    refine c_then ?_
    refine c_seq ?_
    refine c_block ?_
    refine c_seq ?_
    refine c_region ?_
    refine wl_val (r_move (v := .int .i64 _) rfl) rfl ?_
    refine wl_dec (r_lss rfl rfl) rfl (fun h4_1 => ?_) (fun h4_1 => ?_)
    · refine wl_val (r_move (v := .bool _) rfl) rfl ?_
      refine wl_not rfl ?_
      refine wl_not rfl ?_
      refine wl_val (r_pick_t rfl (v := .bool true) rfl) rfl ?_
      refine wl_val (r_assign (v := .bool _) rfl) rfl ?_
      refine wl_nil ?_
      refine c_then ?_
      refine c_true rfl ?_
      refine c_seq ?_
      refine c_region ?_
      refine wl_val (r_move (v := .int .i64 _) rfl) rfl ?_
      refine wl_dec_f (r_neq rfl rfl) rfl (by decide) ?_
      refine wl_val (r_move (v := .bool _) rfl) rfl ?_
      refine wl_val (r_loadB ti49 rfl rfl (hS10.heap (.head _)) (by first | (simp [*]; done) | (simp [*] <;> omega) | omega)) rfl ?_
      refine wl_val (r_build0 (cs := ((List.replicate 32 (0 : UInt8)).map b8)) ti49.und ti49 ti5) rfl ?_
      refine wl_dec_f (r_neqA (u := undef) eg49 rfl rfl (eqIs_b8 ti49.und ti5 _ _ (by first | (simp [*]; done) | (simp [*] <;> omega) | omega) (by first | (simp [*]; done) | (simp [*] <;> omega) | omega))) rfl (fun h => h rfl) ?_
      refine wl_val (r_pick_f rfl (v := .bool _) rfl) rfl ?_
      refine wl_nil ?_
      refine c_then ?_
      refine c_false rfl ?_
      refine wp_skip ?_
      refine c_inN ?_
      refine c_then ?_
      refine c_seq ?_
      refine c_region ?_
      refine wl_val (r_move (v := .slice _ _ _) rfl) rfl ?_
      refine wl_call (r_call fn45 rfl rfl) rfl (rframed_ok ps a n c _ (hb.st hS10) hl (fun q hq => ⟨(hr q hq).1.st hS10, (hr q hq).2⟩) hps hpt) ?_
      rintro _ w11 ⟨af, nf, cf, rfl, hnf, hcf, hx12⟩
      have hS13 := hS10.call hx12
      simp only [List.cons_append, List.nil_append] at hS13
      refine wl_val (r_assign (v := .slice _ _ _) rfl) rfl ?_
      refine wl_nil ?_
      refine c_then ?_
      refine c_seq ?_
      refine c_region ?_
      refine wl_val (r_move (v := .int .i64 _) rfl) rfl ?_
      refine wl_val (r_move (v := .slice _ _ _) rfl) rfl ?_
      refine wl_call (r_call fn46 rfl rfl) rfl (sums_ok _ ps a n c _ hp1 hp2 (hb.st hS13) hl (fun q hq => ⟨(hr q hq).1.st hS13, (hr q hq).2⟩) hps hpt) ?_
      rintro _ w14 (⟨hd2, rfl, hx15⟩ | ⟨hd2, rfl, hx15⟩ | ⟨hd2, rfl, hx15⟩)
      · have hS16 := hS13.ext hx15
        refine wl_val (r_move (v := .tuple _) rfl) rfl ?_
        refine wl_val (r_extract (v := .agg _) rfl rfl) rfl ?_
        refine wl_val (r_extract (v := .int .i64 _) rfl rfl) rfl ?_
        refine wl_exs (x_storeW [_] hS16 ti49 rfl rfl (by first | (simp [*]; done) | (simp [*] <;> omega) | omega) (by first | (simp [*]; done) | (simp [*] <;> omega) | omega) (by repeat' first | exact one_nil | exact one_b8 _ | exact one_v32 _ | exact one_all rfl | refine one_cons rfl ?_ | refine one_app ?_ ?_)) rfl ?_
        intro w17 hS18
        simp only [List.cons_append, List.nil_append] at hS18
        refine wl_val (r_assign (v := .int .i64 _) rfl) rfl ?_
        refine wl_nil ?_
        refine c_then ?_
        refine c_seq ?_
        refine c_block ?_
        refine c_seq ?_
        refine c_region ?_
        refine wl_val (r_move (v := .int .i64 _) rfl) rfl ?_
        refine wl_dec (r_lss rfl rfl) rfl (fun h14_1 => ?_) (fun h14_1 => ?_)
        · refine wl_val (r_move (v := .bool _) rfl) rfl ?_
          refine wl_not rfl ?_
          refine wl_not rfl ?_
          refine wl_val (r_pick_t rfl (v := .bool true) rfl) rfl ?_
          refine wl_val (r_assign (v := .bool _) rfl) rfl ?_
          refine wl_nil ?_
          refine c_then ?_
          refine c_true rfl ?_
          refine c_seq ?_
          refine c_region ?_
          refine wl_val (r_move (v := .int .i64 _) rfl) rfl ?_
          refine wl_dec_t (r_eql rfl rfl) rfl (by decide) ?_
          refine wl_val (r_assign (v := .bool _) rfl) rfl ?_
          refine wl_nil ?_
          refine c_then ?_
          refine wp_ret ?_
          refine c_inR ?_
          refine c_thenR ?_
          refine ret1 Try.results7 ?_
          exact ⟨rfl, hS18.fin⟩
        · refine wl_val (r_move (v := .bool _) rfl) rfl ?_
          refine wl_val (r_move (v := .int .i64 _) rfl) rfl ?_
          refine wl_dec_t (r_gtr rfl rfl) rfl (by omega) ?_
          refine wl_val (r_pick_f rfl (v := .bool _) rfl) rfl ?_
          refine wl_val (r_assign (v := .bool _) rfl) rfl ?_
          refine wl_nil ?_
          refine c_then ?_
          refine c_true rfl ?_
          refine c_seq ?_
          refine c_region ?_
          refine wl_val (r_move (v := .int .i64 _) rfl) rfl ?_
          refine wl_dec_t (r_eql rfl rfl) rfl (by decide) ?_
          refine wl_val (r_assign (v := .bool _) rfl) rfl ?_
          refine wl_nil ?_
          refine c_then ?_
          refine wp_ret ?_
          refine c_inR ?_
          refine c_thenR ?_
          refine ret1 Try.results7 ?_
          exact ⟨rfl, hS18.fin⟩
      · exfalso; omega
      · exfalso; omega
    · refine wl_val (r_move (v := .bool _) rfl) rfl ?_
      refine wl_val (r_move (v := .int .i64 _) rfl) rfl ?_
      refine wl_dec_t (r_gtr rfl rfl) rfl (by omega) ?_
      refine wl_val (r_pick_f rfl (v := .bool _) rfl) rfl ?_
      refine wl_val (r_assign (v := .bool _) rfl) rfl ?_
      refine wl_nil ?_
      refine c_then ?_
      refine c_true rfl ?_
      refine c_seq ?_
      refine c_region ?_
      refine wl_val (r_move (v := .int .i64 _) rfl) rfl ?_
      refine wl_dec_f (r_neq rfl rfl) rfl (by decide) ?_
      refine wl_val (r_move (v := .bool _) rfl) rfl ?_
      refine wl_val (r_loadB ti49 rfl rfl (hS10.heap (.head _)) (by first | (simp [*]; done) | (simp [*] <;> omega) | omega)) rfl ?_
      refine wl_val (r_build0 (cs := ((List.replicate 32 (0 : UInt8)).map b8)) ti49.und ti49 ti5) rfl ?_
      refine wl_dec_f (r_neqA (u := undef) eg49 rfl rfl (eqIs_b8 ti49.und ti5 _ _ (by first | (simp [*]; done) | (simp [*] <;> omega) | omega) (by first | (simp [*]; done) | (simp [*] <;> omega) | omega))) rfl (fun h => h rfl) ?_
      refine wl_val (r_pick_f rfl (v := .bool _) rfl) rfl ?_
      refine wl_nil ?_
      refine c_then ?_
      refine c_false rfl ?_
      refine wp_skip ?_
      refine c_inN ?_
      refine c_then ?_
      refine c_seq ?_
      refine c_region ?_
      refine wl_val (r_move (v := .slice _ _ _) rfl) rfl ?_
      refine wl_call (r_call fn45 rfl rfl) rfl (rframed_ok ps a n c _ (hb.st hS10) hl (fun q hq => ⟨(hr q hq).1.st hS10, (hr q hq).2⟩) hps hpt) ?_
      rintro _ w19 ⟨af, nf, cf, rfl, hnf, hcf, hx20⟩
      have hS21 := hS10.call hx20
      simp only [List.cons_append, List.nil_append] at hS21
      refine wl_val (r_assign (v := .slice _ _ _) rfl) rfl ?_
      refine wl_nil ?_
      refine c_then ?_
      refine c_seq ?_
      refine c_region ?_
      refine wl_val (r_move (v := .int .i64 _) rfl) rfl ?_
      refine wl_val (r_move (v := .slice _ _ _) rfl) rfl ?_
      refine wl_call (r_call fn46 rfl rfl) rfl (sums_ok _ ps a n c _ hp1 hp2 (hb.st hS21) hl (fun q hq => ⟨(hr q hq).1.st hS21, (hr q hq).2⟩) hps hpt) ?_
      rintro _ w22 (⟨hd2, rfl, hx23⟩ | ⟨hd2, rfl, hx23⟩ | ⟨hd2, rfl, hx23⟩)
      · have hS24 := hS21.ext hx23
        refine wl_val (r_move (v := .tuple _) rfl) rfl ?_
        refine wl_val (r_extract (v := .agg _) rfl rfl) rfl ?_
        refine wl_val (r_extract (v := .int .i64 _) rfl rfl) rfl ?_
        refine wl_exs (x_storeW [_] hS24 ti49 rfl rfl (by first | (simp [*]; done) | (simp [*] <;> omega) | omega) (by first | (simp [*]; done) | (simp [*] <;> omega) | omega) (by repeat' first | exact one_nil | exact one_b8 _ | exact one_v32 _ | exact one_all rfl | refine one_cons rfl ?_ | refine one_app ?_ ?_)) rfl ?_
        intro w25 hS26
        simp only [List.cons_append, List.nil_append] at hS26
        refine wl_val (r_assign (v := .int .i64 _) rfl) rfl ?_
        refine wl_nil ?_
        refine c_then ?_
        refine c_seq ?_
        refine c_block ?_
        refine c_seq ?_
        refine c_region ?_
        refine wl_val (r_move (v := .int .i64 _) rfl) rfl ?_
        refine wl_dec (r_lss rfl rfl) rfl (fun h14_1 => ?_) (fun h14_1 => ?_)
        · refine wl_val (r_move (v := .bool _) rfl) rfl ?_
          refine wl_not rfl ?_
          refine wl_not rfl ?_
          refine wl_val (r_pick_t rfl (v := .bool true) rfl) rfl ?_
          refine wl_val (r_assign (v := .bool _) rfl) rfl ?_
          refine wl_nil ?_
          refine c_then ?_
          refine c_true rfl ?_
          refine c_seq ?_
          refine c_region ?_
          refine wl_val (r_move (v := .int .i64 _) rfl) rfl ?_
          refine wl_dec_t (r_eql rfl rfl) rfl (by decide) ?_
          refine wl_val (r_assign (v := .bool _) rfl) rfl ?_
          refine wl_nil ?_
          refine c_then ?_
          refine wp_ret ?_
          refine c_inR ?_
          refine c_thenR ?_
          refine ret1 Try.results7 ?_
          exact ⟨rfl, hS26.fin⟩
        · refine wl_val (r_move (v := .bool _) rfl) rfl ?_
          refine wl_val (r_move (v := .int .i64 _) rfl) rfl ?_
          refine wl_dec_t (r_gtr rfl rfl) rfl (by omega) ?_
          refine wl_val (r_pick_f rfl (v := .bool _) rfl) rfl ?_
          refine wl_val (r_assign (v := .bool _) rfl) rfl ?_
          refine wl_nil ?_
          refine c_then ?_
          refine c_true rfl ?_
          refine c_seq ?_
          refine c_region ?_
          refine wl_val (r_move (v := .int .i64 _) rfl) rfl ?_
          refine wl_dec_t (r_eql rfl rfl) rfl (by decide) ?_
          refine wl_val (r_assign (v := .bool _) rfl) rfl ?_
          refine wl_nil ?_
          refine c_then ?_
          refine wp_ret ?_
          refine c_inR ?_
          refine c_thenR ?_
          refine ret1 Try.results7 ?_
          exact ⟨rfl, hS26.fin⟩
      · exfalso; omega
      · exfalso; omega
  · have hS6 := hS3.ext hx5
    refine wl_val (r_move (v := .tuple _) rfl) rfl ?_
    refine wl_val (r_extract (v := .agg _) rfl rfl) rfl ?_
    refine wl_val (r_extract (v := .int .i64 _) rfl rfl) rfl ?_
    refine wl_exv (x_alloc (C := ((List.replicate 32 (0 : UInt8)).map b8)) hS6 ti49 rfl) rfl ?_
    rintro _ w27 ⟨b7, rfl, hS28⟩
    refine wl_exs (x_storeW [] hS28 ti49 rfl rfl (by first | (simp [*]; done) | (simp [*] <;> omega) | omega) (by first | (simp [*]; done) | (simp [*] <;> omega) | omega) (by repeat' first | exact one_nil | exact one_b8 _ | exact one_v32 _ | exact one_all rfl | refine one_cons rfl ?_ | refine one_app ?_ ?_)) rfl ?_
    intro w29 hS30
    simp only [List.cons_append, List.nil_append] at hS30
    refine wl_val (r_assign (v := .int .i64 _) rfl) rfl ?_
    refine wl_nil ?_
    refine c_then ?_
    refine c_seq ?_
    refine c_block ?_
    refine c_seq ?_
    refine c_region ?_
    refine wl_val (r_move (v := .int .i64 _) rfl) rfl ?_
    refine wl_dec_f (r_lss rfl rfl) rfl (by omega) ?_
    refine wl_val (r_move (v := .bool _) rfl) rfl ?_
    refine wl_val (r_move (v := .int .i64 _) rfl) rfl ?_
    refine wl_dec_f (r_gtr rfl rfl) rfl (by omega) ?_
    refine wl_val (r_pick_f rfl (v := .bool _) rfl) rfl ?_
    refine wl_val (r_assign (v := .bool _) rfl) rfl ?_
    refine wl_nil ?_
    refine c_then ?_
    refine c_false rfl ?_
    refine c_seq ?_
    refine c_region ?_
    refine wl_val (r_move (v := .slice _ _ _) rfl) rfl ?_
    refine wl_val (r_len (T := 22) rfl ti22.und rfl _ rfl) rfl ?_
    refine wl_dec_t (r_gtr rfl rfl) rfl (by omega) ?_
    refine wl_val (r_assign (v := .bool _) rfl) rfl ?_
    refine wl_nil ?_
    refine c_then ?_
    refine c_true rfl ?_
    refine c_seq ?_
    refine c_region ?_
    refine wl_val (r_move (v := .int .i64 _) rfl) rfl ?_
    refine wl_dec_f (r_neq rfl rfl) rfl (by decide) ?_
    refine wl_nil ?_
    refine c_then ?_
    refine c_false rfl ?_
    refine wp_skip ?_
    refine c_inN ?_
    refine c_then ?_
    refine c_seq ?_
    refine c_region ?_
    refine wl_val (r_move (v := .slice _ _ _) rfl) rfl ?_
    refine wl_call (r_call fn45 rfl rfl) rfl (rframed_ok ps a n c _ (hb.st hS30) hl (fun q hq => ⟨(hr q hq).1.st hS30, (hr q hq).2⟩) hps hpt) ?_
    rintro _ w31 ⟨af, nf, cf, rfl, hnf, hcf, hx32⟩
    have hS33 := hS30.call hx32
    simp only [List.cons_append, List.nil_append] at hS33
    refine wl_val (r_assign (v := .slice _ _ _) rfl) rfl ?_
    refine wl_nil ?_
    refine c_then ?_
    refine c_seq ?_
    refine c_region ?_
    refine wl_val (r_move (v := .int .i64 _) rfl) rfl ?_
    refine wl_val (r_move (v := .slice _ _ _) rfl) rfl ?_
    refine wl_call (r_call fn46 rfl rfl) rfl (sums_ok _ ps a n c _ hp1 hp2 (hb.st hS33) hl (fun q hq => ⟨(hr q hq).1.st hS33, (hr q hq).2⟩) hps hpt) ?_
    rintro _ w34 (⟨hd2, rfl, hx35⟩ | ⟨hd2, rfl, hx35⟩ | ⟨hd2, rfl, hx35⟩)
    · exfalso; omega
    · have hS36 := hS33.ext hx35
      refine wl_val (r_move (v := .tuple _) rfl) rfl ?_
      refine wl_val (r_extract (v := .agg _) rfl rfl) rfl ?_
      refine wl_val (r_extract (v := .int .i64 _) rfl rfl) rfl ?_
      refine wl_exs (x_storeW [_] hS36 ti49 rfl rfl (by first | (simp [*]; done) | (simp [*] <;> omega) | omega) (by first | (simp [*]; done) | (simp [*] <;> omega) | omega) (by repeat' first | exact one_nil | exact one_b8 _ | exact one_v32 _ | exact one_all rfl | refine one_cons rfl ?_ | refine one_app ?_ ?_)) rfl ?_
      intro w37 hS38
      simp only [List.cons_append, List.nil_append] at hS38
      refine wl_val (r_assign (v := .int .i64 _) rfl) rfl ?_
      refine wl_nil ?_
      refine c_then ?_
      refine c_seq ?_
      refine c_block ?_
      refine c_seq ?_
      refine c_region ?_
      refine wl_val (r_move (v := .int .i64 _) rfl) rfl ?_
      refine wl_dec_f (r_lss rfl rfl) rfl (by omega) ?_
      refine wl_val (r_move (v := .bool _) rfl) rfl ?_
      refine wl_val (r_move (v := .int .i64 _) rfl) rfl ?_
      refine wl_dec_f (r_gtr rfl rfl) rfl (by omega) ?_
      refine wl_val (r_pick_f rfl (v := .bool _) rfl) rfl ?_
      refine wl_val (r_assign (v := .bool _) rfl) rfl ?_
      refine wl_nil ?_
      refine c_then ?_
      refine c_false rfl ?_
      refine c_seq ?_
      refine c_region ?_
      refine wl_val (r_move (v := .slice _ _ _) rfl) rfl ?_
      refine wl_val (r_len (T := 22) rfl ti22.und rfl _ rfl) rfl ?_
      refine wl_dec_t (r_gtr rfl rfl) rfl (by omega) ?_
      refine wl_val (r_assign (v := .bool _) rfl) rfl ?_
      refine wl_nil ?_
      refine c_then ?_
      refine c_true rfl ?_
      refine c_seq ?_
      refine c_region ?_
      refine wl_val (r_move (v := .int .i64 _) rfl) rfl ?_
      refine wl_dec_t (r_eql rfl rfl) rfl (by decide) ?_
      refine wl_val (r_assign (v := .bool _) rfl) rfl ?_
      refine wl_nil ?_
      refine c_then ?_
      refine wp_ret ?_
      refine c_inR ?_
      refine c_thenR ?_
      refine ret1 Try.results7 ?_
      exact ⟨rfl, hS38.fin⟩
    · have hS36 := hS33.ext hx35
      refine wl_val (r_move (v := .tuple _) rfl) rfl ?_
      refine wl_val (r_extract (v := .agg _) rfl rfl) rfl ?_
      refine wl_val (r_extract (v := .int .i64 _) rfl rfl) rfl ?_
      refine wl_exs (x_storeW [_] hS36 ti49 rfl rfl (by first | (simp [*]; done) | (simp [*] <;> omega) | omega) (by first | (simp [*]; done) | (simp [*] <;> omega) | omega) (by repeat' first | exact one_nil | exact one_b8 _ | exact one_v32 _ | exact one_all rfl | refine one_cons rfl ?_ | refine one_app ?_ ?_)) rfl ?_
      intro w39 hS40
      simp only [List.cons_append, List.nil_append] at hS40
      refine wl_val (r_assign (v := .int .i64 _) rfl) rfl ?_
      refine wl_nil ?_
      refine c_then ?_
      refine c_seq ?_
      refine c_block ?_
      refine c_seq ?_
      refine c_region ?_
      refine wl_val (r_move (v := .int .i64 _) rfl) rfl ?_
      refine wl_dec_f (r_lss rfl rfl) rfl (by omega) ?_
      refine wl_val (r_move (v := .bool _) rfl) rfl ?_
      refine wl_val (r_move (v := .int .i64 _) rfl) rfl ?_
      refine wl_dec_f (r_gtr rfl rfl) rfl (by omega) ?_
      refine wl_val (r_pick_f rfl (v := .bool _) rfl) rfl ?_
      refine wl_val (r_assign (v := .bool _) rfl) rfl ?_
      refine wl_nil ?_
      refine c_then ?_
      refine c_false rfl ?_
      refine c_seq ?_
      refine c_region ?_
      refine wl_val (r_move (v := .slice _ _ _) rfl) rfl ?_
      refine wl_val (r_len (T := 22) rfl ti22.und rfl _ rfl) rfl ?_
      refine wl_dec_f (r_gtr rfl rfl) rfl (by omega) ?_
      refine wl_val (r_assign (v := .bool _) rfl) rfl ?_
      refine wl_nil ?_
      refine c_then ?_
      refine c_false rfl ?_
      refine wp_skip ?_
      refine c_inN ?_
      refine c_then ?_
      refine c_seq ?_
      obtain ⟨p', rfl⟩ : ∃ i : Nat, p = (i : Int) := ⟨p.toNat, (by omega)⟩
      simp only [Int.toNat_natCast] at *
      refine c_drawS 7 hMixed hS40 ?_
      intro w41 hS42
      refine g_take 0 rfl (by decide +kernel) rfl (fun _ _ _ h => h) hS42 (fun wF hF => r_move (v := .int .i64 _) rfl) ?_
      refine g_dec_t 1 rfl (by decide +kernel) rfl (fun _ _ _ _ h => h) hS42 (fun wF hF => r_eql rfl rfl) (by decide) ?_
      refine g_take 2 rfl (by decide +kernel) rfl (fun _ _ _ h => h) hS42 (fun wF hF => r_move (v := .bool _) rfl) ?_
      refine g_take 3 rfl (by decide +kernel) rfl (fun _ _ _ h => h) hS42 (fun wF hF => r_loadB ti49 rfl rfl (hF.heap (.tail _ (.head _))) (by first | (simp [*]; done) | (simp [*] <;> omega) | omega)) ?_
      refine g_take 4 rfl (by decide +kernel) rfl (fun _ _ _ h => h) hS42 (fun wF hF => r_move (v := .int .i64 _) rfl) ?_
      refine g_take 5 rfl (by decide +kernel) rfl (fun _ _ _ h => h) hS42 (fun wF hF => r_move (v := .slice _ _ _) rfl) ?_
      refine g_one 6 (by decide +kernel) (by decide +kernel) ?_
      refine o_call rfl (r_call fn33 rfl rfl) rfl (rsum_ok p' (framedL ps) _ nf _ _ (St.rowAt hS42 (.head _)) hnf.symm (by omega)) ?_
      rintro _ w43 ⟨rfl, hx44⟩
      have hS45 := hS42.ext hx44
      refine ⟨hS45, ?_⟩
      refine g_tail (by decide +kernel) rfl (by decide +kernel) ?_
      refine wl_dec_t (r_eqlA (u := undef) eg49 rfl rfl (eqIs_b8 ti49.und ti5 _ _ (by first | (simp [*]; done) | (simp [*] <;> omega) | omega) (by first | (simp [*]; done) | (simp [*] <;> omega) | omega))) rfl rfl ?_
      refine wl_val (r_pick_t rfl (v := .bool _) rfl) rfl ?_
      refine wl_val (r_assign (v := .bool _) rfl) rfl ?_
      refine wl_nil ?_
      refine c_then ?_
      refine wp_ret ?_
      refine ret1 Try.results7 ?_
      exact ⟨rfl, hS45.fin⟩
  · have hS6 := hS3.ext hx5
    refine wl_val (r_move (v := .tuple _) rfl) rfl ?_
    refine wl_val (r_extract (v := .agg _) rfl rfl) rfl ?_
    refine wl_val (r_extract (v := .int .i64 _) rfl rfl) rfl ?_
    refine wl_exv (x_alloc (C := ((List.replicate 32 (0 : UInt8)).map b8)) hS6 ti49 rfl) rfl ?_
    rintro _ w46 ⟨b7, rfl, hS47⟩
    refine wl_exs (x_storeW [] hS47 ti49 rfl rfl (by first | (simp [*]; done) | (simp [*] <;> omega) | omega) (by first | (simp [*]; done) | (simp [*] <;> omega) | omega) (by repeat' first | exact one_nil | exact one_b8 _ | exact one_v32 _ | exact one_all rfl | refine one_cons rfl ?_ | refine one_app ?_ ?_)) rfl ?_
    intro w48 hS49
    simp only [List.cons_append, List.nil_append] at hS49
    refine wl_val (r_assign (v := .int .i64 _) rfl) rfl ?_
    refine wl_nil ?_
    refine c_then ?_
    refine c_seq ?_
    refine c_block ?_
    refine c_seq ?_
    refine c_region ?_
    refine wl_val (r_move (v := .int .i64 _) rfl) rfl ?_
    refine wl_dec_f (r_lss rfl rfl) rfl (by omega) ?_
    refine wl_val (r_move (v := .bool _) rfl) rfl ?_
    refine wl_val (r_move (v := .int .i64 _) rfl) rfl ?_
    refine wl_dec_f (r_gtr rfl rfl) rfl (by omega) ?_
    refine wl_val (r_pick_f rfl (v := .bool _) rfl) rfl ?_
    refine wl_val (r_assign (v := .bool _) rfl) rfl ?_
    refine wl_nil ?_
    refine c_then ?_
    refine c_false rfl ?_
    refine c_seq ?_
    refine c_region ?_
    refine wl_val (r_move (v := .slice _ _ _) rfl) rfl ?_
    refine wl_val (r_len (T := 22) rfl ti22.und rfl _ rfl) rfl ?_
    refine wl_dec_f (r_gtr rfl rfl) rfl (by omega) ?_
    refine wl_val (r_assign (v := .bool _) rfl) rfl ?_
    refine wl_nil ?_
    refine c_then ?_
    refine c_false rfl ?_
    refine c_seq ?_
    obtain ⟨p', rfl⟩ : ∃ i : Nat, p = (i : Int) := ⟨p.toNat, (by omega)⟩
    simp only [Int.toNat_natCast] at *
    refine c_drawS 7 hMixed hS49 ?_
    intro w50 hS51
    refine g_take 0 rfl (by decide +kernel) rfl (fun _ _ _ h => h) hS51 (fun wF hF => r_move (v := .int .i64 _) rfl) ?_
    refine g_dec_f 1 rfl (by decide +kernel) rfl (fun _ _ _ _ h => h) hS51 (fun wF hF => r_neq rfl rfl) (by decide) ?_
    refine g_take 2 rfl (by decide +kernel) rfl (fun _ _ _ h => h) hS51 (fun wF hF => r_move (v := .bool _) rfl) ?_
    refine g_take 3 rfl (by decide +kernel) rfl (fun _ _ _ h => h) hS51 (fun wF hF => r_loadB ti49 rfl rfl (hF.heap (.head _)) (by first | (simp [*]; done) | (simp [*] <;> omega) | omega)) ?_
    refine g_take 4 rfl (by decide +kernel) rfl (fun _ _ _ h => h) hS51 (fun wF hF => r_move (v := .int .i64 _) rfl) ?_
    refine g_take 5 rfl (by decide +kernel) rfl (fun _ _ _ h => h) hS51 (fun wF hF => r_move (v := .slice _ _ _) rfl) ?_
    refine g_one 6 (by decide +kernel) (by decide +kernel) ?_
    refine o_call rfl (r_call fn33 rfl rfl) rfl (rsum_ok p' t at' t.length ct _ (ht.st hS51) rfl (by omega)) ?_
    rintro _ w52 ⟨rfl, hx53⟩
    have hS54 := hS51.ext hx53
    refine ⟨hS54, ?_⟩
    refine g_tail (by decide +kernel) rfl (by decide +kernel) ?_
    refine wl_dec_f (r_neqA (u := undef) eg49 rfl rfl (eqIs_b8 ti49.und ti5 _ _ (by first | (simp [*]; done) | (simp [*] <;> omega) | omega) (by first | (simp [*]; done) | (simp [*] <;> omega) | omega))) rfl (fun h => h rfl) ?_
    refine wl_val (r_pick_f rfl (v := .bool _) rfl) rfl ?_
    refine wl_val (r_assign (v := .bool _) rfl) rfl ?_
    refine wl_nil ?_
    refine c_then ?_
    refine c_false rfl ?_
    refine wp_skip ?_
    refine c_inN ?_
    refine c_then ?_
    refine c_seq ?_
    refine c_region ?_
    refine wl_val (r_move (v := .slice _ _ _) rfl) rfl ?_
    refine wl_call (r_call fn45 rfl rfl) rfl (rframed_ok ps a n c _ (hb.st hS54) hl (fun q hq => ⟨(hr q hq).1.st hS54, (hr q hq).2⟩) hps hpt) ?_
    rintro _ w55 ⟨af, nf, cf, rfl, hnf, hcf, hx56⟩
    have hS57 := hS54.call hx56
    simp only [List.cons_append, List.nil_append] at hS57
    refine wl_val (r_assign (v := .slice _ _ _) rfl) rfl ?_
    refine wl_nil ?_
    refine c_then ?_
    refine c_seq ?_
    refine c_region ?_
    refine wl_val (r_move (v := .int .i64 _) rfl) rfl ?_
    refine wl_val (r_move (v := .slice _ _ _) rfl) rfl ?_
    refine wl_call (r_call fn46 rfl rfl) rfl (sums_ok _ ps a n c _ hp1 hp2 (hb.st hS57) hl (fun q hq => ⟨(hr q hq).1.st hS57, (hr q hq).2⟩) hps hpt) ?_
    rintro _ w58 (⟨hd2, rfl, hx59⟩ | ⟨hd2, rfl, hx59⟩ | ⟨hd2, rfl, hx59⟩)
    · exfalso; omega
    · have hS60 := hS57.ext hx59
      refine wl_val (r_move (v := .tuple _) rfl) rfl ?_
      refine wl_val (r_extract (v := .agg _) rfl rfl) rfl ?_
      refine wl_val (r_extract (v := .int .i64 _) rfl rfl) rfl ?_
      refine wl_exs (x_storeW [_] hS60 ti49 rfl rfl (by first | (simp [*]; done) | (simp [*] <;> omega) | omega) (by first | (simp [*]; done) | (simp [*] <;> omega) | omega) (by repeat' first | exact one_nil | exact one_b8 _ | exact one_v32 _ | exact one_all rfl | refine one_cons rfl ?_ | refine one_app ?_ ?_)) rfl ?_
      intro w61 hS62
      simp only [List.cons_append, List.nil_append] at hS62
      refine wl_val (r_assign (v := .int .i64 _) rfl) rfl ?_
      refine wl_nil ?_
      refine c_then ?_
      refine c_seq ?_
      refine c_block ?_
      refine c_seq ?_
      refine c_region ?_
      refine wl_val (r_move (v := .int .i64 _) rfl) rfl ?_
      refine wl_dec_f (r_lss rfl rfl) rfl (by omega) ?_
      refine wl_val (r_move (v := .bool _) rfl) rfl ?_
      refine wl_val (r_move (v := .int .i64 _) rfl) rfl ?_
      refine wl_dec_f (r_gtr rfl rfl) rfl (by omega) ?_
      refine wl_val (r_pick_f rfl (v := .bool _) rfl) rfl ?_
      refine wl_val (r_assign (v := .bool _) rfl) rfl ?_
      refine wl_nil ?_
      refine c_then ?_
      refine c_false rfl ?_
      refine c_seq ?_
      refine c_region ?_
      refine wl_val (r_move (v := .slice _ _ _) rfl) rfl ?_
      refine wl_val (r_len (T := 22) rfl ti22.und rfl _ rfl) rfl ?_
      refine wl_dec_t (r_gtr rfl rfl) rfl (by omega) ?_
      refine wl_val (r_assign (v := .bool _) rfl) rfl ?_
      refine wl_nil ?_
      refine c_then ?_
      refine c_true rfl ?_
      refine c_seq ?_
      refine c_region ?_
      refine wl_val (r_move (v := .int .i64 _) rfl) rfl ?_
      refine wl_dec_t (r_eql rfl rfl) rfl (by decide) ?_
      refine wl_val (r_assign (v := .bool _) rfl) rfl ?_
      refine wl_nil ?_
      refine c_then ?_
      refine wp_ret ?_
      refine c_inR ?_
      refine c_thenR ?_
      refine ret1 Try.results7 ?_
      exact ⟨rfl, hS62.fin⟩
    · have hS60 := hS57.ext hx59
      refine wl_val (r_move (v := .tuple _) rfl) rfl ?_
      refine wl_val (r_extract (v := .agg _) rfl rfl) rfl ?_
      refine wl_val (r_extract (v := .int .i64 _) rfl rfl) rfl ?_
      refine wl_exs (x_storeW [_] hS60 ti49 rfl rfl (by first | (simp [*]; done) | (simp [*] <;> omega) | omega) (by first | (simp [*]; done) | (simp [*] <;> omega) | omega) (by repeat' first | exact one_nil | exact one_b8 _ | exact one_v32 _ | exact one_all rfl | refine one_cons rfl ?_ | refine one_app ?_ ?_)) rfl ?_
      intro w63 hS64
      simp only [List.cons_append, List.nil_append] at hS64
      refine wl_val (r_assign (v := .int .i64 _) rfl) rfl ?_
      refine wl_nil ?_
      refine c_then ?_
      refine c_seq ?_
      refine c_block ?_
      refine c_seq ?_
      refine c_region ?_
      refine wl_val (r_move (v := .int .i64 _) rfl) rfl ?_
      refine wl_dec_f (r_lss rfl rfl) rfl (by omega) ?_
      refine wl_val (r_move (v := .bool _) rfl) rfl ?_
      refine wl_val (r_move (v := .int .i64 _) rfl) rfl ?_
      refine wl_dec_f (r_gtr rfl rfl) rfl (by omega) ?_
      refine wl_val (r_pick_f rfl (v := .bool _) rfl) rfl ?_
      refine wl_val (r_assign (v := .bool _) rfl) rfl ?_
      refine wl_nil ?_
      refine c_then ?_
      refine c_false rfl ?_
      refine c_seq ?_
      refine c_region ?_
      refine wl_val (r_move (v := .slice _ _ _) rfl) rfl ?_
      refine wl_val (r_len (T := 22) rfl ti22.und rfl _ rfl) rfl ?_
      refine wl_dec_f (r_gtr rfl rfl) rfl (by omega) ?_
      refine wl_val (r_assign (v := .bool _) rfl) rfl ?_
      refine wl_nil ?_
      refine c_then ?_
      refine c_false rfl ?_
      refine wp_skip ?_
      refine c_inN ?_
      refine c_then ?_
      refine c_seq ?_
      refine c_drawS 7 hMixed hS64 ?_
      intro w65 hS66
      refine g_take 0 rfl (by decide +kernel) rfl (fun _ _ _ h => h) hS66 (fun wF hF => r_move (v := .int .i64 _) rfl) ?_
      refine g_dec_t 1 rfl (by decide +kernel) rfl (fun _ _ _ _ h => h) hS66 (fun wF hF => r_eql rfl rfl) (by decide) ?_
      refine g_take 2 rfl (by decide +kernel) rfl (fun _ _ _ h => h) hS66 (fun wF hF => r_move (v := .bool _) rfl) ?_
      refine g_take 3 rfl (by decide +kernel) rfl (fun _ _ _ h => h) hS66 (fun wF hF => r_loadB ti49 rfl rfl (hF.heap (.tail _ (.head _))) (by first | (simp [*]; done) | (simp [*] <;> omega) | omega)) ?_
      refine g_take 4 rfl (by decide +kernel) rfl (fun _ _ _ h => h) hS66 (fun wF hF => r_move (v := .int .i64 _) rfl) ?_
      refine g_take 5 rfl (by decide +kernel) rfl (fun _ _ _ h => h) hS66 (fun wF hF => r_move (v := .slice _ _ _) rfl) ?_
      refine g_one 6 (by decide +kernel) (by decide +kernel) ?_
      refine o_call rfl (r_call fn33 rfl rfl) rfl (rsum_ok p' (framedL ps) _ nf _ _ (St.rowAt hS66 (.head _)) hnf.symm (by omega)) ?_
      rintro _ w67 ⟨rfl, hx68⟩
      have hS69 := hS66.ext hx68
      refine ⟨hS69, ?_⟩
      refine g_tail (by decide +kernel) rfl (by decide +kernel) ?_
      refine wl_dec_t (r_eqlA (u := undef) eg49 rfl rfl (eqIs_b8 ti49.und ti5 _ _ (by first | (simp [*]; done) | (simp [*] <;> omega) | omega) (by first | (simp [*]; done) | (simp [*] <;> omega) | omega))) rfl rfl ?_
      refine wl_val (r_pick_t rfl (v := .bool _) rfl) rfl ?_
      refine wl_val (r_assign (v := .bool _) rfl) rfl ?_
      refine wl_nil ?_
      refine c_then ?_
      refine wp_ret ?_
      refine ret1 Try.results7 ?_
      exact ⟨rfl, hS69.fin⟩


theorem own : ownKnob Try.prog.godebug = none := by kernel_rfl
theorem laidOut : laidOutB Try.prog = true := by kernel_rfl
theorem readable3 : Try.prog.readableRec 3 = true := by kernel_rfl
theorem inside3 : decide (3 < Try.prog.types.size) = true := by kernel_rfl
theorem readable22 : Try.prog.readableRec 22 = true := by kernel_rfl
theorem inside22 : decide (22 < Try.prog.types.size) = true := by kernel_rfl
theorem readable43 : Try.prog.readableRec 43 = true := by kernel_rfl
theorem inside43 : decide (43 < Try.prog.types.size) = true := by kernel_rfl
theorem lifted (os : Os) (started : os.Started) (H : Type) (enc : TypeId × Value → H) (F : Stop.Interp) :
    ReturnsInHanded {} Try.checked os 7 .any ((Rows.OpenSpec.upto Rows.sumsMatchSpec).pre6 enc Try.prog Try.f7 Rows.sumsMatchUptoRow.domain false) (((Rows.OpenSpec.upto Rows.sumsMatchSpec).at F).post enc Try.prog Try.f7 false true false false) := by
  refine returnsInHanded_of_cond_sized (C := Try.checked) (s := (Rows.OpenSpec.upto Rows.sumsMatchSpec)) (k := Rows.uptoSmall) rfl own started (by kernel_rfl) Try.func7
    (OpenSpec.witness (enc := enc) (C := Try.checked) (s := (Rows.OpenSpec.upto Rows.sumsMatchSpec)) (k := Rows.uptoSmall) rfl false ⟨#[], #[.int .i64 0, .slice none 0 0, .slice none 0 0], []⟩ 8 (by kernel_rfl) (by kernel_rfl) (by kernel_rfl)
      (x := ([.lit (.int .i64 0), .nil, .nil], [], [])) (by kernel_rfl) rfl (by kernel_rfl)) ?_
  intro W base args ds gs before hval0 hW hcnd hk0 hsz0 _
  have hval : ∀ (j : Nat) t v, Try.f7.params[j]? = some t → args[j]? = some v → Value.okWide Try.prog W .any base t v := hval0
  have hW' := hW
  obtain ⟨p, q, hA0, hV, rfl, hfz, hnd⟩ := hW
  have hA : DataW.TrodAll enc Try.prog W 0 (fun _ => true) true Try.f7.params.toList args.toList ds p := hA0
  have hsz : (DataW.weightsEach Try.prog (Try.f7.params.toList ++ Rows.sumsMatchSpec.plain.varTypes Try.prog) (ds ++ gs)).all (· ≤ reachBytes) = true := hsz0
  rw [Try.params7] at hA hval hsz
  obtain ⟨v0, vs0, d0, ds0, p0, q0, hargs, rfl, rfl, h0, r0⟩ := trodAll_cons hA
  obtain ⟨v1, vs1, d1, ds1, p1, q1, rfl, rfl, rfl, h1, r1⟩ := trodAll_cons r0
  obtain ⟨v2, vs2, d2, ds2, p2, q2, rfl, rfl, rfl, h2, r2⟩ := trodAll_cons r1
  obtain ⟨rfl, rfl, rfl⟩ := trodAll_nil r2
  obtain rfl : args = #[v0, v1, v2] := by cases args; simp_all
  obtain ⟨rfl, rfl⟩ := trodVars_none hV
  have lt0 : ∀ x ∈ p0, x.block < W.heap.size := by obtain ⟨m, hm⟩ := h0; exact DataW.trod_lt m _ _ _ hm
  have lt1 : ∀ x ∈ p1, x.block < W.heap.size := by obtain ⟨m, hm⟩ := h1; exact DataW.trod_lt m _ _ _ hm
  have lt2 : ∀ x ∈ p2, x.block < W.heap.size := by obtain ⟨m, hm⟩ := h2; exact DataW.trod_lt m _ _ _ hm
  have ok0 := hval 0 3 v0 rfl rfl
  obtain ⟨p, rfl, lop, hip⟩ := open_i64 Try.underlying3 ok0 h0
  have ok1 := hval 1 22 v1 rfl rfl
  obtain ⟨ab, b, cb, rfl, rb, lcb, hcb⟩ := open_bytesS (j := 1) Try.underlying22 Try.underlying5 (by kernel_rfl) (by kernel_rfl) ok1 h1 hsz rfl rfl
  have ok2 := hval 2 43 v2 rfl rfl
  obtain ⟨⟨aps, cps, ps⟩, rfl, rps, lcps, hcps, hrps⟩ := open_slice (j := 2) Try.underlying43 (opens_parts Try.underlying43 (by kernel_rfl) (by kernel_rfl) Try.underlying22 Try.underlying5 (by kernel_rfl) (by kernel_rfl)) ok2 h2 hsz rfl rfl
  simp only [] at rps lcps hcps hrps
  have hk1 : Rows.uptoBulkAll _ ≤ 1048576 := of_decide_eq_true hk0
  simp only [List.append_nil, List.cons_append, List.nil_append, Rows.uptoBulkAll] at hk1
  have hbk2 := bulk_parts (v := .bool true) Try.underlying43 Try.underlying22 (by kernel_rfl) ⟨aps, cps, ps⟩ rps h2
  simp only [] at hbk2
  have hbk1 : b.length + 1 ≤ Rows.uptoBulk d1 := by
    obtain ⟨fuel, hf⟩ := h1
    exact bulk_slice (a := ab) (n := b.length) (c := cb) (fuel := fuel) (x := (d1, p1)) Try.underlying22 (by simpa [Value.cells] using hf)
  refine Calls.mono (walk p b ab cb ps aps ps.length cps W lop hip rb lcb (by omega) rps rfl hrps (by omega) (by omega)) fun e W' ⟨v, he, hv, hs⟩ => ?_
  subst hv; subst he
  have bel := hs.below
  exact ⟨_, rfl, _, _, _, [], _, [], hW', trodAll_mk1 (shut_bool Try.underlying4 _), (trodAll_cons_mk (Below.trod laidOut readable3 (of_decide_eq_true inside3) h0 bel lt0) (trodAll_cons_mk (Below.trod laidOut readable22 (of_decide_eq_true inside22) h1 bel lt1) (trodAll_cons_mk (Below.trod laidOut readable43 (of_decide_eq_true inside43) h2 bel lt2) trodAll_mk0))), rfl, bel.frame _, fun h => by cases h⟩
theorem over : Rows.sumsMatchUptoRow.holds Try.pinned (Rows.OpenSpec.upto Rows.sumsMatchSpec) :=
  OpenClaim.holds_of_cond 7 Try.f7 rfl rfl rfl rfl rfl rfl rfl ⟨rfl, rfl, rfl, rfl, rfl⟩ rfl rfl rfl rfl rfl (by kernel_rfl) Try.func7 (by kernel_rfl)
    (of_decide_eq_true (by kernel_rfl)) (by unfold Func.isWrapper; first | (rw [if_pos (by decide +kernel)]; kernel_rfl) | (rw [if_neg (by decide +kernel)]; exact ⟨rfl, rfl⟩))
    (fun os started H enc _ F => lifted os started H enc F)
theorem proved : Rows.SumsMatchUptoSaid := over
#print axioms proved
end Go.Proofs.Ytfohfnpehfcaaaa.lawSumsMatch
