/- For every entry and texts that are together no bulkier than the bound: PrintEntry, EntrySum and ParseEntry of the program are the reference's, and what is written is read, wherever it stands; the law's function returns true and turns nothing. Its condition is the statement's own bound on the bulk of what comes in. -/
import Derived.Test.YtbanoknkplcedaaPEMAF
import Derived.Test.YtbanoknkplcedaaPEMBU
import Derived.Test.YtbanoknkplcedaaRows
import Derived.Deep.CondSized
import Derived.JoinedCond
namespace Go.Proofs.Ytbanoknkplcedaa.lawEntriesMatch
open Go.Kw Go.Proofs.Ytbanoknkplcedaa
open Go.ChangeShapes Go.WideShapes Go.ChangeAt Go.RowKit
set_option linter.unusedVariables false
set_option linter.unusedSimpArgs false
set_option maxRecDepth 100000
set_option maxHeartbeats 20000000


theorem one_le {H : Type} (d : DataW H) : 1 ≤ Rows.uptoBulk d := by
  cases d with
  | lit l => cases l <;> simp [Rows.uptoBulk]
  | nil => simp [Rows.uptoBulk]
  | ptr d => simp [Rows.uptoBulk]
  | slice elems spare => simp [Rows.uptoBulk]
  | agg parts => simp [Rows.uptoBulk]
  | iface t d => simp [Rows.uptoBulk]
  | map entries => simp [Rows.uptoBulk]
  | held h => simp [Rows.uptoBulk]
theorem length_le {H : Type} (l : List (DataW H)) : l.length ≤ Rows.uptoBulkAll l := by
  induction l with
  | nil => simp [Rows.uptoBulkAll]
  | cons x r ih => have := one_le x; simp only [Rows.uptoBulkAll, List.length_cons]; omega
section
variable {H : Type} {enc : TypeId × Value → H} {P : Program} {W : World} {t e q : TypeId}
/-- A slice's reading is at least as bulky as the slice is long. -/
theorem bulk_slice {fuel n c : Nat} {a : Option Addr} {x : DataW H × List MemPlace} (hu : P.underlying t = some (.slice e)) (h : DataW.trod enc P W 0 (fun _ => true) true fuel t [.slice a n c] = some x) : n + 1 ≤ Rows.uptoBulk x.1 := by
  rcases DataW.trod_slice hu h with ⟨hcs, _⟩ | ⟨a', len, cap, elems, rest, m, _, hcs, hxe, hb, hl, hm, hel, hget, hrest, _⟩
  · simp only [List.cons.injEq, Value.slice.injEq, and_true] at hcs
    have := one_le x.1
    omega
  · simp only [List.cons.injEq, Value.slice.injEq, and_true] at hcs
    subst hxe
    have h2 := length_le (elems.map (·.1))
    simp only [List.length_map] at h2
    simp only [Rows.uptoBulk]
    omega
end
set_option maxHeartbeats 4000000 in
theorem walk (x : EntD) (s : List UInt8) (sa : Option Addr) (sc : Nat) (t : List UInt8) (at' : Option Addr) (ct : Nat) (w : World) (hx : EntOk x) (hbo : Row w x.ba (x.e.bo.map b8)) (hs : Row w sa (s.map b8)) (ht : Row w at' (t.map b8)) (hsn : s.length ≤ 1048576) (htn : t.length ≤ 1048576) :
    Ret Try.prog 5 [.agg x.v.toArray, .slice sa s.length sc, .slice at' t.length ct] w (fun v w' => v = .bool true ∧ St w [] w' []) := by
  have hxl := ent_len hx
  have hzl : (EntD.v ⟨EV.zero, none, 0⟩).length = 68 := ent_len ⟨EVok.zero, Nat.le_refl _⟩
  refine enter Try.func5 rfl Try.ntmps5 rfl ?_
  have hS := St.refl w []
  refine c_seq ?_; refine c_region ?_; refine wl_exv (x_box hS (v := .agg _) rfl rfl) rfl ?_; rintro _ w1 ⟨b3, rfl, hS2⟩; refine wl_val (r_assign (v := .bool false) rfl) rfl ?_; refine wl_nil ?_; refine c_then ?_; refine c_seq ?_; refine c_seq ?_; refine c_region ?_; refine wl_call (r_call fn6 rfl rfl) rfl (landed_ok _) ?_; rintro _ w3 ⟨rfl, hx4⟩
  have hS5 := hS2.ext hx4
  refine wl_val (r_not rfl) rfl ?_; refine wl_nil ?_; refine c_then ?_; refine c_false rfl ?_; refine wp_skip ?_; refine c_then ?_; refine c_seq ?_; refine c_region ?_; refine wl_val (r_loadB tie ag41 rfl (hS5.heap (.head _)) (by first | (simp [*]; done) | (simp [*] <;> omega) | omega)) rfl ?_; refine wl_call (r_call fn18 rfl rfl) rfl (printEntry_ok x _ hx (hbo.st hS5)) ?_
  rintro _ w6 (⟨hf20, rfl, hx7⟩ | ⟨hf20, a20, c20, rfl, hc20, hx7⟩)
  · have hS8 := hS5.ext hx7
    refine wl_val (r_move (v := .tuple _) rfl) rfl ?_; refine wl_val (r_extract (v := .slice _ _ _) rfl rfl) rfl ?_; refine wl_val (r_extract (v := .int .i64 _) rfl rfl) rfl ?_; refine wl_val (r_assign (v := .slice _ _ _) rfl) rfl ?_; refine wl_val (r_assign (v := .int .i64 _) rfl) rfl ?_; refine wl_nil ?_; refine c_then ?_; refine c_seq ?_; refine c_region ?_; refine wl_val (r_loadB tie ag41 rfl (hS8.heap (.head _)) (by first | (simp [*]; done) | (simp [*] <;> omega) | omega)) rfl ?_; refine wl_call (r_call fn13 rfl rfl) rfl (rprintEntry_ok x _ hx (hbo.st hS8)) ?_
    rintro _ w9 (⟨hf25, rfl, hx10⟩ | ⟨hf25, a25, c25, rfl, hc25, hx10⟩)
    · have hS11 := hS8.ext hx10
      refine wl_val (r_move (v := .tuple _) rfl) rfl ?_; refine wl_val (r_extract (v := .slice _ _ _) rfl rfl) rfl ?_; refine wl_val (r_extract (v := .int .i64 _) rfl rfl) rfl ?_; refine wl_val (r_assign (v := .slice _ _ _) rfl) rfl ?_; refine wl_val (r_assign (v := .int .i64 _) rfl) rfl ?_; refine wl_nil ?_; refine c_then ?_; refine c_seq ?_; refine c_region ?_; refine wl_val (r_loadB tie ag41 rfl (hS11.heap (.head _)) (by first | (simp [*]; done) | (simp [*] <;> omega) | omega)) rfl ?_; refine wl_call (r_call fn19 rfl rfl) rfl (entrySum_ok x _ hx (hbo.st hS11)) ?_
      rintro _ w12 (⟨hf29, rfl, hx13⟩ | ⟨hf29, rfl, hx13⟩)
      · have hS14 := hS11.ext hx13
        refine wl_val (r_move (v := .tuple _) rfl) rfl ?_; refine wl_val (r_extract (v := .agg _) rfl rfl) rfl ?_; refine wl_val (r_extract (v := .int .i64 _) rfl rfl) rfl ?_; refine wl_exv (x_alloc (C := ((List.replicate 32 (0 : UInt8)).map b8)) hS14 ti26 rfl) rfl ?_; rintro _ w15 ⟨b11, rfl, hS16⟩; refine wl_exs (x_storeW [] hS16 ti26 rfl rfl (by first | (simp [*]; done) | (simp [*] <;> omega) | omega) (by first | (simp [*]; done) | (simp [*] <;> omega) | omega) (by repeat' first | exact one_nil | exact one_b8 _ | exact one_v32 _ | exact one_all rfl | refine one_cons rfl ?_ | refine one_app ?_ ?_)) rfl ?_; intro w17 hS18; simp only [List.cons_append, List.nil_append] at hS18; refine wl_val (r_assign (v := .int .i64 _) rfl) rfl ?_; refine wl_nil ?_; refine c_then ?_; refine c_seq ?_; refine c_seq ?_; refine c_region ?_; refine wl_val (r_move (v := .int .i64 _) rfl) rfl ?_; refine wl_val (r_move (v := .int .i64 _) rfl) rfl ?_; refine wl_dec_f (r_neq rfl rfl) rfl (fun h => h rfl) ?_; refine wl_val (r_move (v := .bool _) rfl) rfl ?_; refine wl_val (r_move (v := .int .i64 _) rfl) rfl ?_; refine wl_val (r_move (v := .int .i64 _) rfl) rfl ?_; refine wl_dec_f (r_neq rfl rfl) rfl (fun h => h rfl) ?_; refine wl_val (r_pick_f rfl (v := .bool _) rfl) rfl ?_; refine wl_val (r_move (v := .bool _) rfl) rfl ?_; refine wl_val (r_move (v := .slice _ _ _) rfl) rfl ?_; refine wl_val (r_move (v := .slice _ _ _) rfl) rfl ?_; refine wl_call (r_call fn9 rfl rfl) rfl (bytesEq_t [] [] none none 0 0 0 0 _ Row.nil Row.nil rfl rfl rfl) ?_
        rintro _ w19 ⟨rfl, hx20⟩
        have hS21 := hS18.ext hx20
        refine wl_val (r_not rfl) rfl ?_; refine wl_val (r_pick_f rfl (v := .bool _) rfl) rfl ?_; refine wl_nil ?_; refine c_then ?_; refine c_false rfl ?_; refine wp_skip ?_; refine c_then ?_; refine c_seq ?_; refine c_seq ?_; refine c_region ?_; refine wl_val (r_move (v := .int .i64 _) rfl) rfl ?_; refine wl_dec_t (r_neq rfl rfl) rfl hf20 ?_; refine wl_nil ?_; refine c_then ?_; refine c_true rfl ?_; refine c_seq ?_; refine c_region ?_; refine wl_val (r_loadB ti26 rfl rfl (hS21.heap (.head _)) (by first | (simp [*]; done) | (simp [*] <;> omega) | omega)) rfl ?_; refine wl_val (r_build0 (cs := ((List.replicate 32 (0 : UInt8)).map b8)) ti26.und ti26 ti5) rfl ?_; refine wl_dec_t (r_eqlA (u := undef) eg26 rfl rfl (eqIs_b8 ti26.und ti5 _ _ (by first | (simp [*]; done) | (simp [*] <;> omega) | omega) (by first | (simp [*]; done) | (simp [*] <;> omega) | omega))) rfl rfl ?_; refine wl_val (r_assign (v := .bool _) rfl) rfl ?_; refine wl_nil ?_; refine c_then ?_; refine wp_ret ?_; refine c_thenR ?_; refine ret1 Try.results5 ?_
        exact ⟨rfl, hS21.fin⟩
      exact absurd hf29 hf20
    exact absurd hf25 hf20
  have hS8 := hS5.call hx7
  simp only [List.cons_append, List.nil_append] at hS8; refine wl_val (r_move (v := .tuple _) rfl) rfl ?_; refine wl_val (r_extract (v := .slice _ _ _) rfl rfl) rfl ?_; refine wl_val (r_extract (v := .int .i64 _) rfl rfl) rfl ?_; refine wl_val (r_assign (v := .slice _ _ _) rfl) rfl ?_; refine wl_val (r_assign (v := .int .i64 _) rfl) rfl ?_; refine wl_nil ?_; refine c_then ?_; refine c_seq ?_; refine c_region ?_; refine wl_val (r_loadB tie ag41 rfl (hS8.heap (.tail _ (.head _))) (by first | (simp [*]; done) | (simp [*] <;> omega) | omega)) rfl ?_; refine wl_call (r_call fn13 rfl rfl) rfl (rprintEntry_ok x _ hx (hbo.st hS8)) ?_
  rintro _ w22 (⟨hf25, rfl, hx23⟩ | ⟨hf25, a25, c25, rfl, hc25, hx23⟩)
  · exact absurd hf20 hf25
  have hS24 := hS8.call hx23
  simp only [List.cons_append, List.nil_append] at hS24; refine wl_val (r_move (v := .tuple _) rfl) rfl ?_; refine wl_val (r_extract (v := .slice _ _ _) rfl rfl) rfl ?_; refine wl_val (r_extract (v := .int .i64 _) rfl rfl) rfl ?_; refine wl_val (r_assign (v := .slice _ _ _) rfl) rfl ?_; refine wl_val (r_assign (v := .int .i64 _) rfl) rfl ?_; refine wl_nil ?_; refine c_then ?_; refine c_seq ?_; refine c_region ?_; refine wl_val (r_loadB tie ag41 rfl (hS24.heap (.tail _ (.tail _ (.head _)))) (by first | (simp [*]; done) | (simp [*] <;> omega) | omega)) rfl ?_; refine wl_call (r_call fn19 rfl rfl) rfl (entrySum_ok x _ hx (hbo.st hS24)) ?_
  rintro _ w25 (⟨hf29, rfl, hx26⟩ | ⟨hf29, rfl, hx26⟩)
  · exact absurd hf20 hf29
  have hS27 := hS24.ext hx26
  refine wl_val (r_move (v := .tuple _) rfl) rfl ?_; refine wl_val (r_extract (v := .agg _) rfl rfl) rfl ?_; refine wl_val (r_extract (v := .int .i64 _) rfl rfl) rfl ?_; refine wl_exv (x_alloc (C := ((List.replicate 32 (0 : UInt8)).map b8)) hS27 ti26 rfl) rfl ?_; rintro _ w28 ⟨b11, rfl, hS29⟩; refine wl_exs (x_storeW [] hS29 ti26 rfl rfl (by first | (simp [*]; done) | (simp [*] <;> omega) | omega) (by first | (simp [*]; done) | (simp [*] <;> omega) | omega) (by repeat' first | exact one_nil | exact one_b8 _ | exact one_v32 _ | exact one_all rfl | refine one_cons rfl ?_ | refine one_app ?_ ?_)) rfl ?_; intro w30 hS31; simp only [List.cons_append, List.nil_append] at hS31; refine wl_val (r_assign (v := .int .i64 _) rfl) rfl ?_; refine wl_nil ?_; refine c_then ?_; refine c_seq ?_; refine c_seq ?_; refine c_region ?_; refine wl_val (r_move (v := .int .i64 _) rfl) rfl ?_; refine wl_val (r_move (v := .int .i64 _) rfl) rfl ?_; refine wl_dec_f (r_neq rfl rfl) rfl (by decide) ?_; refine wl_val (r_move (v := .bool _) rfl) rfl ?_; refine wl_val (r_move (v := .int .i64 _) rfl) rfl ?_; refine wl_val (r_move (v := .int .i64 _) rfl) rfl ?_; refine wl_dec_f (r_neq rfl rfl) rfl (by decide) ?_; refine wl_val (r_pick_f rfl (v := .bool _) rfl) rfl ?_; refine wl_val (r_move (v := .bool _) rfl) rfl ?_; refine wl_val (r_move (v := .slice _ _ _) rfl) rfl ?_; refine wl_val (r_move (v := .slice _ _ _) rfl) rfl ?_; refine wl_call (r_call fn9 rfl rfl) rfl (bytesEq_t x.e.P x.e.P _ _ _ _ _ _ _ (St.rowAt hS31 (.tail _ (.tail _ (.head _)))) (St.rowAt hS31 (.tail _ (.head _))) rfl rfl rfl) ?_
  rintro _ w32 ⟨rfl, hx33⟩
  have hS34 := hS31.ext hx33
  refine wl_val (r_not rfl) rfl ?_; refine wl_val (r_pick_f rfl (v := .bool _) rfl) rfl ?_; refine wl_nil ?_; refine c_then ?_; refine c_false rfl ?_; refine wp_skip ?_; refine c_then ?_; refine c_seq ?_; refine c_seq ?_; refine c_region ?_; refine wl_val (r_move (v := .int .i64 _) rfl) rfl ?_; refine wl_dec_f (r_neq rfl rfl) rfl (by decide) ?_; refine wl_nil ?_; refine c_then ?_; refine c_false rfl ?_; refine wp_skip ?_; refine c_then ?_; refine c_seq ?_; refine c_seq ?_
  have hg := EV.good hf20
  have g7 := hg.bl
  have hPl := EV.P_len hx.e
  refine c_drawS 3 hMixed hS34 ?_; intro w35 hS36; refine g_take 0 rfl (by decide +kernel) rfl (fun _ _ _ h => h) hS36 (fun wF hF => r_loadB ti26 rfl rfl (hF.heap (.head _)) (by first | (simp [*]; done) | (simp [*] <;> omega) | omega)) ?_; refine g_take 1 rfl (by decide +kernel) rfl (fun _ _ _ h => h) hS36 (fun wF hF => r_loadB tie ag41 rfl (hF.heap (.tail _ (.tail _ (.tail _ (.head _))))) (by first | (simp [*]; done) | (simp [*] <;> omega) | omega)) ?_; refine g_one 2 (by decide +kernel) (by decide +kernel) ?_; refine o_call rfl (r_call fn20 rfl rfl) rfl (rentrySum_ok x _ hx (hbo.st hS36) hg) ?_; rintro _ w37 ⟨rfl, hx38⟩
  have hS39 := hS36.ext hx38
  refine ⟨hS39, ?_⟩
  refine g_tail (by decide +kernel) rfl (by decide +kernel) ?_; refine wl_dec_f (r_neqA (u := undef) eg26 rfl rfl (eqIs_b8 ti26.und ti5 _ _ (by first | (simp [*]; done) | (simp [*] <;> omega) | omega) (by first | (simp [*]; done) | (simp [*] <;> omega) | omega))) rfl (fun h => h rfl) ?_; refine wl_nil ?_; refine c_then ?_; refine c_false rfl ?_; refine wp_skip ?_; refine c_then ?_; refine c_seq ?_; refine c_region ?_; refine wl_val (r_move (v := .slice _ _ _) rfl) rfl ?_; refine wl_val (r_move (v := .slice _ _ _) rfl) rfl ?_; refine wl_val (r_move (v := .slice _ _ _) rfl) rfl ?_; refine wl_exv (x_lit (vs := [.slice _ _ _, .slice _ _ _, .slice _ _ _]) hS39 ti90.und ti30 rfl rfl rfl (by intro c hc; simp only [List.mem_cons, List.not_mem_nil, or_false] at hc; rcases hc with rfl | rfl | rfl <;> rfl) (by decide)) rfl ?_; rintro _ w40 ⟨b59, rfl, hS41⟩; refine wl_call (r_call fn21 rfl rfl) rfl (concat3_ok s x.e.P t _ _ _ _ _ _ _ _ _ _ _ _ (Row.of_at (at_all (hS41.heap (.head _)))) (hs.st hS41) (St.rowAt hS41 (.tail _ (.tail _ (.tail _ (.head _))))) (ht.st hS41) rfl rfl rfl (by omega)) ?_; rintro _ w42 ⟨a60, c60, rfl, hc60, hx43⟩
  have hS44 := hS41.call hx43
  simp only [List.cons_append, List.nil_append] at hS44; refine wl_val (r_move (v := .slice _ _ _) rfl) rfl ?_; refine wl_val (r_len (T := 30) rfl ti30.und rfl _ rfl) rfl ?_; refine wl_call (r_call fn15 rfl rfl) rfl (parseEntry_back x.e s t _ _ _ _ _ (St.rowAt hS44 (.head _)) (by simp only [List.length_append]; omega) hc60 (by omega) rfl hx.e hf20) ?_; rintro _ w45 ⟨y63, rfl, hv63, ho63, hx46⟩
  have hS47 := hS44.call hx46
  simp only [List.cons_append, List.nil_append] at hS47
  have hl63 := ent_len ho63
  refine wl_val (r_move (v := .tuple _) rfl) rfl ?_; refine wl_val (r_extract (v := .agg _) rfl rfl) rfl ?_; refine wl_val (r_extract (v := .int .i64 _) rfl rfl) rfl ?_; refine wl_val (r_extract (v := .int .i64 _) rfl rfl) rfl ?_; refine wl_exv (x_alloc (C := (EntD.v ⟨EV.zero, none, 0⟩)) hS47 tie rfl) rfl ?_; rintro _ w48 ⟨b13, rfl, hS49⟩; refine wl_exs (x_storeW [] hS49 tie rfl rfl (by first | (simp [*]; done) | (simp [*] <;> omega) | omega) (by first | (simp [*]; done) | (simp [*] <;> omega) | omega) (by repeat' first | exact one_nil | exact one_b8 _ | exact one_v32 _ | exact one_all rfl | refine one_cons rfl ?_ | refine one_app ?_ ?_)) rfl ?_; intro w50 hS51; simp only [List.cons_append, List.nil_append] at hS51; refine wl_val (r_assign (v := .int .i64 _) rfl) rfl ?_; refine wl_val (r_assign (v := .int .i64 _) rfl) rfl ?_; refine wl_nil ?_; refine c_then ?_; refine c_seq ?_; refine c_region ?_; refine wl_val (r_move (v := .int .i64 _) rfl) rfl ?_; refine wl_dec_t (r_eql rfl rfl) rfl (by decide) ?_; refine wl_val (r_move (v := .bool _) rfl) rfl ?_; refine wl_val (r_move (v := .int .i64 _) rfl) rfl ?_; refine wl_val (r_move (v := .slice _ _ _) rfl) rfl ?_; refine wl_val (r_len (T := 30) rfl ti30.und rfl _ rfl) rfl ?_; refine wl_val (r_move (v := .slice _ _ _) rfl) rfl ?_; refine wl_val (r_len (T := 30) rfl ti30.und rfl _ rfl) rfl ?_; refine wl_val (r_addn rfl rfl (by omega)) rfl ?_; refine wl_dec_t (r_eql rfl rfl) rfl rfl ?_; refine wl_val (r_pick_t rfl (v := .bool _) rfl) rfl ?_
  refine wl_val (r_move (v := .bool _) rfl) rfl ?_; refine wl_val (r_loadB tie ag41 rfl (hS51.heap (.tail _ (.tail _ (.tail _ (.tail _ (.tail _ (.tail _ (.tail _ (.head _))))))))) (by first | (simp [*]; done) | (simp [*] <;> omega) | omega)) rfl ?_; refine wl_val (r_loadB tie ag41 rfl (hS51.heap (.head _)) (by first | (simp [*]; done) | (simp [*] <;> omega) | omega)) rfl ?_; refine wl_call (r_call fn17 rfl rfl) rfl (sameEntry_t x y63 _ hx (hbo.st hS51) ho63 (St.rowAt hS51 (.tail _ (.head _))) hv63) ?_; rintro _ w52 ⟨rfl, hx53⟩
  have hS54 := hS51.ext hx53
  refine wl_val (r_pick_t rfl (v := .bool _) rfl) rfl ?_; refine wl_val (r_assign (v := .bool _) rfl) rfl ?_; refine wl_nil ?_; refine c_then ?_; refine wp_ret ?_; refine ret1 Try.results5 ?_
  exact ⟨rfl, hS54.fin⟩


theorem own : ownKnob Try.prog.godebug = none := by kernel_rfl
theorem laidOut : laidOutB Try.prog = true := by kernel_rfl
theorem readable30 : Try.prog.readableRec 30 = true := by kernel_rfl
theorem inside30 : decide (30 < Try.prog.types.size) = true := by kernel_rfl
theorem readable41 : Try.prog.readableRec 41 = true := by kernel_rfl
theorem inside41 : decide (41 < Try.prog.types.size) = true := by kernel_rfl
theorem lifted (os : Os) (started : os.Started) (H : Type) (enc : TypeId × Value → H) (F : Stop.Interp) :
    ReturnsInHanded {} Try.checked os 5 .any ((Rows.OpenSpec.upto Rows.entriesMatchSpec).pre6 enc Try.prog Try.f5 Rows.entriesMatchUptoRow.domain false) (((Rows.OpenSpec.upto Rows.entriesMatchSpec).at F).post enc Try.prog Try.f5 false true false false) := by
  refine returnsInHanded_of_cond_sized (C := Try.checked) (s := (Rows.OpenSpec.upto Rows.entriesMatchSpec)) (k := Rows.uptoSmall) rfl own started (by kernel_rfl) Try.func5
    (OpenSpec.witness (enc := enc) (C := Try.checked) (s := (Rows.OpenSpec.upto Rows.entriesMatchSpec)) (k := Rows.uptoSmall) rfl false ⟨#[], #[.agg #[.int .i64 0, .int .i64 0, .int .i64 0, .int .u8 0, .int .u8 0, .int .u8 0, .int .u8 0, .int .u8 0, .int .u8 0, .int .u8 0, .int .u8 0, .int .u8 0, .int .u8 0, .int .u8 0, .int .u8 0, .int .u8 0, .int .u8 0, .int .u8 0, .int .u8 0, .int .u8 0, .int .u8 0, .int .u8 0, .int .u8 0, .int .u8 0, .int .u8 0, .int .u8 0, .int .u8 0, .int .u8 0, .int .u8 0, .int .u8 0, .int .u8 0, .int .u8 0, .int .u8 0, .int .u8 0, .int .u8 0, .int .u8 0, .int .u8 0, .int .u8 0, .int .u8 0, .int .u8 0, .int .u8 0, .int .u8 0, .int .u8 0, .int .u8 0, .int .u8 0, .int .u8 0, .int .u8 0, .int .u8 0, .int .u8 0, .int .u8 0, .int .u8 0, .int .u8 0, .int .u8 0, .int .u8 0, .int .u8 0, .int .u8 0, .int .u8 0, .int .u8 0, .int .u8 0, .int .u8 0, .int .u8 0, .int .u8 0, .int .u8 0, .int .u8 0, .int .u8 0, .int .u8 0, .int .u8 0, .slice none 0 0], .slice none 0 0, .slice none 0 0], []⟩ 8 (by kernel_rfl) (by kernel_rfl) (by kernel_rfl)
      (x := ([.agg [.lit (.int .i64 0), .lit (.int .i64 0), .lit (.int .i64 0), .agg [.lit (.int .u8 0), .lit (.int .u8 0), .lit (.int .u8 0), .lit (.int .u8 0), .lit (.int .u8 0), .lit (.int .u8 0), .lit (.int .u8 0), .lit (.int .u8 0), .lit (.int .u8 0), .lit (.int .u8 0), .lit (.int .u8 0), .lit (.int .u8 0), .lit (.int .u8 0), .lit (.int .u8 0), .lit (.int .u8 0), .lit (.int .u8 0)], .agg [.lit (.int .u8 0), .lit (.int .u8 0), .lit (.int .u8 0), .lit (.int .u8 0), .lit (.int .u8 0), .lit (.int .u8 0), .lit (.int .u8 0), .lit (.int .u8 0), .lit (.int .u8 0), .lit (.int .u8 0), .lit (.int .u8 0), .lit (.int .u8 0), .lit (.int .u8 0), .lit (.int .u8 0), .lit (.int .u8 0), .lit (.int .u8 0)], .agg [.lit (.int .u8 0), .lit (.int .u8 0), .lit (.int .u8 0), .lit (.int .u8 0), .lit (.int .u8 0), .lit (.int .u8 0), .lit (.int .u8 0), .lit (.int .u8 0), .lit (.int .u8 0), .lit (.int .u8 0), .lit (.int .u8 0), .lit (.int .u8 0), .lit (.int .u8 0), .lit (.int .u8 0), .lit (.int .u8 0), .lit (.int .u8 0), .lit (.int .u8 0), .lit (.int .u8 0), .lit (.int .u8 0), .lit (.int .u8 0), .lit (.int .u8 0), .lit (.int .u8 0), .lit (.int .u8 0), .lit (.int .u8 0), .lit (.int .u8 0), .lit (.int .u8 0), .lit (.int .u8 0), .lit (.int .u8 0), .lit (.int .u8 0), .lit (.int .u8 0), .lit (.int .u8 0), .lit (.int .u8 0)], .nil], .nil, .nil], [], [])) (by kernel_rfl) rfl (by kernel_rfl)) ?_
  intro W base args ds gs before hval0 hW hcnd hk0 hsz0 _
  have hval : ∀ (j : Nat) t v, Try.f5.params[j]? = some t → args[j]? = some v → Value.okWide Try.prog W .any base t v := hval0
  have hW' := hW
  obtain ⟨p, q, hA0, hV, rfl, hfz, hnd⟩ := hW
  have hA : DataW.TrodAll enc Try.prog W 0 (fun _ => true) true Try.f5.params.toList args.toList ds p := hA0
  have hsz : (DataW.weightsEach Try.prog (Try.f5.params.toList ++ Rows.entriesMatchSpec.plain.varTypes Try.prog) (ds ++ gs)).all (· ≤ reachBytes) = true := hsz0
  rw [Try.params5] at hA hval hsz
  obtain ⟨v0, vs0, d0, ds0, p0, q0, hargs, rfl, rfl, h0, r0⟩ := trodAll_cons hA
  obtain ⟨v1, vs1, d1, ds1, p1, q1, rfl, rfl, rfl, h1, r1⟩ := trodAll_cons r0
  obtain ⟨v2, vs2, d2, ds2, p2, q2, rfl, rfl, rfl, h2, r2⟩ := trodAll_cons r1
  obtain ⟨rfl, rfl, rfl⟩ := trodAll_nil r2
  obtain rfl : args = #[v0, v1, v2] := by cases args; simp_all
  obtain ⟨rfl, rfl⟩ := trodVars_none hV
  have lt0 : ∀ x ∈ p0, x.block < W.heap.size := by obtain ⟨m, hm⟩ := h0; exact DataW.trod_lt m _ _ _ hm
  have lt1 : ∀ x ∈ p1, x.block < W.heap.size := by obtain ⟨m, hm⟩ := h1; exact DataW.trod_lt m _ _ _ hm
  have lt2 : ∀ x ∈ p2, x.block < W.heap.size := by obtain ⟨m, hm⟩ := h2; exact DataW.trod_lt m _ _ _ hm
  have ok0 := hval 0 41 v0 rfl rfl
  obtain ⟨x, rfl, hxR⟩ := open_struct (j := 0) Try.underlying41 (opens_ent (B := (fun b => -9223372036854775808 ≤ b ∧ b ≤ 9223372036854775807)) (opens_struct Try.underlying41 (by kernel_rfl) (opensFs_cons (sz := 1) (opens_i64 Try.underlying3) rfl (by kernel_rfl) (opensFs_cons (sz := 1) (opens_i64 Try.underlying3) rfl (by kernel_rfl) (opensFs_cons (sz := 1) (opens_i64 Try.underlying3) rfl (by kernel_rfl) (opensFs_cons (sz := 16) (opens_bytesA Try.underlying23 Try.underlying5 (by kernel_rfl) (by kernel_rfl)) rfl (by kernel_rfl) (opensFs_cons (sz := 16) (opens_bytesA Try.underlying23 Try.underlying5 (by kernel_rfl) (by kernel_rfl)) rfl (by kernel_rfl) (opensFs_cons (sz := 32) (opens_bytesA Try.underlying26 Try.underlying5 (by kernel_rfl) (by kernel_rfl)) rfl (by kernel_rfl) (opensFs_cons (sz := 1) (opens_octets Try.underlying30 Try.underlying5 (by kernel_rfl) (by kernel_rfl)) rfl (by kernel_rfl) opensFs_nil (by simp)) (by simp)) (by simp)) (by simp)) (by simp)) (by simp)) (by simp)))) ok0 h0 hsz rfl rfl
  have ok1 := hval 1 30 v1 rfl rfl
  obtain ⟨afr, fr, cfr, rfl, rfr, lcfr, hcfr⟩ := open_bytesS (j := 1) Try.underlying30 Try.underlying5 (by kernel_rfl) (by kernel_rfl) ok1 h1 hsz rfl rfl
  have ok2 := hval 2 30 v2 rfl rfl
  obtain ⟨abh, bh, cbh, rfl, rbh, lcbh, hcbh⟩ := open_bytesS (j := 2) Try.underlying30 Try.underlying5 (by kernel_rfl) (by kernel_rfl) ok2 h2 hsz rfl rfl
  have hk1 : Rows.uptoBulkAll _ ≤ 1048576 := of_decide_eq_true hk0
  simp only [List.append_nil, List.cons_append, List.nil_append, Rows.uptoBulkAll] at hk1
  have hbk1 : fr.length + 1 ≤ Rows.uptoBulk d1 := by
    obtain ⟨fuel, hf⟩ := h1
    exact bulk_slice (a := afr) (n := fr.length) (c := cfr) (fuel := fuel) (x := (d1, p1)) Try.underlying30 (by simpa [Value.cells] using hf)
  have hbk2 : bh.length + 1 ≤ Rows.uptoBulk d2 := by
    obtain ⟨fuel, hf⟩ := h2
    exact bulk_slice (a := abh) (n := bh.length) (c := cbh) (fuel := fuel) (x := (d2, p2)) Try.underlying30 (by simpa [Value.cells] using hf)
  refine Calls.mono (walk x fr afr cfr bh abh cbh W hxR.1 hxR.2.1 rfr rbh (by omega) (by omega)) fun e W' ⟨v, he, hv, hs⟩ => ?_
  subst hv; subst he
  have bel := hs.below
  exact ⟨_, rfl, _, _, _, [], _, [], hW', trodAll_mk1 (shut_bool Try.underlying4 _), (trodAll_cons_mk (Below.trod laidOut readable41 (of_decide_eq_true inside41) h0 bel lt0) (trodAll_cons_mk (Below.trod laidOut readable30 (of_decide_eq_true inside30) h1 bel lt1) (trodAll_cons_mk (Below.trod laidOut readable30 (of_decide_eq_true inside30) h2 bel lt2) trodAll_mk0))), rfl, bel.frame _, fun h => by cases h⟩
theorem over : Rows.entriesMatchUptoRow.holds Try.pinned (Rows.OpenSpec.upto Rows.entriesMatchSpec) :=
  OpenClaim.holds_of_cond 5 Try.f5 rfl rfl rfl rfl rfl rfl rfl ⟨rfl, rfl, rfl, rfl, rfl⟩ rfl rfl rfl rfl rfl (by kernel_rfl) Try.func5 (by kernel_rfl)
    (of_decide_eq_true (by kernel_rfl)) (by unfold Func.isWrapper; first | (rw [if_pos (by decide +kernel)]; kernel_rfl) | (rw [if_neg (by decide +kernel)]; exact ⟨rfl, rfl⟩))
    (fun os started H enc _ F => lifted os started H enc F)
theorem proved : Rows.EntriesMatchUptoSaid := over
#print axioms proved
end Go.Proofs.Ytbanoknkplcedaa.lawEntriesMatch
