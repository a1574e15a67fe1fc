/- Asks decided; rules put behind one another and turned round. No condition. -/
import Derived.Test.YtafdmlpfgpaicaaFacts
import Derived.Test.YtafdmlpfgpaicaaPolA
import Derived.Test.YtafdmlpfgpaicaaRev
import Derived.Test.YtafdmlpfgpaicaaMixC
namespace Go.Proofs.Ytafdmlpfgpaicaa
open Go.Kw
set_option linter.unusedVariables false
set_option linter.unusedSimpArgs false
set_option maxRecDepth 100000
set_option maxHeartbeats 4000000 in
theorem pdecide_ok (rs : List RuleD) (pa : Option Addr) (n pc : Nat) (q : AskD) (w : World) (hrs : Row w pa (rs.flatMap RuleD.v)) (hl : rs.length = n) (hn : n ≤ 140737488351232) (hall : ∀ r ∈ rs, RuleAt w r) (hq : AskOk q) (hr : Row w q.ra (q.ro.map sv)) :
    Ret Try.prog 19 [.agg #[.slice pa n pc], .agg q.v.toArray] w (fun v w' => (¬ polE rs = 0 ∧ v = .tuple #[.agg (decV false 0 0 []).toArray, .int .i64 (polE rs)] ∧ St w [] w' []) ∨ ((polE rs = 0 ∧ ¬ askE q = 0) ∧ v = .tuple #[.agg (decV false 0 0 []).toArray, .int .i64 (askE q)] ∧ St w [] w' []) ∨ ((polE rs = 0 ∧ askE q = 0) ∧ ∃ al ru nd fr, v = .tuple #[.agg (decV al ru nd fr).toArray, vi 0] ∧ DecR rs q al ru nd fr ∧ St w [] w' [])) := by
  have hac := hq.ac
  have hkey := hq.key
  have hdet := hq.det
  refine enter Try.func19 rfl Try.ntmps19 rfl ?_
  have hS := St.refl w []
  refine c_seq ?_
  refine c_region ?_
  refine wl_exv (x_box hS (v := .agg _) rfl rfl) rfl ?_
  rintro _ w1 ⟨b2, rfl, hS2⟩
  refine wl_exv (x_box hS2 (v := .agg _) rfl rfl) rfl ?_
  rintro _ w3 ⟨b3, rfl, hS4⟩
  refine wl_exv (x_alloc (C := [.bool false, .int .i64 0, .int .i64 0, .string ⟨#[]⟩]) hS4 ti50 rfl) rfl ?_
  rintro _ w5 ⟨b4, rfl, hS6⟩
  refine wl_val (r_assign (v := .int .i64 0) rfl) rfl ?_
  refine wl_nil ?_
  refine c_then ?_
  refine c_seq ?_
  refine c_seq ?_
  refine c_region ?_
  refine wl_val (r_loadB ti48 ag48 rfl (hS6.heap (.tail _ (.tail _ (.head _)))) (by first | (simp [*]; done) | (simp [*] <;> omega) | omega)) rfl ?_
  refine wl_call (r_call fn59 rfl rfl) rfl (check_ok rs pa n pc _ (hrs.st hS6) hl hn (fun r hr' => (hall r hr').st hS6)) ?_
  rintro _ w7 ⟨rfl, hx8⟩
  have hS9 := hS6.ext hx8
  refine wl_val (r_assign (v := .int .i64 _) rfl) rfl ?_
  refine wl_nil ?_
  refine c_then ?_
  refine c_seq ?_
  refine c_region ?_
  refine wl_val (r_move (v := .int .i64 _) rfl) rfl ?_
  refine wl_dec (r_neq rfl rfl) rfl (fun h2_1 => ?_) (fun h2_1 => ?_)
  · refine wl_nil ?_
    refine c_then ?_
    refine c_true rfl ?_
    refine c_seq ?_
    refine c_region ?_
    refine wl_val (r_buildZ pl50 ti50) rfl ?_
    refine wl_val (r_move (v := .int .i64 _) rfl) rfl ?_
    refine wl_exs (x_storeW [] hS9 ti50 rfl rfl rfl rfl (by repeat' first | exact one_nil | exact one_b8 _ | exact one_v32 _ | exact one_all rfl | refine one_cons rfl ?_ | refine one_app ?_ ?_)) rfl ?_
    intro w10 hS11
    simp only [List.cons_append, List.nil_append] at hS11
    refine wl_val (r_assign (v := .int .i64 _) rfl) rfl ?_
    refine wl_nil ?_
    refine c_then ?_
    refine wp_ret ?_
    refine c_thenR ?_
    refine ret2 Try.results19 ⟨_, rfl, run_loadVar_blk ti50 ag50 (hS11.heap (.head _)) rfl⟩ rfl ?_
    first | exact .inl ⟨h2_1, rfl, hS11.fin⟩ | exact .inr (.inl ⟨⟨Decidable.of_not_not h2_1, h5_1⟩, rfl, hS11.fin⟩) | exact .inr (.inr ⟨⟨Decidable.of_not_not h2_1, Decidable.of_not_not h5_1⟩, al, ru, nd, fr, rfl, hdec, hS11.fin⟩)
  refine wl_nil ?_
  refine c_then ?_
  refine c_false rfl ?_
  refine wp_skip ?_
  refine c_then ?_
  refine c_seq ?_
  refine c_seq ?_
  refine c_region ?_
  refine wl_val (r_loadB ti34 ag34 rfl (hS9.heap (.tail _ (.head _))) (by first | (simp [*]; done) | (simp [*] <;> omega) | omega)) rfl ?_
  refine wl_call (r_call fn14 rfl rfl) rfl (checkAsk_ok q _ hq (hr.st hS9)) ?_
  rintro _ w12 ⟨rfl, hx13⟩
  have hS14 := hS9.ext hx13
  refine wl_val (r_assign (v := .int .i64 _) rfl) rfl ?_
  refine wl_nil ?_
  refine c_then ?_
  refine c_seq ?_
  refine c_region ?_
  refine wl_val (r_move (v := .int .i64 _) rfl) rfl ?_
  refine wl_dec (r_neq rfl rfl) rfl (fun h5_1 => ?_) (fun h5_1 => ?_)
  · refine wl_nil ?_
    refine c_then ?_
    refine c_true rfl ?_
    refine c_seq ?_
    refine c_region ?_
    refine wl_val (r_buildZ pl50 ti50) rfl ?_
    refine wl_val (r_move (v := .int .i64 _) rfl) rfl ?_
    refine wl_exs (x_storeW [] hS14 ti50 rfl rfl rfl rfl (by repeat' first | exact one_nil | exact one_b8 _ | exact one_v32 _ | exact one_all rfl | refine one_cons rfl ?_ | refine one_app ?_ ?_)) rfl ?_
    intro w15 hS16
    simp only [List.cons_append, List.nil_append] at hS16
    refine wl_val (r_assign (v := .int .i64 _) rfl) rfl ?_
    refine wl_nil ?_
    refine c_then ?_
    refine wp_ret ?_
    refine c_thenR ?_
    refine ret2 Try.results19 ⟨_, rfl, run_loadVar_blk ti50 ag50 (hS16.heap (.head _)) rfl⟩ rfl ?_
    first | exact .inl ⟨h2_1, rfl, hS16.fin⟩ | exact .inr (.inl ⟨⟨Decidable.of_not_not h2_1, h5_1⟩, rfl, hS16.fin⟩) | exact .inr (.inr ⟨⟨Decidable.of_not_not h2_1, Decidable.of_not_not h5_1⟩, al, ru, nd, fr, rfl, hdec, hS16.fin⟩)
  refine wl_nil ?_
  refine c_then ?_
  refine c_false rfl ?_
  refine wp_skip ?_
  refine c_then ?_
  refine c_seq ?_
  refine c_region ?_
  refine wl_val (r_loadB ti48 ag48 rfl (hS14.heap (.tail _ (.tail _ (.head _)))) (by first | (simp [*]; done) | (simp [*] <;> omega) | omega)) rfl ?_
  refine wl_val (r_loadB ti34 ag34 rfl (hS14.heap (.tail _ (.head _))) (by first | (simp [*]; done) | (simp [*] <;> omega) | omega)) rfl ?_
  refine wl_call (r_call fn60 rfl rfl) rfl (decide_ok rs pa n pc q _ (hrs.st hS14) hl hn (fun r hr' => (hall r hr').st hS14) hq (hr.st hS14) (askE_ok (Decidable.of_not_not h5_1)).2.2.1 (askE_ok (Decidable.of_not_not h5_1)).2.2.2) ?_
  rintro _ w17 ⟨al, ru, nd, fr, rfl, hdec, hx18⟩
  have hS19 := hS14.ext hx18
  refine wl_exs (x_storeW [] hS19 ti50 rfl rfl rfl rfl one_dec) rfl ?_
  intro w20 hS21
  simp only [List.cons_append, List.nil_append] at hS21
  refine wl_val (r_assign (v := .int .i64 0) rfl) rfl ?_
  refine wl_nil ?_
  refine c_then ?_
  refine wp_ret ?_
  refine ret2 Try.results19 ⟨_, rfl, run_loadVar_blk ti50 ag50 (hS21.heap (.head _)) rfl⟩ rfl ?_
  first | exact .inl ⟨h2_1, rfl, hS21.fin⟩ | exact .inr (.inl ⟨⟨Decidable.of_not_not h2_1, h5_1⟩, rfl, hS21.fin⟩) | exact .inr (.inr ⟨⟨Decidable.of_not_not h2_1, Decidable.of_not_not h5_1⟩, al, ru, nd, fr, rfl, hdec, hS21.fin⟩)

theorem growR_ok (n : Nat) (w : World) (hn : n ≤ 1099511627776) :
    Ret Try.prog 62 [.slice none 0 0, vi n] w (fun v w' => ∃ a' c', v = .slice a' 0 c' ∧ St w [] w' [.row (.slice a' 0 c') 37 8 0 []]) := by
  refine enter Try.func62 rfl Try.ntmps62 rfl ?_
  have hS := St.refl w []
  refine c_seq ?_
  refine c_region ?_
  refine wl_val (r_assign (v := .slice none 0 0) rfl) rfl ?_
  refine wl_nil ?_
  refine c_then ?_
  refine c_seq ?_
  refine c_seq ?_
  refine c_region ?_
  refine wl_val (r_move (v := .int .i64 _) rfl) rfl ?_
  refine wl_dec_f (r_lss rfl rfl) rfl (by omega) ?_
  refine wl_nil ?_
  refine c_then ?_
  refine c_false rfl ?_
  refine wp_skip ?_
  refine c_then ?_
  refine c_seq ?_
  refine c_seq ?_
  refine c_region ?_
  refine wl_val (r_move (v := .int .i64 _) rfl) rfl ?_
  refine wl_val (r_move (v := .slice _ _ _) rfl) rfl ?_
  refine wl_val (r_cap (T := 46) rfl ti46.und rfl _ rfl) rfl ?_
  refine wl_val (r_move (v := .slice _ _ _) rfl) rfl ?_
  refine wl_val (r_len (T := 46) rfl ti46.und rfl _ rfl) rfl ?_
  refine wl_val (r_subn rfl rfl (by omega) (by omega)) rfl ?_
  refine wl_val (r_subn rfl rfl (by omega) (by omega)) rfl ?_
  refine wl_val (r_assign (v := .int .i64 _) rfl) rfl ?_
  refine wl_nil ?_
  refine c_then ?_
  refine c_seq ?_
  refine c_region ?_
  refine wl_val (r_move (v := .int .i64 _) rfl) rfl ?_
  refine wl_dec (r_gtr rfl rfl) rfl (fun h4_1 => ?_) (fun h4_1 => ?_)
  · refine wl_nil ?_
    refine c_then ?_
    refine c_true rfl ?_
    refine c_region ?_
    refine wl_val (r_move (v := .slice _ _ _) rfl) rfl ?_
    refine wl_val (r_move (v := .slice _ _ _) rfl) rfl ?_
    refine wl_val (r_cap (T := 46) rfl ti46.und rfl _ rfl) rfl ?_
    refine wl_val (r_sl_h ti46.und ti37 rfl rfl (by omega)) rfl ?_
    refine wl_val (r_move (v := .int .i64 _) rfl) rfl ?_
    refine wl_exv (x_growNil hS ti46.und ti37 ti3.und rfl (by decide) rfl rfl (by first | omega | (simp [*]; done) | (simp [*] <;> omega)) (by first | omega | (simp [*]; done) | (simp [*] <;> omega)) (by first | omega | (simp [*]; done) | (simp [*] <;> omega)) _ rfl) rfl ?_
    rintro _ w1 ⟨aq3, cq3, xq3, rfl, hcq3, hS2⟩
    refine wl_val (r_move (v := .slice _ _ _) rfl) rfl ?_
    refine wl_val (r_len (T := 46) rfl ti46.und rfl _ rfl) rfl ?_
    refine wl_val (r_sl_h ti46.und ti37 rfl rfl (by omega)) rfl ?_
    have hS4 := hS2.rowCut (l1 := []) (h := 0) (Nat.zero_le _)
    simp only [List.cons_append, List.nil_append, Nat.zero_mul, List.take_zero] at hS4
    refine wl_val (r_assign (v := .slice _ _ _) rfl) rfl ?_
    refine wl_nil ?_
    refine c_then ?_
    refine c_seq ?_
    refine c_region ?_
    refine wl_val (r_move (v := .slice _ _ _) rfl) rfl ?_
    refine wl_val (r_assign (v := .slice _ _ _) rfl) rfl ?_
    refine wl_nil ?_
    refine c_then ?_
    refine wp_ret ?_
    refine ret1 Try.results62 ?_
    first | exact ⟨_, _, rfl, hS4⟩ | exact ⟨none, 0, rfl, hS4.nilRow⟩
  refine wl_nil ?_
  refine c_then ?_
  refine c_false rfl ?_
  refine wp_skip ?_
  refine c_then ?_
  refine c_seq ?_
  refine c_region ?_
  refine wl_val (r_move (v := .slice _ _ _) rfl) rfl ?_
  refine wl_val (r_assign (v := .slice _ _ _) rfl) rfl ?_
  refine wl_nil ?_
  refine c_then ?_
  refine wp_ret ?_
  refine ret1 Try.results62 ?_
  first | exact ⟨_, _, rfl, hS⟩ | exact ⟨none, 0, rfl, hS.nilRow⟩

theorem concatR_ok (ps : List (Sl RuleD)) (a : Option Addr) (c : Nat) (w : World) (hb : Row w a (ps.map Sl.v)) (hr : ∀ q ∈ ps, Row w q.a (q.xs.flatMap RuleD.v)) (hl : ps.length ≤ 1000) (hn : totalR ps ≤ 1000) :
    Ret Try.prog 20 [.slice a ps.length c] w (fun v w' => ∃ a' c', v = .slice a' (totalR ps) c' ∧ St w [] w' [.row (.slice a' (totalR ps) c') 37 8 (totalR ps) ((joinedR ps).flatMap RuleD.v)]) := by
  refine enter Try.func20 rfl Try.ntmps20 rfl ?_
  have hS := St.refl w []
  refine c_seq ?_
  refine c_region ?_
  refine wl_val (r_assign (v := .slice none 0 0) rfl) rfl ?_
  refine wl_nil ?_
  refine c_then ?_
  refine c_seq ?_
  refine c_region ?_
  refine wl_val (r_assign (v := .int .i64 0) rfl) rfl ?_
  refine wl_nil ?_
  refine c_then ?_
  refine c_seq ?_
  refine c_seq ?_
  refine c_region ?_
  refine wl_val (r_move (v := .slice _ _ _) rfl) rfl ?_
  refine wl_val (r_len (T := 85) rfl ti85.und rfl _ rfl) rfl ?_
  refine wl_val (r_move (v := .int .i64 0) rfl) rfl ?_
  refine wl_nil ?_
  refine c_then ?_
  refine c_block ?_
  refine c_loopE [0, 2, 9, 10] (fun d e w' => ∃ (k : Nat), Kw.look e 11 = vi k ∧ Kw.look e 3 = vi (totalR (ps.take k)) ∧ d = ps.length - k ∧ St w [] w' [] ∧ (k ≤ ps.length)) (ps.length - 0) ?_ ?_
  · exact ⟨0, rfl, rfl, rfl, hS, Nat.zero_le _⟩
  · rintro d4 e1 w2 ⟨k, hc0_11, hc0_3, rfl, hS3, hI0_0⟩ -
    refine c_set (d := 11) hc0_11 ?_
    refine c_set (d := 3) hc0_3 ?_
    refine c_seq ?_
    refine c_region ?_
    refine wl_dec (r_lss rfl rfl) rfl (fun h3_0 => ?_) (fun h3_0 => ?_)
    · refine wl_nil ?_
      refine c_then ?_
      refine c_seq ?_
      refine c_true rfl ?_
      refine wp_skip ?_
      refine c_then ?_
      refine c_seq ?_
      refine c_block ?_
      refine c_seq ?_
      refine c_region ?_
      refine wl_val (r_ixS ti85.und ti46 rfl rfl (hb.st hS3) (by first | omega | (simp [*]; done) | (simp [*] <;> omega)) (by first | (simp [*]; done) | (simp [*] <;> omega) | omega)) rfl ?_
      refine wl_val (r_loadS1 ti46.und rfl rfl (hb.st hS3) (by rw [Nat.mul_one]; exact map_gt _ _ _ (by first | omega | (simp [*]; done) | (simp [*] <;> omega)))) rfl ?_
      refine wl_val (r_assign (v := .slice _ _ _) rfl) rfl ?_
      refine wl_nil ?_
      refine c_then ?_
      refine c_seq ?_
      have ht := totalR_take ps k (by omega)
      have htl := totalR_le ps (k + 1)
      refine c_region ?_
      refine wl_val (r_move (v := .int .i64 _) rfl) rfl ?_
      refine wl_val (r_move (v := .slice _ _ _) rfl) rfl ?_
      refine wl_val (r_len (T := 46) rfl ti46.und rfl _ rfl) rfl ?_
      refine wl_val (r_addn rfl rfl (by omega)) rfl ?_
      refine wl_val (r_assign (v := .int .i64 _) rfl) rfl ?_
      refine wl_nil ?_
      refine c_then ?_
      refine c_seq ?_
      refine c_region ?_
      refine wl_val (r_move (v := .int .i64 _) rfl) rfl ?_
      refine wl_dec_f (r_lss rfl rfl) rfl (by omega) ?_
      refine wl_nil ?_
      refine c_then ?_
      refine c_false rfl ?_
      refine wp_skip ?_
      refine c_inN ?_
      refine c_then ?_
      refine c_region ?_
      refine wl_val (r_addn (b := 1) rfl rfl (by omega)) rfl ?_
      refine wl_val (r_move (v := .int .i64 _) rfl) rfl ?_
      refine wl_nil ?_
      refine c_then ?_
      exact ⟨ps.length - (k + 1), _, by omega, rfl, ⟨k + 1, rfl, congrArg (fun t => Value.int .i64 ((t : Nat) : Int)) ht.symm, rfl, hS3, by omega⟩, ⟨rfl, rfl, rfl, rfl, trivial⟩⟩
    refine wl_nil ?_
    refine c_then ?_
    refine c_seq ?_
    refine c_false rfl ?_
    refine wp_exit ?_
    refine c_thenE ?_
    refine c_thenE ?_
    refine c_inE ?_
    refine c_then ?_
    refine c_seq ?_
    have htl := totalR_le ps k
    refine c_region ?_
    refine wl_val (r_move (v := .int .i64 _) rfl) rfl ?_
    refine wl_call (r_call fn62 rfl rfl) rfl (growR_ok _ _ (by first | omega | (simp [*]; done) | (simp [*] <;> omega))) ?_
    rintro _ w5 ⟨a24, c24, rfl, hx6⟩
    have hS7 := hS3.call hx6
    simp only [List.cons_append, List.nil_append] at hS7
    refine wl_val (r_assign (v := .slice _ _ _) rfl) rfl ?_
    refine wl_nil ?_
    refine c_then ?_
    refine c_seq ?_
    refine c_seq ?_
    refine c_region ?_
    refine wl_val (r_move (v := .slice _ _ _) rfl) rfl ?_
    refine wl_val (r_len (T := 85) rfl ti85.und rfl _ rfl) rfl ?_
    refine wl_val (r_move (v := .int .i64 0) rfl) rfl ?_
    refine wl_nil ?_
    refine c_then ?_
    refine c_block ?_
    refine c_loopE [2, 25, 26] (fun d e w' => ∃ (k : Nat) (a6 : Option Addr) (c6 : Nat), Kw.look e 27 = vi k ∧ Kw.look e 6 = .slice a6 (totalR (ps.take k)) c6 ∧ d = ps.length - k ∧ St w [] w' [.row (.slice a6 (totalR (ps.take k)) c6) 37 8 (totalR (ps.take k)) ((joinedR (ps.take k)).flatMap RuleD.v)] ∧ (k ≤ ps.length)) (ps.length - 0) ?_ ?_
    · exact ⟨0, _, _, rfl, rfl, rfl, hS7, Nat.zero_le _⟩
    · rintro d11 e8 w9 ⟨k, a6, c6, hc1_27, hc1_6, rfl, hS10, hI1_0⟩ -
      refine c_set (d := 27) hc1_27 ?_
      refine c_set (d := 6) hc1_6 ?_
      refine c_seq ?_
      refine c_region ?_
      refine wl_dec (r_lss rfl rfl) rfl (fun h11_0 => ?_) (fun h11_0 => ?_)
      · refine wl_nil ?_
        refine c_then ?_
        refine c_seq ?_
        refine c_true rfl ?_
        refine wp_skip ?_
        refine c_then ?_
        refine c_seq ?_
        refine c_block ?_
        refine c_seq ?_
        refine c_region ?_
        refine wl_val (r_ixS ti85.und ti46 rfl rfl (hb.st hS10) (by first | omega | (simp [*]; done) | (simp [*] <;> omega)) (by first | (simp [*]; done) | (simp [*] <;> omega) | omega)) rfl ?_
        refine wl_val (r_loadS1 ti46.und rfl rfl (hb.st hS10) (by rw [Nat.mul_one]; exact map_gt _ _ _ (by first | omega | (simp [*]; done) | (simp [*] <;> omega)))) rfl ?_
        refine wl_val (r_assign (v := .slice _ _ _) rfl) rfl ?_
        refine wl_nil ?_
        refine c_then ?_
        have ht := totalR_take ps k (by omega)
        have htl := totalR_le ps (k + 1)
        have hrk := hr (gt ps k) (gt_mem ps k (by omega))
        refine c_region ?_
        refine wl_val (r_move (v := .slice _ _ _) rfl) rfl ?_
        refine wl_val (r_move (v := .slice _ _ _) rfl) rfl ?_
        refine wl_exv (x_append [] hS10 ti46.und ti37 rfl (by decide) rfl rfl (hrk.st hS10) (by rw [flatM_len rule_v8]) (one_flat _) (by omega) (by omega) _ rfl) rfl ?_
        rintro _ w12 ⟨aq14, cq14, rfl, hcq14, hS13⟩
        simp only [List.cons_append, List.nil_append] at hS13
        refine wl_val (r_assign (v := .slice _ _ _) rfl) rfl ?_
        refine wl_nil ?_
        refine c_inN ?_
        refine c_then ?_
        refine c_region ?_
        refine wl_val (r_addn (b := 1) rfl rfl (by omega)) rfl ?_
        refine wl_val (r_move (v := .int .i64 _) rfl) rfl ?_
        refine wl_nil ?_
        refine c_then ?_
        refine ⟨ps.length - (k + 1), _, by omega, rfl, ⟨k + 1, _, _, rfl, (by rw [ht]; rfl), rfl, ?_, by omega⟩, ⟨rfl, rfl, rfl, trivial⟩⟩
        rw [ht, joinedR_take ps k (by omega), List.flatMap_append]
        exact hS13
      refine wl_nil ?_
      refine c_then ?_
      refine c_seq ?_
      refine c_false rfl ?_
      refine wp_exit ?_
      refine c_thenE ?_
      refine c_thenE ?_
      refine c_inE ?_
      refine c_then ?_
      refine c_seq ?_
      refine c_region ?_
      refine wl_val (r_move (v := .slice _ _ _) rfl) rfl ?_
      refine wl_val (r_assign (v := .slice _ _ _) rfl) rfl ?_
      refine wl_nil ?_
      refine c_then ?_
      refine wp_ret ?_
      refine ret1 Try.results20 ?_
      obtain rfl : k = ps.length := by omega
      simp only [List.take_length] at *
      exact ⟨_, _, rfl, hS10⟩

theorem reverseR_ok (l : List RuleD) (D : List Value) (g n c : Nat) (w : World) (hb : w.heap[g]? = some (cl (l.flatMap RuleD.v ++ D) 37)) (hl : l.length = n) (hn : n ≤ 140737488351232) :
    Ret Try.prog 21 [.slice (some ⟨g, 0, none⟩) n c] w (fun v w' => ∃ lq, Same l lq ∧ St w [g] w' [.blk g (cl (lq.flatMap RuleD.v ++ D) 37)]) := by
  subst hl
  refine enter Try.func21 rfl Try.ntmps21 rfl ?_
  have hS : St w [g] w [.blk g (cl (l.flatMap RuleD.v ++ D) 37)] := St.own hb
  refine c_seq ?_
  refine c_region ?_
  refine wl_val (r_move (v := .slice _ _ _) rfl) rfl ?_
  refine wl_val (r_len (T := 46) rfl ti46.und rfl _ rfl) rfl ?_
  refine wl_val (r_subi rfl rfl (by omega) (by omega)) rfl ?_
  refine wl_val (r_assign (v := .int .i64 0) rfl) rfl ?_
  refine wl_val (r_assign (v := .int .i64 _) rfl) rfl ?_
  refine wl_nil ?_
  refine c_then ?_
  refine c_block ?_
  refine c_loopE [0] (fun d e w' => ∃ (i : Nat) (z : Int) (lq : List RuleD), Kw.look e 2 = vi i ∧ Kw.look e 3 = .int .i64 z ∧ d = l.length - i ∧ St w [g] w' [.blk g (cl (lq.flatMap RuleD.v ++ D) 37)] ∧ ((i : Int) + z = (l.length : Int) - 1) ∧ (Same l lq)) (l.length - 0) ?_ ?_
  · exact ⟨0, _, l, rfl, rfl, rfl, hS, by omega, Same.refl l⟩
  · rintro d4 e1 w2 ⟨i, z, lq, hc0_2, hc0_3, rfl, hS3, hiz, hsm⟩ -
    refine c_set (d := 2) hc0_2 ?_
    refine c_set (d := 3) hc0_3 ?_
    refine c_seq ?_
    refine c_seq ?_
    refine c_region ?_
    refine wl_val (r_move (v := .int .i64 _) rfl) rfl ?_
    refine wl_val (r_move (v := .int .i64 _) rfl) rfl ?_
    refine wl_dec (r_lss rfl rfl) rfl (fun h1_2 => ?_) (fun h1_2 => ?_)
    · refine wl_nil ?_
      refine c_then ?_
      refine c_true rfl ?_
      refine wp_skip ?_
      refine c_then ?_
      refine c_seq ?_
      refine c_block ?_
      obtain ⟨z', rfl⟩ : ∃ i : Nat, z = (i : Int) := ⟨z.toNat, (by omega)⟩
      have hlen' := hsm.1
      refine c_drawSF 14 hMixed hS3 hS3.drop1 ?_
      intro w5 hS6
      refine g_take 0 rfl (by decide +kernel) rfl (fun _ _ _ h => h) hS6.drop1 (fun wF hF => r_move (v := .slice _ _ _) rfl) ?_
      refine g_take 1 rfl (by decide +kernel) rfl (fun _ _ _ h => h) hS6.drop1 (fun wF hF => r_move (v := .int .i64 _) rfl) ?_
      refine g_take 2 rfl (by decide +kernel) rfl (fun _ _ _ h => h) hS6.drop1 (fun wF hF => r_move (v := .slice _ _ _) rfl) ?_
      refine g_take 3 rfl (by decide +kernel) rfl (fun _ _ _ h => h) hS6.drop1 (fun wF hF => r_move (v := .int .i64 _) rfl) ?_
      refine g_take 4 rfl (by decide +kernel) rfl (fun _ _ _ h => h) hS6.drop1 (fun wF hF => r_move (v := .slice _ _ _) rfl) ?_
      refine g_take 5 rfl (by decide +kernel) rfl (fun _ _ _ h => h) hS6.drop1 (fun wF hF => r_move (v := .int .i64 _) rfl) ?_
      refine g_take 6 rfl (by decide +kernel) rfl (fun _ _ _ h => h) hS6.drop1 (fun wF hF => r_ixP ti46.und ti37 rfl rfl (by omega)) ?_
      refine g_take 8 rfl (by decide +kernel) rfl (fun _ _ _ h => h) hS6.drop1 (fun wF hF => r_move (v := .slice _ _ _) rfl) ?_
      refine g_take 9 rfl (by decide +kernel) rfl (fun _ _ _ h => h) hS6.drop1 (fun wF hF => r_move (v := .int .i64 _) rfl) ?_
      refine g_take 10 rfl (by decide +kernel) rfl (fun _ _ _ h => h) hS6.drop1 (fun wF hF => r_ixP ti46.und ti37 rfl rfl (by omega)) ?_
      refine g_all (rs := [7, 11]) (by decide +kernel) (by decide +kernel) rfl ?_
      simp only [List.forall_mem_cons, List.not_mem_nil, false_imp_iff, implies_true, and_true]
      refine ⟨?_, ?_⟩
      · refine o_val rfl (r_loadP8 ti37 ag37 rfl (hS6.heap (.head _)) (by omega)) rfl ?_
        refine ⟨hS6.drop1, ?_⟩
        refine g_one 11 (by decide +kernel) (by decide +kernel) ?_
        refine o_val rfl (r_loadP8 ti37 ag37 rfl (hS6.heap (.head _)) (by omega)) rfl ?_
        refine ⟨hS6.drop1, ?_⟩
        refine g_take 12 rfl (by decide +kernel) rfl (fun _ _ _ h => h) hS6.drop1 (fun wF hF => r_ixP ti46.und ti37 rfl rfl (by omega)) ?_
        refine g_one 13 (by decide +kernel) (by decide +kernel) ?_
        refine o_exs rfl (x_storeP8 [] hS6 ti37 rfl rfl (by first | omega | (rw [List.length_set]; omega))) rfl ?_
        intro w7 hS8
        simp only [List.cons_append, List.nil_append] at hS8
        refine ⟨hS8.drop1, ?_⟩
        refine g_tail (by decide +kernel) rfl (by decide +kernel) ?_
        refine wl_val (r_ixP ti46.und ti37 rfl rfl (by omega)) rfl ?_
        refine wl_exs (x_storeP8 [] hS8 ti37 rfl rfl (by first | omega | (rw [List.length_set]; omega))) rfl ?_
        intro w9 hS10
        simp only [List.cons_append, List.nil_append] at hS10
        refine wl_nil ?_
        refine c_inN ?_
        refine c_then ?_
        refine c_region ?_
        refine wl_val (r_move (v := .int .i64 _) rfl) rfl ?_
        refine wl_val (r_addn (b := 1) rfl rfl (by omega)) rfl ?_
        refine wl_val (r_move (v := .int .i64 _) rfl) rfl ?_
        refine wl_val (r_subn (b := 1) rfl rfl (by omega) (by omega)) rfl ?_
        refine wl_val (r_assign (v := .int .i64 _) rfl) rfl ?_
        refine wl_val (r_assign (v := .int .i64 _) rfl) rfl ?_
        refine wl_nil ?_
        refine c_then ?_
        exact ⟨l.length - (i + 1), _, by omega, rfl, ⟨i + 1, _, swapL lq i z', rfl, rfl, rfl, hS10, by omega, hsm.trans (swap_same (by omega) (by omega))⟩, ⟨rfl, trivial⟩⟩
      · refine o_val rfl (r_loadP8 ti37 ag37 rfl (hS6.heap (.head _)) (by omega)) rfl ?_
        refine ⟨hS6.drop1, ?_⟩
        refine g_one 7 (by decide +kernel) (by decide +kernel) ?_
        refine o_val rfl (r_loadP8 ti37 ag37 rfl (hS6.heap (.head _)) (by omega)) rfl ?_
        refine ⟨hS6.drop1, ?_⟩
        refine g_take 12 rfl (by decide +kernel) rfl (fun _ _ _ h => h) hS6.drop1 (fun wF hF => r_ixP ti46.und ti37 rfl rfl (by omega)) ?_
        refine g_one 13 (by decide +kernel) (by decide +kernel) ?_
        refine o_exs rfl (x_storeP8 [] hS6 ti37 rfl rfl (by first | omega | (rw [List.length_set]; omega))) rfl ?_
        intro w11 hS12
        simp only [List.cons_append, List.nil_append] at hS12
        refine ⟨hS12.drop1, ?_⟩
        refine g_tail (by decide +kernel) rfl (by decide +kernel) ?_
        refine wl_val (r_ixP ti46.und ti37 rfl rfl (by omega)) rfl ?_
        refine wl_exs (x_storeP8 [] hS12 ti37 rfl rfl (by first | omega | (rw [List.length_set]; omega))) rfl ?_
        intro w13 hS14
        simp only [List.cons_append, List.nil_append] at hS14
        refine wl_nil ?_
        refine c_inN ?_
        refine c_then ?_
        refine c_region ?_
        refine wl_val (r_move (v := .int .i64 _) rfl) rfl ?_
        refine wl_val (r_addn (b := 1) rfl rfl (by omega)) rfl ?_
        refine wl_val (r_move (v := .int .i64 _) rfl) rfl ?_
        refine wl_val (r_subn (b := 1) rfl rfl (by omega) (by omega)) rfl ?_
        refine wl_val (r_assign (v := .int .i64 _) rfl) rfl ?_
        refine wl_val (r_assign (v := .int .i64 _) rfl) rfl ?_
        refine wl_nil ?_
        refine c_then ?_
        exact ⟨l.length - (i + 1), _, by omega, rfl, ⟨i + 1, _, swapL lq i z', rfl, rfl, rfl, hS14, by omega, hsm.trans (swap_same (by omega) (by omega))⟩, ⟨rfl, trivial⟩⟩
    refine wl_nil ?_
    refine c_then ?_
    refine c_false rfl ?_
    refine wp_exit ?_
    refine c_thenE ?_
    refine c_thenE ?_
    refine c_inE ?_
    refine ret0n Try.results21 ?_
    exact ⟨lq, hsm, hS3⟩

end Go.Proofs.Ytafdmlpfgpaicaa
