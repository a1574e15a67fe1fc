/- What the law's proof leans on. No condition. -/
import Derived.Test.YtmonnmndphlkaaaGreatPPdAH
import Derived.Test.YtmonnmndphlkaaaGreatPPdAC
namespace Go.Proofs.YtmonnmndphlkaaaGreat
open Go.Kw
set_option linter.unusedVariables false
set_option linter.unusedSimpArgs false
set_option maxRecDepth 100000
theorem hex_ok (bs : List UInt8) (a : Option Addr) (c : Nat) (w : World) (hb : Row w a (bs.map b8)) (hl : 2 * bs.length ≤ 140737488355328) :
    Ret Tryz.prog 23 [.slice a bs.length c] w (fun v w' => v = .string ⟨(hexL bs).toArray⟩ ∧ St w [] w' []) := by
  refine enter Tryz.func23 rfl Tryz.ntmps23 rfl ?_
  have hS := St.refl w []
  refine c_seq ?_; refine c_region ?_; refine wl_val (r_assign (v := .string ⟨#[]⟩) rfl) rfl ?_; refine wl_nil ?_; refine c_then ?_; refine c_seq ?_; refine c_region ?_; refine wl_val (r_move (v := .slice _ _ _) rfl) rfl ?_; refine wl_val (r_len (T := 66) rfl ti66.und rfl _ rfl) rfl ?_; refine wl_val (r_muln (a := 2) rfl rfl (by omega)) rfl ?_; refine wl_exv (x_make_row hS ti66.und ti5 rfl rfl (by first | omega | (simp [*]; done) | (simp [*] <;> omega)) (by first | omega | (simp [*]; done) | (simp [*] <;> omega))) rfl ?_; rintro _ w1 ⟨a9, rfl, hS2⟩; refine wl_val (r_assign (v := .slice _ _ _) rfl) rfl ?_; refine wl_nil ?_; refine c_then ?_; refine c_seq ?_; refine c_seq ?_; refine c_region ?_; refine wl_val (r_move (v := .slice _ _ _) rfl) rfl ?_; refine wl_val (r_len (T := 66) rfl ti66.und rfl _ rfl) rfl ?_; refine wl_val (r_move (v := .int .i64 0) rfl) rfl ?_; refine wl_nil ?_; refine c_then ?_; refine c_block ?_; refine c_loopE [2, 10, 11] (fun d e w' => ∃ (k : Nat) (a3 : Option Addr) (c3 : Nat), Kw.look e 12 = vi k ∧ Kw.look e 3 = .slice a3 (2 * k) c3 ∧ d = bs.length - k ∧ St w [] w' [.row (.slice a3 (2 * k) c3) 5 1 (2 * k) ((hexL (bs.take k)).map b8)] ∧ (k ≤ bs.length)) (bs.length - 0) ?_ ?_
  · exact ⟨0, _, _, rfl, rfl, rfl, by simpa [hexL] using hS2, by omega⟩
  · rintro d6 e3 w4 ⟨k, a3, c3, hc0_12, hc0_3, rfl, hS5, hI0_0⟩ -
    refine c_set (d := 12) hc0_12 ?_; refine c_set (d := 3) hc0_3 ?_; refine c_seq ?_; refine c_region ?_
    refine wl_dec (r_lss rfl rfl) rfl (fun h3_0 => ?_) (fun h3_0 => ?_)
    · refine wl_nil ?_
      refine c_then ?_; refine c_seq ?_; refine c_true rfl ?_; refine wp_skip ?_; refine c_then ?_; refine c_seq ?_; refine c_block ?_; refine c_seq ?_; refine c_region ?_; refine wl_val (r_ixS ti66.und ti5 rfl rfl (hb.st hS5) (by first | omega | (simp [*]; done) | (simp [*] <;> omega)) (by first | (simp [*]; done) | (simp [*] <;> omega) | omega)) rfl ?_; refine wl_val (r_loadS1 ti5.und rfl rfl (hb.st hS5) (by rw [Nat.mul_one]; exact map_gt _ _ _ (by first | omega | (simp [*]; done) | (simp [*] <;> omega)))) rfl ?_; refine wl_val (r_assign (v := .int .u8 _) rfl) rfl ?_; refine wl_nil ?_; refine c_then ?_; refine c_drawS 8 hMixed hS5 ?_; intro w7 hS8; refine g_take 0 rfl (by decide +kernel) rfl (fun _ _ _ h => h) hS8 (fun wF hF => r_move (v := .slice _ _ _) rfl) ?_; refine g_take 1 rfl (by decide +kernel) rfl (fun _ _ _ h => h) hS8 (fun wF hF => r_move (v := .int .u8 _) rfl) ?_; refine g_take 2 rfl (by decide +kernel) rfl (fun _ _ _ h => h) hS8 (fun wF hF => r_shr8 (s := 4) rfl rfl (by first | omega | (simp [*]; done) | (simp [*] <;> omega))) ?_; refine g_take 3 rfl (by decide +kernel) rfl (fun _ _ _ h => h) hS8 (fun wF hF => r_indexStr (s := ⟨hexDs.toArray⟩) ti9.und rfl rfl (get_gt hexDs _ (shr4_lt _))) ?_; refine g_take 4 rfl (by decide +kernel) rfl (fun _ _ _ h => h) hS8 (fun wF hF => r_move (v := .int .u8 _) rfl) ?_; refine g_take 5 rfl (by decide +kernel) rfl (fun _ _ _ h => h) hS8 (fun wF hF => r_and8 (b := 15) rfl rfl) ?_; refine g_take 6 rfl (by decide +kernel) rfl (fun _ _ _ h => h) hS8 (fun wF hF => r_indexStr (s := ⟨hexDs.toArray⟩) ti9.und rfl rfl (get_gt hexDs _ (and15_lt _))) ?_
      refine g_one 7 (by decide +kernel) (by decide +kernel) ?_; refine o_exv rfl (x_lit (vs := ((hexd (gt bs k)).map b8)) hS8 ti66.und ti5 rfl rfl rfl (by repeat' first | exact one_nil | exact one_b8 _ | exact one_v32 _ | exact one_all rfl | refine one_cons rfl ?_ | refine one_app ?_ ?_) (by decide)) rfl ?_; rintro _ w9 ⟨b23, rfl, hS10⟩
      refine ⟨hS10.drop1, ?_⟩
      refine g_tail (by decide +kernel) rfl (by decide +kernel) ?_; refine wl_exv (x_append [_] hS10 ti66.und ti5 rfl (by decide) rfl rfl (Row.of_at (at_all (hS10.heap (.head _)))) (by first | (simp [*]; done) | (simp [*] <;> omega) | omega) (by first | exact one_b8 _ | exact one_v32 _ | (intro c hc; simp only [List.mem_cons, List.not_mem_nil, or_false] at hc; (first | subst hc | rcases hc with rfl | rfl) <;> rfl)) (by first | omega | (simp [*]; done) | (simp [*] <;> omega)) (by first | omega | (simp [*]; done) | (simp [*] <;> omega)) _ rfl) rfl ?_; rintro _ w11 ⟨aq13, cq13, rfl, hcq13, hS12⟩; simp only [List.cons_append, List.nil_append] at hS12; refine wl_val (r_assign (v := .slice _ _ _) rfl) rfl ?_; refine wl_nil ?_; refine c_inN ?_; refine c_then ?_; refine c_region ?_; refine wl_val (r_addn (b := 1) rfl rfl (by omega)) rfl ?_; refine wl_val (r_move (v := .int .i64 _) rfl) rfl ?_; refine wl_nil ?_; refine c_then ?_
      refine ⟨bs.length - (k + 1), _, by omega, rfl, ⟨k + 1, _, _, rfl, rfl, rfl, ?_, by omega⟩, ⟨rfl, rfl, rfl, trivial⟩⟩
      rw [hexL_step _ _ (by omega), List.map_append]
      exact hS12.drop1
    refine wl_nil ?_; refine c_then ?_; refine c_seq ?_; refine c_false rfl ?_; refine wp_exit ?_; refine c_thenE ?_; refine c_thenE ?_; refine c_inE ?_; refine c_then ?_; refine c_seq ?_; refine c_region ?_; refine wl_val (r_move (v := .slice _ _ _) rfl) rfl ?_; refine wl_val (r_bytesToStr ti9.und ti66.und ti5.und rfl (St.rowAt hS5 (.head _)) (by first | (simp [*]; done) | (simp [*] <;> omega) | omega)) rfl ?_; refine wl_val (r_assign (v := .string _) rfl) rfl ?_; refine wl_nil ?_; refine c_then ?_; refine wp_ret ?_; refine ret1 Tryz.results23 ?_
    obtain rfl : k = bs.length := by omega
    exact ⟨by rw [List.take_length]; rfl, hS5.fin⟩

theorem landed_ok (w : World) :
    Ret Tryz.prog 6 [] w (fun v w' => v = .bool true ∧ St w [] w' []) := by
  refine enter Tryz.func6 rfl Tryz.ntmps6 rfl ?_
  have hS := St.refl w []
  refine c_seq ?_; refine c_region ?_; refine wl_val (r_assign (v := .bool false) rfl) rfl ?_; refine wl_nil ?_; refine c_then ?_; refine c_seq ?_; refine c_region ?_; refine wl_exv (x_lit (vs := (([1] : List UInt8).map b8)) hS ti66.und ti5 rfl rfl rfl (by repeat' first | exact one_nil | exact one_b8 _ | exact one_v32 _ | exact one_all rfl | refine one_cons rfl ?_ | refine one_app ?_ ?_) (by decide)) rfl ?_; rintro _ w1 ⟨b1, rfl, hS2⟩; refine wl_call (r_call fn23 rfl rfl) rfl (hex_ok [1] _ _ _ (Row.of_at (at_all (hS2.heap (.head _)))) (by decide)) ?_; rintro _ w3 ⟨rfl, hx4⟩
  have hS5 := hS2.ext hx4
  refine wl_dec_t (r_eqlStr rfl rfl) rfl (by decide) ?_; refine wl_val (r_assign (v := .bool _) rfl) rfl ?_; refine wl_nil ?_; refine c_then ?_; refine wp_ret ?_; refine ret1 Tryz.results6 ?_
  exact ⟨rfl, hS5.fin⟩

end Go.Proofs.YtmonnmndphlkaaaGreat
