/- What the law's proof leans on. No condition. -/
import Derived.Test.YtbanoknkplcedaaPBMAH
import Derived.Test.YtbanoknkplcedaaPBMBI
import Derived.Test.YtbanoknkplcedaaPBMBK
namespace Go.Proofs.Ytbanoknkplcedaa
open Go.Kw
set_option linter.unusedVariables false
set_option linter.unusedSimpArgs false
set_option maxRecDepth 100000
theorem putText_ok (w0 : World) (LT : List Kw.Item) (it : Kw.Item) (l s : List UInt8) (a : Option Addr) (c : Nat) (w : World) (hS0 : St w0 [] w (it :: LT)) (hz : RowZ it (.slice a (l).length c) 5 (l).length ((l).map b8)) (hn : l.length + s.length ≤ 1000000) :
    Ret Try.prog 25 [.slice a l.length c, sv s] w (fun v w' => ∃ it a' c', v = .slice a' (l ++ textL s).length c' ∧ (l ++ textL s).length ≤ c' ∧ RowZ it (.slice a' (l ++ textL s).length c') 5 (l ++ textL s).length ((l ++ textL s).map b8) ∧ St w0 [] w' (it :: LT)) := by
  refine enter Try.func25 rfl Try.ntmps25 rfl ?_
  have hS := hS0
  refine c_seq ?_; refine c_region ?_; refine wl_val (r_assign (v := .slice none 0 0) rfl) rfl ?_; refine wl_nil ?_; refine c_then ?_; refine c_seq ?_; refine c_region ?_; refine wl_val (r_move (v := .slice _ _ _) rfl) rfl ?_; refine wl_val (r_move (v := .string _) rfl) rfl ?_; refine wl_val (r_lenStrL (T := 9) rfl ti9.und rfl _ rfl) rfl ?_; refine wl_val (c_i64_u8 ti5.und ⟨_, ti3.und⟩ rfl) rfl ?_; refine wl_exv (x_lit (vs := [.int .u8 _]) hS ti30.und ti5 rfl rfl rfl (by intro c hc; simp only [List.mem_cons, List.not_mem_nil, or_false] at hc; rcases hc with rfl <;> rfl) (by decide)) rfl ?_; rintro _ w1 ⟨b9, rfl, hS2⟩; refine wl_exv (x_apZ [_] hS2 hz ti30.und ti5 rfl rfl (Row.of_at (at_all (hS2.heap (.head _)))) (by rfl) (by first | exact one_b8 _ | (intro c hc; simp only [List.mem_cons, List.not_mem_nil, or_false] at hc; subst hc; rfl)) (by omega) _ rfl) rfl ?_; rintro _ w3 ⟨iq5, aq5, cq5, rfl, hcq5, hzq5, hS4⟩; simp only [List.cons_append, List.nil_append] at hS4; refine wl_val (r_move (v := .string _) rfl) rfl ?_; refine wl_exv (x_apZs [_] hS4 hzq5 ti30.und ti9.und ti5 rfl rfl (by omega) _ rfl) rfl ?_; rintro _ w6 ⟨iq8, aq8, cq8, rfl, hcq8, hzq8, hS7⟩; simp only [List.cons_append, List.nil_append] at hS7; refine wl_val (r_assign (v := .slice _ _ _) rfl) rfl ?_; refine wl_nil ?_; refine c_then ?_; refine wp_ret ?_; refine ret1 Try.results25 ?_
  have e : (l ++ textL s).length = l.length + 1 + s.length := by simp [textL]; omega
  exact ⟨_, _, _, congrArg (fun n => Value.slice _ n _) e.symm, by rw [e]; exact hcq8, RowZ.norm hzq8 e (by simp [textL, b8]), hS7.drop1⟩

set_option maxHeartbeats 4000000 in
theorem printBody_ok (act : Int) (x : BodyD) (w : World) (hx : BodyOk x) (hro : Row w x.ra (x.ro.map sv)) (hho : Row w x.ha (x.ho.flatten.map b8)) :
    Ret Try.prog 7 [.int .i64 act, .agg x.v.toArray] w (fun v w' => (¬ bodyE act x = 0 ∧ v = .tuple #[.slice none 0 0, .int .i64 (bodyE act x)] ∧ St w [] w' []) ∨ (∃ (a : Nat) (a' : Option Addr) (c' : Nat), act = a ∧ BodyGood a x ∧ v = .tuple #[.slice a' (stage (needF a) x 11).length c', vi 0] ∧ (stage (needF a) x 11).length ≤ c' ∧ ∃ it : Kw.Item, RowZ it (.slice a' (stage (needF a) x 11).length c') 5 (stage (needF a) x 11).length ((stage (needF a) x 11).map b8) ∧ St w [] w' [it])) := by
  have hmb := hx.mb
  have hcm := hx.cm
  have hxl := body_len hx
  refine enter Try.func7 rfl Try.ntmps7 rfl ?_
  have hS := St.refl w []
  refine c_seq ?_; refine c_region ?_; refine wl_exv (x_box hS (v := .agg _) rfl rfl) rfl ?_; rintro _ w1 ⟨b3, rfl, hS2⟩; refine wl_val (r_assign (v := .slice none 0 0) rfl) rfl ?_; refine wl_val (r_assign (v := .int .i64 0) rfl) rfl ?_; refine wl_nil ?_; refine c_then ?_; refine c_seq ?_; refine c_seq ?_; refine c_region ?_; refine wl_val (r_move (v := .int .i64 _) rfl) rfl ?_; refine wl_val (r_loadB ti29 ag29 rfl (hS2.heap (.head _)) (by first | (simp [*]; done) | (simp [*] <;> omega) | omega)) rfl ?_; refine wl_call (r_call fn23 rfl rfl) rfl (bodyFault_ok act x _ hx (hro.st hS2) (hho.st hS2)) ?_; rintro _ w3 ⟨rfl, hx4⟩
  have hS5 := hS2.ext hx4
  refine wl_val (r_assign (v := .int .i64 _) rfl) rfl ?_; refine wl_nil ?_; refine c_then ?_; refine c_seq ?_; refine c_region ?_; refine wl_val (r_move (v := .int .i64 _) rfl) rfl ?_
  refine wl_dec (r_neq rfl rfl) rfl (fun h2_1 => ?_) (fun h2_1 => ?_)
  · refine wl_nil ?_
    refine c_then ?_; refine c_true rfl ?_; refine c_seq ?_; refine c_region ?_; refine wl_val (r_move (v := .int .i64 _) rfl) rfl ?_; refine wl_val (r_assign (v := .slice none 0 0) rfl) rfl ?_; refine wl_val (r_assign (v := .int .i64 _) rfl) rfl ?_; refine wl_nil ?_; refine c_then ?_; refine wp_ret ?_; refine c_thenR ?_; refine ret2 Try.results7 rfl rfl ?_
    exact .inl ⟨h2_1, rfl, hS5.fin⟩
  refine wl_nil ?_; refine c_then ?_; refine c_false rfl ?_; refine wp_skip ?_; refine c_then ?_; refine c_seq ?_
  obtain ⟨act', rfl, hg⟩ := body_good (Decidable.of_not_not h2_1)
  have ha1 := hg.a1
  have ha2 := hg.a2
  have htx := hg.tx
  have hrn := hg.rn
  have hhn := hg.hn
  refine c_region ?_; refine wl_val (r_move (v := .int .i64 _) rfl) rfl ?_; refine wl_call (r_call fn24 rfl rfl) rfl (needsOf_ok act' _ (by omega) (by omega)) ?_; rintro _ w6 ⟨rfl, hx7⟩
  have hS8 := hS5.ext hx7
  refine wl_exv (x_alloc (C := (List.replicate 12 (.bool false : Value))) hS8 ti56 rfl) rfl ?_; rintro _ w9 ⟨b7, rfl, hS10⟩; refine wl_exs (x_storeW [] hS10 ti56 rfl rfl rfl rfl (one_need _)) rfl ?_; intro w11 hS12; simp only [List.cons_append, List.nil_append] at hS12; refine wl_nil ?_; refine c_then ?_; refine c_seq ?_; refine c_region ?_; refine wl_val (r_field fa29_0 rfl) rfl ?_; refine wl_val (r_loadB1 ti9.und rfl rfl (hS12.heap (.tail _ (.head _))) body_tx) rfl ?_; refine wl_exv (x_strZ hS12 ti30.und ti9.und ti5.und rfl) rfl ?_; rintro _ w13 ⟨iq15, aq15, cq15, rfl, hcq15, hzq15, hS14⟩; refine wl_val (r_assign (v := .slice _ _ _) rfl) rfl ?_; refine wl_nil ?_; refine c_then ?_; refine c_cutE [3, 4, 5, 7] (fun e w' => ∃ (it : Kw.Item) (a8 : Option Addr) (c8 : Nat), Kw.look e 8 = .slice a8 (stage (needF act') x 1).length c8 ∧ St w [] w' [it, .blk b7 (cl (needV (needF act')) 56), .blk b3 (cl x.v 29)] ∧ (RowZ it (.slice a8 (stage (needF act') x 1).length c8) 5 (stage (needF act') x 1).length ((stage (needF act') x 1).map b8)) ∧ ((stage (needF act') x 1).length ≤ c8)) ?_ ?_
  · refine c_seq ?_
    refine c_region ?_; refine wl_val (r_field fa56_1 rfl) rfl ?_
    rcases bool_cases ((needF act') 1) with hN20 | hN20
    · refine wl_val (r_loadB1 (v := .bool true) ti4.und rfl rfl (hS14.heap (.tail _ (.head _))) (need_mem hN20 rfl)) rfl ?_
      have hN := hN20
      refine wl_nil ?_; refine c_then ?_; refine c_true rfl ?_; refine c_region ?_; refine wl_val (r_move (v := .slice _ _ _) rfl) rfl ?_; refine wl_val (r_field fa29_1 rfl) rfl ?_; refine wl_val (r_sa1_0 ti23.und ti5 rfl ) rfl ?_; refine wl_exv (x_apZ [] hS14 hzq15 ti30.und ti5 rfl rfl (Row.of_at (body_at1 (hS14.heap (.tail _ (.tail _ (.head _)))) hx)) (by rw [List.length_map]; exact hmb) (by first | exact one_b8 _ | (intro c hc; simp only [List.mem_cons, List.not_mem_nil, or_false] at hc; subst hc; rfl)) (by omega) _ rfl) rfl ?_; rintro _ w21 ⟨iq23, aq23, cq23, rfl, hcq23, hzq23, hS22⟩; simp only [List.cons_append, List.nil_append] at hS22; refine wl_val (r_assign (v := .slice _ _ _) rfl) rfl ?_; refine wl_nil ?_; refine c_then ?_
      have e : stage (needF act') x 1 = x.tx ++ Kw.part x 1 := by rw [stage_t (k := 0) (i := 1) (by decide) rfl hN, stage_0]
      have el : (stage (needF act') x 1).length = (x.tx).length + 16 := by rw [e, List.length_append]; exact congrArg _ hmb
      exact ⟨_, rfl, ⟨_, _, _, congrArg (fun n => Value.slice _ n _) el.symm, hS22, RowZ.norm hzq23 el (by rw [e, List.map_append]; rfl), by rw [el]; exact hcq23⟩, ⟨rfl, rfl, rfl, rfl, trivial⟩⟩
    · refine wl_val (r_loadB1 (v := .bool false) ti4.und rfl rfl (hS14.heap (.tail _ (.head _))) (need_mem hN20 rfl)) rfl ?_
      have hN := hN20
      refine wl_nil ?_; refine c_then ?_; refine c_false rfl ?_; refine wp_skip ?_; refine c_then ?_
      have e : stage (needF act') x 1 = x.tx := by rw [stage_f (k := 0) (i := 1) (by decide) rfl hN, stage_0]
      exact ⟨_, rfl, ⟨_, _, _, congrArg (fun (l : List UInt8) => Value.slice _ l.length _) e.symm, hS14, by rw [e]; exact hzq15, by rw [e]; exact hcq15⟩, ⟨rfl, rfl, rfl, rfl, trivial⟩⟩
  · rintro e16 w17 ⟨it, a8, c8, hc19_8, hS18, hz, hc8⟩ -
    refine c_set (d := 8) hc19_8 ?_; refine c_cutE [3, 4, 5, 7] (fun e w' => ∃ (it : Kw.Item) (a8 : Option Addr) (c8 : Nat), Kw.look e 8 = .slice a8 (stage (needF act') x 2).length c8 ∧ St w [] w' [it, .blk b7 (cl (needV (needF act')) 56), .blk b3 (cl x.v 29)] ∧ (RowZ it (.slice a8 (stage (needF act') x 2).length c8) 5 (stage (needF act') x 2).length ((stage (needF act') x 2).map b8)) ∧ ((stage (needF act') x 2).length ≤ c8)) ?_ ?_
    · refine c_seq ?_
      refine c_region ?_; refine wl_val (r_field fa56_2 rfl) rfl ?_
      rcases bool_cases ((needF act') 2) with hN28 | hN28
      · refine wl_val (r_loadB1 (v := .bool true) ti4.und rfl rfl (hS18.heap (.tail _ (.head _))) (need_mem hN28 rfl)) rfl ?_
        have hN := hN28
        refine wl_nil ?_; refine c_then ?_; refine c_true rfl ?_; refine c_seq ?_
        have hb := stage_len hg hx (k := 1) (by omega)
        refine c_region ?_; refine wl_val (r_move (v := .slice _ _ _) rfl) rfl ?_; refine wl_val (r_field fa29_2 rfl) rfl ?_; refine wl_val (r_loadB1 ti24.und rfl rfl (hS18.heap (.tail _ (.tail _ (.head _)))) (body_ro hx)) rfl ?_; refine wl_val (r_len (T := 24) rfl ti24.und rfl _ rfl) rfl ?_; refine wl_val (c_i64_u8 ti5.und ⟨_, ti3.und⟩ rfl) rfl ?_; refine wl_exv (x_lit (vs := [.int .u8 _]) hS18 ti30.und ti5 rfl rfl rfl (by intro c hc; simp only [List.mem_cons, List.not_mem_nil, or_false] at hc; rcases hc with rfl <;> rfl) (by decide)) rfl ?_; rintro _ w29 ⟨b39, rfl, hS30⟩; refine wl_exv (x_apZ [_] hS30 hz ti30.und ti5 rfl rfl (Row.of_at (at_all (hS30.heap (.head _)))) (by rfl) (by first | exact one_b8 _ | (intro c hc; simp only [List.mem_cons, List.not_mem_nil, or_false] at hc; subst hc; rfl)) (by omega) _ rfl) rfl ?_; rintro _ w31 ⟨iq33, aq33, cq33, rfl, hcq33, hzq33, hS32⟩; simp only [List.cons_append, List.nil_append] at hS32; refine wl_val (r_assign (v := .slice _ _ _) rfl) rfl ?_; refine wl_nil ?_; refine c_then ?_; refine c_seq ?_; refine c_region ?_; refine wl_val (r_field fa29_2 rfl) rfl ?_; refine wl_val (r_loadB1 ti24.und rfl rfl (hS32.heap (.tail _ (.tail _ (.tail _ (.head _))))) (body_ro hx)) rfl ?_; refine wl_val (r_len (T := 24) rfl ti24.und rfl _ rfl) rfl ?_; refine wl_val (r_move (v := .int .i64 0) rfl) rfl ?_; refine wl_nil ?_; refine c_then ?_; refine c_block ?_; refine c_loopE [3, 4, 5, 7, 42, 43] (fun d e w' => ∃ (it : Kw.Item) (a8 : Option Addr) (c8 j : Nat), Kw.look e 8 = .slice a8 (rolesTo (stage (needF act') x 1) x j).length c8 ∧ Kw.look e 44 = vi j ∧ d = x.ro.length - j ∧ St w [] w' [it, .blk b7 (cl (needV (needF act')) 56), .blk b3 (cl x.v 29)] ∧ (j ≤ x.ro.length) ∧ (RowZ it (.slice a8 (rolesTo (stage (needF act') x 1) x j).length c8) 5 (rolesTo (stage (needF act') x 1) x j).length ((rolesTo (stage (needF act') x 1) x j).map b8)) ∧ ((rolesTo (stage (needF act') x 1) x j).length ≤ c8)) (x.ro.length - 0) ?_ ?_
        · have el : (rolesTo (stage (needF act') x 1) x 0).length = (stage (needF act') x 1).length + 1 := by rw [rolesTo_0, List.length_append]; rfl
          exact ⟨_, _, _, 0, congrArg (fun n => Value.slice _ n _) el.symm, rfl, rfl, hS32.drop1, Nat.zero_le _, RowZ.norm hzq33 el (by rw [rolesTo_0, List.map_append]; rfl), by rw [el]; exact hcq33⟩
        · rintro d37 e34 w35 ⟨it, a8, c8, j, hc0_8, hc0_44, rfl, hS36, hj, hz, hc8⟩ -
          refine c_set (d := 8) hc0_8 ?_; refine c_set (d := 44) hc0_44 ?_; refine c_seq ?_; refine c_region ?_
          refine wl_dec (r_lss rfl rfl) rfl (fun h11_0 => ?_) (fun h11_0 => ?_)
          · refine wl_nil ?_
            refine c_then ?_; refine c_seq ?_; refine c_true rfl ?_; refine wp_skip ?_; refine c_then ?_; refine c_seq ?_; refine c_block ?_; refine c_seq ?_; refine c_region ?_; refine wl_val (r_ixS ti24.und ti9 rfl rfl (hro.st hS36) (by omega) (by rw [List.length_map]; omega)) rfl ?_; refine wl_val (r_loadS1 ti9.und rfl rfl (hro.st hS36) (by rw [Nat.mul_one]; exact map_gt _ _ _ (by first | omega | (simp [*]; done) | (simp [*] <;> omega)))) rfl ?_; refine wl_val (r_assign (v := .string _) rfl) rfl ?_; refine wl_nil ?_; refine c_then ?_
            have hb2 := rolesTo_len (S := stage (needF act') x 1) hg j
            have hb := stage_len hg hx (k := 1) (by omega)
            have hsr := hg.roles _ (gt_mem x.ro j (by omega))
            refine c_region ?_; refine wl_val (r_move (v := .slice _ _ _) rfl) rfl ?_; refine wl_val (r_move (v := .string _) rfl) rfl ?_; refine wl_call (r_call fn25 rfl rfl) rfl (putText_ok _ _ _ _ _ _ _ _ hS36 hz (by omega)) ?_; rintro _ w38 ⟨iq39, aq39, cq39, rfl, hcq39, hzq39, hS40⟩; refine wl_val (r_assign (v := .slice _ _ _) rfl) rfl ?_; refine wl_nil ?_; refine c_inN ?_; refine c_then ?_; refine c_region ?_; refine wl_val (r_addn (b := 1) rfl rfl (by omega)) rfl ?_; refine wl_val (r_move (v := .int .i64 _) rfl) rfl ?_; refine wl_nil ?_; refine c_then ?_
            have e : rolesTo (stage (needF act') x 1) x (j + 1) = rolesTo (stage (needF act') x 1) x j ++ textL (gt x.ro j) := rolesTo_s (by omega)
            exact ⟨x.ro.length - (j + 1), _, by omega, rfl, ⟨_, _, _, j + 1, congrArg (fun (l : List UInt8) => Value.slice _ l.length _) e.symm, rfl, rfl, hS40, by omega, by rw [e]; exact hzq39, by rw [e]; exact hcq39⟩, ⟨rfl, rfl, rfl, rfl, rfl, rfl, trivial⟩⟩
          refine wl_nil ?_; refine c_then ?_; refine c_seq ?_; refine c_false rfl ?_; refine wp_exit ?_; refine c_thenE ?_; refine c_thenE ?_; refine c_inE ?_; refine c_then ?_
          have e : stage (needF act') x 2 = stage (needF act') x 1 ++ Kw.part x 2 := by rw [stage_t (k := 1) (i := 2) (by decide) rfl hN]
          obtain rfl : j = x.ro.length := by omega
          have e9 : stage (needF act') x 2 = rolesTo (stage (needF act') x 1) x x.ro.length := e.trans (rolesTo_all _ _).symm
          exact ⟨_, rfl, ⟨_, _, _, congrArg (fun (l : List UInt8) => Value.slice _ l.length _) e9.symm, hS36, by rw [e9]; exact hz, by rw [e9]; exact hc8⟩, ⟨rfl, rfl, rfl, rfl, trivial⟩⟩
      · refine wl_val (r_loadB1 (v := .bool false) ti4.und rfl rfl (hS18.heap (.tail _ (.head _))) (need_mem hN28 rfl)) rfl ?_
        have hN := hN28
        refine wl_nil ?_; refine c_then ?_; refine c_false rfl ?_; refine wp_skip ?_; refine c_then ?_
        have e : stage (needF act') x 2 = stage (needF act') x 1 := by rw [stage_f (k := 1) (i := 2) (by decide) rfl hN]
        exact ⟨_, rfl, ⟨_, _, _, congrArg (fun (l : List UInt8) => Value.slice _ l.length _) e.symm, hS18, by rw [e]; exact hz, by rw [e]; exact hc8⟩, ⟨rfl, rfl, rfl, rfl, trivial⟩⟩
    · rintro e24 w25 ⟨it, a8, c8, hc27_8, hS26, hz, hc8⟩ -
      refine c_set (d := 8) hc27_8 ?_; refine c_cutE [3, 4, 5, 7] (fun e w' => ∃ (it : Kw.Item) (a8 : Option Addr) (c8 : Nat), Kw.look e 8 = .slice a8 (stage (needF act') x 3).length c8 ∧ St w [] w' [it, .blk b7 (cl (needV (needF act')) 56), .blk b3 (cl x.v 29)] ∧ (RowZ it (.slice a8 (stage (needF act') x 3).length c8) 5 (stage (needF act') x 3).length ((stage (needF act') x 3).map b8)) ∧ ((stage (needF act') x 3).length ≤ c8)) ?_ ?_
      · refine c_seq ?_
        refine c_region ?_; refine wl_val (r_field fa56_3 rfl) rfl ?_
        rcases bool_cases ((needF act') 3) with hN45 | hN45
        · refine wl_val (r_loadB1 (v := .bool true) ti4.und rfl rfl (hS26.heap (.tail _ (.head _))) (need_mem hN45 rfl)) rfl ?_
          have hN := hN45
          refine wl_nil ?_; refine c_then ?_; refine c_true rfl ?_
          have hb := stage_len hg hx (k := 2) (by omega)
          have hlb := hg.label
          refine c_region ?_; refine wl_val (r_move (v := .slice _ _ _) rfl) rfl ?_; refine wl_val (r_field fa29_3 rfl) rfl ?_; refine wl_val (r_loadB1 ti9.und rfl rfl (hS26.heap (.tail _ (.tail _ (.head _)))) (body_lb hx)) rfl ?_; refine wl_call (r_call fn25 rfl rfl) rfl (putText_ok _ _ _ _ _ _ _ _ hS26 hz (by omega)) ?_; rintro _ w46 ⟨iq47, aq47, cq47, rfl, hcq47, hzq47, hS48⟩; refine wl_val (r_assign (v := .slice _ _ _) rfl) rfl ?_; refine wl_nil ?_; refine c_then ?_
          have e : stage (needF act') x 3 = stage (needF act') x 2 ++ Kw.part x 3 := by rw [stage_t (k := 2) (i := 3) (by decide) rfl hN]
          exact ⟨_, rfl, ⟨_, _, _, congrArg (fun (l : List UInt8) => Value.slice _ l.length _) e.symm, hS48, by rw [e]; exact hzq47, by rw [e]; exact hcq47⟩, ⟨rfl, rfl, rfl, rfl, trivial⟩⟩
        · refine wl_val (r_loadB1 (v := .bool false) ti4.und rfl rfl (hS26.heap (.tail _ (.head _))) (need_mem hN45 rfl)) rfl ?_
          have hN := hN45
          refine wl_nil ?_; refine c_then ?_; refine c_false rfl ?_; refine wp_skip ?_; refine c_then ?_
          have e : stage (needF act') x 3 = stage (needF act') x 2 := by rw [stage_f (k := 2) (i := 3) (by decide) rfl hN]
          exact ⟨_, rfl, ⟨_, _, _, congrArg (fun (l : List UInt8) => Value.slice _ l.length _) e.symm, hS26, by rw [e]; exact hz, by rw [e]; exact hc8⟩, ⟨rfl, rfl, rfl, rfl, trivial⟩⟩
      · rintro e41 w42 ⟨it, a8, c8, hc44_8, hS43, hz, hc8⟩ -
        refine c_set (d := 8) hc44_8 ?_; refine c_cutE [3, 4, 5, 7] (fun e w' => ∃ (it : Kw.Item) (a8 : Option Addr) (c8 : Nat), Kw.look e 8 = .slice a8 (stage (needF act') x 7).length c8 ∧ St w [] w' [it, .blk b7 (cl (needV (needF act')) 56), .blk b3 (cl x.v 29)] ∧ (RowZ it (.slice a8 (stage (needF act') x 7).length c8) 5 (stage (needF act') x 7).length ((stage (needF act') x 7).map b8)) ∧ ((stage (needF act') x 7).length ≤ c8)) ?_ ?_
        · refine c_seq ?_
          refine c_region ?_; refine wl_val (r_field fa56_6 rfl) rfl ?_; refine wl_val (r_loadB1 ti4.und rfl rfl (hS43.heap (.tail _ (.head _))) rfl) rfl ?_; refine wl_val (r_field fa29_6 rfl) rfl ?_; refine wl_val (r_loadB1 ti3.und rfl rfl (hS43.heap (.tail _ (.tail _ (.head _)))) (body_pu hx)) rfl ?_; refine wl_val (r_buildF (vs := [.bool _, .int .i64 _]) (out := [.bool _, .int .i64 _]) pl59 ti59 rfl rfl (by intro i hi; match i, hi with | 0, _ => rfl | 1, _ => rfl) rfl) rfl ?_; refine wl_val (r_field fa56_7 rfl) rfl ?_; refine wl_val (r_loadB1 ti4.und rfl rfl (hS43.heap (.tail _ (.head _))) rfl) rfl ?_; refine wl_val (r_field fa29_7 rfl) rfl ?_; refine wl_val (r_loadB1 ti3.und rfl rfl (hS43.heap (.tail _ (.tail _ (.head _)))) (body_re hx)) rfl ?_; refine wl_val (r_buildF (vs := [.bool _, .int .i64 _]) (out := [.bool _, .int .i64 _]) pl59 ti59 rfl rfl (by intro i hi; match i, hi with | 0, _ => rfl | 1, _ => rfl) rfl) rfl ?_; refine wl_val (r_field fa56_8 rfl) rfl ?_; refine wl_val (r_loadB1 ti4.und rfl rfl (hS43.heap (.tail _ (.head _))) rfl) rfl ?_; refine wl_val (r_field fa29_8 rfl) rfl ?_; refine wl_val (r_loadB1 ti3.und rfl rfl (hS43.heap (.tail _ (.tail _ (.head _)))) (body_ne hx)) rfl ?_; refine wl_val (r_buildF (vs := [.bool _, .int .i64 _]) (out := [.bool _, .int .i64 _]) pl59 ti59 rfl rfl (by intro i hi; match i, hi with | 0, _ => rfl | 1, _ => rfl) rfl) rfl ?_; refine wl_val (r_field fa56_10 rfl) rfl ?_; refine wl_val (r_loadB1 ti4.und rfl rfl (hS43.heap (.tail _ (.head _))) rfl) rfl ?_
          refine wl_val (r_field fa29_9 rfl) rfl ?_; refine wl_val (r_loadB1 ti3.und rfl rfl (hS43.heap (.tail _ (.tail _ (.head _)))) (body_ve hx)) rfl ?_; refine wl_val (r_buildF (vs := [.bool _, .int .i64 _]) (out := [.bool _, .int .i64 _]) pl59 ti59 rfl rfl (by intro i hi; match i, hi with | 0, _ => rfl | 1, _ => rfl) rfl) rfl ?_; refine wl_exv (x_litP (nv_flat (needF act') x) hS43 ti60.und ti59 rfl rfl (by intro c hc; simp only [List.mem_cons, List.not_mem_nil, or_false] at hc; rcases hc with rfl | rfl | rfl | rfl <;> rfl) rfl (by decide) (by decide)) rfl ?_; rintro _ w53 ⟨b78, rfl, hS54⟩; refine wl_val (r_len (T := 60) rfl ti60.und rfl _ rfl) rfl ?_; refine wl_val (r_move (v := .int .i64 0) rfl) rfl ?_; refine wl_nil ?_; refine c_then ?_; refine c_block ?_; refine c_loopE [3, 4, 5, 7, 78, 79] (fun d e w' => ∃ (it : Kw.Item) (a8 : Option Addr) (c8 k : Nat), Kw.look e 8 = .slice a8 (stage (needF act') x (3 + k)).length c8 ∧ Kw.look e 80 = vi k ∧ d = 4 - k ∧ St w [] w' [it, .blk b78 (cl (numL.flatMap (nv (needF act') x)) 59), .blk b7 (cl (needV (needF act')) 56), .blk b3 (cl x.v 29)] ∧ (k ≤ 4) ∧ (RowZ it (.slice a8 (stage (needF act') x (3 + k)).length c8) 5 (stage (needF act') x (3 + k)).length ((stage (needF act') x (3 + k)).map b8)) ∧ ((stage (needF act') x (3 + k)).length ≤ c8)) (4 - 0) ?_ ?_
          · exact ⟨_, _, _, 0, rfl, rfl, rfl, (hS54.perm ((List.Perm.cons _ (List.Perm.refl _)).trans (List.perm_middle (l₁ := [_])).symm)), Nat.zero_le _, hz, hc8⟩
          · rintro d58 e55 w56 ⟨it, a8, c8, k, hc1_8, hc1_80, rfl, hS57, hk, hz, hc8⟩ -
            refine c_set (d := 8) hc1_8 ?_; refine c_set (d := 80) hc1_80 ?_; refine c_seq ?_; refine c_region ?_
            refine wl_dec (r_lss rfl rfl) rfl (fun h18_0 => ?_) (fun h18_0 => ?_)
            · refine wl_nil ?_
              refine c_then ?_; refine c_seq ?_; refine c_true rfl ?_; refine wp_skip ?_; refine c_then ?_; refine c_seq ?_; refine c_block ?_; refine c_seq ?_; refine c_region ?_; refine wl_val (r_ixF (nv_len (needF act') x) ti60.und ti59 rfl rfl (Row.of_at (at_all (hS57.heap (.tail _ (.head _))))) (by rfl) (by omega) (by decide)) rfl ?_; refine wl_val (r_loadF (nv_len (needF act') x) ti59 ag59 rfl (Row.of_at (at_all (hS57.heap (.tail _ (.head _))))) (by show k < 4; omega) (by decide)) rfl ?_; refine wl_exv (x_alloc (C := [.bool false, .int .i64 0]) hS57 ti59 rfl) rfl ?_; rintro _ w59 ⟨b12, rfl, hS60⟩; refine wl_exs (x_storeW [] hS60 ti59 rfl rfl rfl rfl (one_nv _ _ _)) rfl ?_; intro w61 hS62; simp only [List.cons_append, List.nil_append] at hS62; refine wl_nil ?_; refine c_then ?_; refine c_seq ?_; refine c_region ?_; refine wl_val (r_field fa59_0 rfl) rfl ?_
              rcases bool_cases ((needF act') (gt numL k)) with hN | hN
              · refine wl_val (r_loadB1 (v := .bool true) ti4.und rfl rfl (hS62.heap (.head _)) (nv_b hN)) rfl ?_
                refine wl_nil ?_; refine c_then ?_; refine c_true rfl ?_
                have hb := stage_len hg hx (k := 3 + k) (by omega)
                refine c_region ?_; refine wl_val (r_move (v := .slice _ _ _) rfl) rfl ?_; refine wl_val (r_field fa59_1 rfl) rfl ?_; refine wl_val (r_loadB1 ti3.und rfl rfl (hS62.heap (.head _)) rfl) rfl ?_; refine wl_val (c_z_u8 ti5.und ⟨_, ti3.und⟩ rfl (hg.num _).1) rfl ?_; refine wl_exv (x_lit (vs := [.int .u8 _]) hS62 ti30.und ti5 rfl rfl rfl (by intro c hc; simp only [List.mem_cons, List.not_mem_nil, or_false] at hc; rcases hc with rfl <;> rfl) (by decide)) rfl ?_; rintro _ w63 ⟨b90, rfl, hS64⟩; refine wl_exv (x_apZ [_, _] hS64 hz ti30.und ti5 rfl rfl (Row.of_at (at_all (hS64.heap (.head _)))) (by rfl) (by first | exact one_b8 _ | (intro c hc; simp only [List.mem_cons, List.not_mem_nil, or_false] at hc; subst hc; rfl)) (by omega) _ rfl) rfl ?_; rintro _ w65 ⟨iq67, aq67, cq67, rfl, hcq67, hzq67, hS66⟩; simp only [List.cons_append, List.nil_append] at hS66; refine wl_val (r_assign (v := .slice _ _ _) rfl) rfl ?_; refine wl_nil ?_; refine c_inN ?_; refine c_then ?_; refine c_region ?_; refine wl_val (r_addn (b := 1) rfl rfl (by omega)) rfl ?_; refine wl_val (r_move (v := .int .i64 _) rfl) rfl ?_; refine wl_nil ?_; refine c_then ?_
                have e : stage (needF act') x (3 + (k + 1)) = stage (needF act') x (3 + k) ++ [UInt8.ofNat (numX x (gt numL k)).toNat] := by rw [← part_num x k (by omega)]; exact stage_t (k := 3 + k) (by omega) (ord_num k (by omega)) hN
                have el : (stage (needF act') x (3 + (k + 1))).length = (stage (needF act') x (3 + k)).length + 1 := by rw [e, List.length_append]; rfl
                exact ⟨4 - (k + 1), _, by omega, rfl, ⟨_, _, _, k + 1, congrArg (fun n => Value.slice _ n _) el.symm, rfl, rfl, hS66.drop1.drop1, by omega, RowZ.norm hzq67 el (by rw [e, List.map_append]; rfl), by rw [el]; exact hcq67⟩, ⟨rfl, rfl, rfl, rfl, rfl, rfl, trivial⟩⟩
              · refine wl_val (r_loadB1 (v := .bool false) ti4.und rfl rfl (hS62.heap (.head _)) (nv_b hN)) rfl ?_
                refine wl_nil ?_; refine c_then ?_; refine c_false rfl ?_; refine wp_skip ?_; refine c_inN ?_; refine c_then ?_; refine c_region ?_; refine wl_val (r_addn (b := 1) rfl rfl (by omega)) rfl ?_; refine wl_val (r_move (v := .int .i64 _) rfl) rfl ?_; refine wl_nil ?_; refine c_then ?_
                have e : stage (needF act') x (3 + (k + 1)) = stage (needF act') x (3 + k) := stage_f (k := 3 + k) (by omega) (ord_num k (by omega)) hN
                exact ⟨4 - (k + 1), _, by omega, rfl, ⟨_, _, _, k + 1, congrArg (fun (l : List UInt8) => Value.slice _ l.length _) e.symm, rfl, rfl, hS62.drop1, by omega, by rw [e]; exact hz, by rw [e]; exact hc8⟩, ⟨rfl, rfl, rfl, rfl, rfl, rfl, trivial⟩⟩
            refine wl_nil ?_; refine c_then ?_; refine c_seq ?_; refine c_false rfl ?_; refine wp_exit ?_; refine c_thenE ?_; refine c_thenE ?_; refine c_inE ?_; refine c_then ?_
            obtain rfl : k = 4 := by omega
            exact ⟨_, rfl, ⟨_, _, _, rfl, (hS57.perm ((List.Perm.cons _ (List.Perm.refl _)).trans (List.perm_middle (l₁ := [_])).symm)).drop1, hz, hc8⟩, ⟨rfl, rfl, rfl, rfl, trivial⟩⟩
        · rintro e49 w50 ⟨it, a8, c8, hc52_8, hS51, hz, hc8⟩ -
          refine c_set (d := 8) hc52_8 ?_; refine c_cutE [3, 4, 5, 7] (fun e w' => ∃ (it : Kw.Item) (a8 : Option Addr) (c8 : Nat), Kw.look e 8 = .slice a8 (stage (needF act') x 8).length c8 ∧ St w [] w' [it, .blk b7 (cl (needV (needF act')) 56), .blk b3 (cl x.v 29)] ∧ (RowZ it (.slice a8 (stage (needF act') x 8).length c8) 5 (stage (needF act') x 8).length ((stage (needF act') x 8).map b8)) ∧ ((stage (needF act') x 8).length ≤ c8)) ?_ ?_
          · refine c_seq ?_
            refine c_region ?_; refine wl_val (r_field fa56_9 rfl) rfl ?_
            rcases bool_cases ((needF act') 9) with hN72 | hN72
            · refine wl_val (r_loadB1 (v := .bool true) ti4.und rfl rfl (hS51.heap (.tail _ (.head _))) (need_mem hN72 rfl)) rfl ?_
              have hN := hN72
              refine wl_nil ?_; refine c_then ?_; refine c_true rfl ?_; refine c_seq ?_
              have hb := stage_len hg hx (k := 7) (by omega)
              refine c_region ?_; refine wl_val (r_move (v := .slice _ _ _) rfl) rfl ?_; refine wl_val (r_field fa29_11 rfl) rfl ?_; refine wl_val (r_loadB1 ti27.und rfl rfl (hS51.heap (.tail _ (.tail _ (.head _)))) (body_ho hx)) rfl ?_; refine wl_val (r_len (T := 27) rfl ti27.und rfl _ rfl) rfl ?_; refine wl_val (c_i64_u8 ti5.und ⟨_, ti3.und⟩ rfl) rfl ?_; refine wl_exv (x_lit (vs := [.int .u8 _]) hS51 ti30.und ti5 rfl rfl rfl (by intro c hc; simp only [List.mem_cons, List.not_mem_nil, or_false] at hc; rcases hc with rfl <;> rfl) (by decide)) rfl ?_; rintro _ w73 ⟨b100, rfl, hS74⟩; refine wl_exv (x_apZ [_] hS74 hz ti30.und ti5 rfl rfl (Row.of_at (at_all (hS74.heap (.head _)))) (by rfl) (by first | exact one_b8 _ | (intro c hc; simp only [List.mem_cons, List.not_mem_nil, or_false] at hc; subst hc; rfl)) (by omega) _ rfl) rfl ?_; rintro _ w75 ⟨iq77, aq77, cq77, rfl, hcq77, hzq77, hS76⟩; simp only [List.cons_append, List.nil_append] at hS76; refine wl_val (r_assign (v := .slice _ _ _) rfl) rfl ?_; refine wl_nil ?_; refine c_then ?_; refine c_seq ?_; refine c_region ?_; refine wl_val (r_field fa29_11 rfl) rfl ?_; refine wl_val (r_loadB1 ti27.und rfl rfl (hS76.heap (.tail _ (.tail _ (.tail _ (.head _))))) (body_ho hx)) rfl ?_; refine wl_val (r_len (T := 27) rfl ti27.und rfl _ rfl) rfl ?_; refine wl_val (r_move (v := .int .i64 0) rfl) rfl ?_; refine wl_nil ?_; refine c_then ?_; refine c_block ?_; refine c_loopE [3, 4, 5, 7, 103, 104] (fun d e w' => ∃ (it : Kw.Item) (a8 : Option Addr) (c8 j : Nat), Kw.look e 8 = .slice a8 (holdTo (stage (needF act') x 7) x j).length c8 ∧ Kw.look e 105 = vi j ∧ d = x.ho.length - j ∧ St w [] w' [it, .blk b7 (cl (needV (needF act')) 56), .blk b3 (cl x.v 29)] ∧ (j ≤ x.ho.length) ∧ (RowZ it (.slice a8 (holdTo (stage (needF act') x 7) x j).length c8) 5 (holdTo (stage (needF act') x 7) x j).length ((holdTo (stage (needF act') x 7) x j).map b8)) ∧ ((holdTo (stage (needF act') x 7) x j).length ≤ c8)) (x.ho.length - 0) ?_ ?_
              · have el : (holdTo (stage (needF act') x 7) x 0).length = (stage (needF act') x 7).length + 1 := by rw [holdTo_0, List.length_append]; rfl
                exact ⟨_, _, _, 0, congrArg (fun n => Value.slice _ n _) el.symm, rfl, rfl, hS76.drop1, Nat.zero_le _, RowZ.norm hzq77 el (by rw [holdTo_0, List.map_append]; rfl), by rw [el]; exact hcq77⟩
              · rintro d81 e78 w79 ⟨it, a8, c8, j, hc2_8, hc2_105, rfl, hS80, hj, hz, hc8⟩ -
                refine c_set (d := 8) hc2_8 ?_; refine c_set (d := 105) hc2_105 ?_; refine c_seq ?_; refine c_region ?_
                refine wl_dec (r_lss rfl rfl) rfl (fun h26_0 => ?_) (fun h26_0 => ?_)
                · refine wl_nil ?_
                  refine c_then ?_; refine c_seq ?_; refine c_true rfl ?_; refine wp_skip ?_; refine c_then ?_; refine c_seq ?_; refine c_block ?_; refine c_seq ?_; refine c_region ?_; refine wl_val (r_ixN ti27.und ti23 rfl rfl (hho.st hS80) (hx.h16) rfl (by omega) (by decide)) rfl ?_; refine wl_val (r_loadN ti23 rfl rfl (hho.st hS80) (hx.h16) (by omega) (by decide)) rfl ?_; refine wl_exv (x_alloc (C := ((List.replicate 16 (0 : UInt8)).map b8)) hS80 ti23 rfl) rfl ?_; rintro _ w82 ⟨b14, rfl, hS83⟩; refine wl_exs (x_storeW [] hS83 ti23 rfl rfl (by rw [List.length_map]; exact hx.h16.gt (by omega)) (by simp) (one_b8 _)) rfl ?_; intro w84 hS85; simp only [List.cons_append, List.nil_append] at hS85; refine wl_nil ?_; refine c_then ?_
                  have hb := stage_len hg hx (k := 7) (by omega)
                  have hb2 := holdTo_len (S := stage (needF act') x 7) hg hx j
                  refine c_region ?_; refine wl_val (r_move (v := .slice _ _ _) rfl) rfl ?_; refine wl_val (r_sa1_0 ti23.und ti5 rfl ) rfl ?_; refine wl_exv (x_apZ [_] hS85 hz ti30.und ti5 rfl rfl (Row.of_at (at_all (hS85.heap (.head _)))) (by rw [List.length_map]; exact hx.h16.gt (by omega)) (by first | exact one_b8 _ | (intro c hc; simp only [List.mem_cons, List.not_mem_nil, or_false] at hc; subst hc; rfl)) (by omega) _ rfl) rfl ?_; rintro _ w86 ⟨iq88, aq88, cq88, rfl, hcq88, hzq88, hS87⟩; simp only [List.cons_append, List.nil_append] at hS87; refine wl_val (r_assign (v := .slice _ _ _) rfl) rfl ?_; refine wl_nil ?_; refine c_inN ?_; refine c_then ?_; refine c_region ?_; refine wl_val (r_addn (b := 1) rfl rfl (by omega)) rfl ?_; refine wl_val (r_move (v := .int .i64 _) rfl) rfl ?_; refine wl_nil ?_; refine c_then ?_
                  have e : holdTo (stage (needF act') x 7) x (j + 1) = holdTo (stage (needF act') x 7) x j ++ gt x.ho j := holdTo_s (by omega)
                  have el : (holdTo (stage (needF act') x 7) x (j + 1)).length = (holdTo (stage (needF act') x 7) x j).length + 16 := by rw [e, List.length_append, hx.h16.gt (by omega)]
                  exact ⟨x.ho.length - (j + 1), _, by omega, rfl, ⟨_, _, _, j + 1, congrArg (fun n => Value.slice _ n _) el.symm, rfl, rfl, hS87.drop1, by omega, RowZ.norm hzq88 el (by rw [e, List.map_append]), by rw [el]; exact hcq88⟩, ⟨rfl, rfl, rfl, rfl, rfl, rfl, trivial⟩⟩
                refine wl_nil ?_; refine c_then ?_; refine c_seq ?_; refine c_false rfl ?_; refine wp_exit ?_; refine c_thenE ?_; refine c_thenE ?_; refine c_inE ?_; refine c_then ?_
                have e : stage (needF act') x 8 = stage (needF act') x 7 ++ Kw.part x 9 := by rw [stage_t (k := 7) (i := 9) (by decide) rfl hN]
                obtain rfl : j = x.ho.length := by omega
                have e9 : stage (needF act') x 8 = holdTo (stage (needF act') x 7) x x.ho.length := e.trans (holdTo_all _ _).symm
                exact ⟨_, rfl, ⟨_, _, _, congrArg (fun (l : List UInt8) => Value.slice _ l.length _) e9.symm, hS80, by rw [e9]; exact hz, by rw [e9]; exact hc8⟩, ⟨rfl, rfl, rfl, rfl, trivial⟩⟩
            · refine wl_val (r_loadB1 (v := .bool false) ti4.und rfl rfl (hS51.heap (.tail _ (.head _))) (need_mem hN72 rfl)) rfl ?_
              have hN := hN72
              refine wl_nil ?_; refine c_then ?_; refine c_false rfl ?_; refine wp_skip ?_; refine c_then ?_
              have e : stage (needF act') x 8 = stage (needF act') x 7 := by rw [stage_f (k := 7) (i := 9) (by decide) rfl hN]
              exact ⟨_, rfl, ⟨_, _, _, congrArg (fun (l : List UInt8) => Value.slice _ l.length _) e.symm, hS51, by rw [e]; exact hz, by rw [e]; exact hc8⟩, ⟨rfl, rfl, rfl, rfl, trivial⟩⟩
          · rintro e68 w69 ⟨it, a8, c8, hc71_8, hS70, hz, hc8⟩ -
            refine c_set (d := 8) hc71_8 ?_; refine c_cutE [3, 4, 5, 7] (fun e w' => ∃ (it : Kw.Item) (a8 : Option Addr) (c8 : Nat), Kw.look e 8 = .slice a8 (stage (needF act') x 9).length c8 ∧ St w [] w' [it, .blk b7 (cl (needV (needF act')) 56), .blk b3 (cl x.v 29)] ∧ (RowZ it (.slice a8 (stage (needF act') x 9).length c8) 5 (stage (needF act') x 9).length ((stage (needF act') x 9).map b8)) ∧ ((stage (needF act') x 9).length ≤ c8)) ?_ ?_
            · refine c_seq ?_
              refine c_region ?_; refine wl_val (r_field fa56_5 rfl) rfl ?_
              rcases bool_cases ((needF act') 5) with hN93 | hN93
              · refine wl_val (r_loadB1 (v := .bool true) ti4.und rfl rfl (hS70.heap (.tail _ (.head _))) (need_mem hN93 rfl)) rfl ?_
                have hN := hN93
                refine wl_nil ?_; refine c_then ?_; refine c_true rfl ?_
                have hb := stage_len hg hx (k := 8) (by omega)
                have hep := hg.ep
                refine c_region ?_; refine wl_val (r_move (v := .slice _ _ _) rfl) rfl ?_; refine wl_val (r_field fa29_5 rfl) rfl ?_; refine wl_val (r_loadB1 ti3.und rfl rfl (hS70.heap (.tail _ (.tail _ (.head _)))) (body_ep hx)) rfl ?_; refine wl_val (c_z_u32 ti62.und ⟨_, ti3.und⟩ rfl hep.1 (by omega)) rfl ?_; refine wl_call (r_call fn26 rfl rfl) rfl (putNumber_ok (stage (needF act') x 8) _ _ _ _ (RowZ.at hz hS70 (.head _)) (by omega)) ?_; rintro _ w94 ⟨a119, c119, rfl, hc119, hx95⟩
                have hS96 := hS70.call hx95
                simp only [List.cons_append, List.nil_append] at hS96; refine wl_val (r_assign (v := .slice _ _ _) rfl) rfl ?_; refine wl_nil ?_; refine c_then ?_
                have e : stage (needF act') x 9 = stage (needF act') x 8 ++ Kw.part x 5 := by rw [stage_t (k := 8) (i := 5) (by decide) rfl hN]
                exact ⟨_, rfl, ⟨_, _, _, congrArg (fun (l : List UInt8) => Value.slice _ l.length _) e.symm, (hS96.perm ((List.Perm.cons _ (List.Perm.refl _)).trans (List.perm_middle (l₁ := [_])).symm)).drop1, by rw [e]; exact RowZ.of_row _ _ _ _ _, by rw [e]; exact hc119⟩, ⟨rfl, rfl, rfl, rfl, trivial⟩⟩
              · refine wl_val (r_loadB1 (v := .bool false) ti4.und rfl rfl (hS70.heap (.tail _ (.head _))) (need_mem hN93 rfl)) rfl ?_
                have hN := hN93
                refine wl_nil ?_; refine c_then ?_; refine c_false rfl ?_; refine wp_skip ?_; refine c_then ?_
                have e : stage (needF act') x 9 = stage (needF act') x 8 := by rw [stage_f (k := 8) (i := 5) (by decide) rfl hN]
                exact ⟨_, rfl, ⟨_, _, _, congrArg (fun (l : List UInt8) => Value.slice _ l.length _) e.symm, hS70, by rw [e]; exact hz, by rw [e]; exact hc8⟩, ⟨rfl, rfl, rfl, rfl, trivial⟩⟩
            · rintro e89 w90 ⟨it, a8, c8, hc92_8, hS91, hz, hc8⟩ -
              refine c_set (d := 8) hc92_8 ?_; refine c_cutE [3, 4, 5, 7] (fun e w' => ∃ (it : Kw.Item) (a8 : Option Addr) (c8 : Nat), Kw.look e 8 = .slice a8 (stage (needF act') x 10).length c8 ∧ St w [] w' [it, .blk b7 (cl (needV (needF act')) 56), .blk b3 (cl x.v 29)] ∧ (RowZ it (.slice a8 (stage (needF act') x 10).length c8) 5 (stage (needF act') x 10).length ((stage (needF act') x 10).map b8)) ∧ ((stage (needF act') x 10).length ≤ c8)) ?_ ?_
              · refine c_seq ?_
                refine c_region ?_; refine wl_val (r_field fa56_11 rfl) rfl ?_
                rcases bool_cases ((needF act') 11) with hN101 | hN101
                · refine wl_val (r_loadB1 (v := .bool true) ti4.und rfl rfl (hS91.heap (.tail _ (.head _))) (need_mem hN101 rfl)) rfl ?_
                  have hN := hN101
                  refine wl_nil ?_; refine c_then ?_; refine c_true rfl ?_
                  have hb := stage_len hg hx (k := 9) (by omega)
                  have hct := hg.ct
                  refine c_region ?_; refine wl_val (r_move (v := .slice _ _ _) rfl) rfl ?_; refine wl_val (r_field fa29_10 rfl) rfl ?_; refine wl_val (r_loadB1 ti3.und rfl rfl (hS91.heap (.tail _ (.tail _ (.head _)))) (body_ct hx)) rfl ?_; refine wl_call (r_call fn27 rfl rfl) rfl (putLong_ok (stage (needF act') x 9) _ _ x.ct _ (RowZ.at hz hS91 (.head _)) (by omega)) ?_; rintro _ w102 ⟨a125, c125, rfl, hc125, hx103⟩
                  have hS104 := hS91.call hx103
                  simp only [List.cons_append, List.nil_append] at hS104; refine wl_val (r_assign (v := .slice _ _ _) rfl) rfl ?_; refine wl_nil ?_; refine c_then ?_
                  have e : stage (needF act') x 10 = stage (needF act') x 9 ++ octs8 (UInt64.ofNat (putN x.ct)) := by rw [putN_z hct.1 hct.2]; exact stage_t (k := 9) (i := 11) (by decide) rfl hN
                  exact ⟨_, rfl, ⟨_, _, _, congrArg (fun (l : List UInt8) => Value.slice _ l.length _) e.symm, (hS104.perm ((List.Perm.cons _ (List.Perm.refl _)).trans (List.perm_middle (l₁ := [_])).symm)).drop1, by rw [e]; exact RowZ.of_row _ _ _ _ _, by rw [e]; exact hc125⟩, ⟨rfl, rfl, rfl, rfl, trivial⟩⟩
                · refine wl_val (r_loadB1 (v := .bool false) ti4.und rfl rfl (hS91.heap (.tail _ (.head _))) (need_mem hN101 rfl)) rfl ?_
                  have hN := hN101
                  refine wl_nil ?_; refine c_then ?_; refine c_false rfl ?_; refine wp_skip ?_; refine c_then ?_
                  have e : stage (needF act') x 10 = stage (needF act') x 9 := by rw [stage_f (k := 9) (i := 11) (by decide) rfl hN]
                  exact ⟨_, rfl, ⟨_, _, _, congrArg (fun (l : List UInt8) => Value.slice _ l.length _) e.symm, hS91, by rw [e]; exact hz, by rw [e]; exact hc8⟩, ⟨rfl, rfl, rfl, rfl, trivial⟩⟩
              · rintro e97 w98 ⟨it, a8, c8, hc100_8, hS99, hz, hc8⟩ -
                refine c_set (d := 8) hc100_8 ?_; refine c_cutE [4, 5] (fun e w' => ∃ (it : Kw.Item) (a8 : Option Addr) (c8 : Nat), Kw.look e 8 = .slice a8 (stage (needF act') x 11).length c8 ∧ St w [] w' [it, .blk b7 (cl (needV (needF act')) 56), .blk b3 (cl x.v 29)] ∧ (RowZ it (.slice a8 (stage (needF act') x 11).length c8) 5 (stage (needF act') x 11).length ((stage (needF act') x 11).map b8)) ∧ ((stage (needF act') x 11).length ≤ c8)) ?_ ?_
                · refine c_seq ?_
                  refine c_region ?_; refine wl_val (r_field fa56_4 rfl) rfl ?_
                  rcases bool_cases ((needF act') 4) with hN109 | hN109
                  · refine wl_val (r_loadB1 (v := .bool true) ti4.und rfl rfl (hS99.heap (.tail _ (.head _))) (need_mem hN109 rfl)) rfl ?_
                    have hN := hN109
                    refine wl_nil ?_; refine c_then ?_; refine c_true rfl ?_
                    have hb := stage_len hg hx (k := 10) (by omega)
                    refine c_region ?_; refine wl_val (r_move (v := .slice _ _ _) rfl) rfl ?_; refine wl_val (r_field fa29_4 rfl) rfl ?_; refine wl_val (r_sa1_0 ti26.und ti5 rfl ) rfl ?_; refine wl_exv (x_apZ [] hS99 hz ti30.und ti5 rfl rfl (Row.of_at (body_at19 (hS99.heap (.tail _ (.tail _ (.head _)))) hx)) (by rw [List.length_map]; exact hcm) (by first | exact one_b8 _ | (intro c hc; simp only [List.mem_cons, List.not_mem_nil, or_false] at hc; subst hc; rfl)) (by omega) _ rfl) rfl ?_; rintro _ w110 ⟨iq112, aq112, cq112, rfl, hcq112, hzq112, hS111⟩; simp only [List.cons_append, List.nil_append] at hS111; refine wl_val (r_assign (v := .slice _ _ _) rfl) rfl ?_; refine wl_nil ?_; refine c_then ?_
                    have e : stage (needF act') x 11 = stage (needF act') x 10 ++ Kw.part x 4 := by rw [stage_t (k := 10) (i := 4) (by decide) rfl hN]
                    have el : (stage (needF act') x 11).length = (stage (needF act') x 10).length + 32 := by rw [e, List.length_append]; exact congrArg _ hcm
                    exact ⟨_, rfl, ⟨_, _, _, congrArg (fun n => Value.slice _ n _) el.symm, hS111, RowZ.norm hzq112 el (by rw [e, List.map_append]; rfl), by rw [el]; exact hcq112⟩, ⟨rfl, rfl, trivial⟩⟩
                  · refine wl_val (r_loadB1 (v := .bool false) ti4.und rfl rfl (hS99.heap (.tail _ (.head _))) (need_mem hN109 rfl)) rfl ?_
                    have hN := hN109
                    refine wl_nil ?_; refine c_then ?_; refine c_false rfl ?_; refine wp_skip ?_; refine c_then ?_
                    have e : stage (needF act') x 11 = stage (needF act') x 10 := by rw [stage_f (k := 10) (i := 4) (by decide) rfl hN]
                    exact ⟨_, rfl, ⟨_, _, _, congrArg (fun (l : List UInt8) => Value.slice _ l.length _) e.symm, hS99, by rw [e]; exact hz, by rw [e]; exact hc8⟩, ⟨rfl, rfl, trivial⟩⟩
                · rintro e105 w106 ⟨it, a8, c8, hc108_8, hS107, hz, hc8⟩ -
                  refine c_set (d := 8) hc108_8 ?_; refine c_seq ?_; refine c_region ?_; refine wl_val (r_move (v := .slice _ _ _) rfl) rfl ?_; refine wl_val (r_assign (v := .slice _ _ _) rfl) rfl ?_; refine wl_val (r_assign (v := .int .i64 0) rfl) rfl ?_; refine wl_nil ?_; refine c_then ?_; refine wp_ret ?_; refine ret2 Try.results7 rfl rfl ?_
                  exact .inr ⟨act', _, _, rfl, hg, rfl, hc8, _, hz, (hS107.perm ((List.Perm.cons _ ((List.Perm.cons _ (List.Perm.refl _)).trans (List.perm_middle (l₁ := [_])).symm)).trans (List.perm_middle (l₁ := [_])).symm)).drop1.drop1⟩

end Go.Proofs.Ytbanoknkplcedaa
