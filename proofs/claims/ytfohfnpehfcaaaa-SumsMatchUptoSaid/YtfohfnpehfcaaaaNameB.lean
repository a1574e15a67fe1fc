/- Keys that are derived, names of keys. No condition. -/
import Derived.Test.YtfohfnpehfcaaaaFacts
import Derived.Test.YtfohfnpehfcaaaaStr
import Derived.Test.YtfohfnpehfcaaaaNameA
import Derived.Test.YtfohfnpehfcaaaaMixF
namespace Go.Proofs.Ytfohfnpehfcaaaa
open Go.Kw
set_option linter.unusedVariables false
set_option linter.unusedSimpArgs false
set_option maxRecDepth 100000
/-- What Derive answers. -/
def deriveL (k l : List UInt8) (n : Nat) : List UInt8 := sumL 7 (k ++ (l ++ ([0] ++ octs8 (UInt64.ofNat n))))
noncomputable def deriveE (k l : List UInt8) (e : Int) : Value :=
  if nameE l = true then if e < 0 ∨ 4294967295 < e then .tuple #[.agg ((List.replicate 32 (0 : UInt8)).map b8).toArray, vi 4] else .tuple #[.agg ((deriveL k l e.toNat).map b8).toArray, vi 0]
  else .tuple #[.agg ((List.replicate 32 (0 : UInt8)).map b8).toArray, vi 6]
theorem deriveE_name {k l : List UInt8} {e : Int} (h : nameE l = false) : deriveE k l e = .tuple #[.agg ((List.replicate 32 (0 : UInt8)).map b8).toArray, vi 6] := by rw [deriveE, if_neg (by rw [h]; decide)]
theorem deriveE_bad {k l : List UInt8} {e : Int} (h : nameE l = true) (he : e < 0 ∨ 4294967295 < e) : deriveE k l e = .tuple #[.agg ((List.replicate 32 (0 : UInt8)).map b8).toArray, vi 4] := by rw [deriveE, if_pos h, if_pos he]
theorem deriveE_in {k l : List UInt8} {n : Nat} (h : nameE l = true) (he : n ≤ 4294967295) : deriveE k l n = .tuple #[.agg ((deriveL k l n).map b8).toArray, vi 0] := by rw [deriveE, if_pos h, if_neg (by omega), Int.toNat_natCast]
theorem joined_four (x y z u : List UInt8) (a b a3 a4 : Option Addr) (c d c3 c4 : Nat) : joined [⟨a, c, x⟩, ⟨b, d, y⟩, ⟨a3, c3, z⟩, ⟨a4, c4, u⟩] = x ++ (y ++ (z ++ u)) := by simp [joined]
theorem isName_br (l : List UInt8) (w : World) (hl : l.length ≤ 9223372036854775807) : Ret Try.prog 147 [.string ⟨l.toArray⟩] w (fun v w' => (nameE l = true ∧ v = .bool true ∧ St w [] w' []) ∨ (nameE l = false ∧ v = .bool false ∧ St w [] w' [])) :=
  (isName_ok l w hl).mono fun v w' h => by
    cases hn : nameE l <;> rw [hn] at h
    · exact .inr ⟨rfl, h⟩
    · exact .inl ⟨rfl, h⟩
theorem risName_br (l : List UInt8) (w : World) (hl : l.length ≤ 9223372036854775807) : Ret Try.prog 149 [.string ⟨l.toArray⟩] w (fun v w' => (nameE l = true ∧ v = .bool true ∧ St w [] w' []) ∨ (nameE l = false ∧ v = .bool false ∧ St w [] w' [])) :=
  (risName_ok l w hl).mono fun v w' h => by
    cases hn : nameE l <;> rw [hn] at h
    · exact .inr ⟨rfl, h⟩
    · exact .inl ⟨rfl, h⟩

theorem derive_ok (k l : List UInt8) (e : Int) (w : World) (hk : k.length = 32) (hl : l.length ≤ 9223372036854775807) (he1 : -9223372036854775808 ≤ e) (he2 : e ≤ 9223372036854775807) :
    Ret Try.prog 71 [.agg (k.map b8).toArray, .string ⟨l.toArray⟩, .int .i64 e] w (fun v w' => v = deriveE k l e ∧ St w [] w' []) := by
  refine enter Try.func71 rfl Try.ntmps71 rfl ?_
  have hS := St.refl w []
  refine c_seq ?_
  refine c_region ?_
  refine wl_exv (x_box hS (v := .agg _) rfl rfl) rfl ?_
  rintro _ w1 ⟨b3, rfl, hS2⟩
  refine wl_exv (x_alloc (C := ((List.replicate 32 (0 : UInt8)).map b8)) hS2 ti61 rfl) rfl ?_
  rintro _ w3 ⟨b6, rfl, hS4⟩
  refine wl_val (r_assign (v := .int .i64 0) rfl) rfl ?_
  refine wl_nil ?_
  refine c_then ?_
  refine c_seq ?_
  refine c_seq ?_
  refine c_region ?_
  refine wl_val (r_move (v := .string _) rfl) rfl ?_
  refine wl_call (r_call fn147 rfl rfl) rfl (isName_br _ _ hl) ?_
  rintro _ w5 (⟨hnm, rfl, hx6⟩ | ⟨hnm, rfl, hx6⟩)
  · have hS7 := hS4.ext hx6
    refine wl_val (r_not rfl) rfl ?_
    refine wl_nil ?_
    refine c_then ?_
    refine c_false rfl ?_
    refine wp_skip ?_
    refine c_then ?_
    refine c_seq ?_
    refine c_seq ?_
    refine c_region ?_
    refine wl_val (r_move (v := .int .i64 _) rfl) rfl ?_
    refine wl_dec (r_lss rfl rfl) rfl (fun h3_1 => ?_) (fun h3_1 => ?_)
    · refine wl_val (r_move (v := .bool _) rfl) rfl ?_
      refine wl_not rfl ?_
      refine wl_not rfl ?_
      refine wl_val (r_pick_t rfl (v := .bool true) rfl) rfl ?_
      refine wl_nil ?_
      refine c_then ?_
      refine c_true rfl ?_
      refine c_seq ?_
      refine c_region ?_
      refine wl_val (r_build0 (cs := ((List.replicate 32 (0 : UInt8)).map b8)) ti61.und ti61 ti5) rfl ?_
      refine wl_exs (x_storeW [] hS7 ti61 rfl rfl (by first | (simp [*]; done) | (simp [*] <;> omega) | omega) (by first | (simp [*]; done) | (simp [*] <;> omega) | omega) (by repeat' first | exact one_nil | exact one_b8 _ | exact one_v32 _ | exact one_all rfl | refine one_cons rfl ?_ | refine one_app ?_ ?_)) rfl ?_
      intro w8 hS9
      simp only [List.cons_append, List.nil_append] at hS9
      refine wl_val (r_assign (v := .int .i64 4) rfl) rfl ?_
      refine wl_nil ?_
      refine c_then ?_
      refine wp_ret ?_
      refine c_thenR ?_
      refine ret2 Try.results71 ⟨_, rfl, run_loadVar_blk ti61 rfl (hS9.heap (.head _)) (by first | (simp [*]; done) | (simp [*] <;> omega) | omega)⟩ rfl ?_
      exact ⟨(deriveE_bad hnm (by omega)).symm, hS9.fin⟩
    · refine wl_val (r_move (v := .bool _) rfl) rfl ?_
      refine wl_val (r_move (v := .int .i64 _) rfl) rfl ?_
      refine wl_dec (r_gtr rfl rfl) rfl (fun h3_4 => ?_) (fun h3_4 => ?_)
      · refine wl_val (r_pick_f rfl (v := .bool _) rfl) rfl ?_
        refine wl_nil ?_
        refine c_then ?_
        refine c_true rfl ?_
        refine c_seq ?_
        refine c_region ?_
        refine wl_val (r_build0 (cs := ((List.replicate 32 (0 : UInt8)).map b8)) ti61.und ti61 ti5) rfl ?_
        refine wl_exs (x_storeW [] hS7 ti61 rfl rfl (by first | (simp [*]; done) | (simp [*] <;> omega) | omega) (by first | (simp [*]; done) | (simp [*] <;> omega) | omega) (by repeat' first | exact one_nil | exact one_b8 _ | exact one_v32 _ | exact one_all rfl | refine one_cons rfl ?_ | refine one_app ?_ ?_)) rfl ?_
        intro w10 hS11
        simp only [List.cons_append, List.nil_append] at hS11
        refine wl_val (r_assign (v := .int .i64 4) rfl) rfl ?_
        refine wl_nil ?_
        refine c_then ?_
        refine wp_ret ?_
        refine c_thenR ?_
        refine ret2 Try.results71 ⟨_, rfl, run_loadVar_blk ti61 rfl (hS11.heap (.head _)) (by first | (simp [*]; done) | (simp [*] <;> omega) | omega)⟩ rfl ?_
        exact ⟨(deriveE_bad hnm (by omega)).symm, hS11.fin⟩
      · refine wl_val (r_pick_f rfl (v := .bool _) rfl) rfl ?_
        refine wl_nil ?_
        refine c_then ?_
        refine c_false rfl ?_
        refine wp_skip ?_
        refine c_then ?_
        refine c_seq ?_
        have hl32 := nameE_len hnm
        obtain ⟨e', rfl⟩ : ∃ i : Nat, e = (i : Int) := ⟨e.toNat, (by omega)⟩
        refine c_region ?_
        refine wl_val (r_move (v := .int .i64 _) rfl) rfl ?_
        refine wl_val (c_i64_u64 ti187.und ⟨_, ti3.und⟩ rfl (by omega)) rfl ?_
        refine wl_call (r_call fn148 rfl rfl) rfl (longOctets_ok _ _) ?_
        rintro _ w12 ⟨rfl, hx13⟩
        have hS14 := hS7.ext hx13
        refine wl_exv (x_alloc (C := ((List.replicate 8 (0 : UInt8)).map b8)) hS14 ti185 rfl) rfl ?_
        rintro _ w15 ⟨bb8, rfl, hS16⟩
        refine wl_exs (x_storeW [] hS16 ti185 rfl rfl (by first | (simp [*]; done) | (simp [*] <;> omega) | omega) (by first | (simp [*]; done) | (simp [*] <;> omega) | omega) (by repeat' first | exact one_nil | exact one_b8 _ | exact one_v32 _ | exact one_all rfl | refine one_cons rfl ?_ | refine one_app ?_ ?_)) rfl ?_
        intro w17 hS18
        simp only [List.cons_append, List.nil_append] at hS18
        refine wl_nil ?_
        refine c_then ?_
        refine c_seq ?_
        refine c_drawS 11 hMixed hS18 ?_
        intro w19 hS20
        refine g_take 0 rfl (by decide +kernel) rfl (fun _ _ _ h => h) hS20 (fun wF hF => r_sa1_0 ti61.und ti5 rfl ) ?_
        refine g_take 1 rfl (by decide +kernel) rfl (fun _ _ _ h => h) hS20 (fun wF hF => r_move (v := .string _) rfl) ?_
        refine g_take 4 rfl (by decide +kernel) rfl (fun _ _ _ h => h) hS20 (fun wF hF => r_sa1_0 ti185.und ti5 rfl ) ?_
        refine g_all (rs := [2, 3]) (by decide +kernel) (by decide +kernel) rfl ?_
        simp only [List.forall_mem_cons, List.not_mem_nil, false_imp_iff, implies_true, and_true]
        refine ⟨?_, ?_⟩
        · refine o_exv rfl (x_strBytes hS20 ti22.und ti9.und ti5.und rfl) rfl ?_
          rintro _ w21 ⟨b28, c28, C28, fz28, rfl, hcc28, hC28, hS22⟩
          refine ⟨hS22.drop1, ?_⟩
          refine g_one 3 (by decide +kernel) (by decide +kernel) ?_
          refine o_exv rfl (x_lit (vs := [b8 0]) hS22 ti22.und ti5 rfl rfl rfl (by intro c hc; simp only [List.mem_cons, List.not_mem_nil, or_false] at hc; rcases hc with rfl <;> rfl) (by decide)) rfl ?_
          rintro _ w23 ⟨b29, rfl, hS24⟩
          refine ⟨hS24.drop1.drop1, ?_⟩
          refine g_one 5 (by decide +kernel) (by decide +kernel) ?_
          refine o_exv rfl (x_lit (vs := [.slice _ _ _, .slice _ _ _, .slice _ _ _, .slice _ _ _]) hS24 ti43.und ti22 rfl rfl rfl (by intro c hc; simp only [List.mem_cons, List.not_mem_nil, or_false] at hc; rcases hc with rfl | rfl | rfl | rfl <;> rfl) (by decide)) rfl ?_
          rintro _ w25 ⟨b31, rfl, hS26⟩
          refine ⟨hS26.drop1.drop1.drop1, ?_⟩
          refine g_one 6 (by decide +kernel) (by decide +kernel) ?_
          refine o_call rfl (r_call fn122 rfl rfl) rfl (summed_ok 7 [⟨some ⟨b3, 0, none⟩, 32, k⟩, ⟨some ⟨b28, 0, none⟩, c28, l⟩, ⟨some ⟨b29, 0, none⟩, 1, [0]⟩, ⟨some ⟨bb8, 0, none⟩, 8, octs8 (UInt64.ofNat e')⟩] _ _ _ (by decide) (by decide) (by have hh := (Row.of_at (at_all (hS26.heap (.head _)))); simpa [Sl.v, hk] using hh) (by intro q hq; simp only [List.mem_cons, List.not_mem_nil, or_false] at hq; rcases hq with rfl | rfl | rfl | rfl; exact ⟨Row.of_at (at_all (hS26.heap (.tail _ (.tail _ (.tail _ (.tail _ (.tail _ (.head _)))))))), by simp [hk], by simp [hk]⟩; exact ⟨Row.of_frz (hS26.heap (.tail _ (.tail _ (.head _)))) hC28, hcc28, by simp only []; omega⟩; exact ⟨Row.of_at (at_all (hS26.heap (.tail _ (.head _)))), by simp, by simp⟩; exact ⟨Row.of_at (at_all (hS26.heap (.tail _ (.tail _ (.tail _ (.head _)))))), by simp, by simp⟩) (by simp)) ?_
          rintro _ w27 (⟨hbad, rfl, hx28⟩ | ⟨hbig, rfl, hx28⟩ | ⟨hin, bS, rest, rfl, hs1, hs2, hx28⟩)
          · exfalso; omega
          · exfalso; simp only [total, List.map_cons, List.map_nil, List.sum_cons, List.sum_nil, List.length_cons, List.length_nil, octs8_len, hk] at hbig; omega
          · have hS29 := hS26.call hx28
            simp only [List.cons_append, List.nil_append] at hS29
            refine ⟨hS29.drop1.drop1.drop1.drop1, ?_⟩
            refine g_take 7 rfl (by decide +kernel) rfl (fun _ _ _ h => h) hS29.drop1.drop1.drop1.drop1 (fun wF hF => r_move (v := .tuple _) rfl) ?_
            refine g_take 8 rfl (by decide +kernel) rfl (fun _ _ _ h => h) hS29.drop1.drop1.drop1.drop1 (fun wF hF => r_extract (v := .pointer _) rfl rfl) ?_
            refine g_take 9 rfl (by decide +kernel) rfl (fun _ _ _ h => h) hS29.drop1.drop1.drop1.drop1 (fun wF hF => r_extract (v := .int .i64 _) rfl rfl) ?_
            refine g_take 10 rfl (by decide +kernel) rfl (fun _ _ _ h => h) hS29.drop1.drop1.drop1.drop1 (fun wF hF => r_assign (v := .pointer _) rfl) ?_
            refine g_tail (by decide +kernel) rfl (by decide +kernel) ?_
            refine wl_val (r_assign (v := .int .i64 _) rfl) rfl ?_
            refine wl_nil ?_
            refine c_then ?_
            refine c_seq ?_
            refine c_seq ?_
            refine c_region ?_
            refine wl_val (r_move (v := .int .i64 _) rfl) rfl ?_
            refine wl_dec_f (r_neq rfl rfl) rfl (by decide) ?_
            refine wl_nil ?_
            refine c_then ?_
            refine c_false rfl ?_
            refine wp_skip ?_
            refine c_then ?_
            refine c_seq ?_
            refine c_region ?_
            refine wl_val (r_move (v := .pointer _) rfl) rfl ?_
            refine wl_call (r_call fn32 rfl rfl) rfl (sum_ok _ _ _ _ _ (ini_len _) hs1 (hS29.heap (.head _)) hs2 (by rw [joined_len]; omega)) ?_
            rintro _ w30 ⟨rfl, hx31⟩
            have hS32 := hS29.ext hx31
            refine wl_exs (x_storeW [_, _, _, _, _] hS32 ti61 rfl rfl (by first | (simp [*]; done) | (simp [*] <;> omega) | omega) (by first | (simp [*]; done) | (simp [*] <;> omega) | omega) (by repeat' first | exact one_nil | exact one_b8 _ | exact one_v32 _ | exact one_all rfl | refine one_cons rfl ?_ | refine one_app ?_ ?_)) rfl ?_
            intro w33 hS34
            simp only [List.cons_append, List.nil_append] at hS34
            refine wl_val (r_assign (v := .int .i64 0) rfl) rfl ?_
            refine wl_nil ?_
            refine c_then ?_
            refine wp_ret ?_
            refine ret2 Try.results71 ⟨_, rfl, run_loadVar_blk ti61 rfl (hS34.heap (.tail _ (.tail _ (.tail _ (.tail _ (.tail _ (.head _))))))) (by first | (simp [*]; done) | (simp [*] <;> omega) | omega)⟩ rfl ?_
            simp only [joined_four]
            exact ⟨(deriveE_in hnm (by omega)).symm, hS34.fin⟩
        · refine o_exv rfl (x_lit (vs := [b8 0]) hS20 ti22.und ti5 rfl rfl rfl (by intro c hc; simp only [List.mem_cons, List.not_mem_nil, or_false] at hc; rcases hc with rfl <;> rfl) (by decide)) rfl ?_
          rintro _ w35 ⟨b29, rfl, hS36⟩
          refine ⟨hS36.drop1, ?_⟩
          refine g_one 2 (by decide +kernel) (by decide +kernel) ?_
          refine o_exv rfl (x_strBytes hS36 ti22.und ti9.und ti5.und rfl) rfl ?_
          rintro _ w37 ⟨b28, c28, C28, fz28, rfl, hcc28, hC28, hS38⟩
          refine ⟨hS38.drop1.drop1, ?_⟩
          refine g_one 5 (by decide +kernel) (by decide +kernel) ?_
          refine o_exv rfl (x_lit (vs := [.slice _ _ _, .slice _ _ _, .slice _ _ _, .slice _ _ _]) hS38 ti43.und ti22 rfl rfl rfl (by intro c hc; simp only [List.mem_cons, List.not_mem_nil, or_false] at hc; rcases hc with rfl | rfl | rfl | rfl <;> rfl) (by decide)) rfl ?_
          rintro _ w39 ⟨b31, rfl, hS40⟩
          refine ⟨hS40.drop1.drop1.drop1, ?_⟩
          refine g_one 6 (by decide +kernel) (by decide +kernel) ?_
          refine o_call rfl (r_call fn122 rfl rfl) rfl (summed_ok 7 [⟨some ⟨b3, 0, none⟩, 32, k⟩, ⟨some ⟨b28, 0, none⟩, c28, l⟩, ⟨some ⟨b29, 0, none⟩, 1, [0]⟩, ⟨some ⟨bb8, 0, none⟩, 8, octs8 (UInt64.ofNat e')⟩] _ _ _ (by decide) (by decide) (by have hh := (Row.of_at (at_all (hS40.heap (.head _)))); simpa [Sl.v, hk] using hh) (by intro q hq; simp only [List.mem_cons, List.not_mem_nil, or_false] at hq; rcases hq with rfl | rfl | rfl | rfl; exact ⟨Row.of_at (at_all (hS40.heap (.tail _ (.tail _ (.tail _ (.tail _ (.tail _ (.head _)))))))), by simp [hk], by simp [hk]⟩; exact ⟨Row.of_frz (hS40.heap (.tail _ (.head _))) hC28, hcc28, by simp only []; omega⟩; exact ⟨Row.of_at (at_all (hS40.heap (.tail _ (.tail _ (.head _))))), by simp, by simp⟩; exact ⟨Row.of_at (at_all (hS40.heap (.tail _ (.tail _ (.tail _ (.head _)))))), by simp, by simp⟩) (by simp)) ?_
          rintro _ w41 (⟨hbad, rfl, hx42⟩ | ⟨hbig, rfl, hx42⟩ | ⟨hin, bS, rest, rfl, hs1, hs2, hx42⟩)
          · exfalso; omega
          · exfalso; simp only [total, List.map_cons, List.map_nil, List.sum_cons, List.sum_nil, List.length_cons, List.length_nil, octs8_len, hk] at hbig; omega
          · have hS43 := hS40.call hx42
            simp only [List.cons_append, List.nil_append] at hS43
            refine ⟨hS43.drop1.drop1.drop1.drop1, ?_⟩
            refine g_take 7 rfl (by decide +kernel) rfl (fun _ _ _ h => h) hS43.drop1.drop1.drop1.drop1 (fun wF hF => r_move (v := .tuple _) rfl) ?_
            refine g_take 8 rfl (by decide +kernel) rfl (fun _ _ _ h => h) hS43.drop1.drop1.drop1.drop1 (fun wF hF => r_extract (v := .pointer _) rfl rfl) ?_
            refine g_take 9 rfl (by decide +kernel) rfl (fun _ _ _ h => h) hS43.drop1.drop1.drop1.drop1 (fun wF hF => r_extract (v := .int .i64 _) rfl rfl) ?_
            refine g_take 10 rfl (by decide +kernel) rfl (fun _ _ _ h => h) hS43.drop1.drop1.drop1.drop1 (fun wF hF => r_assign (v := .pointer _) rfl) ?_
            refine g_tail (by decide +kernel) rfl (by decide +kernel) ?_
            refine wl_val (r_assign (v := .int .i64 _) rfl) rfl ?_
            refine wl_nil ?_
            refine c_then ?_
            refine c_seq ?_
            refine c_seq ?_
            refine c_region ?_
            refine wl_val (r_move (v := .int .i64 _) rfl) rfl ?_
            refine wl_dec_f (r_neq rfl rfl) rfl (by decide) ?_
            refine wl_nil ?_
            refine c_then ?_
            refine c_false rfl ?_
            refine wp_skip ?_
            refine c_then ?_
            refine c_seq ?_
            refine c_region ?_
            refine wl_val (r_move (v := .pointer _) rfl) rfl ?_
            refine wl_call (r_call fn32 rfl rfl) rfl (sum_ok _ _ _ _ _ (ini_len _) hs1 (hS43.heap (.head _)) hs2 (by rw [joined_len]; omega)) ?_
            rintro _ w44 ⟨rfl, hx45⟩
            have hS46 := hS43.ext hx45
            refine wl_exs (x_storeW [_, _, _, _, _] hS46 ti61 rfl rfl (by first | (simp [*]; done) | (simp [*] <;> omega) | omega) (by first | (simp [*]; done) | (simp [*] <;> omega) | omega) (by repeat' first | exact one_nil | exact one_b8 _ | exact one_v32 _ | exact one_all rfl | refine one_cons rfl ?_ | refine one_app ?_ ?_)) rfl ?_
            intro w47 hS48
            simp only [List.cons_append, List.nil_append] at hS48
            refine wl_val (r_assign (v := .int .i64 0) rfl) rfl ?_
            refine wl_nil ?_
            refine c_then ?_
            refine wp_ret ?_
            refine ret2 Try.results71 ⟨_, rfl, run_loadVar_blk ti61 rfl (hS48.heap (.tail _ (.tail _ (.tail _ (.tail _ (.tail _ (.head _))))))) (by first | (simp [*]; done) | (simp [*] <;> omega) | omega)⟩ rfl ?_
            simp only [joined_four]
            exact ⟨(deriveE_in hnm (by omega)).symm, hS48.fin⟩
  · have hS7 := hS4.ext hx6
    refine wl_val (r_not rfl) rfl ?_
    refine wl_nil ?_
    refine c_then ?_
    refine c_true rfl ?_
    refine c_seq ?_
    refine c_region ?_
    refine wl_val (r_build0 (cs := ((List.replicate 32 (0 : UInt8)).map b8)) ti61.und ti61 ti5) rfl ?_
    refine wl_exs (x_storeW [] hS7 ti61 rfl rfl (by first | (simp [*]; done) | (simp [*] <;> omega) | omega) (by first | (simp [*]; done) | (simp [*] <;> omega) | omega) (by repeat' first | exact one_nil | exact one_b8 _ | exact one_v32 _ | exact one_all rfl | refine one_cons rfl ?_ | refine one_app ?_ ?_)) rfl ?_
    intro w49 hS50
    simp only [List.cons_append, List.nil_append] at hS50
    refine wl_val (r_assign (v := .int .i64 6) rfl) rfl ?_
    refine wl_nil ?_
    refine c_then ?_
    refine wp_ret ?_
    refine c_thenR ?_
    refine ret2 Try.results71 ⟨_, rfl, run_loadVar_blk ti61 rfl (hS50.heap (.head _)) (by first | (simp [*]; done) | (simp [*] <;> omega) | omega)⟩ rfl ?_
    exact ⟨(deriveE_name hnm).symm, hS50.fin⟩

theorem rderive_ok (k l : List UInt8) (e : Int) (w : World) (hk : k.length = 32) (hl : l.length ≤ 9223372036854775807) (he1 : -9223372036854775808 ≤ e) (he2 : e ≤ 9223372036854775807) :
    Ret Try.prog 72 [.agg (k.map b8).toArray, .string ⟨l.toArray⟩, .int .i64 e] w (fun v w' => v = deriveE k l e ∧ St w [] w' []) := by
  refine enter Try.func72 rfl Try.ntmps72 rfl ?_
  have hS := St.refl w []
  refine c_seq ?_
  refine c_region ?_
  refine wl_exv (x_box hS (v := .agg _) rfl rfl) rfl ?_
  rintro _ w1 ⟨b3, rfl, hS2⟩
  refine wl_exv (x_alloc (C := ((List.replicate 32 (0 : UInt8)).map b8)) hS2 ti61 rfl) rfl ?_
  rintro _ w3 ⟨b6, rfl, hS4⟩
  refine wl_val (r_assign (v := .int .i64 0) rfl) rfl ?_
  refine wl_nil ?_
  refine c_then ?_
  refine c_seq ?_
  refine c_seq ?_
  refine c_region ?_
  refine wl_val (r_move (v := .string _) rfl) rfl ?_
  refine wl_call (r_call fn149 rfl rfl) rfl (risName_br _ _ hl) ?_
  rintro _ w5 (⟨hnm, rfl, hx6⟩ | ⟨hnm, rfl, hx6⟩)
  · have hS7 := hS4.ext hx6
    refine wl_val (r_not rfl) rfl ?_
    refine wl_nil ?_
    refine c_then ?_
    refine c_false rfl ?_
    refine wp_skip ?_
    refine c_then ?_
    refine c_seq ?_
    refine c_seq ?_
    refine c_region ?_
    refine wl_val (r_move (v := .int .i64 _) rfl) rfl ?_
    refine wl_dec (r_lss rfl rfl) rfl (fun h3_1 => ?_) (fun h3_1 => ?_)
    · refine wl_val (r_move (v := .bool _) rfl) rfl ?_
      refine wl_not rfl ?_
      refine wl_not rfl ?_
      refine wl_val (r_pick_t rfl (v := .bool true) rfl) rfl ?_
      refine wl_nil ?_
      refine c_then ?_
      refine c_true rfl ?_
      refine c_seq ?_
      refine c_region ?_
      refine wl_val (r_build0 (cs := ((List.replicate 32 (0 : UInt8)).map b8)) ti61.und ti61 ti5) rfl ?_
      refine wl_exs (x_storeW [] hS7 ti61 rfl rfl (by first | (simp [*]; done) | (simp [*] <;> omega) | omega) (by first | (simp [*]; done) | (simp [*] <;> omega) | omega) (by repeat' first | exact one_nil | exact one_b8 _ | exact one_v32 _ | exact one_all rfl | refine one_cons rfl ?_ | refine one_app ?_ ?_)) rfl ?_
      intro w8 hS9
      simp only [List.cons_append, List.nil_append] at hS9
      refine wl_val (r_assign (v := .int .i64 4) rfl) rfl ?_
      refine wl_nil ?_
      refine c_then ?_
      refine wp_ret ?_
      refine c_thenR ?_
      refine ret2 Try.results72 ⟨_, rfl, run_loadVar_blk ti61 rfl (hS9.heap (.head _)) (by first | (simp [*]; done) | (simp [*] <;> omega) | omega)⟩ rfl ?_
      exact ⟨(deriveE_bad hnm (by omega)).symm, hS9.fin⟩
    · refine wl_val (r_move (v := .bool _) rfl) rfl ?_
      refine wl_val (r_move (v := .int .i64 _) rfl) rfl ?_
      refine wl_dec (r_gtr rfl rfl) rfl (fun h3_4 => ?_) (fun h3_4 => ?_)
      · refine wl_val (r_pick_f rfl (v := .bool _) rfl) rfl ?_
        refine wl_nil ?_
        refine c_then ?_
        refine c_true rfl ?_
        refine c_seq ?_
        refine c_region ?_
        refine wl_val (r_build0 (cs := ((List.replicate 32 (0 : UInt8)).map b8)) ti61.und ti61 ti5) rfl ?_
        refine wl_exs (x_storeW [] hS7 ti61 rfl rfl (by first | (simp [*]; done) | (simp [*] <;> omega) | omega) (by first | (simp [*]; done) | (simp [*] <;> omega) | omega) (by repeat' first | exact one_nil | exact one_b8 _ | exact one_v32 _ | exact one_all rfl | refine one_cons rfl ?_ | refine one_app ?_ ?_)) rfl ?_
        intro w10 hS11
        simp only [List.cons_append, List.nil_append] at hS11
        refine wl_val (r_assign (v := .int .i64 4) rfl) rfl ?_
        refine wl_nil ?_
        refine c_then ?_
        refine wp_ret ?_
        refine c_thenR ?_
        refine ret2 Try.results72 ⟨_, rfl, run_loadVar_blk ti61 rfl (hS11.heap (.head _)) (by first | (simp [*]; done) | (simp [*] <;> omega) | omega)⟩ rfl ?_
        exact ⟨(deriveE_bad hnm (by omega)).symm, hS11.fin⟩
      · refine wl_val (r_pick_f rfl (v := .bool _) rfl) rfl ?_
        refine wl_nil ?_
        refine c_then ?_
        refine c_false rfl ?_
        refine wp_skip ?_
        refine c_then ?_
        refine c_seq ?_
        have hl32 := nameE_len hnm
        obtain ⟨e', rfl⟩ : ∃ i : Nat, e = (i : Int) := ⟨e.toNat, (by omega)⟩
        refine c_region ?_
        refine wl_val (r_sa1_0 ti61.und ti5 rfl ) rfl ?_
        refine wl_call (r_call fn21 rfl rfl) rfl (clone_n _ _ _ _ _ (Row.of_at (at_all (hS7.heap (.tail _ (.head _))))) (by first | (simp [*]; done) | (simp [*] <;> omega) | omega) (by first | (simp [*]; done) | (simp [*] <;> omega) | omega)) ?_
        rintro _ w12 ⟨a21, c21, rfl, hc21, hx13⟩
        have hS14 := hS7.call hx13
        simp only [List.cons_append, List.nil_append] at hS14
        refine wl_val (r_move (v := .string _) rfl) rfl ?_
        refine wl_exv (x_appendStr [] hS14 ti22.und ti9.und ti5 rfl rfl (by omega) _ rfl) rfl ?_
        rintro _ w15 ⟨aq17, cq17, rfl, hcq17, hS16⟩
        simp only [List.cons_append, List.nil_append] at hS16
        refine wl_val (r_assign (v := .slice _ _ _) rfl) rfl ?_
        refine wl_nil ?_
        refine c_then ?_
        refine c_seq ?_
        refine c_region ?_
        refine wl_val (r_move (v := .slice _ _ _) rfl) rfl ?_
        refine wl_exv (x_lit (vs := [b8 0]) hS16 ti22.und ti5 rfl rfl rfl (by intro c hc; simp only [List.mem_cons, List.not_mem_nil, or_false] at hc; rcases hc with rfl <;> rfl) (by decide)) rfl ?_
        rintro _ w18 ⟨b25, rfl, hS19⟩
        refine wl_exv (x_append [_] hS19 ti22.und ti5 rfl (by decide) rfl rfl (Row.of_at (at_all (hS19.heap (.head _)))) (by first | (simp [*]; done) | (simp [*] <;> omega) | omega) (by first | exact one_b8 _ | exact one_v32 _ | (intro c hc; simp only [List.mem_cons, List.not_mem_nil, or_false] at hc; (first | subst hc | rcases hc with rfl | rfl) <;> rfl)) (by first | omega | (simp [*]; done) | (simp [*] <;> omega)) (by first | omega | (simp [*]; done) | (simp [*] <;> omega)) _ rfl) rfl ?_
        rintro _ w20 ⟨aq22, cq22, rfl, hcq22, hS21⟩
        simp only [List.cons_append, List.nil_append] at hS21
        refine wl_val (r_move (v := .int .i64 _) rfl) rfl ?_
        refine wl_call (r_call fn117 rfl rfl) rfl (rlong_ok _ _ (by omega)) ?_
        rintro _ w23 ⟨b28, rfl, hx24⟩
        have hS25 := hS21.call hx24
        simp only [List.cons_append, List.nil_append] at hS25
        refine wl_exv (x_append [_, _] hS25 ti22.und ti5 rfl (by decide) rfl rfl (Row.of_at (at_all (hS25.heap (.head _)))) (by first | (simp [*]; done) | (simp [*] <;> omega) | omega) (by first | exact one_b8 _ | exact one_v32 _ | (intro c hc; simp only [List.mem_cons, List.not_mem_nil, or_false] at hc; (first | subst hc | rcases hc with rfl | rfl) <;> rfl)) (by first | omega | (simp [*]; done) | (simp [*] <;> omega)) (by first | omega | (simp [*]; done) | (simp [*] <;> omega)) _ rfl) rfl ?_
        rintro _ w26 ⟨aq28, cq28, rfl, hcq28, hS27⟩
        simp only [List.cons_append, List.nil_append] at hS27
        refine wl_call (r_call fn33 rfl rfl) rfl (rsum_ok 7 (((k ++ l) ++ [0]) ++ octs8 (UInt64.ofNat e')) _ _ _ _ (by have hh := (St.rowAt hS27 (.tail _ (.tail _ (.head _)))); simpa [List.map_append] using hh) (by simp [hk]; omega) (by omega)) ?_
        rintro _ w29 ⟨rfl, hx30⟩
        have hS31 := hS27.ext hx30
        refine wl_exs (x_storeW [_, _, _] hS31 ti61 rfl rfl (by first | (simp [*]; done) | (simp [*] <;> omega) | omega) (by first | (simp [*]; done) | (simp [*] <;> omega) | omega) (by repeat' first | exact one_nil | exact one_b8 _ | exact one_v32 _ | exact one_all rfl | refine one_cons rfl ?_ | refine one_app ?_ ?_)) rfl ?_
        intro w32 hS33
        simp only [List.cons_append, List.nil_append] at hS33
        refine wl_val (r_assign (v := .int .i64 0) rfl) rfl ?_
        refine wl_nil ?_
        refine c_then ?_
        refine wp_ret ?_
        refine ret2 Try.results72 ⟨_, rfl, run_loadVar_blk ti61 rfl (hS33.heap (.tail _ (.tail _ (.tail _ (.head _))))) (by first | (simp [*]; done) | (simp [*] <;> omega) | omega)⟩ rfl ?_
        simp only [List.append_assoc]
        exact ⟨(deriveE_in hnm (by omega)).symm, hS33.fin⟩
  · have hS7 := hS4.ext hx6
    refine wl_val (r_not rfl) rfl ?_
    refine wl_nil ?_
    refine c_then ?_
    refine c_true rfl ?_
    refine c_seq ?_
    refine c_region ?_
    refine wl_val (r_build0 (cs := ((List.replicate 32 (0 : UInt8)).map b8)) ti61.und ti61 ti5) rfl ?_
    refine wl_exs (x_storeW [] hS7 ti61 rfl rfl (by first | (simp [*]; done) | (simp [*] <;> omega) | omega) (by first | (simp [*]; done) | (simp [*] <;> omega) | omega) (by repeat' first | exact one_nil | exact one_b8 _ | exact one_v32 _ | exact one_all rfl | refine one_cons rfl ?_ | refine one_app ?_ ?_)) rfl ?_
    intro w34 hS35
    simp only [List.cons_append, List.nil_append] at hS35
    refine wl_val (r_assign (v := .int .i64 6) rfl) rfl ?_
    refine wl_nil ?_
    refine c_then ?_
    refine wp_ret ?_
    refine c_thenR ?_
    refine ret2 Try.results72 ⟨_, rfl, run_loadVar_blk ti61 rfl (hS35.heap (.head _)) (by first | (simp [*]; done) | (simp [*] <;> omega) | omega)⟩ rfl ?_
    exact ⟨(deriveE_name hnm).symm, hS35.fin⟩

def nameOfL (k : List UInt8) : List UInt8 := (sumL 10 k).take 16

theorem nameOf_ok (k : List UInt8) (w : World) (hk : k.length = 32) :
    Ret Try.prog 73 [.agg (k.map b8).toArray] w (fun v w' => v = .agg ((nameOfL k).map b8).toArray ∧ St w [] w' []) := by
  refine enter Try.func73 rfl Try.ntmps73 rfl ?_
  have hS := St.refl w []
  refine c_seq ?_
  refine c_region ?_
  refine wl_exv (x_box hS (v := .agg _) rfl rfl) rfl ?_
  rintro _ w1 ⟨b1, rfl, hS2⟩
  refine wl_exv (x_alloc (C := ((List.replicate 16 (0 : UInt8)).map b8)) hS2 ti102 rfl) rfl ?_
  rintro _ w3 ⟨b2, rfl, hS4⟩
  refine wl_nil ?_
  refine c_then ?_
  refine c_seq ?_
  refine c_region ?_
  refine wl_val (r_sa1_0 ti61.und ti5 rfl ) rfl ?_
  refine wl_exv (x_lit (vs := [.slice _ _ _]) hS4 ti43.und ti22 rfl rfl rfl (by intro c hc; simp only [List.mem_cons, List.not_mem_nil, or_false] at hc; rcases hc with rfl <;> rfl) (by decide)) rfl ?_
  rintro _ w5 ⟨bb8, rfl, hS6⟩
  refine wl_call (r_call fn122 rfl rfl) rfl (summed_ok 10 [⟨some ⟨b1, 0, none⟩, 32, k⟩] _ _ _ (by decide) (by decide) (by have hh := (Row.of_at (at_all (hS6.heap (.head _)))); simpa [Sl.v, hk] using hh) (by intro q hq; obtain rfl := List.mem_singleton.1 hq; exact ⟨Row.of_at (at_all (hS6.heap (.tail _ (.tail _ (.head _))))), by simp [hk], by simp [hk]⟩) (by simp)) ?_
  rintro _ w7 (⟨hbad, rfl, hx8⟩ | ⟨hbig, rfl, hx8⟩ | ⟨hin, bS, rest, rfl, hs1, hs2, hx8⟩)
  · exfalso; omega
  · exfalso; rw [total_one, hk] at hbig; omega
  · have hS9 := hS6.call hx8
    simp only [List.cons_append, List.nil_append] at hS9
    refine wl_val (r_move (v := .tuple _) rfl) rfl ?_
    refine wl_val (r_extract (v := .pointer _) rfl rfl) rfl ?_
    refine wl_val (r_extract (v := .int .i64 _) rfl rfl) rfl ?_
    refine wl_val (r_assign (v := .pointer _) rfl) rfl ?_
    refine wl_val (r_assign (v := .int .i64 _) rfl) rfl ?_
    refine wl_nil ?_
    refine c_then ?_
    refine c_seq ?_
    refine c_seq ?_
    refine c_region ?_
    refine wl_val (r_move (v := .int .i64 _) rfl) rfl ?_
    refine wl_dec_f (r_neq rfl rfl) rfl (by decide) ?_
    refine wl_nil ?_
    refine c_then ?_
    refine c_false rfl ?_
    refine wp_skip ?_
    refine c_then ?_
    refine c_seq ?_
    refine c_region ?_
    refine wl_val (r_move (v := .pointer _) rfl) rfl ?_
    refine wl_call (r_call fn32 rfl rfl) rfl (sum_ok _ _ _ _ _ (ini_len _) hs1 (hS9.heap (.head _)) hs2 (by rw [joined_len]; omega)) ?_
    rintro _ w10 ⟨rfl, hx11⟩
    have hS12 := hS9.ext hx11
    refine wl_exv (x_alloc (C := ((List.replicate 32 (0 : UInt8)).map b8)) hS12 ti49 rfl) rfl ?_
    rintro _ w13 ⟨b5, rfl, hS14⟩
    refine wl_exs (x_storeW [] hS14 ti49 rfl rfl (by first | (simp [*]; done) | (simp [*] <;> omega) | omega) (by first | (simp [*]; done) | (simp [*] <;> omega) | omega) (by repeat' first | exact one_nil | exact one_b8 _ | exact one_v32 _ | exact one_all rfl | refine one_cons rfl ?_ | refine one_app ?_ ?_)) rfl ?_
    intro w15 hS16
    simp only [List.cons_append, List.nil_append] at hS16
    refine wl_nil ?_
    refine c_then ?_
    refine c_seq ?_
    refine c_region ?_
    refine wl_val (r_sa1_h (h := 16) ti49.und ti5 rfl rfl (by omega)) rfl ?_
    refine wl_val (r_s2a ti102.und rfl (by decide)) rfl ?_
    refine wl_val (r_loadBPm ti102 rfl rfl (hS16.heap (.head _)) (by first | (simp [*]; done) | (simp [*] <;> omega) | omega)) rfl ?_
    refine wl_exs (x_storeW [_, _, _] hS16 ti102 rfl rfl (by first | (simp [*]; done) | (simp [*] <;> omega) | omega) (by first | (simp [*]; done) | (simp [*] <;> omega) | omega) (by repeat' first | exact one_nil | exact one_b8 _ | exact one_v32 _ | exact one_all rfl | refine one_cons rfl ?_ | refine one_app ?_ ?_)) rfl ?_
    intro w17 hS18
    simp only [List.cons_append, List.nil_append] at hS18
    refine wl_nil ?_
    refine c_then ?_
    refine wp_ret ?_
    refine retc Try.results73 ⟨_, rfl, run_loadVar_blk ti102 rfl (hS18.heap (.tail _ (.tail _ (.tail _ (.head _))))) (by first | (simp [*]; done) | (simp [*] <;> omega) | omega)⟩ ?_
    simp only [joined_one] at *
    exact ⟨rfl, hS18.fin⟩

theorem rnameOf_ok (k : List UInt8) (w : World) (hk : k.length = 32) :
    Ret Try.prog 74 [.agg (k.map b8).toArray] w (fun v w' => v = .agg ((nameOfL k).map b8).toArray ∧ St w [] w' []) := by
  refine enter Try.func74 rfl Try.ntmps74 rfl ?_
  have hS := St.refl w []
  refine c_seq ?_
  refine c_region ?_
  refine wl_exv (x_box hS (v := .agg _) rfl rfl) rfl ?_
  rintro _ w1 ⟨b1, rfl, hS2⟩
  refine wl_exv (x_alloc (C := ((List.replicate 16 (0 : UInt8)).map b8)) hS2 ti102 rfl) rfl ?_
  rintro _ w3 ⟨b2, rfl, hS4⟩
  refine wl_nil ?_
  refine c_then ?_
  refine c_seq ?_
  refine c_region ?_
  refine wl_val (r_sa1_0 ti61.und ti5 rfl ) rfl ?_
  refine wl_call (r_call fn33 rfl rfl) rfl (rsum_ok 10 k _ _ _ _ (Row.of_at (at_all (hS4.heap (.tail _ (.head _))))) hk (by omega)) ?_
  rintro _ w5 ⟨rfl, hx6⟩
  have hS7 := hS4.ext hx6
  refine wl_exv (x_alloc (C := ((List.replicate 32 (0 : UInt8)).map b8)) hS7 ti49 rfl) rfl ?_
  rintro _ w8 ⟨b3, rfl, hS9⟩
  refine wl_exs (x_storeW [] hS9 ti49 rfl rfl (by first | (simp [*]; done) | (simp [*] <;> omega) | omega) (by first | (simp [*]; done) | (simp [*] <;> omega) | omega) (by repeat' first | exact one_nil | exact one_b8 _ | exact one_v32 _ | exact one_all rfl | refine one_cons rfl ?_ | refine one_app ?_ ?_)) rfl ?_
  intro w10 hS11
  simp only [List.cons_append, List.nil_append] at hS11
  refine wl_nil ?_
  refine c_then ?_
  refine c_seq ?_
  refine c_drawS 2 hMixed hS11 ?_
  intro w12 hS13
  refine g_take 0 rfl (by decide +kernel) rfl (fun _ _ _ h => h) hS13 (fun wF hF => r_sa1_0 ti102.und ti5 rfl ) ?_
  refine g_take 1 rfl (by decide +kernel) rfl (fun _ _ _ h => h) hS13 (fun wF hF => r_sa1_0 ti49.und ti5 rfl ) ?_
  refine g_tail (by decide +kernel) rfl (by decide +kernel) ?_
  refine wl_exv (x_copymt [_] hS13 ti22.und ti5 rfl rfl (Row.of_at (at_all (hS13.heap (.head _)))) (by first | (simp [*]; done) | (simp [*] <;> omega) | omega) (by first | (simp [*]; done) | (simp [*] <;> omega) | omega) (fun _ => rfl) _ rfl) rfl ?_
  rintro _ w14 ⟨rfl, hS15⟩
  simp only [List.cons_append, List.nil_append] at hS15
  rw [splice0 _ _ (by simp)] at hS15
  refine wl_nil ?_
  refine c_then ?_
  refine c_seq ?_
  refine c_region ?_
  refine wl_val (r_loadB ti102 rfl rfl (hS15.heap (.tail _ (.head _))) (by first | (simp [*]; done) | (simp [*] <;> omega) | omega)) rfl ?_
  refine wl_exs (x_storeW [_] hS15 ti102 rfl rfl (by first | (simp [*]; done) | (simp [*] <;> omega) | omega) (by first | (simp [*]; done) | (simp [*] <;> omega) | omega) (by repeat' first | exact one_nil | exact one_b8 _ | exact one_v32 _ | exact one_all rfl | refine one_cons rfl ?_ | refine one_app ?_ ?_)) rfl ?_
  intro w16 hS17
  simp only [List.cons_append, List.nil_append] at hS17
  refine wl_nil ?_
  refine c_then ?_
  refine wp_ret ?_
  refine retc Try.results74 ⟨_, rfl, run_loadVar_blk ti102 rfl (hS17.heap (.tail _ (.head _))) (by first | (simp [*]; done) | (simp [*] <;> omega) | omega)⟩ ?_
  exact ⟨rfl, hS17.fin⟩

end Go.Proofs.Ytfohfnpehfcaaaa
