/- For every state: the program's stirring and its inverse are the reference's, and each undoes the other; the law's function returns true and turns nothing. No condition. -/
import Derived.Test.YtcadjopdjpgomaaRows
import Derived.Test.YtcadjopdjpgomaaOpen
import Derived.Test.YtcadjopdjpgomaaMixB
namespace Go.Proofs.Ytcadjopdjpgomaa.lawStirringMatches
open Go.Kw Go.Proofs.Ytcadjopdjpgomaa
open Go.ChangeShapes Go.WideShapes Go.ChangeAt Go.RowKit
set_option linter.unusedVariables false
set_option linter.unusedSimpArgs false
set_option maxRecDepth 100000
set_option maxHeartbeats 20000000

theorem walk (s : List UInt8) (w : World) (hs : s.length = 64) :
    Ret Try.prog 3 [.agg (s.map b8).toArray] w (fun v w' => v = .bool true ∧ St w [] w' []) := by
  refine enter Try.func3 rfl Try.ntmps3 rfl ?_
  have hS := St.refl w []
  refine c_seq ?_
  refine c_region ?_
  refine wl_exv (x_box hS (v := .agg _) rfl rfl) rfl ?_
  rintro _ w1 ⟨b1, rfl, hS2⟩
  refine wl_val (r_assign (v := .bool false) rfl) rfl ?_
  refine wl_nil ?_
  refine c_then ?_
  refine c_seq ?_
  refine c_seq ?_
  refine c_region ?_
  refine wl_call (r_call fn15 rfl rfl) rfl (landed_ok _) ?_
  rintro _ w3 ⟨rfl, hx4⟩
  have hS5 := hS2.ext hx4
  refine wl_val (r_not rfl) rfl ?_
  refine wl_nil ?_
  refine c_then ?_
  refine c_false rfl ?_
  refine wp_skip ?_
  refine c_then ?_
  refine c_cutE [1, 2] (fun e w' => ∃ (b3 : Nat) (b4 : Nat), Kw.look e 3 = pt b3 0 ∧ Kw.look e 4 = pt b4 0 ∧ St w [] w' [.blk b4 (cl ((unstirL s).map b8) 22), .blk b3 (cl ((stirL s).map b8) 22), .blk b1 (cl (s.map b8) 22)]) ?_ ?_
  · refine c_drawS 6 hMixed hS5 ?_
    intro w10 hS11
    refine g_take 0 rfl (by decide +kernel) rfl (fun _ _ _ h => h) hS11 (fun wF hF => r_loadB ti22 rfl rfl (hF.heap (.head _)) (by first | (simp [*]; done) | (simp [*] <;> omega) | omega)) ?_
    refine g_take 2 rfl (by decide +kernel) rfl (fun _ _ _ h => h) hS11 (fun wF hF => r_loadB ti22 rfl rfl (hF.heap (.head _)) (by first | (simp [*]; done) | (simp [*] <;> omega) | omega)) ?_
    refine g_all (rs := [1, 4, 5]) (by decide +kernel) (by decide +kernel) rfl ?_
    simp only [List.forall_mem_cons, List.not_mem_nil, false_imp_iff, implies_true, and_true]
    refine ⟨?_, ?_, ?_⟩
    · refine o_call rfl (r_call fn16 rfl rfl) rfl (stir_ok _ _ (by first | (simp [*]; done) | (simp [*] <;> omega) | omega)) ?_
      rintro _ w12 ⟨rfl, hx13⟩
      have hS14 := hS11.ext hx13
      refine ⟨hS14, ?_⟩
      refine g_all (rs := [3, 4, 5]) (by decide +kernel) (by decide +kernel) rfl ?_
      simp only [List.forall_mem_cons, List.not_mem_nil, false_imp_iff, implies_true, and_true]
      refine ⟨?_, ?_, ?_⟩
      · refine o_call rfl (r_call fn17 rfl rfl) rfl (unstir_ok _ _ (by first | (simp [*]; done) | (simp [*] <;> omega) | omega)) ?_
        rintro _ w15 ⟨rfl, hx16⟩
        have hS17 := hS14.ext hx16
        refine ⟨hS17, ?_⟩
        refine g_all (rs := [4, 5]) (by decide +kernel) (by decide +kernel) rfl ?_
        simp only [List.forall_mem_cons, List.not_mem_nil, false_imp_iff, implies_true, and_true]
        refine ⟨?_, ?_⟩
        · refine o_exv rfl (x_alloc (C := ((List.replicate 64 (0 : UInt8)).map b8)) hS17 ti22 rfl) rfl ?_
          rintro _ w18 ⟨b3, rfl, hS19⟩
          refine ⟨hS19.drop1, ?_⟩
          refine g_one 5 (by decide +kernel) (by decide +kernel) ?_
          refine o_exv rfl (x_alloc (C := ((List.replicate 64 (0 : UInt8)).map b8)) hS19 ti22 rfl) rfl ?_
          rintro _ w20 ⟨b4, rfl, hS21⟩
          refine ⟨hS21.drop1.drop1, ?_⟩
          refine g_tail (by decide +kernel) rfl (by decide +kernel) ?_
          refine wl_exs (x_storeW [_] hS21 ti22 rfl rfl (by first | (simp [*]; done) | (simp [*] <;> omega) | omega) (by first | (simp [*]; done) | (simp [*] <;> omega) | omega) (by first | exact one_b8 _ | exact one_v32 _)) rfl ?_
          intro w22 hS23
          simp only [List.cons_append, List.nil_append] at hS23
          refine wl_exs (x_storeW [] hS23 ti22 rfl rfl (by first | (simp [*]; done) | (simp [*] <;> omega) | omega) (by first | (simp [*]; done) | (simp [*] <;> omega) | omega) (by first | exact one_b8 _ | exact one_v32 _)) rfl ?_
          intro w24 hS25
          simp only [List.cons_append, List.nil_append] at hS25
          refine wl_nil ?_
          refine c_then ?_
          exact ⟨_, rfl, ⟨b3, b4, rfl, rfl, hS25⟩, ⟨rfl, rfl, trivial⟩⟩
        · refine o_exv rfl (x_alloc (C := ((List.replicate 64 (0 : UInt8)).map b8)) hS17 ti22 rfl) rfl ?_
          rintro _ w26 ⟨b4, rfl, hS27⟩
          refine ⟨hS27.drop1, ?_⟩
          refine g_one 4 (by decide +kernel) (by decide +kernel) ?_
          refine o_exv rfl (x_alloc (C := ((List.replicate 64 (0 : UInt8)).map b8)) hS27 ti22 rfl) rfl ?_
          rintro _ w28 ⟨b3, rfl, hS29⟩
          refine ⟨hS29.drop1.drop1, ?_⟩
          refine g_tail (by decide +kernel) rfl (by decide +kernel) ?_
          refine wl_exs (x_storeW [] hS29 ti22 rfl rfl (by first | (simp [*]; done) | (simp [*] <;> omega) | omega) (by first | (simp [*]; done) | (simp [*] <;> omega) | omega) (by first | exact one_b8 _ | exact one_v32 _)) rfl ?_
          intro w30 hS31
          simp only [List.cons_append, List.nil_append] at hS31
          refine wl_exs (x_storeW [_] hS31 ti22 rfl rfl (by first | (simp [*]; done) | (simp [*] <;> omega) | omega) (by first | (simp [*]; done) | (simp [*] <;> omega) | omega) (by first | exact one_b8 _ | exact one_v32 _)) rfl ?_
          intro w32 hS33
          simp only [List.cons_append, List.nil_append] at hS33
          refine wl_nil ?_
          refine c_then ?_
          exact ⟨_, rfl, ⟨b3, b4, rfl, rfl, (hS33.perm ((List.Perm.cons _ (List.Perm.refl _)).trans (List.perm_middle (l₁ := [_])).symm))⟩, ⟨rfl, rfl, trivial⟩⟩
      · refine o_exv rfl (x_alloc (C := ((List.replicate 64 (0 : UInt8)).map b8)) hS14 ti22 rfl) rfl ?_
        rintro _ w34 ⟨b3, rfl, hS35⟩
        refine ⟨hS35.drop1, ?_⟩
        refine g_all (rs := [3, 5]) (by decide +kernel) (by decide +kernel) rfl ?_
        simp only [List.forall_mem_cons, List.not_mem_nil, false_imp_iff, implies_true, and_true]
        refine ⟨?_, ?_⟩
        · refine o_call rfl (r_call fn17 rfl rfl) rfl (unstir_ok _ _ (by first | (simp [*]; done) | (simp [*] <;> omega) | omega)) ?_
          rintro _ w36 ⟨rfl, hx37⟩
          have hS38 := hS35.ext hx37
          refine ⟨hS38.drop1, ?_⟩
          refine g_one 5 (by decide +kernel) (by decide +kernel) ?_
          refine o_exv rfl (x_alloc (C := ((List.replicate 64 (0 : UInt8)).map b8)) hS38 ti22 rfl) rfl ?_
          rintro _ w39 ⟨b4, rfl, hS40⟩
          refine ⟨hS40.drop1.drop1, ?_⟩
          refine g_tail (by decide +kernel) rfl (by decide +kernel) ?_
          refine wl_exs (x_storeW [_] hS40 ti22 rfl rfl (by first | (simp [*]; done) | (simp [*] <;> omega) | omega) (by first | (simp [*]; done) | (simp [*] <;> omega) | omega) (by first | exact one_b8 _ | exact one_v32 _)) rfl ?_
          intro w41 hS42
          simp only [List.cons_append, List.nil_append] at hS42
          refine wl_exs (x_storeW [] hS42 ti22 rfl rfl (by first | (simp [*]; done) | (simp [*] <;> omega) | omega) (by first | (simp [*]; done) | (simp [*] <;> omega) | omega) (by first | exact one_b8 _ | exact one_v32 _)) rfl ?_
          intro w43 hS44
          simp only [List.cons_append, List.nil_append] at hS44
          refine wl_nil ?_
          refine c_then ?_
          exact ⟨_, rfl, ⟨b3, b4, rfl, rfl, hS44⟩, ⟨rfl, rfl, trivial⟩⟩
        · refine o_exv rfl (x_alloc (C := ((List.replicate 64 (0 : UInt8)).map b8)) hS35 ti22 rfl) rfl ?_
          rintro _ w45 ⟨b4, rfl, hS46⟩
          refine ⟨hS46.drop1.drop1, ?_⟩
          refine g_one 3 (by decide +kernel) (by decide +kernel) ?_
          refine o_call rfl (r_call fn17 rfl rfl) rfl (unstir_ok _ _ (by first | (simp [*]; done) | (simp [*] <;> omega) | omega)) ?_
          rintro _ w47 ⟨rfl, hx48⟩
          have hS49 := hS46.ext hx48
          refine ⟨hS49.drop1.drop1, ?_⟩
          refine g_tail (by decide +kernel) rfl (by decide +kernel) ?_
          refine wl_exs (x_storeW [_] hS49 ti22 rfl rfl (by first | (simp [*]; done) | (simp [*] <;> omega) | omega) (by first | (simp [*]; done) | (simp [*] <;> omega) | omega) (by first | exact one_b8 _ | exact one_v32 _)) rfl ?_
          intro w50 hS51
          simp only [List.cons_append, List.nil_append] at hS51
          refine wl_exs (x_storeW [] hS51 ti22 rfl rfl (by first | (simp [*]; done) | (simp [*] <;> omega) | omega) (by first | (simp [*]; done) | (simp [*] <;> omega) | omega) (by first | exact one_b8 _ | exact one_v32 _)) rfl ?_
          intro w52 hS53
          simp only [List.cons_append, List.nil_append] at hS53
          refine wl_nil ?_
          refine c_then ?_
          exact ⟨_, rfl, ⟨b3, b4, rfl, rfl, hS53⟩, ⟨rfl, rfl, trivial⟩⟩
      · refine o_exv rfl (x_alloc (C := ((List.replicate 64 (0 : UInt8)).map b8)) hS14 ti22 rfl) rfl ?_
        rintro _ w54 ⟨b4, rfl, hS55⟩
        refine ⟨hS55.drop1, ?_⟩
        refine g_all (rs := [3, 4]) (by decide +kernel) (by decide +kernel) rfl ?_
        simp only [List.forall_mem_cons, List.not_mem_nil, false_imp_iff, implies_true, and_true]
        refine ⟨?_, ?_⟩
        · refine o_call rfl (r_call fn17 rfl rfl) rfl (unstir_ok _ _ (by first | (simp [*]; done) | (simp [*] <;> omega) | omega)) ?_
          rintro _ w56 ⟨rfl, hx57⟩
          have hS58 := hS55.ext hx57
          refine ⟨hS58.drop1, ?_⟩
          refine g_one 4 (by decide +kernel) (by decide +kernel) ?_
          refine o_exv rfl (x_alloc (C := ((List.replicate 64 (0 : UInt8)).map b8)) hS58 ti22 rfl) rfl ?_
          rintro _ w59 ⟨b3, rfl, hS60⟩
          refine ⟨hS60.drop1.drop1, ?_⟩
          refine g_tail (by decide +kernel) rfl (by decide +kernel) ?_
          refine wl_exs (x_storeW [] hS60 ti22 rfl rfl (by first | (simp [*]; done) | (simp [*] <;> omega) | omega) (by first | (simp [*]; done) | (simp [*] <;> omega) | omega) (by first | exact one_b8 _ | exact one_v32 _)) rfl ?_
          intro w61 hS62
          simp only [List.cons_append, List.nil_append] at hS62
          refine wl_exs (x_storeW [_] hS62 ti22 rfl rfl (by first | (simp [*]; done) | (simp [*] <;> omega) | omega) (by first | (simp [*]; done) | (simp [*] <;> omega) | omega) (by first | exact one_b8 _ | exact one_v32 _)) rfl ?_
          intro w63 hS64
          simp only [List.cons_append, List.nil_append] at hS64
          refine wl_nil ?_
          refine c_then ?_
          exact ⟨_, rfl, ⟨b3, b4, rfl, rfl, (hS64.perm ((List.Perm.cons _ (List.Perm.refl _)).trans (List.perm_middle (l₁ := [_])).symm))⟩, ⟨rfl, rfl, trivial⟩⟩
        · refine o_exv rfl (x_alloc (C := ((List.replicate 64 (0 : UInt8)).map b8)) hS55 ti22 rfl) rfl ?_
          rintro _ w65 ⟨b3, rfl, hS66⟩
          refine ⟨hS66.drop1.drop1, ?_⟩
          refine g_one 3 (by decide +kernel) (by decide +kernel) ?_
          refine o_call rfl (r_call fn17 rfl rfl) rfl (unstir_ok _ _ (by first | (simp [*]; done) | (simp [*] <;> omega) | omega)) ?_
          rintro _ w67 ⟨rfl, hx68⟩
          have hS69 := hS66.ext hx68
          refine ⟨hS69.drop1.drop1, ?_⟩
          refine g_tail (by decide +kernel) rfl (by decide +kernel) ?_
          refine wl_exs (x_storeW [] hS69 ti22 rfl rfl (by first | (simp [*]; done) | (simp [*] <;> omega) | omega) (by first | (simp [*]; done) | (simp [*] <;> omega) | omega) (by first | exact one_b8 _ | exact one_v32 _)) rfl ?_
          intro w70 hS71
          simp only [List.cons_append, List.nil_append] at hS71
          refine wl_exs (x_storeW [_] hS71 ti22 rfl rfl (by first | (simp [*]; done) | (simp [*] <;> omega) | omega) (by first | (simp [*]; done) | (simp [*] <;> omega) | omega) (by first | exact one_b8 _ | exact one_v32 _)) rfl ?_
          intro w72 hS73
          simp only [List.cons_append, List.nil_append] at hS73
          refine wl_nil ?_
          refine c_then ?_
          exact ⟨_, rfl, ⟨b3, b4, rfl, rfl, (hS73.perm ((List.Perm.cons _ (List.Perm.refl _)).trans (List.perm_middle (l₁ := [_])).symm))⟩, ⟨rfl, rfl, trivial⟩⟩
    · refine o_exv rfl (x_alloc (C := ((List.replicate 64 (0 : UInt8)).map b8)) hS11 ti22 rfl) rfl ?_
      rintro _ w74 ⟨b3, rfl, hS75⟩
      refine ⟨hS75.drop1, ?_⟩
      refine g_all (rs := [1, 5]) (by decide +kernel) (by decide +kernel) rfl ?_
      simp only [List.forall_mem_cons, List.not_mem_nil, false_imp_iff, implies_true, and_true]
      refine ⟨?_, ?_⟩
      · refine o_call rfl (r_call fn16 rfl rfl) rfl (stir_ok _ _ (by first | (simp [*]; done) | (simp [*] <;> omega) | omega)) ?_
        rintro _ w76 ⟨rfl, hx77⟩
        have hS78 := hS75.ext hx77
        refine ⟨hS78.drop1, ?_⟩
        refine g_all (rs := [3, 5]) (by decide +kernel) (by decide +kernel) rfl ?_
        simp only [List.forall_mem_cons, List.not_mem_nil, false_imp_iff, implies_true, and_true]
        refine ⟨?_, ?_⟩
        · refine o_call rfl (r_call fn17 rfl rfl) rfl (unstir_ok _ _ (by first | (simp [*]; done) | (simp [*] <;> omega) | omega)) ?_
          rintro _ w79 ⟨rfl, hx80⟩
          have hS81 := hS78.ext hx80
          refine ⟨hS81.drop1, ?_⟩
          refine g_one 5 (by decide +kernel) (by decide +kernel) ?_
          refine o_exv rfl (x_alloc (C := ((List.replicate 64 (0 : UInt8)).map b8)) hS81 ti22 rfl) rfl ?_
          rintro _ w82 ⟨b4, rfl, hS83⟩
          refine ⟨hS83.drop1.drop1, ?_⟩
          refine g_tail (by decide +kernel) rfl (by decide +kernel) ?_
          refine wl_exs (x_storeW [_] hS83 ti22 rfl rfl (by first | (simp [*]; done) | (simp [*] <;> omega) | omega) (by first | (simp [*]; done) | (simp [*] <;> omega) | omega) (by first | exact one_b8 _ | exact one_v32 _)) rfl ?_
          intro w84 hS85
          simp only [List.cons_append, List.nil_append] at hS85
          refine wl_exs (x_storeW [] hS85 ti22 rfl rfl (by first | (simp [*]; done) | (simp [*] <;> omega) | omega) (by first | (simp [*]; done) | (simp [*] <;> omega) | omega) (by first | exact one_b8 _ | exact one_v32 _)) rfl ?_
          intro w86 hS87
          simp only [List.cons_append, List.nil_append] at hS87
          refine wl_nil ?_
          refine c_then ?_
          exact ⟨_, rfl, ⟨b3, b4, rfl, rfl, hS87⟩, ⟨rfl, rfl, trivial⟩⟩
        · refine o_exv rfl (x_alloc (C := ((List.replicate 64 (0 : UInt8)).map b8)) hS78 ti22 rfl) rfl ?_
          rintro _ w88 ⟨b4, rfl, hS89⟩
          refine ⟨hS89.drop1.drop1, ?_⟩
          refine g_one 3 (by decide +kernel) (by decide +kernel) ?_
          refine o_call rfl (r_call fn17 rfl rfl) rfl (unstir_ok _ _ (by first | (simp [*]; done) | (simp [*] <;> omega) | omega)) ?_
          rintro _ w90 ⟨rfl, hx91⟩
          have hS92 := hS89.ext hx91
          refine ⟨hS92.drop1.drop1, ?_⟩
          refine g_tail (by decide +kernel) rfl (by decide +kernel) ?_
          refine wl_exs (x_storeW [_] hS92 ti22 rfl rfl (by first | (simp [*]; done) | (simp [*] <;> omega) | omega) (by first | (simp [*]; done) | (simp [*] <;> omega) | omega) (by first | exact one_b8 _ | exact one_v32 _)) rfl ?_
          intro w93 hS94
          simp only [List.cons_append, List.nil_append] at hS94
          refine wl_exs (x_storeW [] hS94 ti22 rfl rfl (by first | (simp [*]; done) | (simp [*] <;> omega) | omega) (by first | (simp [*]; done) | (simp [*] <;> omega) | omega) (by first | exact one_b8 _ | exact one_v32 _)) rfl ?_
          intro w95 hS96
          simp only [List.cons_append, List.nil_append] at hS96
          refine wl_nil ?_
          refine c_then ?_
          exact ⟨_, rfl, ⟨b3, b4, rfl, rfl, hS96⟩, ⟨rfl, rfl, trivial⟩⟩
      · refine o_exv rfl (x_alloc (C := ((List.replicate 64 (0 : UInt8)).map b8)) hS75 ti22 rfl) rfl ?_
        rintro _ w97 ⟨b4, rfl, hS98⟩
        refine ⟨hS98.drop1.drop1, ?_⟩
        refine g_one 1 (by decide +kernel) (by decide +kernel) ?_
        refine o_call rfl (r_call fn16 rfl rfl) rfl (stir_ok _ _ (by first | (simp [*]; done) | (simp [*] <;> omega) | omega)) ?_
        rintro _ w99 ⟨rfl, hx100⟩
        have hS101 := hS98.ext hx100
        refine ⟨hS101.drop1.drop1, ?_⟩
        refine g_one 3 (by decide +kernel) (by decide +kernel) ?_
        refine o_call rfl (r_call fn17 rfl rfl) rfl (unstir_ok _ _ (by first | (simp [*]; done) | (simp [*] <;> omega) | omega)) ?_
        rintro _ w102 ⟨rfl, hx103⟩
        have hS104 := hS101.ext hx103
        refine ⟨hS104.drop1.drop1, ?_⟩
        refine g_tail (by decide +kernel) rfl (by decide +kernel) ?_
        refine wl_exs (x_storeW [_] hS104 ti22 rfl rfl (by first | (simp [*]; done) | (simp [*] <;> omega) | omega) (by first | (simp [*]; done) | (simp [*] <;> omega) | omega) (by first | exact one_b8 _ | exact one_v32 _)) rfl ?_
        intro w105 hS106
        simp only [List.cons_append, List.nil_append] at hS106
        refine wl_exs (x_storeW [] hS106 ti22 rfl rfl (by first | (simp [*]; done) | (simp [*] <;> omega) | omega) (by first | (simp [*]; done) | (simp [*] <;> omega) | omega) (by first | exact one_b8 _ | exact one_v32 _)) rfl ?_
        intro w107 hS108
        simp only [List.cons_append, List.nil_append] at hS108
        refine wl_nil ?_
        refine c_then ?_
        exact ⟨_, rfl, ⟨b3, b4, rfl, rfl, hS108⟩, ⟨rfl, rfl, trivial⟩⟩
    · refine o_exv rfl (x_alloc (C := ((List.replicate 64 (0 : UInt8)).map b8)) hS11 ti22 rfl) rfl ?_
      rintro _ w109 ⟨b4, rfl, hS110⟩
      refine ⟨hS110.drop1, ?_⟩
      refine g_all (rs := [1, 4]) (by decide +kernel) (by decide +kernel) rfl ?_
      simp only [List.forall_mem_cons, List.not_mem_nil, false_imp_iff, implies_true, and_true]
      refine ⟨?_, ?_⟩
      · refine o_call rfl (r_call fn16 rfl rfl) rfl (stir_ok _ _ (by first | (simp [*]; done) | (simp [*] <;> omega) | omega)) ?_
        rintro _ w111 ⟨rfl, hx112⟩
        have hS113 := hS110.ext hx112
        refine ⟨hS113.drop1, ?_⟩
        refine g_all (rs := [3, 4]) (by decide +kernel) (by decide +kernel) rfl ?_
        simp only [List.forall_mem_cons, List.not_mem_nil, false_imp_iff, implies_true, and_true]
        refine ⟨?_, ?_⟩
        · refine o_call rfl (r_call fn17 rfl rfl) rfl (unstir_ok _ _ (by first | (simp [*]; done) | (simp [*] <;> omega) | omega)) ?_
          rintro _ w114 ⟨rfl, hx115⟩
          have hS116 := hS113.ext hx115
          refine ⟨hS116.drop1, ?_⟩
          refine g_one 4 (by decide +kernel) (by decide +kernel) ?_
          refine o_exv rfl (x_alloc (C := ((List.replicate 64 (0 : UInt8)).map b8)) hS116 ti22 rfl) rfl ?_
          rintro _ w117 ⟨b3, rfl, hS118⟩
          refine ⟨hS118.drop1.drop1, ?_⟩
          refine g_tail (by decide +kernel) rfl (by decide +kernel) ?_
          refine wl_exs (x_storeW [] hS118 ti22 rfl rfl (by first | (simp [*]; done) | (simp [*] <;> omega) | omega) (by first | (simp [*]; done) | (simp [*] <;> omega) | omega) (by first | exact one_b8 _ | exact one_v32 _)) rfl ?_
          intro w119 hS120
          simp only [List.cons_append, List.nil_append] at hS120
          refine wl_exs (x_storeW [_] hS120 ti22 rfl rfl (by first | (simp [*]; done) | (simp [*] <;> omega) | omega) (by first | (simp [*]; done) | (simp [*] <;> omega) | omega) (by first | exact one_b8 _ | exact one_v32 _)) rfl ?_
          intro w121 hS122
          simp only [List.cons_append, List.nil_append] at hS122
          refine wl_nil ?_
          refine c_then ?_
          exact ⟨_, rfl, ⟨b3, b4, rfl, rfl, (hS122.perm ((List.Perm.cons _ (List.Perm.refl _)).trans (List.perm_middle (l₁ := [_])).symm))⟩, ⟨rfl, rfl, trivial⟩⟩
        · refine o_exv rfl (x_alloc (C := ((List.replicate 64 (0 : UInt8)).map b8)) hS113 ti22 rfl) rfl ?_
          rintro _ w123 ⟨b3, rfl, hS124⟩
          refine ⟨hS124.drop1.drop1, ?_⟩
          refine g_one 3 (by decide +kernel) (by decide +kernel) ?_
          refine o_call rfl (r_call fn17 rfl rfl) rfl (unstir_ok _ _ (by first | (simp [*]; done) | (simp [*] <;> omega) | omega)) ?_
          rintro _ w125 ⟨rfl, hx126⟩
          have hS127 := hS124.ext hx126
          refine ⟨hS127.drop1.drop1, ?_⟩
          refine g_tail (by decide +kernel) rfl (by decide +kernel) ?_
          refine wl_exs (x_storeW [] hS127 ti22 rfl rfl (by first | (simp [*]; done) | (simp [*] <;> omega) | omega) (by first | (simp [*]; done) | (simp [*] <;> omega) | omega) (by first | exact one_b8 _ | exact one_v32 _)) rfl ?_
          intro w128 hS129
          simp only [List.cons_append, List.nil_append] at hS129
          refine wl_exs (x_storeW [_] hS129 ti22 rfl rfl (by first | (simp [*]; done) | (simp [*] <;> omega) | omega) (by first | (simp [*]; done) | (simp [*] <;> omega) | omega) (by first | exact one_b8 _ | exact one_v32 _)) rfl ?_
          intro w130 hS131
          simp only [List.cons_append, List.nil_append] at hS131
          refine wl_nil ?_
          refine c_then ?_
          exact ⟨_, rfl, ⟨b3, b4, rfl, rfl, (hS131.perm ((List.Perm.cons _ (List.Perm.refl _)).trans (List.perm_middle (l₁ := [_])).symm))⟩, ⟨rfl, rfl, trivial⟩⟩
      · refine o_exv rfl (x_alloc (C := ((List.replicate 64 (0 : UInt8)).map b8)) hS110 ti22 rfl) rfl ?_
        rintro _ w132 ⟨b3, rfl, hS133⟩
        refine ⟨hS133.drop1.drop1, ?_⟩
        refine g_one 1 (by decide +kernel) (by decide +kernel) ?_
        refine o_call rfl (r_call fn16 rfl rfl) rfl (stir_ok _ _ (by first | (simp [*]; done) | (simp [*] <;> omega) | omega)) ?_
        rintro _ w134 ⟨rfl, hx135⟩
        have hS136 := hS133.ext hx135
        refine ⟨hS136.drop1.drop1, ?_⟩
        refine g_one 3 (by decide +kernel) (by decide +kernel) ?_
        refine o_call rfl (r_call fn17 rfl rfl) rfl (unstir_ok _ _ (by first | (simp [*]; done) | (simp [*] <;> omega) | omega)) ?_
        rintro _ w137 ⟨rfl, hx138⟩
        have hS139 := hS136.ext hx138
        refine ⟨hS139.drop1.drop1, ?_⟩
        refine g_tail (by decide +kernel) rfl (by decide +kernel) ?_
        refine wl_exs (x_storeW [] hS139 ti22 rfl rfl (by first | (simp [*]; done) | (simp [*] <;> omega) | omega) (by first | (simp [*]; done) | (simp [*] <;> omega) | omega) (by first | exact one_b8 _ | exact one_v32 _)) rfl ?_
        intro w140 hS141
        simp only [List.cons_append, List.nil_append] at hS141
        refine wl_exs (x_storeW [_] hS141 ti22 rfl rfl (by first | (simp [*]; done) | (simp [*] <;> omega) | omega) (by first | (simp [*]; done) | (simp [*] <;> omega) | omega) (by first | exact one_b8 _ | exact one_v32 _)) rfl ?_
        intro w142 hS143
        simp only [List.cons_append, List.nil_append] at hS143
        refine wl_nil ?_
        refine c_then ?_
        exact ⟨_, rfl, ⟨b3, b4, rfl, rfl, (hS143.perm ((List.Perm.cons _ (List.Perm.refl _)).trans (List.perm_middle (l₁ := [_])).symm))⟩, ⟨rfl, rfl, trivial⟩⟩
  · rintro e6 w7 ⟨b3, b4, hc9_3, hc9_4, hS8⟩ -
    refine c_set (d := 3) hc9_3 ?_
    refine c_set (d := 4) hc9_4 ?_
    refine c_seq ?_
    refine c_drawS 20 hMixed hS8 ?_
    intro w144 hS145
    refine g_take 0 rfl (by decide +kernel) rfl (fun _ _ _ h => h) hS145 (fun wF hF => r_loadB ti22 rfl rfl (hF.heap (.tail _ (.head _))) (by first | (simp [*]; done) | (simp [*] <;> omega) | omega)) ?_
    refine g_take 1 rfl (by decide +kernel) rfl (fun _ _ _ h => h) hS145 (fun wF hF => r_loadB ti22 rfl rfl (hF.heap (.tail _ (.tail _ (.head _)))) (by first | (simp [*]; done) | (simp [*] <;> omega) | omega)) ?_
    refine g_one 2 (by decide +kernel) (by decide +kernel) ?_
    refine o_call rfl (r_call fn18 rfl rfl) rfl (rstir_ok _ _ (by first | (simp [*]; done) | (simp [*] <;> omega) | omega)) ?_
    rintro _ w146 ⟨rfl, hx147⟩
    have hS148 := hS145.ext hx147
    refine ⟨hS148, ?_⟩
    refine g_dec_t 3 rfl (by decide +kernel) rfl (fun _ _ _ _ h => h) hS148 (fun wF hF => r_eqlA (u := undef) eg22 rfl rfl (eqIs_b8 ti22.und ti5 _ _ (by first | (simp [*]; done) | (simp [*] <;> omega) | omega) (by first | (simp [*]; done) | (simp [*] <;> omega) | omega))) rfl ?_
    refine g_take 4 rfl (by decide +kernel) rfl (fun _ _ _ h => h) hS148 (fun wF hF => r_move (v := .bool _) rfl) ?_
    refine g_take 5 rfl (by decide +kernel) rfl (fun _ _ _ h => h) hS148 (fun wF hF => r_loadB ti22 rfl rfl (hF.heap (.head _)) (by first | (simp [*]; done) | (simp [*] <;> omega) | omega)) ?_
    refine g_take 6 rfl (by decide +kernel) rfl (fun _ _ _ h => h) hS148 (fun wF hF => r_loadB ti22 rfl rfl (hF.heap (.tail _ (.tail _ (.head _)))) (by first | (simp [*]; done) | (simp [*] <;> omega) | omega)) ?_
    refine g_one 7 (by decide +kernel) (by decide +kernel) ?_
    refine o_call rfl (r_call fn19 rfl rfl) rfl (runstir_ok _ _ (by first | (simp [*]; done) | (simp [*] <;> omega) | omega)) ?_
    rintro _ w149 ⟨rfl, hx150⟩
    have hS151 := hS148.ext hx150
    refine ⟨hS151, ?_⟩
    refine g_dec_t 8 rfl (by decide +kernel) rfl (fun _ _ _ _ h => h) hS151 (fun wF hF => r_eqlA (u := undef) eg22 rfl rfl (eqIs_b8 ti22.und ti5 _ _ (by first | (simp [*]; done) | (simp [*] <;> omega) | omega) (by first | (simp [*]; done) | (simp [*] <;> omega) | omega))) rfl ?_
    refine g_take 9 rfl (by decide +kernel) rfl (fun _ _ _ h => h) hS151 (fun wF hF => r_pick_t rfl (v := .bool _) rfl) ?_
    refine g_take 10 rfl (by decide +kernel) rfl (fun _ _ _ h => h) hS151 (fun wF hF => r_move (v := .bool _) rfl) ?_
    refine g_take 11 rfl (by decide +kernel) rfl (fun _ _ _ h => h) hS151 (fun wF hF => r_loadB ti22 rfl rfl (hF.heap (.tail _ (.head _))) (by first | (simp [*]; done) | (simp [*] <;> omega) | omega)) ?_
    refine g_take 13 rfl (by decide +kernel) rfl (fun _ _ _ h => h) hS151 (fun wF hF => r_loadB ti22 rfl rfl (hF.heap (.tail _ (.tail _ (.head _)))) (by first | (simp [*]; done) | (simp [*] <;> omega) | omega)) ?_
    refine g_one 12 (by decide +kernel) (by decide +kernel) ?_
    refine o_call rfl (r_call fn17 rfl rfl) rfl (unstir_ok _ _ (by first | (simp [*]; done) | (simp [*] <;> omega) | omega)) ?_
    rintro _ w152 ⟨rfl, hx153⟩
    have hS154 := hS151.ext hx153
    refine ⟨hS154, ?_⟩
    refine g_dec_t 14 rfl (by decide +kernel) rfl (fun _ _ _ _ h => h) hS154 (fun wF hF => r_eqlA (u := undef) eg22 rfl rfl (eqIs_b8 ti22.und ti5 _ _ (by first | (simp [*]; done) | (simp [*] <;> omega) | omega) (by first | (simp [*]; done) | (simp [*] <;> omega) | omega))) (unstir_stir s hs) ?_
    refine g_take 15 rfl (by decide +kernel) rfl (fun _ _ _ h => h) hS154 (fun wF hF => r_pick_t rfl (v := .bool _) rfl) ?_
    refine g_take 16 rfl (by decide +kernel) rfl (fun _ _ _ h => h) hS154 (fun wF hF => r_move (v := .bool _) rfl) ?_
    refine g_take 17 rfl (by decide +kernel) rfl (fun _ _ _ h => h) hS154 (fun wF hF => r_loadB ti22 rfl rfl (hF.heap (.head _)) (by first | (simp [*]; done) | (simp [*] <;> omega) | omega)) ?_
    refine g_take 19 rfl (by decide +kernel) rfl (fun _ _ _ h => h) hS154 (fun wF hF => r_loadB ti22 rfl rfl (hF.heap (.tail _ (.tail _ (.head _)))) (by first | (simp [*]; done) | (simp [*] <;> omega) | omega)) ?_
    refine g_one 18 (by decide +kernel) (by decide +kernel) ?_
    refine o_call rfl (r_call fn16 rfl rfl) rfl (stir_ok _ _ (by first | (simp [*]; done) | (simp [*] <;> omega) | omega)) ?_
    rintro _ w155 ⟨rfl, hx156⟩
    have hS157 := hS154.ext hx156
    refine ⟨hS157, ?_⟩
    refine g_tail (by decide +kernel) rfl (by decide +kernel) ?_
    refine wl_dec_t (r_eqlA (u := undef) eg22 rfl rfl (eqIs_b8 ti22.und ti5 _ _ (by first | (simp [*]; done) | (simp [*] <;> omega) | omega) (by first | (simp [*]; done) | (simp [*] <;> omega) | omega))) rfl (stir_unstir s hs) ?_
    refine wl_val (r_pick_t rfl (v := .bool _) rfl) rfl ?_
    refine wl_val (r_assign (v := .bool _) rfl) rfl ?_
    refine wl_nil ?_
    refine c_then ?_
    refine wp_ret ?_
    refine ret1 Try.results3 ?_
    exact ⟨rfl, hS157.fin⟩


theorem own : ownKnob Try.prog.godebug = none := by kernel_rfl
theorem laidOut : laidOutB Try.prog = true := by kernel_rfl
theorem readable22 : Try.prog.readableRec 22 = true := by kernel_rfl
theorem inside22 : decide (22 < Try.prog.types.size) = true := by kernel_rfl
theorem lifted (os : Os) (started : os.Started) (H : Type) (enc : TypeId × Value → H) :
    ReturnsInHanded {} Try.checked os 3 .any (Rows.stirringMatchesSpec.pre6 enc Try.prog Try.f3 Rows.stirringMatchesRow.domain false) (Rows.stirringMatchesSpec.post enc Try.prog Try.f3 false true false false) := by
  refine returnsInHanded_of_change_sized (C := Try.checked) own started (by kernel_rfl) Try.func3
    (ChangeSpec.witness6 (enc := enc) (C := Try.checked) false ⟨#[], #[.agg ((List.replicate 64 (0 : UInt8)).map b8).toArray], []⟩ 8 (by kernel_rfl) (by kernel_rfl) (by kernel_rfl) (by kernel_rfl)) ?_
  intro W base args ds gs before hval0 hW hcnd hsz0 _
  have hval : ∀ (j : Nat) t v, Try.f3.params[j]? = some t → args[j]? = some v → Value.okWide Try.prog W .any base t v := hval0
  have hW' := hW
  obtain ⟨p, q, hA0, hV, rfl, hfz, hnd⟩ := hW
  have hA : DataW.TrodAll enc Try.prog W 0 (fun _ => true) true Try.f3.params.toList args.toList ds p := hA0
  have hsz : (DataW.weightsEach Try.prog (Try.f3.params.toList ++ Rows.stirringMatchesSpec.plain.varTypes Try.prog) (ds ++ gs)).all (· ≤ reachBytes) = true := hsz0
  rw [Try.params3] at hA hval hsz
  obtain ⟨v0, vs0, d0, ds0, p0, q0, hargs, rfl, rfl, h0, r0⟩ := trodAll_cons hA
  obtain ⟨rfl, rfl, rfl⟩ := trodAll_nil r0
  obtain rfl : args = #[v0] := by cases args; simp_all
  obtain ⟨rfl, rfl⟩ := trodVars_none hV
  have lt0 : ∀ x ∈ p0, x.block < W.heap.size := by obtain ⟨m, hm⟩ := h0; exact DataW.trod_lt m _ _ _ hm
  have ok0 := hval 0 22 v0 rfl rfl
  obtain ⟨s, ls, rfl⟩ := open_bytesA Try.underlying22 Try.underlying5 (by kernel_rfl) (by kernel_rfl) ok0 h0
  refine Calls.mono (walk s W ls) fun e W' ⟨v, he, hv, hs⟩ => ?_
  subst hv; subst he
  have bel := hs.below
  exact ⟨_, rfl, _, _, _, [], _, [], hW', trodAll_mk1 (shut_bool Try.underlying4 _), (trodAll_cons_mk (Below.trod laidOut readable22 (of_decide_eq_true inside22) h0 bel lt0) trodAll_mk0), rfl, bel.frame _, fun h => by cases h⟩
theorem over : Rows.stirringMatchesRow.holds Try.pinned (OpenSpec.ofChange Rows.stirringMatchesSpec) :=
  OpenClaim.holds_of_wide 3 Try.f3 rfl rfl rfl rfl rfl rfl rfl ⟨rfl, rfl, rfl, rfl, rfl⟩ rfl rfl rfl rfl rfl (by kernel_rfl) Try.func3 (by kernel_rfl)
    (of_decide_eq_true (by kernel_rfl)) (by unfold Func.isWrapper; rw [if_neg (of_decide_eq_false (by kernel_rfl))]; exact ⟨rfl, rfl⟩)
    (fun os started H enc _ => lifted os started H enc)
theorem proved : Rows.StirringMatchesSaid := over
#print axioms proved
end Go.Proofs.Ytcadjopdjpgomaa.lawStirringMatches
