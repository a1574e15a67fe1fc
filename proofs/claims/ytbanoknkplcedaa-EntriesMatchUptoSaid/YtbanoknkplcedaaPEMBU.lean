/- What the law's proof leans on. No condition. -/
import Derived.Test.YtbanoknkplcedaaPEMAH
import Derived.Test.YtbanoknkplcedaaPEMBT
import Derived.Test.YtbanoknkplcedaaPEMBK
section
namespace Go.Proofs.Ytbanoknkplcedaa
open Go.Kw
set_option linter.unusedVariables false
set_option linter.unusedSimpArgs false
set_option maxRecDepth 100000
set_option maxHeartbeats 4000000 in
theorem sameEntry_ok (x y : EntD) (w : World) (hx : EntOk x) (hbo : Row w x.ba (x.e.bo.map b8)) (hy : EntOk y) (hbo2 : Row w y.ba (y.e.bo.map b8)) :
    Ret Try.prog 17 [.agg x.v.toArray, .agg y.v.toArray] w (fun v w' => (x.e = y.e ∧ v = .bool true ∧ St w [] w' []) ∨ (¬ x.e = y.e ∧ v = .bool false ∧ St w [] w' [])) := by
  have hxl := ent_len hx
  have hac := hx.e.ac
  have hky := hx.e.ky
  have hpv := hx.e.pv
  have hxl2 := ent_len hy
  have hac2 := hy.e.ac
  have hky2 := hy.e.ky
  have hpv2 := hy.e.pv
  refine enter Try.func17 rfl Try.ntmps17 rfl ?_
  have hS := St.refl w []
  refine c_seq ?_; refine c_region ?_; refine wl_exv (x_box hS (v := .agg _) rfl rfl) rfl ?_; rintro _ w1 ⟨b2, rfl, hS2⟩; refine wl_exv (x_box hS2 (v := .agg _) rfl rfl) rfl ?_; rintro _ w3 ⟨b3, rfl, hS4⟩; refine wl_val (r_assign (v := .bool false) rfl) rfl ?_; refine wl_nil ?_; refine c_then ?_; refine c_seq ?_; refine c_region ?_; refine wl_val (r_field fa41_0 rfl) rfl ?_; refine wl_val (r_loadB1 ti3.und rfl rfl (hS4.heap (.tail _ (.head _))) ent_nr) rfl ?_; refine wl_val (r_field fa41_0 rfl) rfl ?_; refine wl_val (r_loadB1 ti3.und rfl rfl (hS4.heap (.head _)) ent_nr) rfl ?_
  refine wl_dec (r_eql rfl rfl) rfl (fun h1_4 => ?_) (fun h1_4 => ?_)
  · refine wl_val (r_move (v := .bool _) rfl) rfl ?_
    refine wl_val (r_field fa41_1 rfl) rfl ?_; refine wl_val (r_loadB1 ti3.und rfl rfl (hS4.heap (.tail _ (.head _))) ent_tm) rfl ?_; refine wl_val (r_field fa41_1 rfl) rfl ?_; refine wl_val (r_loadB1 ti3.und rfl rfl (hS4.heap (.head _)) ent_tm) rfl ?_
    refine wl_dec (r_eql rfl rfl) rfl (fun h1_10 => ?_) (fun h1_10 => ?_)
    · refine wl_run 2 rfl ?_
      refine wl_val (r_field fa41_2 rfl) rfl ?_; refine wl_val (r_loadB1 ti3.und rfl rfl (hS4.heap (.tail _ (.head _))) ent_act) rfl ?_; refine wl_val (r_field fa41_2 rfl) rfl ?_; refine wl_val (r_loadB1 ti3.und rfl rfl (hS4.heap (.head _)) ent_act) rfl ?_
      refine wl_dec (r_eql rfl rfl) rfl (fun h1_17 => ?_) (fun h1_17 => ?_)
      · refine wl_run 2 rfl ?_
        refine wl_val (r_field fa41_3 rfl) rfl ?_; refine wl_val (r_loadA (cs := x.e.ac.map b8) (by rw [List.length_map, hac]; exact ti23) rfl rfl (ent_at3 (hS4.heap (.tail _ (.head _))) hx)) rfl ?_; refine wl_val (r_field fa41_3 rfl) rfl ?_; refine wl_val (r_loadA (cs := y.e.ac.map b8) (by rw [List.length_map, hac2]; exact ti23) rfl rfl (ent_at3 (hS4.heap (.head _)) hy)) rfl ?_
        refine wl_dec (r_eqlA (u := undef) eg23 rfl rfl (eqIs_b8 ti23.und ti5 _ _ hac hac2)) rfl (fun h1_24 => ?_) (fun h1_24 => ?_)
        · refine wl_run 2 rfl ?_
          refine wl_val (r_field fa41_4 rfl) rfl ?_; refine wl_val (r_loadA (cs := x.e.ky.map b8) (by rw [List.length_map, hky]; exact ti23) rfl rfl (ent_at19 (hS4.heap (.tail _ (.head _))) hx)) rfl ?_; refine wl_val (r_field fa41_4 rfl) rfl ?_; refine wl_val (r_loadA (cs := y.e.ky.map b8) (by rw [List.length_map, hky2]; exact ti23) rfl rfl (ent_at19 (hS4.heap (.head _)) hy)) rfl ?_
          refine wl_dec (r_eqlA (u := undef) eg23 rfl rfl (eqIs_b8 ti23.und ti5 _ _ hky hky2)) rfl (fun h1_31 => ?_) (fun h1_31 => ?_)
          · refine wl_run 2 rfl ?_
            refine wl_val (r_field fa41_5 rfl) rfl ?_; refine wl_val (r_loadA (cs := x.e.pv.map b8) (by rw [List.length_map, hpv]; exact ti26) rfl rfl (ent_at35 (hS4.heap (.tail _ (.head _))) hx)) rfl ?_; refine wl_val (r_field fa41_5 rfl) rfl ?_; refine wl_val (r_loadA (cs := y.e.pv.map b8) (by rw [List.length_map, hpv2]; exact ti26) rfl rfl (ent_at35 (hS4.heap (.head _)) hy)) rfl ?_
            refine wl_dec (r_eqlA (u := undef) eg26 rfl rfl (eqIs_b8 ti26.und ti5 _ _ hpv hpv2)) rfl (fun h1_38 => ?_) (fun h1_38 => ?_)
            · refine wl_run 2 rfl ?_
              refine wl_val (r_field fa41_6 rfl) rfl ?_; refine wl_val (r_loadB1 ti30.und rfl rfl (hS4.heap (.tail _ (.head _))) (ent_bo hx)) rfl ?_; refine wl_val (r_field fa41_6 rfl) rfl ?_; refine wl_val (r_loadB1 ti30.und rfl rfl (hS4.heap (.head _)) (ent_bo hy)) rfl ?_; refine wl_call (r_call fn9 rfl rfl) rfl ((bytesEq_ok x.e.bo y.e.bo _ _ _ _ _ _ _ (hbo.st hS4) (hbo2.st hS4) rfl rfl).mono fun v w' h => dbr h) ?_
              rintro _ w5 (⟨heB, rfl, hx6⟩ | ⟨heB, rfl, hx6⟩)
              · have hS7 := hS4.ext hx6
                refine wl_run 2 rfl ?_; refine wl_nil ?_; refine c_then ?_; refine wp_ret ?_; refine ret1 Try.results17 ?_
                exact .inl ⟨ev_same h1_4 h1_10 h1_17 h1_24 h1_31 h1_38 heB, rfl, hS7.fin⟩
              have hS7 := hS4.ext hx6
              refine wl_run 2 rfl ?_; refine wl_nil ?_; refine c_then ?_; refine wp_ret ?_; refine ret1 Try.results17 ?_
              exact .inr ⟨fun h => heB (congrArg EV.bo h), rfl, hS7.fin⟩
            refine wl_run 9 rfl ?_; refine wl_nil ?_; refine c_then ?_; refine wp_ret ?_; refine ret1 Try.results17 ?_
            exact .inr ⟨fun h => h1_38 (congrArg EV.pv h), rfl, hS4.fin⟩
          refine wl_run 3 rfl ?_; refine wl_not rfl ?_; refine wl_not rfl ?_; refine wl_not rfl ?_; refine wl_run 10 rfl ?_; refine wl_nil ?_; refine c_then ?_; refine wp_ret ?_; refine ret1 Try.results17 ?_
          exact .inr ⟨fun h => h1_31 (congrArg EV.ky h), rfl, hS4.fin⟩
        refine wl_run 3 rfl ?_; refine wl_not rfl ?_; refine wl_not rfl ?_; refine wl_not rfl ?_; refine wl_run 4 rfl ?_; refine wl_not rfl ?_; refine wl_not rfl ?_; refine wl_not rfl ?_; refine wl_run 10 rfl ?_; refine wl_nil ?_; refine c_then ?_; refine wp_ret ?_; refine ret1 Try.results17 ?_
        exact .inr ⟨fun h => h1_24 (congrArg EV.ac h), rfl, hS4.fin⟩
      refine wl_run 3 rfl ?_; refine wl_not rfl ?_; refine wl_not rfl ?_; refine wl_not rfl ?_; refine wl_run 4 rfl ?_; refine wl_not rfl ?_; refine wl_not rfl ?_; refine wl_not rfl ?_; refine wl_run 4 rfl ?_; refine wl_not rfl ?_; refine wl_not rfl ?_; refine wl_not rfl ?_; refine wl_run 10 rfl ?_; refine wl_nil ?_; refine c_then ?_; refine wp_ret ?_; refine ret1 Try.results17 ?_
      exact .inr ⟨fun h => h1_17 (congrArg EV.act h), rfl, hS4.fin⟩
    refine wl_run 10 rfl ?_; refine wl_not rfl ?_; refine wl_not rfl ?_; refine wl_not rfl ?_; refine wl_run 4 rfl ?_; refine wl_not rfl ?_; refine wl_not rfl ?_; refine wl_not rfl ?_; refine wl_run 4 rfl ?_; refine wl_not rfl ?_; refine wl_not rfl ?_; refine wl_not rfl ?_; refine wl_run 10 rfl ?_; refine wl_nil ?_; refine c_then ?_; refine wp_ret ?_; refine ret1 Try.results17 ?_
    exact .inr ⟨fun h => h1_10 (congrArg EV.tm h), rfl, hS4.fin⟩
  refine wl_run 16 rfl ?_; refine wl_not rfl ?_; refine wl_not rfl ?_; refine wl_not rfl ?_; refine wl_run 4 rfl ?_; refine wl_not rfl ?_; refine wl_not rfl ?_; refine wl_not rfl ?_; refine wl_run 4 rfl ?_; refine wl_not rfl ?_; refine wl_not rfl ?_; refine wl_not rfl ?_; refine wl_run 10 rfl ?_; refine wl_nil ?_; refine c_then ?_; refine wp_ret ?_; refine ret1 Try.results17 ?_
  exact .inr ⟨fun h => h1_4 (congrArg EV.nr h), rfl, hS4.fin⟩

theorem sameEntry_t (x y : EntD) (w : World) (hx : EntOk x) (hbo : Row w x.ba (x.e.bo.map b8)) (hy : EntOk y) (hbo2 : Row w y.ba (y.e.bo.map b8)) (h : x.e = y.e) :
    Ret Try.prog 17 [.agg x.v.toArray, .agg y.v.toArray] w (fun v w' => v = .bool true ∧ St w [] w' []) :=
  (sameEntry_ok x y w hx hbo hy hbo2).mono fun v w' hv => by
    rcases hv with ⟨_, hv, hS⟩ | ⟨hn, _⟩
    · exact ⟨hv, hS⟩
    · exact absurd h hn

end Go.Proofs.Ytbanoknkplcedaa
end
section
namespace Go.Proofs.Ytbanoknkplcedaa
open Go.Kw
set_option linter.unusedVariables false
set_option linter.unusedSimpArgs false
set_option maxRecDepth 100000
theorem concat3_ok (l1 l2 l3 : List UInt8) (a1 a2 a3 a : Option Addr) (n1 n2 n3 c1 c2 c3 c : Nat) (w : World) (hb : Row w a [.slice a1 n1 c1, .slice a2 n2 c2, .slice a3 n3 c3]) (h1 : Row w a1 (l1.map b8)) (h2 : Row w a2 (l2.map b8)) (h3 : Row w a3 (l3.map b8)) (e1 : l1.length = n1) (e2 : l2.length = n2) (e3 : l3.length = n3) (hm : n1 + n2 + n3 ≤ 140737488351232) :
    Ret Try.prog 21 [.slice a 3 c] w (fun v w' => ∃ a' c', v = .slice a' (n1 + n2 + n3) c' ∧ n1 + n2 + n3 ≤ c' ∧ St w [] w' [.row (.slice a' (n1 + n2 + n3) c') 5 1 (n1 + n2 + n3) ((l1 ++ (l2 ++ l3)).map b8)]) := by
  have et : total [⟨a1, c1, l1⟩, ⟨a2, c2, l2⟩, ⟨a3, c3, l3⟩] = n1 + n2 + n3 := by simp [total, e1, e2, e3]; omega
  have ej : joined [⟨a1, c1, l1⟩, ⟨a2, c2, l2⟩, ⟨a3, c3, l3⟩] = l1 ++ (l2 ++ l3) := by simp [joined]
  have h := concat_ok [⟨a1, c1, l1⟩, ⟨a2, c2, l2⟩, ⟨a3, c3, l3⟩] a c w (by simpa [Sl.v, e1, e2, e3] using hb) (by
    intro q hq
    simp only [List.mem_cons, List.not_mem_nil, or_false] at hq
    rcases hq with rfl | rfl | rfl
    · exact h1
    · exact h2
    · exact h3) (by simp) (by rw [et]; omega)
  refine h.mono ?_
  rw [et, ej]
  rintro v w' ⟨a', c', hv, hS⟩
  exact ⟨a', c', hv, (St.rowLen hS (.head _)).1, hS⟩
theorem parseEntry_back (e : EV) (s t : List UInt8) (a : Option Addr) (n c m : Nat) (w : World) (hb : Row w a ((s ++ (e.P ++ t)).map b8)) (hl : (s ++ (e.P ++ t)).length = n) (hc : n ≤ c) (hn : n ≤ 140737488351232) (hm : s.length = m) (h : EVok e) (hf : e.F = 0) :
    Ret Try.prog 15 [.slice a n c, vi m] w (fun v w' => ∃ y : EntD, v = .tuple #[.agg y.v.toArray, vi (m + e.P.length), vi 0] ∧ e = y.e ∧ EntOk y ∧ St w [] w' [.row (.slice y.ba y.e.bo.length y.bc) 5 1 y.e.bo.length (y.e.bo.map b8)]) := by
  subst hm
  have hs : s.length ≤ n := by rw [← hl, List.length_append]; omega
  obtain ⟨h1, h2, h3⟩ := ent_back (t := t) (s := s) h hf
  refine (parseEntry_ok _ a n c s.length w hb hl hc hn (by omega) (by omega)).mono fun v w' ⟨y, g1, g2, g3, g4⟩ => ?_
  rw [h1, h3] at g1
  rw [h2] at g2
  exact ⟨y, g1, g2.symm, g3, g4⟩

end Go.Proofs.Ytbanoknkplcedaa
end
