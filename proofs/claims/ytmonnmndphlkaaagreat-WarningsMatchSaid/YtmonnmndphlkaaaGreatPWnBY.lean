/- What the law's proof leans on. No condition. -/
import Derived.Test.YtmonnmndphlkaaaGreatPWnBW
import Derived.Test.YtmonnmndphlkaaaGreatPWnAT
import Derived.Test.YtmonnmndphlkaaaGreatPWnBS
namespace Go.Kw
set_option linter.unusedVariables false
set_option linter.unusedSimpArgs false
section
variable {P : Program} {ρ : Operand → Value} {w w0 : World} {M : List Nat} {L l1 l2 : List Item} {dst : Option Tmp} {ty : TypeId} {pos : String} {aft : Array Edge} {g : Option (Nat × Bool)} {x y z : Operand} {T T2 E I K : TypeId} {v : Value} {k : IntKind}
  {d dE dK : TypeDesc} {sz bts b o : Nat} {zv : Value} {a : Option Addr} {cs C : List Value}
/-- What is appended in place. -/
theorem x_appendIn {n m c q : Nat} {news : List Value} (l1 : List Item) {l2 : List Item} (hS : St w0 M w (l1 ++ .blk b (cl C E) :: l2)) (hT : P.underlying T = some (.slice E)) (hE : TI P E dE sz bts zv) (hsz : 0 < sz)
    (hx : ρ x = .slice (some ⟨b, 0, none⟩) n c) (hy : ρ y = .slice a m q) (hr : Row w a news) (hl : news.length = m * sz) (h1 : One news) (hroom : n + m ≤ c) (hC : C.length = c * sz) (args : Array Operand) (ha : args = #[x, y]) :
    ∃ u w', (execOp ρ ⟨dst, .call { callee := .builtin .append, args := args, argTypes := #[T, T] }, ty, pos, aft, g⟩).run P w = .ok (.value u) w' ∧
      u = .slice (some ⟨b, 0, none⟩) (n + m) c ∧ St w0 M w' (l1 ++ .blk b (cl (splice C (n * sz) news) E) :: l2) := by
  subst ha
  obtain ⟨i, hi, hs1, hs2, hs3⟩ := hE.info
  subst hs1; subst hs2
  have hg := hS.heap (b := b) (o := cl C E) (by simp)
  have fin : ∀ u w', (Builtin.append_ #[T, T] ty #[.slice (some ⟨b, 0, none⟩) n c, .slice a m q]).run P w = .ok u w' → (execOp ρ ⟨dst, .call { callee := .builtin .append, args := #[x, y], argTypes := #[T, T] }, ty, pos, aft, g⟩).run P w = .ok (.value u) w' := by
    intro u w' h
    simp [execOp, resolve, invoke, builtin, hx, hy, h]
  rcases Nat.eq_zero_or_pos m with hm | hm
  · subst hm
    have hn0 : news = [] := List.eq_nil_of_length_eq_zero (by simpa using hl)
    subst hn0
    refine ⟨_, w, fin (.slice (some ⟨b, 0, none⟩) n c) w ?_, rfl, ?_⟩
    · have hnc : n ≤ c := by omega
      cases a with
      | none => simp [Builtin.append_, run_underlying hT, sizeOf, typeInfo, hi, Builtin.lenOf, Builtin.firstCells, hnc, storeCells]
      | some q => simp [Builtin.append_, run_underlying hT, sizeOf, typeInfo, hi, Builtin.lenOf, Builtin.firstCells, loadCells, loadCellsFrom, hnc, storeCells]
    · have e : splice C (n * i.size) ([] : List Value) = C := by simp [splice]
      rw [e]; exact hS
  · have hpos : 0 < news.length := by rw [hl]; exact Nat.mul_pos hm hsz
    obtain ⟨bq, oq, ha, hA⟩ := hr.some_of hpos
    subst ha
    have hnews : ∀ j u, news[j]? = some u → w.cell? ((⟨bq, oq, none⟩ : Addr).add j) = some u := fun j u hu => by rw [add_lit]; exact hA j u hu
    have hfit : n * i.size + news.length ≤ C.toArray.size := by
      rw [hl, ← Nat.add_mul, List.size_toArray, hC]; exact Nat.mul_le_mul_right _ hroom
    have hrun := run_append_room (P := P) w T ty E i hT hi b n c C.toArray hg ⟨bq, oq, none⟩ m q news hl hnews h1 hroom hfit
    refine ⟨_, _, fin _ _ hrun, rfl, ?_⟩
    have := put_at (C' := splice C (n * i.size) news) hS
    simpa [splice] using this
theorem r_slZ2 {len cap m h' : Nat} (hT : P.underlying T = some (.slice E)) (hE : TI P E dE sz bts zv) (hx : ρ x = .slice (some ⟨b, 0, none⟩) len cap) (hy : ρ y = vi m) (hz : ρ z = vi h') (hm : m ≤ h') (hl : h' ≤ cap) (hc : m < cap) :
    (execOp ρ ⟨dst, .slice T x (some y) (some z) none, ty, pos, aft, g⟩).run P w = .ok (.value (.slice (some ⟨b, m * sz, none⟩) (h' - m) (cap - m))) w := by
  have h := r_sl_lh (w := w) (dst := dst) (ty := ty) (pos := pos) (aft := aft) (g := g) hT hE hx hy hz hm hl
  have e : sub (some ⟨b, 0, none⟩) cap m sz = some ⟨b, m * sz, none⟩ := by
    unfold sub
    rw [if_neg (by omega)]
    simp [add_lit]
  rwa [e] at h
end
theorem Row.ahead {w : World} {b : Nat} {xs D : List Value} {E : TypeId} {fr : Nat × Nat} (h : w.heap[b]? = some (.cells (xs ++ D).toArray E fr)) : Row w (some ⟨b, 0, none⟩) xs :=
  Row.of_at (at_of_heap h fun i v hv => by
    rw [Nat.zero_add, List.getElem?_append_left (List.getElem?_eq_some_iff.1 hv).1]
    exact hv)
theorem rule_lens {r : RuleD} (h : ruleE r = 0) : r.ro.length ≤ 16 ∧ r.acs.length ≤ 16 ∧ r.las.length ≤ 16 := by
  by_cases hc : 16 < r.ro.length ∨ 16 < r.acs.length ∨ 16 < r.las.length
  · rw [rule_1 hc] at h; cases h
  · omega
theorem erase_td {α : Type} (l : List α) (i : Nat) : l.take i ++ l.drop (i + 1) = l.eraseIdx i := (List.eraseIdx_eq_take_drop_succ l i).symm
theorem rflat_len (l : List RuleD) : (l.flatMap RuleD.v).length = l.length * 8 := flatM_len rule_v8 l
/-- A rule is taken out: what lies behind it is put over it. -/
theorem splice_rule {l : List RuleD} {D : List Value} {i : Nat} (hi : i < l.length) :
    ∃ D', splice (l.flatMap RuleD.v ++ D) (i * 8) ((l.drop (i + 1)).flatMap RuleD.v) = (l.eraseIdx i).flatMap RuleD.v ++ D' ∧ D'.length = D.length + 8 := by
  refine ⟨(l.flatMap RuleD.v ++ D).drop (i * 8 + ((l.drop (i + 1)).flatMap RuleD.v).length), ?_, ?_⟩
  · rw [splice]
    have e : (l.flatMap RuleD.v ++ D).take (i * 8) = (l.take i).flatMap RuleD.v := by
      have hl := rflat_len l
      rw [List.take_append_of_le_length (by omega), flat_take8]
    rw [e, ← erase_td, List.flatMap_append]
    simp only [List.append_assoc]
  · rw [List.length_drop, List.length_append, rflat_len, rflat_len, List.length_drop]
    omega
theorem RulesT.add {LT : List Item} {ls : List RuleD} {r : RuleD} {a1 a2 a3 : Option Addr} {n1 n2 n3 c1 c2 c3 : Nat} {E1 E2 E3 : TypeId} (h : RulesT LT ls) (hr : RuleOk (r.at a1 a2 a3 c1 c2 c3)) :
    RulesT (.row (.slice a1 n1 c1) E1 1 n1 (r.ro.map sv) :: .row (.slice a2 n2 c2) E2 1 n2 (r.acs.map iv) :: .row (.slice a3 n3 c3) E3 1 n3 (r.las.map sv) :: LT) (ls ++ [r.at a1 a2 a3 c1 c2 c3]) := fun W hW q hq => by
  rcases List.mem_append.1 hq with hq | hq
  · exact h W (hW.sub fun x hx => List.mem_cons_of_mem _ (List.mem_cons_of_mem _ (List.mem_cons_of_mem _ hx))) q hq
  · rw [List.mem_singleton.1 hq]
    exact ⟨hr, hW.row (.head _), hW.row (.tail _ (.head _)), hW.row (.tail _ (.tail _ (.head _)))⟩
theorem AsksT.more {LT LT' : List Item} {qs : List WA} (h : AsksT LT qs) (hs : ∀ x ∈ LT, x ∈ LT') : AsksT LT' qs := fun W hW => h W (hW.sub hs)
theorem nrm_snoc {ls rs : List RuleD} {k : Nat} {r : RuleD} (hk : k < rs.length) (h : ls.map nrm = (rs.take k).map nrm) (hr : nrm r = nrm (gt rs k)) : (ls ++ [r]).map nrm = (rs.take (k + 1)).map nrm := by
  rw [take_gt rs k hk, List.map_append, List.map_append, h, List.map_cons, List.map_cons, hr, List.map_nil]
theorem last_none {rs : List RuleD} {B : List BQ} {n : Nat} (h : ∀ i, 0 ≤ i → i < n → ¬ goW (kindW rs B i)) : LastK rs B n (-1) := .inl ⟨rfl, fun i hi => h i (Nat.zero_le _) hi⟩
theorem go_of {k : Nat} (h : 0 < k) (h2 : k ≤ 3) (h3 : ¬ (k : Int) = 3) : goW k := by unfold goW; omega
theorem go_no3 {k : Nat} (h3 : (k : Int) = 3) : ¬ goW k := by unfold goW; omega
theorem go_0 : ¬ goW 0 := by unfold goW; omega
theorem no_go {rs : List RuleD} {B : List BQ} {n m : Nat} (h : ∀ i, m + 1 ≤ i → i < n → ¬ goW (kindW rs B i)) (hm : ¬ goW (kindW rs B m)) : ∀ i, m ≤ i → i < n → ¬ goW (kindW rs B i) := fun i h1 h2 => by
  by_cases e : i = m
  · rw [e]; exact hm
  · exact h i (by omega) h2
theorem trim_step {B : List BQ} {ls : List RuleD} {m : Nat} {t : List RuleD} (h : LastK ls B ls.length (m : Int)) (h2 : TrimR B ((ls.eraseIdx m).map nrm) t) : TrimR B (ls.map nrm) t :=
  .step (by rw [List.length_map]; exact last_nrm.2 h) (by rw [erase_map]; exact h2)
theorem trim_done {B : List BQ} {ls : List RuleD} (h : LastK ls B ls.length (-1)) : TrimR B (ls.map nrm) (ls.map nrm) := .done (by rw [List.length_map]; exact last_nrm.2 h)
theorem nev_t {rs : List RuleD} {i : Nat} {qs : List WA} {B : List BQ} (hb : qs.map WA.b = B) (h : ∀ t, t < qs.length → meetE (gt rs i) (gt qs t).q = false) : neverW rs B i = true := by
  refine List.all_eq_true.2 fun b hm => ?_
  obtain ⟨t, ht, rfl⟩ := gt_idx hm
  rw [b_len hb] at ht
  rw [meet_at hb ht, h t ht]; rfl
theorem nev_e {rs : List RuleD} {i : Nat} {qs : List WA} {B : List BQ} (hb : qs.map WA.b = B) (h : ∃ t, t < qs.length ∧ meetE (gt rs i) (gt qs t).q = true) : neverW rs B i = false := by
  obtain ⟨t, ht, h⟩ := h
  exact nev_f hb ht h
theorem dea_t {rs : List RuleD} {i : Nat} {qs : List WA} {B : List BQ} (hb : qs.map WA.b = B) (h : ∀ t, t < qs.length → decB rs (gt qs t).b = decB (rs.eraseIdx i) (gt qs t).b) : deadW rs B i = true := by
  refine List.all_eq_true.2 fun b hm => ?_
  obtain ⟨t, ht, rfl⟩ := gt_idx hm
  rw [b_len hb] at ht
  exact decide_eq_true (by rw [← b_at hb ht]; exact h t ht)
theorem dea_e {rs : List RuleD} {i : Nat} {qs : List WA} {B : List BQ} (hb : qs.map WA.b = B) (h : ∃ t, t < qs.length ∧ ¬ decB rs (gt qs t).b = decB (rs.eraseIdx i) (gt qs t).b) : deadW rs B i = false := by
  obtain ⟨t, ht, h⟩ := h
  exact dea_f hb ht h
theorem rule_nd {r : RuleD} (h : ruleE r = 0) : 0 ≤ r.nd ∧ r.nd ≤ 16 := by
  unfold ruleE at h
  split at h
  · cases h
  · split at h
    · cases h
    · split at h
      · cases h
      · split at h
        · cases h
        · split at h
          · cases h
          · split at h
            · cases h
            · omega
/-- A row that lay there before, or lies in the items LT. -/
def RowT (w : World) (LT : List Item) (a : Option Addr) (xs : List Value) : Prop := ∀ W L', St w [] W L' → (∀ x ∈ LT, x ∈ L') → Row W a xs
theorem RowT.base {w : World} {LT : List Item} {a : Option Addr} {xs : List Value} (h : Row w a xs) : RowT w LT a xs := fun W L' hS _ => h.st hS
theorem RowT.own {w : World} {LT : List Item} {a : Option Addr} {n c sz : Nat} {E : TypeId} {xs : List Value} : RowT w (.row (.slice a n c) E sz n xs :: LT) a xs := fun W L' hS hs => hS.rowAt (hs _ (.head _))
theorem last_neg {rs : List RuleD} {B : List BQ} {n : Nat} {t : Int} (h : LastK rs B n t) (ht : t < 0) : t = -1 := by
  rcases h with ⟨h, _⟩ | ⟨j, h, _⟩
  · exact h
  · omega
/-- The row of a policy whose rules are those at hand, or that lies in the items LT. -/
def RowH (LT : List Item) (a : Option Addr) (xs : List Value) : Prop := ∀ W, Hold0 W LT → Row W a xs
theorem rowh {W : World} {LT : List Item} {rs ls : List RuleD} {a pa : Option Addr} (h : (ls = rs ∧ a = pa) ∨ RowH LT a (ls.flatMap RuleD.v)) (hr : Row W pa (rs.flatMap RuleD.v)) (hH : Hold0 W LT) : Row W a (ls.flatMap RuleD.v) := by
  rcases h with ⟨rfl, rfl⟩ | h
  · exact hr
  · exact h W hH
theorem RowH.own {LT : List Item} {a : Option Addr} {n c sz : Nat} {E : TypeId} {xs : List Value} : RowH (.row (.slice a n c) E sz n xs :: LT) a xs := fun W hW => hW.row (.head _)
theorem map_nrm_gt {xs ys : List RuleD} (h : xs.map nrm = ys.map nrm) {k : Nat} (hk : k < xs.length) : nrm (gt xs k) = nrm (gt ys k) := by
  rw [← gt_nrm, ← gt_nrm, h]
theorem keep_at {B : List BQ} {rs ls : List RuleD} (h : TrimR B (rs.map nrm) (ls.map nrm)) {b : BQ} (hb : b ∈ B) : decB rs b = decB ls b := by
  rw [← decB_nrm rs, ← decB_nrm ls]; exact (trim_keep h).1 b hb
end Go.Kw
