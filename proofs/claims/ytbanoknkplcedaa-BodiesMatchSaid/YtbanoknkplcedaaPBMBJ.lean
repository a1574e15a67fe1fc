/- What the law's proof leans on. No condition. -/
import Derived.Test.YtbanoknkplcedaaPBMAT
import Derived.Lib.FrozenHead
namespace Go.Kw
open Go.Lib
set_option linter.unusedVariables false
set_option linter.unusedSimpArgs false
/-- The item holds octets: a row, or the block of a conversion. -/
def RowZ (it : Item) (v : Value) (E : TypeId) (n : Nat) (xs : List Value) : Prop :=
  it = .row v E 1 n xs ∨ ∃ (b : Nat) (C : List Value) (fz : Nat × Nat), it = .blk b (.cells C.toArray E fz) ∧ v = .slice (some ⟨b, 0, none⟩) n C.length ∧ n ≤ C.length ∧ C.take n = xs ∧ C.length ≤ fz.1
section
variable {P : Program} {ρ : Operand → Value} {w w0 : World} {M : List Nat} {L l1 l2 : List Item} {dst : Option Tmp} {ty : TypeId} {pos : String} {aft : Array Edge} {g : Option (Nat × Bool)} {x y : Operand} {T T2 E : TypeId} {v : Value} {it : Item}
  {dE : TypeDesc} {a : Option Addr} {n m c : Nat} {xs news : List Value}
theorem RowZ.at (hz : RowZ it (.slice a n c) E n xs) (hS : St w0 M w L) (hm : it ∈ L) : Row w a xs := by
  rcases hz with rfl | ⟨b, C, fz, rfl, hv, hn, hC, hf⟩
  · exact St.rowAt hS hm
  · simp only [Value.slice.injEq] at hv
    obtain ⟨rfl, _, _⟩ := hv
    exact Row.of_frz (hS.heap hm) hC
theorem RowZ.of_row (a : Option Addr) (n c : Nat) (E : TypeId) (xs : List Value) : RowZ (.row (.slice a n c) E 1 n xs) (.slice a n c) E n xs := .inl rfl
theorem stores_z (P : Program) (g o : Nat) (t : TypeId) (fz : Nat × Nat) (vs : List Value) : ∀ (i : Nat) (cur : Array Value) (w : World), w.heap[g]? = some (.cells cur t fz) → cur.size ≤ fz.1 → o + i + vs.length ≤ cur.size → One vs →
    (storeCells ⟨g, o, none⟩ vs i).run P w = .ok () (w.setRow g (cur.toList.take (o + i) ++ vs ++ cur.toList.drop (o + i + vs.length)).toArray) := by
  induction vs with
  | nil =>
    intro i cur w hg _ _ _
    rw [List.length_nil, Nat.add_zero, List.append_nil, List.take_append_drop, Array.toArray_toList, setRow_self w g cur t fz hg]
    rfl
  | cons u us ih =>
    intro i cur w hg hf hl h1
    rw [List.length_cons] at hl
    have hlt : o + i < cur.size := by omega
    have hcell : w.cell? ⟨g, o + i, none⟩ = some cur[o + i] := by simp [World.cell?, hg, hlt]
    have hno : w.frozen? ⟨g, o + i, none⟩ = false := by
      obtain ⟨lo, hi⟩ := fz
      simp only [World.frozen?, hg, Bool.and_eq_false_iff, decide_eq_false_iff_not]
      left
      have : cur.size ≤ lo := hf
      show ¬ lo ≤ o + i
      omega
    have hrun : (store ((⟨g, o, none⟩ : Addr).add i) u).run P w = .ok () (w.setRow g (cur.setIfInBounds (o + i) u)) := by
      rw [Addr.add_lit, run_store P w _ u _ (h1 u (by simp)), hcell]
      simp [hno, setCell_eq_setRow w g (o + i) cur t fz u hg]
    have h2 := ih (i + 1) (cur.setIfInBounds (o + i) u) (w.setRow g (cur.setIfInBounds (o + i) u)) (setRow_heap w g cur _ t _ hg) (by simpa using hf) (by simp; omega) (fun z hz => h1 z (by simp [hz]))
    simp only [storeCells, Sem.run_bind, hrun, Result.andThen_ok, h2, setRow_setRow]
    congr 3
    have e := list_seg_step cur.toList (o + i) u us (by simp; omega)
    simpa [Array.toList_setIfInBounds, Nat.add_assoc] using e
/-- What is left when a marked block has taken more octets in its own cells. -/
theorem RowZ.kept {b : Nat} {C : List Value} {fz : Nat × Nat} (hS : St w0 M w (l1 ++ .blk b (.cells C.toArray E fz) :: l2)) (hC : C.take n = xs) (hn : n ≤ C.length) (hf : C.length ≤ fz.1) (hroom : n + news.length ≤ C.length) :
    ∃ it', RowZ it' (.slice (some ⟨b, 0, none⟩) (n + news.length) C.length) E (n + news.length) (xs ++ news) ∧ St w0 M (w.setRow b (C.take n ++ news ++ C.drop (n + news.length)).toArray) (l1 ++ it' :: l2) := by
  have hit := hS.has (.blk b (.cells C.toArray E fz)) (by simp)
  have hlen : (C.take n ++ news ++ C.drop (n + news.length)).length = C.length := by
    simp only [List.length_append, List.length_take, List.length_drop]; omega
  refine ⟨.blk b (.cells (C.take n ++ news ++ C.drop (n + news.length)).toArray E fz), .inr ⟨b, _, fz, rfl, by rw [hlen], by rw [hlen]; exact hroom, ?_, by rw [hlen]; exact hf⟩, ?_⟩
  · rw [List.take_left' (by simp only [List.length_append, List.length_take]; omega), hC]
  · exact hS.turnAt rfl rfl rfl (by simp) (fun k hk hne => setRow_other w b k _ (fun e => hne (by simp [Item.id, e]))) ⟨setRow_heap w b C.toArray _ E _ hit.1, hit.2⟩ (fun k hk => .inl (by simpa [Item.id] using hk))
theorem RowZ.fresh {u : Item} (hS : St w0 M w (l1 ++ u :: l2)) (old : Nat) (hl : (xs ++ news).length = n + m) (h63 : n + m ≤ 140737488355328) : ∃ a' c', Value.slice (some ⟨w.heap.size, 0, none⟩) (n + m) (grownCap w (n + m) old E) = .slice a' (n + m) c' ∧ n + m ≤ c' ∧
    St w0 M (w.drew.alloc (.cells (xs.toArray ++ news.toArray ++ Builtin.zeroCells (Value.int .u8 0).cells (grownCap w (n + m) old E - (n + m))) E)) (l1 ++ .row (.slice a' (n + m) c') E 1 (n + m) (xs ++ news) :: l2) := by
  have hge := grownCap_ge w (n + m) old E
  have hlen := hl
  rw [List.length_append] at hlen
  refine ⟨_, _, rfl, hge, ?_⟩
  refine hS.turnAt rfl rfl rfl (by simp) (fun k hk _ => heap_alloc_old w.drew _ k hk) ?_ (fun k hk => .inr ?_)
  · refine ⟨⟨by rw [hl, Nat.mul_one], .inr ⟨w.heap.size, _, _, rfl, Nat.zero_le _, heap_alloc_new w.drew _, hge, grownCap_le_maxLen w (n + m) old E (by simp only [maxLen]; omega), ?_, ?_⟩⟩, ?_⟩
    · simp only [Array.size_append, List.size_toArray, size_zeroCells]
      have : (Value.int IntKind.u8 0).cells.size = 1 := rfl
      rw [this]; omega
    · simp only [Array.toList_append, List.append_assoc]
      rw [← List.append_assoc, Nat.mul_one]
      exact List.take_left' hl
    · intro q hq
      simp only [Value.ownBlock, Option.some.injEq] at hq
      subst hq
      exact .inl hS.size
  · simp only [Item.id, Value.ownBlock, Option.some.injEq] at hk
    omega
theorem x_apZ (l1 : List Item) {l2 : List Item} (hS : St w0 M w (l1 ++ it :: l2)) (hz : RowZ it v E n xs) (hT : P.underlying T = some (.slice E)) (hE : TI P E dE 1 1 (.int .u8 0))
    (hx : ρ x = v) (hy : ρ y = .slice a m c) (hr : Row w a news) (hl : news.length = m) (h1 : One news) (hb : n + m ≤ 140737488355328) (args : Array Operand) (ha : args = #[x, y]) :
    ∃ u w', (execOp ρ ⟨dst, .call { callee := .builtin .append, args := args, argTypes := #[T, T] }, ty, pos, aft, g⟩).run P w = .ok (.value u) w' ∧
      ∃ it' a' c', u = .slice a' (n + m) c' ∧ n + m ≤ c' ∧ RowZ it' (.slice a' (n + m) c') E (n + m) (xs ++ news) ∧ St w0 M w' (l1 ++ it' :: l2) := by
  rcases hz with rfl | ⟨b, C, fz, rfl, rfl, hn, hC, hf⟩
  · obtain ⟨u, w', h, a', c', hu, hc, hS'⟩ := x_append (dst := dst) (ty := ty) (pos := pos) (aft := aft) (g := g) l1 hS hT hE rfl (by decide) hx hy hr (by rw [hl, Nat.mul_one]) h1 (by omega) (by omega) args ha
    exact ⟨u, w', h, _, a', c', hu, hc, .inl rfl, hS'⟩
  subst ha
  obtain ⟨i, hi, hs1, hs2, hs3⟩ := hE.info
  have hit := hS.has (.blk b (.cells C.toArray E fz)) (by simp)
  have hxl : xs.length = n := by rw [← hC, List.length_take]; omega
  have fin : ∀ u w', (Builtin.append_ #[T, T] ty #[.slice (some ⟨b, 0, none⟩) n C.length, .slice a m c]).run P w = .ok u w' → (execOp ρ ⟨dst, .call { callee := .builtin .append, args := #[x, y], argTypes := #[T, T] }, ty, pos, aft, g⟩).run P w = .ok (.value u) w' := by
    intro u w' h
    simp [execOp, resolve, invoke, builtin, hx, hy, h]
  rcases Nat.eq_zero_or_pos m with hm | hm
  · subst hm
    have hn0 : news = [] := List.eq_nil_of_length_eq_zero hl
    subst hn0
    refine ⟨_, w, fin (.slice (some ⟨b, 0, none⟩) n C.length) _ ?_, _, _, C.length, rfl, hn, .inr ⟨b, C, fz, rfl, rfl, hn, by simpa using hC, hf⟩, hS⟩
    cases a with
    | none => simp [Builtin.append_, run_underlying hT, sizeOf, typeInfo, hi, Builtin.lenOf, Builtin.firstCells, hn, storeCells]
    | some q => simp [Builtin.append_, run_underlying hT, sizeOf, typeInfo, hi, Builtin.lenOf, Builtin.firstCells, loadCells, loadCellsFrom, hn, storeCells]
  · obtain ⟨bq, oq, ha, hA⟩ := hr.some_of (by omega)
    subst ha
    have hnews : ∀ j u, news[j]? = some u → w.cell? ((⟨bq, oq, none⟩ : Addr).add j) = some u := fun j u hu => by rw [add_lit]; exact hA j u hu
    by_cases hroom : n + m ≤ C.length
    · have hf' := run_firstCells_some (P := P) w i.size m ⟨bq, oq, none⟩ m c news (by rw [hs1, Nat.mul_one]; exact hl) hnews
      have hst := stores_z P b n E fz news 0 C.toArray w hit.1 (by simpa using hf) (by simp; omega) h1
      simp only [Nat.add_zero] at hst
      obtain ⟨it', hz', hS'⟩ := RowZ.kept (news := news) hS hC hn hf (by omega)
      rw [hl] at hz'
      refine ⟨_, _, fin (.slice (some ⟨b, 0, none⟩) (n + m) C.length) _ ?_, it', _, C.length, rfl, hroom, hz', hS'⟩
      rw [hs1] at hf'
      simp [Builtin.append_, run_underlying hT, sizeOf, typeInfo, hi, hs1, Builtin.lenOf, hroom, hf', Addr.add_lit, hst]
    · have hrow : Row w (some ⟨b, 0, none⟩) xs := Row.of_frz hit.1 hC
      have holds : ∀ j u, xs[j]? = some u → w.cell? ((⟨b, 0, none⟩ : Addr).add j) = some u := by
        intro j u hu
        rw [add_lit]
        rcases hrow with h | ⟨b', o', hbo, h⟩
        · rw [h] at hu; simp at hu
        · simp only [Option.some.injEq, Addr.mk.injEq] at hbo
          obtain ⟨rfl, rfl, _⟩ := hbo
          exact h j u hu
      have hrun := run_append_grow (P := P) w T ty E i _ hT hi hs3 ⟨b, 0, none⟩ n C.length xs (by rw [hs1, Nat.mul_one]; exact hxl) holds ⟨bq, oq, none⟩ m c news (by rw [hs1, Nat.mul_one]; exact hl) hnews (by omega) (by omega) (by rw [hs2]; exact growslice_fits (by omega) (by omega))
      obtain ⟨a', c', h1', h2', h3'⟩ := RowZ.fresh (xs := xs) (m := m) (news := news) hS C.length (by rw [List.length_append]; omega) hb
      exact ⟨_, _, fin _ _ hrun, _, a', c', h1', h2', .inl rfl, h3'⟩
theorem x_apZs (l1 : List Item) {l2 : List Item} {s : List UInt8} (hS : St w0 M w (l1 ++ it :: l2)) (hz : RowZ it v E n xs) (hT : P.underlying T = some (.slice E)) (hU : P.underlying T2 = some .string) (hE : TI P E dE 1 1 (.int .u8 0))
    (hx : ρ x = v) (hy : ρ y = .string ⟨s.toArray⟩) (hb : n + s.length ≤ 140737488355328) (args : Array Operand) (ha : args = #[x, y]) :
    ∃ u w', (execOp ρ ⟨dst, .call { callee := .builtin .append, args := args, argTypes := #[T, T2] }, ty, pos, aft, g⟩).run P w = .ok (.value u) w' ∧
      ∃ it' a' c', u = .slice a' (n + s.length) c' ∧ n + s.length ≤ c' ∧ RowZ it' (.slice a' (n + s.length) c') E (n + s.length) (xs ++ s.map b8) ∧ St w0 M w' (l1 ++ it' :: l2) := by
  rcases hz with rfl | ⟨b, C, fz, rfl, rfl, hn, hC, hf⟩
  · obtain ⟨u, w', h, a', c', hu, hc, hS'⟩ := x_appendStr (dst := dst) (ty := ty) (pos := pos) (aft := aft) (g := g) l1 hS hT hU hE hx hy hb args ha
    exact ⟨u, w', h, _, a', c', hu, hc, .inl rfl, hS'⟩
  subst ha
  obtain ⟨i, hi, hs1, hs2, hs3⟩ := hE.info
  have hss : (⟨s.toArray⟩ : ByteArray).size = s.length := rfl
  have hit := hS.has (.blk b (.cells C.toArray E fz)) (by simp)
  have hxl : xs.length = n := by rw [← hC, List.length_take]; omega
  have fin : ∀ u w', (Builtin.append_ #[T, T2] ty #[.slice (some ⟨b, 0, none⟩) n C.length, .string ⟨s.toArray⟩]).run P w = .ok u w' → (execOp ρ ⟨dst, .call { callee := .builtin .append, args := #[x, y], argTypes := #[T, T2] }, ty, pos, aft, g⟩).run P w = .ok (.value u) w' := by
    intro u w' h
    simp [execOp, resolve, invoke, builtin, hx, hy, h]
  by_cases hroom : n + s.length ≤ C.length
  · have hf' := run_firstCells_string (P := P) w 1 ⟨s.toArray⟩
    rw [strCells_b8, hss] at hf'
    have hst := stores_z P b n E fz (s.map b8) 0 C.toArray w hit.1 (by simpa using hf) (by simp; omega) (one_b8 s)
    simp only [Nat.add_zero] at hst
    obtain ⟨it', hz', hS'⟩ := RowZ.kept (news := s.map b8) hS hC hn hf (by rw [List.length_map]; exact hroom)
    rw [List.length_map] at hz' hS' hst
    refine ⟨_, _, fin (.slice (some ⟨b, 0, none⟩) (n + s.length) C.length) _ ?_, it', _, C.length, rfl, hroom, hz', hS'⟩
    simp [Builtin.append_, run_underlying hT, run_underlying hU, sizeOf, typeInfo, hi, hs1, Builtin.lenOf, hss, hroom, hf', Addr.add_lit, hst]
  · have hrow : Row w (some ⟨b, 0, none⟩) xs := Row.of_frz hit.1 hC
    have holds : ∀ j u, xs[j]? = some u → w.cell? ((⟨b, 0, none⟩ : Addr).add j) = some u := by
      intro j u hu
      rw [add_lit]
      rcases hrow with h | ⟨b', o', hbo, h⟩
      · rw [h] at hu; simp at hu
      · simp only [Option.some.injEq, Addr.mk.injEq] at hbo
        obtain ⟨rfl, rfl, _⟩ := hbo
        exact h j u hu
    have hrun := run_append_grow_string (P := P) w T T2 ty E i _ hT hU hi hs3 ⟨b, 0, none⟩ n C.length xs (by rw [hs1, Nat.mul_one]; exact hxl) holds ⟨s.toArray⟩ (by rw [hss]; omega) (by rw [hss]; omega) (by rw [hss, hs2]; exact growslice_fits (by omega) (by omega))
    rw [strCells_b8, hss] at hrun
    obtain ⟨a', c', h1', h2', h3'⟩ := RowZ.fresh (xs := xs) (m := s.length) (news := s.map b8) hS C.length (by rw [List.length_append, List.length_map]; omega) hb
    exact ⟨_, _, fin _ _ hrun, _, a', c', h1', h2', .inl rfl, h3'⟩
theorem x_strZ {l : List UInt8} (hS : St w0 M w L) (hT : P.underlying T = some (.slice E)) (hT2 : P.underlying T2 = some .string) (hE : P.underlying E = some (.int .u8)) (hx : ρ x = .string ⟨l.toArray⟩) :
    ∃ v w', (execOp ρ ⟨dst, .convert T2 T x, ty, pos, aft, g⟩).run P w = .ok (.value v) w' ∧ ∃ (it : Item) (a : Option Addr) (c : Nat), v = .slice a l.length c ∧ l.length ≤ c ∧ RowZ it (.slice a l.length c) E l.length (l.map b8) ∧ St w0 M w' (it :: L) := by
  have hrun := run_bytes_of_string (P := P) w T2 T E ⟨l.toArray⟩ hT2 hT hE
  have hsz : (⟨l.toArray⟩ : ByteArray).size = l.length := rfl
  rw [hsz] at hrun
  have hge := grownCap_ge w l.length 0 E
  obtain ⟨B, hB⟩ : ∃ B, bytesRow ⟨l.toArray⟩ (grownCap w l.length 0 E) = B := ⟨_, rfl⟩
  rw [hB] at hrun
  have hBl : B.toList.length = grownCap w l.length 0 E := by rw [← hB]; simp [bytesRow, hsz]; omega
  have h2 : (execOp ρ ⟨dst, .convert T2 T x, ty, pos, aft, g⟩).run P w = .ok (.value (.slice (some ⟨w.heap.size, 0, none⟩) l.length (grownCap w l.length 0 E))) (w.drew.alloc (.cells B E (B.size, B.size + 1))) := by
    simp only [execOp, hx]
    rw [Sem.run_bind, hrun]; rfl
  refine ⟨_, _, h2, .blk w.heap.size (.cells B.toList.toArray E (B.size, B.size + 1)), _, _, rfl, hge, .inr ⟨w.heap.size, B.toList, _, rfl, by rw [hBl], by rw [hBl]; exact hge, ?_, by simp⟩, ?_⟩
  · rw [← hB]
    simp [bytesRow, hsz, b8]
  · simpa using (hS.drew).alloc (.cells B E (B.size, B.size + 1))
end
end Go.Kw
