/- What the law's proof leans on. No condition. -/
import Derived.Test.YtfohfnpehfcaaaaPMcAN
import Derived.Laws.Externs
import Derived.Lib.Bytealg
import Derived.Shelf.GgSortFunc.InsertionK
import Derived.Shelf.SlSortCmp.Insertion
section
namespace Go.Kw
open Go.Lib Go.Sort Go.Proofs
set_option linter.unusedVariables false
theorem run_loadBytes {P : Program} {w : World} {b : Nat} : ∀ (l : List UInt8) (o : Nat) (acc : ByteArray), At w b o (l.map b8) → (Extern.Bytes.loadBytes ⟨b, o, none⟩ l.length acc).run P w = .ok ⟨acc.data ++ l.toArray⟩ w
  | [], o, acc, _ => by simp [Extern.Bytes.loadBytes]
  | x :: l, o, acc, h => by
    have h0 : w.cell? ⟨b, o, none⟩ = some (b8 x) := by simpa using h 0 (b8 x) (by simp)
    have ht : At w b (o + 1) (l.map b8) := h.part 1 (ds := l.map b8) (by intro i v hv; rw [List.map_cons, Nat.add_comm, List.getElem?_cons_succ]; exact hv)
    have ih := run_loadBytes (P := P) l (o + 1) (acc.push x) ht
    have e : (⟨b, o, none⟩ : Addr).add 1 = ⟨b, o + 1, none⟩ := add_lit b o 1
    have hx : ((x.toNat : Int)).toNat.toUInt8 = x := by simp
    simp only [List.length_cons, Extern.Bytes.loadBytes, Sem.run_bind, run_load, h0, Result.andThen, b8, e, hx]
    rw [ih]
    simp [ByteArray.push]
theorem run_cmpBytes {P : Program} {w : World} {b1 b2 o1 o2 c1 c2 : Nat} {x y : List UInt8} (h1 : At w b1 o1 (x.map b8)) (h2 : At w b2 o2 (y.map b8)) :
    (Extern.BytealgCompare.compare #[.slice (some ⟨b1, o1, none⟩) x.length c1, .slice (some ⟨b2, o2, none⟩) y.length c2]).run P w = .ok (.int .i64 (compareBytes x y)) w := by
  change Sem.run P (do pure (goInt (Extern.BytealgCompare.cmp (← Extern.Bytes.bytesOf (.slice (some ⟨b1, o1, none⟩) x.length c1)) (← Extern.Bytes.bytesOf (.slice (some ⟨b2, o2, none⟩) y.length c2))))) w = _
  simp only [Extern.Bytes.bytesOf, Sem.run_bind, Sem.run_pure, run_loadBytes x o1 .empty h1, run_loadBytes y o2 .empty h2, Result.andThen]
  rw [cmp_eq]
  simp [ByteArray.empty, ByteArray.emptyWithCapacity, goInt]
  rfl
/-! ### The order of octets -/
theorem cmp_self : ∀ x, compareBytes x x = 0
  | [] => rfl
  | a :: x => by simp [compareBytes, cmp_self x]
theorem cmp_range : ∀ x y, compareBytes x y = -1 ∨ compareBytes x y = 0 ∨ compareBytes x y = 1
  | [], [] => by simp [compareBytes]
  | [], _ :: _ => by simp [compareBytes]
  | _ :: _, [] => by simp [compareBytes]
  | a :: x, b :: y => by
    unfold compareBytes
    split
    · simp
    · split
      · simp
      · exact cmp_range x y
theorem cmp_swap : ∀ x y, compareBytes y x = - compareBytes x y
  | [], [] => by simp [compareBytes]
  | [], _ :: _ => by simp [compareBytes]
  | _ :: _, [] => by simp [compareBytes]
  | a :: x, b :: y => by
    unfold compareBytes
    by_cases h1 : a < b
    · have : ¬ b < a := fun h => UInt8.lt_irrefl a (UInt8.lt_trans h1 h)
      simp [h1, this]
    · by_cases h2 : b < a
      · simp [h1, h2]
      · simp [h1, h2, cmp_swap x y]
theorem cmp_eq0 : ∀ {x y}, compareBytes x y = 0 → x = y
  | [], [], _ => rfl
  | [], _ :: _, h => by simp [compareBytes] at h
  | _ :: _, [], h => by simp [compareBytes] at h
  | a :: x, b :: y, h => by
    unfold compareBytes at h
    split at h
    · simp at h
    · split at h
      · simp at h
      · rename_i h1 h2
        have : a = b := UInt8.le_antisymm (UInt8.not_lt.1 h2) (UInt8.not_lt.1 h1)
        rw [this, cmp_eq0 h]
theorem cmp_lt_trans : ∀ {x y z}, compareBytes x y < 0 → compareBytes y z < 0 → compareBytes x z < 0
  | [], [], _, h, _ => by simp [compareBytes] at h
  | [], _ :: _, [], _, h => by simp [compareBytes] at h
  | [], _ :: _, _ :: _, _, _ => by simp [compareBytes]
  | _ :: _, [], _, h, _ => by simp [compareBytes] at h
  | _ :: _, _ :: _, [], _, h => by simp [compareBytes] at h
  | a :: x, b :: y, c :: z, h1, h2 => by
    unfold compareBytes at h1 h2 ⊢
    by_cases hab : a < b
    · by_cases hbc : b < c
      · simp [UInt8.lt_trans hab hbc]
      · by_cases hcb : c < b
        · simp [hbc, hcb] at h2
        · have : b = c := UInt8.le_antisymm (UInt8.not_lt.1 hcb) (UInt8.not_lt.1 hbc)
          subst this; simp [hab]
    · by_cases hba : b < a
      · simp [hab, hba] at h1
      · have : a = b := UInt8.le_antisymm (UInt8.not_lt.1 hba) (UInt8.not_lt.1 hab)
        subst this
        simp only [UInt8.lt_irrefl, if_false] at h1
        by_cases hbc : a < c
        · simp [hbc]
        · by_cases hcb : c < a
          · simp [hbc, hcb] at h2
          · simp only [hbc, hcb, if_false] at h2 ⊢
            exact cmp_lt_trans h1 h2
/-! ### Rows of sums, sorted -/
abbrev Sum32 := { l : List UInt8 // l.length = 32 }
instance : Inhabited Sum32 := ⟨⟨List.replicate 32 0, by simp⟩⟩
def enc32 (x : Sum32) : List Value := x.1.map b8
theorem enc32_len (x : Sum32) : (enc32 x).length = 32 := by rw [enc32, List.length_map, x.2]
def cmp32 (x y : Sum32) : Int := compareBytes x.1 y.1
theorem swo32 : SWO (ltOf cmp32) where
  irrefl x := decide_eq_false (by rw [cmp32, cmp_self]; decide)
  trans x y z h1 h2 := decide_eq_true (cmp_lt_trans (of_decide_eq_true h1) (of_decide_eq_true h2))
  ntrans x y z h1 h2 := by
    have g1 : ¬ compareBytes x.1 y.1 < 0 := of_decide_eq_false h1
    have g2 : ¬ compareBytes y.1 z.1 < 0 := of_decide_eq_false h2
    refine decide_eq_false fun h3 => ?_
    have h3 : compareBytes x.1 z.1 < 0 := h3
    have s1 := cmp_swap x.1 y.1
    rcases cmp_range x.1 y.1 with e | e | e
    · omega
    · rw [cmp_eq0 e] at h3; exact g2 h3
    · have : compareBytes y.1 x.1 < 0 := by omega
      exact g2 (cmp_lt_trans this h3)
theorem tot32 : ∀ x y : Sum32, (ltOf cmp32) x y = false → (ltOf cmp32) y x = false → x = y := by
  intro x y h1 h2
  have g1 : ¬ compareBytes x.1 y.1 < 0 := of_decide_eq_false h1
  have g2 : ¬ compareBytes y.1 x.1 < 0 := of_decide_eq_false h2
  have s1 := cmp_swap x.1 y.1
  exact Subtype.ext (cmp_eq0 (by omega))
def sums32 (l : List (List UInt8)) (h : S32 l) : List Sum32 := l.attach.map fun x => ⟨x.1, h x.1 x.2⟩
theorem sums32_map {l : List (List UInt8)} (h : S32 l) : (sums32 l h).map (·.1) = l := by
  simp [sums32, List.map_map, Function.comp_def]
theorem sums32_len {l : List (List UInt8)} (h : S32 l) : (sums32 l h).length = l.length := by simp [sums32]
theorem S32.of (ds : List Sum32) : S32 (ds.map (·.1)) := by
  intro s hs
  obtain ⟨x, _, rfl⟩ := List.mem_map.1 hs
  exact x.2
theorem flatK_eq (ds : List Sum32) : flatK enc32 32 ds.toArray = ((ds.map (·.1)).flatten.map b8).toArray := by
  have hS := S32.of ds
  have hlen : ((ds.map (·.1)).flatten.map b8).length = ds.length * 32 := by rw [flat32_lenV hS, List.length_map]
  apply Array.ext
  · rw [size_flatK, List.size_toArray, List.size_toArray, hlen]
  · intro t h1 h2
    have ht : t < ds.length * 32 := by simpa using h1
    have hd : t / 32 < ds.length := Nat.div_lt_of_lt_mul (by omega)
    have e1 : (flatK enc32 32 ds.toArray)[t]! = (enc32 ds.toArray[t / 32]!)[t % 32]! := get_flatK _ _ _ _ (by simpa using ht)
    rw [getElem!_pos _ t h1] at e1
    rw [e1]
    have e2 : ds.toArray[t / 32]! = ds[t / 32] := by rw [getElem!_pos _ _ (by simpa using hd)]; simp
    have e3 := flat32_getV hS (i := t / 32) (by rw [List.length_map]; exact hd)
    rw [e2]
    have e4 : gt (ds.map (·.1)) (t / 32) = ds[t / 32].1 := by rw [gt_eq _ _ (by rw [List.length_map]; exact hd)]; simp
    rw [e4] at e3
    rw [enc32, ← e3]
    have hm : t % 32 < 32 := Nat.mod_lt _ (by decide)
    have hlt : t < ((ds.map (·.1)).flatten.map b8).length := by rw [hlen]; exact ht
    have hsum : t / 32 * 32 + t % 32 = t := by omega
    rw [getElem!_pos _ _ (by rw [List.length_take, List.length_drop, hlen]; omega)]
    simp only [List.getElem_take, List.getElem_drop, List.getElem_toArray, hsum]
/-- The sums in order. -/
def sortL (l : List (List UInt8)) : List (List UInt8) := l.mergeSort fun x y => !decide (compareBytes y x < 0)
theorem sortL_len (l : List (List UInt8)) : (sortL l).length = l.length := by simp [sortL]
theorem sort32 (ds : List Sum32) : (ds.mergeSort fun x y => !(ltOf cmp32) y x).map (·.1) = sortL (ds.map (·.1)) := by
  unfold sortL
  rw [List.map_mergeSort]
  intro a ha b hb
  rfl
theorem holdsV {w : World} {g : Nat} {cur : Array Value} {e : TypeId} {F : Array Value} (hb : w.heap[g]? = some (.cells cur e (0, 0))) (ht : cur.toList.take F.size = F.toList) : Holds id w g 0 F := by
  intro j hj
  refine ⟨?_, by simp [World.frozen?, hb]⟩
  have h1 : (cur.toList.take F.size)[j]? = F.toList[j]? := by rw [ht]
  rw [List.getElem?_take_of_lt hj] at h1
  simp only [World.cell?, hb, Nat.zero_add]
  simp only [Option.isSome_none, Bool.false_eq_true, if_false]
  rw [← Array.getElem?_toList, h1]
  simp [hj]
theorem heapV {w : World} {g n : Nat} {os : Array Obj} {cur : Array Value} {e : TypeId} {fr : Nat × Nat} (d : Array Value) (hb : w.heap[g]? = some (.cells cur e fr)) :
    (grow (putRow id (Sort.ahead w n) g 0 d) os).heap[g]? = some (.cells (putCells id 0 d cur) e fr) := by
  have hg : g < w.heap.size := (Array.getElem?_eq_some_iff.1 hb).1
  rw [heap_grow_old _ _ (by simpa using hg)]
  simp [putRow, mapBlock, Sort.ahead, Array.getElem?_modify, hb, onCells]
theorem oldV {w : World} {g n k : Nat} {os : Array Obj} (d : Array Value) (hk : k < w.heap.size) (hne : g ≠ k) : (grow (putRow id (Sort.ahead w n) g 0 d) os).heap[k]? = w.heap[k]? := by
  rw [heap_grow_old _ _ (by simpa using hk)]
  simp [putRow, mapBlock, Sort.ahead, Array.getElem?_modify, hne]
theorem takeV (cur ts : Array Value) (h : ts.size ≤ cur.size) : (putCells id 0 ts cur).toList.take ts.size = ts.toList := by
  apply List.ext_getElem?
  intro j
  by_cases hj : j < ts.size
  · rw [List.getElem?_take_of_lt hj, Array.getElem?_toList]
    simp [putCells, hj, show j < cur.size by omega]
  · rw [List.getElem?_take_eq_none (by omega), List.getElem?_eq_none (by simp; omega)]
theorem St.sorted {w : World} {g c n m : Nat} {E : TypeId} {os : Array Obj} {l l' : List (List UInt8)} {ds : List Sum32} (hS : w.ownsRow 0 E 32 (.slice (some ⟨g, 0, none⟩) n c) n (l.flatten.map b8)) (hl : ds.map (·.1) = l') (hn : l'.length = n) :
    St w [g] (sortWorldK enc32 32 w g 0 m ds.toArray os) [.row (.slice (some ⟨g, 0, none⟩) n c) E 32 n (l'.flatten.map b8)] := by
  obtain ⟨hlen, hnil | ⟨g', cap, cur, hv, hbase, hb, h1, h2, h3, h4⟩⟩ := hS
  · exact absurd hnil.1 (by simp)
  · simp only [Value.slice.injEq, Option.some.injEq, Addr.mk.injEq, and_true] at hv
    obtain ⟨rfl, _, rfl⟩ := hv
    subst hl
    have hF := flatK_eq ds
    have hfl : ((ds.map (·.1)).flatten.map b8).length = n * 32 := by rw [flat32_lenV (S32.of ds), hn]
    unfold sortWorldK putRowK
    rw [hF]
    refine ⟨rfl, rfl, rfl, by simp, fun k hk hne => oldV _ hk (fun e => hne (by simp [e])), ?_, by simp [Item.id, Value.ownBlock]⟩
    intro x hx
    obtain rfl := List.mem_singleton.1 hx
    refine ⟨⟨hfl, .inr ⟨g, c, _, rfl, Nat.zero_le _, heapV _ hb, h1, h2, by simp [putCells, h3], ?_⟩⟩, fun k hk => .inr ?_⟩
    · have := takeV cur ((ds.map (·.1)).flatten.map b8).toArray (by rw [List.size_toArray, hfl, h3]; exact Nat.mul_le_mul_right _ h1)
      rw [List.size_toArray, hfl] at this
      exact this
    · simp only [Value.ownBlock, Option.some.injEq] at hk
      simp [hk]
end Go.Kw
end
section
namespace Go.Kw
open Go.Lib
set_option linter.unusedVariables false
set_option linter.unusedSimpArgs false
theorem S32.set {l : List (List UInt8)} (h : S32 l) {u : List UInt8} (hu : u.length = 32) (m : Nat) : S32 (l.set m u) := by
  intro s hs
  rcases List.mem_or_eq_of_mem_set hs with h' | rfl
  · exact h s h'
  · exact hu
section
variable {P : Program} {ρ : Operand → Value} {w w0 : World} {M : List Nat} {L l1 l2 : List Item} {dst : Option Tmp} {ty : TypeId} {pos : String} {aft : Array Edge} {g : Option (Nat × Bool)} {x y z : Operand} {T T2 E I K : TypeId} {v : Value} {k : IntKind}
  {d dE dK : TypeDesc} {sz bts b o : Nat} {zv : Value} {a : Option Addr} {cs C : List Value}
/-- What lies behind is cleared. -/
theorem x_clearQ {n c : Nat} {X Y : List Value} {tys : Array TypeId} (l1 : List Item) {l2 : List Item} (hS : St w0 M w (l1 ++ .blk b (cl (X ++ Y) E) :: l2)) (ht : tys[0]? = some T) (hT : P.underlying T = some (.slice K)) (hK : TI P K dK sz bts zv) (hz : One zv.cells.toList) (hzs : zv.cells.size = sz) (hx : ρ x = .slice (some ⟨b, o, none⟩) n c) (ho : X.length = o) (hfit : n * sz ≤ Y.length) (args : Array Operand) (ha : args = #[x]) :
    ∃ v w', (execOp ρ ⟨dst, .call { callee := .builtin .clear, args := args, argTypes := tys }, ty, pos, aft, g⟩).run P w = .ok (.value v) w' ∧ v = .tuple #[] ∧ ∃ D', D'.length = Y.length ∧ St w0 M w' (l1 ++ .blk b (cl (X ++ D') E) :: l2) := by
  subst ha
  obtain ⟨i, hi, hs1, hs2, hs3⟩ := hK.info
  have hbk := hS.heap (b := b) (o := cl (X ++ Y) E) (by simp)
  by_cases h0 : n = 0
  · subst h0
    refine ⟨.tuple #[], w, ?_, rfl, Y, rfl, hS⟩
    simp [execOp, resolve, invoke, builtin, Builtin.clear_, hx, ht, run_underlying hT]
  · have hsize : (Builtin.zeroCells zv.cells n).toList.length = n * sz := by simp [Builtin.zeroCells, hzs]
    have hone : One (Builtin.zeroCells zv.cells n).toList := by
      intro q hq
      simp only [Builtin.zeroCells, Array.toList_map, List.mem_map] at hq
      obtain ⟨j, hj, rfl⟩ := hq
      have hjs : j < n * zv.cells.size := by simpa using hj
      have hm : j % zv.cells.size < zv.cells.size := Nat.mod_lt _ (Nat.pos_of_ne_zero fun h => by rw [h] at hjs; omega)
      rw [getElem!_pos zv.cells _ hm]
      exact hz _ (by simp)
    have hst := run_storeCells_at P b o E (Builtin.zeroCells zv.cells n).toList 0 (X ++ Y).toArray w hbk (by simp only [List.size_toArray, List.length_append, hsize]; omega) hone
    simp only [Nat.add_zero] at hst
    have hst' : (storeCells ⟨b, o, none⟩ (Builtin.zeroCells zv.cells n).toList).run P w = .ok () (w.setRow b (splice (X ++ Y) o (Builtin.zeroCells zv.cells n).toList).toArray) := by
      simpa [splice] using hst
    refine ⟨.tuple #[], w.setRow b (splice (X ++ Y) o (Builtin.zeroCells zv.cells n).toList).toArray, ?_, rfl, (Builtin.zeroCells zv.cells n).toList ++ (X ++ Y).drop (o + (Builtin.zeroCells zv.cells n).toList.length), by rw [List.length_append, List.length_drop, hsize, List.length_append]; omega, ?_⟩
    · have hzr : (zeroValue K).run P w = .ok zv w := by simp [zeroValue, typeInfo, program, Sem.run, hi, hs3]
      simp only [execOp, resolve, hx, List.map_toArray, List.map_cons, List.map_nil, invoke, builtin, Sem.run_bind, Sem.run_pure, Result.andThen_ok, Builtin.clear_]
      rw [ht]
      simp [run_underlying hT, h0, hzr, hst']
    · have := put_at (C' := splice (X ++ Y) o (Builtin.zeroCells zv.cells n).toList) hS
      have e : splice (X ++ Y) o (Builtin.zeroCells zv.cells n).toList = X ++ ((Builtin.zeroCells zv.cells n).toList ++ (X ++ Y).drop (o + (Builtin.zeroCells zv.cells n).toList.length)) := by
        simp only [splice]
        rw [← ho, List.take_left]
      rw [← e]; exact this
end
theorem St.rowBlkQ {w0 w : World} {M : List Nat} {l1 l2 : List Item} {a : Option Addr} {n c sz : Nat} {E : TypeId} {xs : List Value} (hS : St w0 M w (l1 ++ .row (.slice a n c) E sz n xs :: l2)) (hn : 0 < n) :
    ∃ g D, a = some ⟨g, 0, none⟩ ∧ (xs ++ D).length = c * sz ∧ n ≤ c ∧ c ≤ 9223372036854775807 ∧ St w0 M w (l1 ++ .blk g (cl (xs ++ D) E) :: l2) := by
  obtain ⟨hl, hw⟩ := (hS.has (.row (.slice a n c) E sz n xs) (by simp)).1
  rcases hw with ⟨hv, h0⟩ | ⟨gq, cap, cur, hv, h1, h2, h3, h4, h5, h6⟩
  · omega
  simp only [Value.slice.injEq] at hv
  obtain ⟨ha, _, hcap⟩ := hv
  subst hcap
  obtain ⟨g, C, hga, hC, hCn, hcc, hS'⟩ := St.rowBlk hS hn
  have hg : g = gq := by rw [hga] at ha; simpa using ha
  subst hg
  have hb := hS'.heap (b := g) (o := cl C E) (by simp)
  rw [h2] at hb
  simp only [Option.some.injEq, Obj.cells.injEq] at hb
  refine ⟨g, C.drop (n * sz), hga, ?_, h3, h4, ?_⟩
  · rw [← hC, List.take_append_drop]
    have := congrArg Array.size hb.1
    rw [h5] at this
    simpa using this.symm
  · rw [← hC, List.take_append_drop]
    exact hS'
theorem sort_32 {l : List (List UInt8)} (h : S32 l) : S32 (sortL l) := fun s hs => h s ((List.mergeSort_perm l _).mem_iff.1 hs)
end Go.Kw
end
