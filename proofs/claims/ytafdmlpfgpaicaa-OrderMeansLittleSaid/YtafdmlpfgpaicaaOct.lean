/- Octets of a block that a slice stands on: read, written through a pointer, and put behind what is full. No condition. -/
import Derived.Test.YtafdmlpfgpaicaaHead
import Derived.Test.YtafdmlpfgpaicaaStr
namespace Go.Kw
open Go.Lib
set_option linter.unusedVariables false
set_option linter.unusedSimpArgs false
theorem pre_get {l : List UInt8} {D : List Value} {m : Nat} (h : m < l.length) : (l.map b8 ++ D)[m]? = some (b8 (gt l m)) := by
  rw [List.getElem?_append_left (by simpa using h)]; exact map_gt _ _ _ h
theorem pre_set {l : List UInt8} {D : List Value} {m : Nat} {u : UInt8} (h : m < l.length) : (l.map b8 ++ D).set m (b8 u) = (l.set m u).map b8 ++ D := by
  rw [List.set_append_left _ _ (by simpa using h), List.map_set]
theorem pre_get_set {l : List UInt8} {D : List Value} {m : Nat} {u : UInt8} (h : m < l.length) : ((l.set m u).map b8 ++ D)[m]? = some (b8 u) := by
  rw [pre_get (by simpa using h), gt_set, if_pos ⟨rfl, h⟩]
theorem pre_get0 {l : List UInt8} {D : List Value} {m : Nat} (h : m < l.length) : (l.map b8 ++ D)[0 + m]? = some (b8 (gt l m)) := by rw [Nat.zero_add]; exact pre_get h
theorem pre_get_set0 {l : List UInt8} {D : List Value} {m : Nat} {u : UInt8} (h : m < l.length) : ((l.set m u).map b8 ++ D)[0 + m]? = some (b8 u) := by rw [Nat.zero_add]; exact pre_get_set h
theorem gt_set_same {l : List UInt8} {m : Nat} {u : UInt8} (h : m < l.length) : gt (l.set m u) m = u := by rw [gt_set, if_pos ⟨rfl, h⟩]
theorem set_back {l : List UInt8} {m : Nat} {u v : UInt8} (h : m < l.length) (hv : v = gt l m) : (l.set m u).set m v = l := by
  rw [List.set_set, hv, gt_eq l m h, List.set_getElem_self]
theorem at_pre {w : World} {g f k : Nat} {E : TypeId} {fr : Nat × Nat} {l : List UInt8} {D : List Value} (h : w.heap[g]? = some (.cells (l.map b8 ++ D).toArray E fr)) : At w g f (((l.drop f).take k).map b8) :=
  at_of_heap h fun i v hv => by
    have hi : i < ((l.drop f).take k).length := by have := (List.getElem?_eq_some_iff.1 hv).1; simpa using this
    rw [List.length_take, List.length_drop] at hi
    rw [List.getElem?_append_left (by rw [List.length_map]; omega)]
    rw [List.map_take, List.map_drop, List.getElem?_take_of_lt (by omega), List.getElem?_drop] at hv
    exact hv
theorem Row.of_pre {w : World} {g : Nat} {E : TypeId} {fr : Nat × Nat} {xs D : List Value} (h : w.heap[g]? = some (.cells (xs ++ D).toArray E fr)) : Row w (some ⟨g, 0, none⟩) xs := Row.of_frz (n := xs.length) h List.take_left
theorem pre_sub {w : World} {g c f k : Nat} {E : TypeId} {fr : Nat × Nat} {l : List UInt8} {D : List Value} (hc : l.length ≤ c) (h : w.heap[g]? = some (.cells (l.map b8 ++ D).toArray E fr)) : Row w (Kw.sub (some ⟨g, 0, none⟩) c f 1) (((l.drop f).take k).map b8) :=
  (Row.of_pre h).mid hc f k
theorem pre_subm {w : World} {g f t : Nat} {E : TypeId} {fr : Nat × Nat} {l : List UInt8} {D : List Value} (h : w.heap[g]? = some (.cells (l.map b8 ++ D).toArray E fr)) : Row w (Kw.sub (some ⟨g, 0, none⟩) t f 1) (((l.drop f).take (t - f)).map b8) := by
  by_cases e : t = f
  · subst e; exact .inl (by simp)
  · unfold Kw.sub
    rw [if_neg e, Option.map_some, add_lit, Nat.mul_one, Nat.zero_add]
    exact Row.of_at (at_pre h)
theorem sub_lt {g o c f : Nat} (h : f < c) : Kw.sub (some ⟨g, o, none⟩) c f 1 = some ⟨g, o + f, none⟩ := by
  unfold Kw.sub
  rw [if_neg (by omega), Option.map_some, add_lit, Nat.mul_one]
theorem sub_lt0 {g c f : Nat} (h : f < c) : Kw.sub (some ⟨g, 0, none⟩) c f 1 = some ⟨g, f, none⟩ := by rw [sub_lt h, Nat.zero_add]
theorem sub_some {x : Addr} {c f : Nat} {p : Prop} (h : Kw.sub (some x) c f 1 = none) : p := by
  unfold Kw.sub at h
  split at h <;> simp at h
theorem first_get {l : List UInt8} {f k : Nat} (hk : 0 < k) (h : f < l.length) (T : List Value) : (((l.drop f).take k).map b8 ++ T)[0]? = some (b8 (gt l f)) := by
  rw [List.getElem?_append_left (by rw [List.length_map, List.length_take, List.length_drop]; omega), List.getElem?_map, List.getElem?_take_of_lt hk, List.getElem?_drop, Nat.add_zero, List.getElem?_eq_getElem h, gt_eq l f h]
  rfl
theorem first_take {l : List UInt8} {p k : Nat} (hk : 0 < k) (h : p < l.length) : (((l.drop p).take k).map b8)[0]? = some (b8 (gt l p)) := by
  have := first_get hk h []
  rwa [List.append_nil] at this
section
variable {P : Program} {ρ : Operand → Value} {w w0 : World} {M : List Nat} {L l1 l2 : List Item} {dst : Option Tmp} {ty : TypeId} {pos : String} {aft : Array Edge} {g : Option (Nat × Bool)} {x y z : Operand} {T T2 E I : TypeId} {v : Value} {k : IntKind}
  {d dE : TypeDesc} {sz bts b o : Nat} {zv : Value} {a : Option Addr} {cs C : List Value}
theorem r_ixBO {len cap m : Nat} (h : P.underlying T = some (.slice E)) (hE : TI P E dE 1 bts zv) (hx : ρ x = .slice (some ⟨b, o, none⟩) len cap) (hy : ρ y = .int k (m : Int)) (hm : m < len) :
    (execOp ρ ⟨dst, .indexAddr T x y, ty, pos, aft, g⟩).run P w = .ok (.value (pt b (o + m))) w := by
  have h0 : (0 : Int) ≤ (m : Int) ∧ (m : Int) < (len : Int) := by omega
  simp [execOp, hx, hy, Instr.indexAt, asIntOf, run_underlying h, run_sizeOf hE, hm, add_lit]
/-- What is put behind a slice that is full stands in a new block. -/
theorem x_appendFull {n m c : Nat} {xs news : List Value} {a2 : Option Addr} (hS : St w0 M w L) (hT : P.underlying T = some (.slice E)) (hE : TI P E dE 1 1 zv) (hz : zv.cells.size = 1) (hx : ρ x = .slice a n n) (hr : Row w a xs) (hxl : xs.length = n)
    (hy : ρ y = .slice a2 m c) (hr2 : Row w a2 news) (hnl : news.length = m) (hm : 0 < m) (hb : n + m ≤ 140737488355328) (hn0 : a = none → n = 0) (args : Array Operand) (ha : args = #[x, y]) :
    ∃ u w', (execOp ρ ⟨dst, .call { callee := .builtin .append, args := args, argTypes := #[T, T] }, ty, pos, aft, g⟩).run P w = .ok (.value u) w' ∧
      ∃ b' c' D, u = .slice (some ⟨b', 0, none⟩) (n + m) c' ∧ n + m ≤ c' ∧ St w0 M w' (.blk b' (cl ((xs ++ news) ++ D) E) :: L) := by
  subst ha
  obtain ⟨i, hi, hs1, hs2, hs3⟩ := hE.info
  obtain ⟨b2, o2, rfl, hAt⟩ := hr2.some_of (by omega)
  have hnews : ∀ j v, news[j]? = some v → w.cell? ((⟨b2, o2, none⟩ : Addr).add j) = some v := fun j v hv => by rw [add_lit]; exact hAt j v hv
  have fin : ∀ u w', (Builtin.append_ #[T, T] ty #[.slice a n n, .slice (some ⟨b2, o2, none⟩) m c]).run P w = .ok u w' → (execOp ρ ⟨dst, .call { callee := .builtin .append, args := #[x, y], argTypes := #[T, T] }, ty, pos, aft, g⟩).run P w = .ok (.value u) w' := by
    intro u w' h
    simp [execOp, resolve, invoke, builtin, hx, hy, h]
  cases a with
  | none =>
    have h0 := hn0 rfl
    subst h0
    have hx0 : xs = [] := List.eq_nil_of_length_eq_zero hxl
    subst hx0
    have hrun := run_append_nil (P := P) w T ty E i _ hT hi hs3 ⟨b2, o2, none⟩ m c news (by rw [hs1, hnl, Nat.mul_one]) hnews hm (by omega) (by rw [hs2]; omega)
    refine ⟨_, _, fin _ _ hrun, w.heap.size, _, (Builtin.zeroCells zv.cells (grownCap w m 0 E - m)).toList, by rw [Nat.zero_add], by rw [Nat.zero_add]; exact grownCap_ge w m 0 E, ?_⟩
    have := (hS.drew).alloc (.cells (news.toArray ++ Builtin.zeroCells zv.cells (grownCap w m 0 E - m)) E)
    have e : (([] ++ news) ++ (Builtin.zeroCells zv.cells (grownCap w m 0 E - m)).toList).toArray = news.toArray ++ Builtin.zeroCells zv.cells (grownCap w m 0 E - m) := by
      apply Array.ext'; simp
    rw [cl, e]
    exact this
  | some p =>
    have holds : ∀ j u, xs[j]? = some u → w.cell? (p.add j) = some u := by
      intro j u hu
      obtain ⟨b1, o1, hp, hA⟩ := hr.some_of (by have := (List.getElem?_eq_some_iff.1 hu).1; omega)
      simp only [Option.some.injEq] at hp
      subst hp
      rw [add_lit]; exact hA j u hu
    have hrun := run_append_grow (P := P) w T ty E i _ hT hi hs3 p n n xs (by rw [hs1, hxl, Nat.mul_one]) holds ⟨b2, o2, none⟩ m c news (by rw [hs1, hnl, Nat.mul_one]) hnews (by omega) (by omega) (by rw [hs2]; exact growslice_fits (by omega) (by omega))
    refine ⟨_, _, fin _ _ hrun, w.heap.size, _, (Builtin.zeroCells zv.cells (grownCap w (n + m) n E - (n + m))).toList, rfl, grownCap_ge w (n + m) n E, ?_⟩
    have := (hS.drew).alloc (.cells (xs.toArray ++ news.toArray ++ Builtin.zeroCells zv.cells (grownCap w (n + m) n E - (n + m))) E)
    have e : ((xs ++ news) ++ (Builtin.zeroCells zv.cells (grownCap w (n + m) n E - (n + m))).toList).toArray = xs.toArray ++ news.toArray ++ Builtin.zeroCells zv.cells (grownCap w (n + m) n E - (n + m)) := by
      apply Array.ext'; simp
    rw [cl, e]
    exact this
end
end Go.Kw
