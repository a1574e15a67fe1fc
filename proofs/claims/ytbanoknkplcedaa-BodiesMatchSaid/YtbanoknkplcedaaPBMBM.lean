/- What the law's proof leans on. No condition. -/
import Derived.Test.YtbanoknkplcedaaPBMBK
import Derived.Laws.RangeString
namespace Go.Kw
open Go.Lib
set_option linter.unusedVariables false
set_option linter.unusedSimpArgs false
section
variable {P : Program} {ρ : Operand → Value} {w w0 : World} {M : List Nat} {L l1 l2 : List Item} {dst : Option Tmp} {ty : TypeId} {pos : String} {aft : Array Edge} {g : Option (Nat × Bool)} {x : Operand} {T : TypeId}
theorem x_rangeS {s : List UInt8} (hS : St w0 M w L) (hT : P.underlying T = some .string) (hx : ρ x = sv s) :
    ∃ v w', (execOp ρ ⟨dst, .range T x, ty, pos, aft, g⟩).run P w = .ok (.value v) w' ∧ ∃ r, v = pt r 0 ∧ St w0 M w' (.blk r (.stringIter ⟨s.toArray⟩ 0) :: L) := by
  refine ⟨pt w.heap.size 0, w.alloc (.stringIter ⟨s.toArray⟩ 0), ?_, w.heap.size, rfl, hS.alloc _⟩
  simp only [execOp, hx]
  rw [Sem.run_bind, run_range_string w T _ hT]
  rfl
theorem x_nextS (l1 : List Item) {l2 : List Item} {s : List UInt8} {k r : Nat} (n : Nat) (hS : St w0 M w (l1 ++ .blk r (.stringIter ⟨s.toArray⟩ k) :: l2)) (hx : ρ x = pt r 0) (hk : k < s.length) (hn : (gt s k).toNat = n) (ha : n < 128) :
    ∃ v w', (execOp ρ ⟨dst, .next x true, ty, pos, aft, g⟩).run P w = .ok (.value v) w' ∧ v = .tuple #[.bool true, vi k, .int .i32 n] ∧ St w0 M w' (l1 ++ .blk r (.stringIter ⟨s.toArray⟩ (k + 1)) :: l2) := by
  have hit := hS.has (.blk r (.stringIter ⟨s.toArray⟩ k)) (by simp)
  have hr : w.heap[r]? = some (.stringIter ⟨s.toArray⟩ k) := hit.1
  have hlt : r < w.heap.size := (Array.getElem?_eq_some_iff.1 hr).1
  have hsz : k < (⟨s.toArray⟩ : ByteArray).size := hk
  have hget : ((⟨s.toArray⟩ : ByteArray)[k]'hsz) = gt s k := by rw [gt_eq _ _ hk]; rfl
  have hd : Utf8.decode ⟨s.toArray⟩ k = (n, 1) := by
    rw [decode_ascii _ k hsz (by rw [hget, hn]; exact ha), hget, hn]
  refine ⟨_, { w with heap := w.heap.setIfInBounds r (.stringIter ⟨s.toArray⟩ (k + 1)) }, ?_, rfl, ?_⟩
  · simp only [execOp, hx]
    rw [Sem.run_bind]
    have : (Instr.next (pt r 0) true ty).run P w = .ok (.tuple #[.bool true, vi k, .int .i32 n]) { w with heap := w.heap.setIfInBounds r (.stringIter ⟨s.toArray⟩ (k + 1)) } := by
      have hz : (⟨s.toArray⟩ : ByteArray).size = s.length := rfl
      simp [Instr.next, getObj, setObj, Sem.run, hr, hz, hk, hd, goInt]
    rw [this]; rfl
  · refine hS.turnAt rfl rfl rfl (by simp) (fun k' hk' hne => ?_) ⟨?_, hit.2⟩ (fun k' hk' => .inl hk')
    · have : r ≠ k' := fun e => hne (by rw [e]; rfl)
      simp [Array.getElem?_setIfInBounds, this]
    · simp [Array.getElem?_setIfInBounds, hlt]
theorem x_overS (l1 : List Item) {l2 : List Item} {s : List UInt8} {k r : Nat} (hS : St w0 M w (l1 ++ .blk r (.stringIter ⟨s.toArray⟩ k) :: l2)) (hx : ρ x = pt r 0) (hk : ¬ k < s.length) :
    ∃ v w', (execOp ρ ⟨dst, .next x true, ty, pos, aft, g⟩).run P w = .ok (.value v) w' ∧ v = .tuple #[.bool false] ∧ St w0 M w' (l1 ++ .blk r (.stringIter ⟨s.toArray⟩ k) :: l2) := by
  have hr : w.heap[r]? = some (.stringIter ⟨s.toArray⟩ k) := hS.heap (by simp)
  refine ⟨_, w, ?_, rfl, hS⟩
  simp only [execOp, hx]
  rw [Sem.run_bind]
  have : (Instr.next (pt r 0) true ty).run P w = .ok (.tuple #[.bool false]) w := by
    have hz : (⟨s.toArray⟩ : ByteArray).size = s.length := rfl
    simp [Instr.next, getObj, Sem.run, hr, hz, hk]
  rw [this]; rfl
end
theorem at_idx {a k : Nat} (h1 : 1 ≤ a) (h2 : a < 13) (hk : k < (gt usesT a).length) : ∃ i, gt (gt needT (a - 1)) k = i ∧ gt (gt usesT a) k = gt letters i ∧ i < 12 ∧ needF a i = true ∧ k < (gt needT (a - 1)).length := by
  have hu := uses_idx a h2 h1
  have hk' : k < (gt needT (a - 1)).length := by rw [hu, List.length_map] at hk; exact hk
  refine ⟨_, rfl, by rw [hu, gt_map _ _ _ hk'], ?_, ?_, hk'⟩
  · exact (idx_lt a h2 h1 _ (gt_mem _ _ hk')).1
  · exact (idx_lt a h2 h1 _ (gt_mem _ _ hk')).2
/-- What the reference has put behind one another when k letters are done. -/
def sofar (a : Nat) (x : BodyD) (k : Nat) : List UInt8 := ((gt needT (a - 1)).take k).flatMap (part x)
theorem sofar_s {a k i : Nat} (x : BodyD) (hk : k < (gt needT (a - 1)).length) (hi : gt (gt needT (a - 1)) k = i) : sofar a x (k + 1) = sofar a x k ++ part x i := by
  rw [sofar, sofar, List.take_succ_eq_append_getElem hk, List.flatMap_append, ← gt_eq _ _ hk, hi]; simp
theorem sofar_all {a k : Nat} {x : BodyD} (h : BodyGood a x) (hk : (gt needT (a - 1)).length ≤ k) : sofar a x k = stage (needF a) x 11 := by
  rw [sofar, List.take_of_length_le hk, stage_all h]
theorem sofar_len {a : Nat} {x : BodyD} (h : BodyGood a x) (hx : BodyOk x) (k : Nat) : (sofar a x k).length ≤ 60000 := by
  have h1 : (sofar a x k).length ≤ (stage (needF a) x 11).length := by
    rw [stage_all h, sofar]
    conv => rhs; rw [← List.take_append_drop k (gt needT (a - 1))]
    rw [List.flatMap_append, List.length_append]; omega
  have := stage_len h hx (k := 11) (by omega)
  omega
theorem over_len {a k : Nat} (h1 : 1 ≤ a) (h2 : a < 13) (hk : ¬ k < (gt usesT a).length) : (gt needT (a - 1)).length ≤ k := by
  rw [uses_idx a h2 h1, List.length_map] at hk; omega
theorem short_at4 {w : World} {b n : Nat} {E : TypeId} {fr : Nat × Nat} (h : w.heap[b]? = some (.cells ((octs8 (UInt64.ofNat n)).map b8).toArray E fr)) : At w b 4 ((octs (UInt32.ofNat n)).map b8) := by
  have e : (octs8 (UInt64.ofNat n)).drop 4 = octs (UInt32.ofNat n) := by
    have h0 : (UInt64.ofNat n).toUInt32 = UInt32.ofNat n := by
      apply UInt32.toNat_inj.1
      rw [UInt64.toNat_toUInt32, UInt64.toNat_ofNat', UInt32.toNat_ofNat']; omega
    show octs (UInt64.ofNat n).toUInt32 = _
    rw [h0]
  have h9 := at_part (off := 4) (n := 4) h
  rwa [← List.map_drop, e, List.take_of_length_le (by simp)] at h9
/-- A row and the variable that holds it, under another name. -/
theorem St.reRow {w0 w : World} {M : List Nat} {L : List Item} {a : Option Addr} {n c b : Nat} {E T : TypeId} {ys : List Value} {l : List UInt8} (h : St w0 M w (.row (.slice a n c) E 1 n ys :: .blk b (cl [.slice a n c] T) :: L)) (hn : l.length = n) (hy : ys = l.map b8) :
    St w0 M w (.row (.slice a l.length c) E 1 l.length (l.map b8) :: .blk b (cl [.slice a l.length c] T) :: L) := by subst hn; subst hy; exact h
end Go.Kw
