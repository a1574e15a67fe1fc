/- What the law's proof leans on. No condition. -/
import Derived.Test.YtbanoknkplcedaaPEMBE
import Derived.Test.YtbanoknkplcedaaPEMAK
import Derived.Laws.StructEq
namespace Go.Kw
set_option linter.unusedVariables false
set_option linter.unusedSimpArgs false
section
variable {P : Program} {ρ : Operand → Value} {w w0 : World} {M : List Nat} {L l1 l2 : List Item} {dst : Option Tmp} {ty : TypeId} {pos : String} {aft : Array Edge} {g : Option (Nat × Bool)} {x y z : Operand} {T T2 E I : TypeId} {v : Value} {k : IntKind}
  {d dE : TypeDesc} {sz bts b o : Nat} {zv : Value} {a : Option Addr} {cs C : List Value}
/-- A conversion of a row of octets to its own type: the row is marked, its cells are what they were. -/
theorem x_mark {n c : Nat} (l1 : List Item) {l2 : List Item} (hS : St w0 M w (l1 ++ .blk b (cl C E) :: l2)) (hT : P.underlying T = some (.slice E)) (hE : P.underlying E = some (.int .u8)) (hx : ρ x = .slice (some ⟨b, 0, none⟩) n c) :
    ∃ v w', (execOp ρ ⟨dst, .convert T T x, ty, pos, aft, g⟩).run P w = .ok (.value v) w' ∧ (v = .slice (some ⟨b, 0, none⟩) n c ∧ St w0 M w' (l1 ++ .blk b (.cells C.toArray E (C.length, C.length + 1)) :: l2)) := by
  have hb : w.heap[b]? = some (cl C E) := hS.heap (by simp)
  have hsh : w.shape? b = some (E, C.length) := by
    unfold World.shape?
    rw [hb]
    simp
  refine ⟨_, w.freeze ⟨b, C.length, none⟩ 1, ?_, rfl, ?_⟩
  · simp [execOp, hx, convert, run_underlying hT, run_underlying hE, markStringish, hsh]
  · have hit := hS.has (.blk b (cl C E)) (by simp)
    have hbl : b < w.heap.size := (Array.getElem?_eq_some_iff.1 hb).1
    have hfz : ∀ k, (w.freeze ⟨b, C.length, none⟩ 1).heap[k]? = if b = k then some (.cells C.toArray E (C.length, C.length + 1)) else w.heap[k]? := by
      intro k
      unfold World.freeze
      rw [if_neg (by decide)]
      simp only [Array.getElem?_modify]
      split
      · rename_i h
        subst h
        rw [hb]; rfl
      · rfl
    refine hS.turnAt ?_ ?_ ?_ ?_ (fun k hk hne => ?_) ⟨?_, hit.2⟩ (fun k hk => .inl hk)
    · unfold World.freeze; rw [if_neg (by decide)]
    · unfold World.freeze; rw [if_neg (by decide)]
    · unfold World.freeze; rw [if_neg (by decide)]
    · unfold World.freeze; rw [if_neg (by decide)]; simp
    · rw [hfz, if_neg]
      intro e; subst e; exact hne rfl
    · rw [hfz, if_pos rfl]
theorem r_loadPX (h : TI P T d sz bts zv) (hd : aggD d = true) (hx : ρ x = .pointer a) (hr : Row w a cs) (hz : 0 < sz) (hn : cs.length = sz) : (execOp ρ ⟨dst, .load T x, ty, pos, aft, g⟩).run P w = .ok (.value (.agg cs.toArray)) w := by
  have := r_loadPA (dst := dst) (ty := ty) (pos := pos) (aft := aft) (g := g) h hd hx hr hz (by omega)
  rwa [List.take_of_length_le (by omega)] at this

/-! ### Structures, field by field -/
/-! ### Heads -/
/-- The cells of a head. -/
def headV (ct tm : Int) (la ro : List UInt8) : List Value := [Value.int .i64 ct, Value.int .i64 tm] ++ (la.map b8 ++ ro.map b8)
@[simp] theorem headV_len {ct tm : Int} {la ro : List UInt8} (hla : la.length = 32) (hro : ro.length = 32) : (headV ct tm la ro).length = 66 := by simp [headV, hla, hro]
end
theorem St.rowTo {w0 w : World} {M : List Nat} {a : Option Addr} {n n' c : Nat} {E : TypeId} {xs xs' : List Value} (h : St w0 M w [.row (.slice a n c) E 1 n xs]) (hn : n = n') (hx : xs = xs') : St w0 M w [.row (.slice a n' c) E 1 n' xs'] := by subst hn; subst hx; exact h
end Go.Kw
