/- What the law's proof leans on. No condition. -/
import Derived.Test.YtfohfnpehfcaaaaPMcAK
import Derived.Test.YtfohfnpehfcaaaaPMcAM
namespace Go.Kw
set_option linter.unusedVariables false
set_option linter.unusedSimpArgs false

/-! ### Lists of sums -/
def S32 (l : List (List UInt8)) : Prop := ∀ s ∈ l, s.length = 32
theorem S32.nil : S32 [] := by intro s hs; cases hs
theorem S32.take {l : List (List UInt8)} (h : S32 l) (k : Nat) : S32 (l.take k) := fun s hs => h s (List.mem_of_mem_take hs)
theorem S32.drop {l : List (List UInt8)} (h : S32 l) (k : Nat) : S32 (l.drop k) := fun s hs => h s (List.mem_of_mem_drop hs)
theorem S32.app {l m : List (List UInt8)} (h : S32 l) (h' : S32 m) : S32 (l ++ m) := by
  intro s hs
  rcases List.mem_append.1 hs with hs | hs
  · exact h s hs
  · exact h' s hs
theorem S32.one {s : List UInt8} (h : s.length = 32) : S32 [s] := by intro x hx; rw [List.mem_singleton.1 hx]; exact h
theorem S32.gt {l : List (List UInt8)} (h : S32 l) {i : Nat} (hi : i < l.length) : (gt l i).length = 32 := h _ (gt_mem l i hi)
theorem flat32_len : ∀ {l : List (List UInt8)}, S32 l → l.flatten.length = l.length * 32
  | [], _ => rfl
  | s :: l, h => by
    rw [List.flatten_cons, List.length_append, h s (by simp), flat32_len (l := l) (fun x hx => h x (by simp [hx])), List.length_cons]; omega
theorem flat32_drop : ∀ {l : List (List UInt8)} (i : Nat), S32 l → l.flatten.drop (i * 32) = (l.drop i).flatten
  | l, 0, _ => by simp
  | [], i + 1, _ => by simp
  | s :: l, i + 1, h => by
    rw [List.flatten_cons, List.drop_append, List.drop_of_length_le (by rw [h s (by simp)]; omega), List.nil_append, h s (by simp), List.drop_succ_cons]
    rw [show (i + 1) * 32 - 32 = i * 32 by omega]
    exact flat32_drop i fun x hx => h x (by simp [hx])
theorem flat32_take : ∀ {l : List (List UInt8)} (i : Nat), S32 l → l.flatten.take (i * 32) = (l.take i).flatten
  | l, 0, _ => by simp
  | [], i + 1, _ => by simp
  | s :: l, i + 1, h => by
    rw [List.flatten_cons, List.take_append, List.take_of_length_le (by rw [h s (by simp)]; omega), h s (by simp), List.take_succ_cons, List.flatten_cons]
    rw [show (i + 1) * 32 - 32 = i * 32 by omega]
    rw [flat32_take i fun x hx => h x (by simp [hx])]
theorem flat32_get {l : List (List UInt8)} {i : Nat} (h : S32 l) (hi : i < l.length) : (l.flatten.drop (i * 32)).take 32 = gt l i := by
  rw [flat32_drop i h, show 32 = 1 * 32 from rfl, flat32_take 1 (h.drop i), List.drop_eq_getElem_cons hi, gt_eq l i hi, List.take_succ_cons, List.take_zero, List.flatten_cons, List.flatten_nil, List.append_nil]
theorem flat32_getV {l : List (List UInt8)} {i : Nat} (h : S32 l) (hi : i < l.length) : ((l.flatten.map b8).drop (i * 32)).take 32 = (gt l i).map b8 := by
  rw [← List.map_drop, ← List.map_take, flat32_get h hi]
theorem flat32_lenV {l : List (List UInt8)} (h : S32 l) : (l.flatten.map b8).length = l.length * 32 := by rw [List.length_map, flat32_len h]
theorem Row.from32 {w : World} {a : Option Addr} {c : Nat} {l : List (List UInt8)} (h : Row w a (l.flatten.map b8)) (h32 : S32 l) (hc : l.length ≤ c) (i : Nat) : Row w (Kw.sub a c i 32) ((l.drop i).flatten.map b8) := by
  have := h.sub (cap := c) (l := i) (sz := 32) (by rw [flat32_lenV h32]; omega)
  rwa [← List.map_drop, flat32_drop i h32] at this
theorem Row.take32 {w : World} {a : Option Addr} {l : List (List UInt8)} (h : Row w a (l.flatten.map b8)) (h32 : S32 l) (i : Nat) : Row w a ((l.take i).flatten.map b8) := by
  have := h.take (n := i * 32)
  rwa [← List.map_take, flat32_take i h32] at this
/-! ### The greatest power of two below a number -/
/-! ### Trees of sums -/
def nodeL (a b : List UInt8) : List UInt8 := sumL (UInt8.ofNat 2) (a ++ b)
@[simp] theorem nodeL_len (a b : List UInt8) : (nodeL a b).length = 32 := sumL_len _ _
/-! ### Proofs of places -/
theorem gt_app {α : Type} [Inhabited α] (l m : List α) (i : Nat) (h : i < l.length) : gt (l ++ m) i = gt l i := by
  rw [gt_eq _ _ (by simp; omega), gt_eq _ _ h, List.getElem_append_left h]
section
variable {P : Program} {ρ : Operand → Value} {w w0 : World} {M : List Nat} {L l1 l2 : List Item} {dst : Option Tmp} {ty : TypeId} {pos : String} {aft : Array Edge} {g : Option (Nat × Bool)} {x y z : Operand} {T T2 E I : TypeId} {v : Value} {k : IntKind}
  {d dE : TypeDesc} {sz bts b o : Nat} {zv : Value} {a : Option Addr} {cs C : List Value}
theorem r_ix32 {len cap m : Nat} {l : List (List UInt8)} (h : P.underlying T = some (.slice E)) (hE : TI P E dE 32 bts zv) (hx : ρ x = .slice a len cap) (hy : ρ y = .int k (m : Int)) (hr : Row w a (l.flatten.map b8)) (h32 : S32 l) (hl : l.length = len) (hm : m < len) :
    (execOp ρ ⟨dst, .indexAddr T x y, ty, pos, aft, g⟩).run P w = .ok (.value (.pointer (a.map (·.add (m * 32))))) w :=
  r_ixS h hE hx hy hr hm (by rw [flat32_lenV h32, hl]; omega)
theorem r_load32 {m : Nat} {l : List (List UInt8)} (h : TI P T d 32 bts zv) (hd : aggD d = true) (hx : ρ x = .pointer (a.map (·.add (m * 32)))) (hr : Row w a (l.flatten.map b8)) (h32 : S32 l) (hm : m < l.length) :
    (execOp ρ ⟨dst, .load T x, ty, pos, aft, g⟩).run P w = .ok (.value (.agg ((gt l m).map b8).toArray)) w := by
  rw [r_loadSA h hd hx hr (by decide) (by rw [flat32_lenV h32]; omega), flat32_getV h32 hm]
end
def leafL (t : List UInt8) : List UInt8 := sumL (UInt8.ofNat 1) t
@[simp] theorem leafL_len (t : List UInt8) : (leafL t).length = 32 := sumL_len _ _
theorem take_gt {α : Type} [Inhabited α] (l : List α) (k : Nat) (h : k < l.length) : l.take (k + 1) = l.take k ++ [gt l k] := by
  rw [List.take_succ_eq_append_getElem h, gt_eq _ _ h]
/-! ### Proofs of growth -/
section
variable {older : List UInt8} {m n k : Nat} {wh : Bool} {p : List (List UInt8)} {x y : List UInt8}
end
/-! ### Proofs that are made -/
theorem flat_snoc (l : List (List UInt8)) (x : List UInt8) : (l ++ [x]).flatten = l.flatten ++ x := by rw [List.flatten_append]; simp
/-- Octets in pieces of 32. -/
theorem chunk32 : ∀ (n : Nat) (us : List UInt8), us.length = n * 32 → ∃ l : List (List UInt8), S32 l ∧ l.length = n ∧ l.flatten = us
  | 0, us, h => ⟨[], S32.nil, rfl, (List.eq_nil_of_length_eq_zero (by omega)).symm⟩
  | n + 1, us, h => by
    obtain ⟨l, h1, h2, h3⟩ := chunk32 n (us.drop 32) (by simp; omega)
    refine ⟨us.take 32 :: l, ?_, by simp [h2], by rw [List.flatten_cons, h3, List.take_append_drop]⟩
    intro s hs
    rcases List.mem_cons.1 hs with rfl | hs
    · simp; omega
    · exact h1 s hs
theorem St.chunk {w0 w : World} {M : List Nat} {l1 l2 : List Item} {v : Value} {E : TypeId} {n : Nat} {us : List UInt8} (hS : St w0 M w (l1 ++ .row v E 32 n (us.map b8) :: l2)) : ∃ q : List (List UInt8), S32 q ∧ q.length = n ∧ St w0 M w (l1 ++ .row v E 32 n (q.flatten.map b8) :: l2) := by
  have hl := (hS.has (.row v E 32 n (us.map b8)) (by simp)).1.1
  obtain ⟨q, h1, h2, h3⟩ := chunk32 n us (by simpa using hl)
  exact ⟨q, h1, h2, by rw [h3]; exact hS⟩
end Go.Kw
