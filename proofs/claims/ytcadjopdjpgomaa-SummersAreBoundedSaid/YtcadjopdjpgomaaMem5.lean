/- Storing into an owned row; shifts of int64. No condition. -/
import Derived.Test.YtcadjopdjpgomaaMem4
namespace Go.Kw
set_option linter.unusedVariables false
set_option linter.unusedSimpArgs false
section
variable {P : Program} {ρ : Operand → Value} {w w0 : World} {M : List Nat} {L l1 l2 : List Item} {dst : Option Tmp} {ty : TypeId} {pos : String} {aft : Array Edge} {g : Option (Nat × Bool)} {x y z : Operand} {T T2 E I : TypeId} {v : Value} {k : IntKind}
  {d dE : TypeDesc} {sz bts b o : Nat} {zv : Value} {a : Option Addr} {cs C : List Value}

theorem take_splice (L cs : List Value) (o N : Nat) (h1 : o + cs.length ≤ N) (h2 : N ≤ L.length) : (splice L o cs).take N = splice (L.take N) o cs := by
  have hA : (L.take o ++ cs).length = o + cs.length := by simp; omega
  simp only [splice, ← List.append_assoc]
  rw [List.take_take, Nat.min_eq_left (by omega), List.drop_take, List.take_append (l₁ := L.take o ++ cs), hA, List.take_of_length_le (l := L.take o ++ cs) (by rw [hA]; omega)]
/-- An owned row's block, and what is laid over it. -/
theorem x_storeRow {n c m : Nat} {xs : List Value} (l1 : List Item) {l2 : List Item} (hS : St w0 M w (l1 ++ .row (.slice a n c) E sz n xs :: l2)) (h : TI P T d sz bts zv) (hx : ρ x = .pointer (a.map (·.add (m * sz)))) (hy : ρ y = v) (hc : v.cells = cs.toArray) (hn : cs.length = sz) (h1 : One cs) (hm : m < n) (hsz : 0 < sz) :
    ∃ w', (execOp ρ ⟨none, .store T x y, ty, pos, aft, g⟩).run P w = .ok .skip w' ∧ St w0 M w' (l1 ++ .row (.slice a n c) E sz n (splice xs (m * sz) cs) :: l2) := by
  have hit := hS.has (.row (.slice a n c) E sz n xs) (by simp)
  obtain ⟨hl, hw⟩ := hit.1
  have hms : (m + 1) * sz ≤ n * sz := Nat.mul_le_mul_right _ hm
  rw [Nat.add_mul, Nat.one_mul] at hms
  rcases hw with ⟨hv, h0⟩ | ⟨gq, cap, cur, hv, h1', h2, h3, h4, h5, h6⟩
  · omega
  simp only [Value.slice.injEq] at hv
  obtain ⟨rfl, _, rfl⟩ := hv
  have hcap : n * sz ≤ c * sz := Nat.mul_le_mul_right _ h3
  have hx' : ρ x = pt gq (m * sz) := by rw [hx]; simp [add_lit]
  have hr := run_storeVar (w := w) (b := gq) (C := cur.toList) (E := E) (o := m * sz) h hc hn h1 (by simpa using h2) (by simp only [Array.length_toList]; omega)
  refine ⟨_, by simp [execOp, hx', hy, Instr.storeAt, Instr.sureAddr, hr]; rfl, ?_⟩
  have hlen : (splice cur.toList (m * sz) cs).length = cur.toList.length := length_splice _ _ _ (by simp only [Array.length_toList]; omega)
  refine hS.turnAt rfl rfl rfl (by simp) (fun k hk hne => setRow_other w gq k _ (fun e => hne (by simp [Item.id, Value.ownBlock, e]))) ?_ (fun k hk => .inl hk)
  refine ⟨⟨by rw [length_splice _ _ _ (by omega)]; exact hl, .inr ⟨gq, c, _, rfl, Nat.zero_le _, setRow_heap w gq cur _ E _ (by simpa using h2), h3, h4, ?_, ?_⟩⟩, hit.2⟩
  · simpa [hlen] using h5
  · rw [← h6]
    exact take_splice _ _ _ _ (by omega) (by simp only [Array.length_toList]; omega)
/-- One cell of an owned row. -/
theorem x_storeRow1 {α : Type} {f : α → Value} {us : List α} {u : α} {n c m : Nat} (l1 : List Item) {l2 : List Item} (hS : St w0 M w (l1 ++ .row (.slice a n c) E 1 n (us.map f) :: l2)) (h : TI P T d 1 bts zv) (hx : ρ x = .pointer (a.map (·.add (m * 1)))) (hy : ρ y = f u) (hv : (f u).oneCell' = true) (hm : m < n) :
    ∃ w', (execOp ρ ⟨none, .store T x y, ty, pos, aft, g⟩).run P w = .ok .skip w' ∧ St w0 M w' (l1 ++ .row (.slice a n c) E 1 n ((us.set m u).map f) :: l2) := by
  have hl := (hS.has (.row (.slice a n c) E 1 n (us.map f)) (by simp)).1.1
  obtain ⟨w', h1, h2⟩ := x_storeRow (ty := ty) (pos := pos) (aft := aft) (g := g) (cs := [f u]) l1 hS h hx hy (by cases hf : f u <;> simp_all [Value.cells, Value.oneCell']) rfl (one_cons hv one_nil) hm (by decide)
  refine ⟨w', h1, ?_⟩
  rw [Nat.mul_one, splice_one _ _ _ (by omega), ← List.map_set] at h2
  exact h2

theorem r_shri {k2 : IntKind} {a s : Nat} (hx : ρ x = vi a) (hy : ρ y = .int k2 (s : Int)) (hs : s ≤ 64) : (execOp ρ ⟨dst, .binOp .shr T x y T2, ty, pos, aft, g⟩).run P w = .ok (.value (vi (a / 2 ^ s))) w := by
  refine r_shr hx hy ?_
  rw [show IntKind.bits .i64 = 64 from rfl, Nat.min_eq_left hs, Int.fdiv_eq_ediv_of_nonneg _ (Int.le_of_lt (Int.pow_pos (by decide)))]
  norm_cast
/-- An element behind a slice of a known block. -/
theorem r_ixB {len cap m : Nat} (h : P.underlying T = some (.slice E)) (hE : TI P E dE 1 bts zv) (hx : ρ x = .slice (some ⟨b, 0, none⟩) len cap) (hy : ρ y = .int k (m : Int)) (hm : m < len) :
    (execOp ρ ⟨dst, .indexAddr T x y, ty, pos, aft, g⟩).run P w = .ok (.value (pt b m)) w := by
  have h0 : (0 : Int) ≤ (m : Int) ∧ (m : Int) < (len : Int) := by omega
  simp [execOp, hx, hy, Instr.indexAt, asIntOf, run_underlying h, run_sizeOf hE, hm, add_lit]
theorem r_min2n {a b : Nat} {tys : Array TypeId} (hx : ρ x = .int k (a : Int)) (hy : ρ y = .int k (b : Int)) (args : Array Operand) (ha : args = #[x, y]) :
    (execOp ρ ⟨dst, .call { callee := .builtin .min, args := args, argTypes := tys }, ty, pos, aft, g⟩).run P w = .ok (.value (.int k ((min a b : Nat) : Int))) w := by
  rw [r_min2 hx hy args ha]
  congr 3
  omega
theorem r_max2n {a b : Nat} {tys : Array TypeId} (hx : ρ x = .int k (a : Int)) (hy : ρ y = .int k (b : Int)) (args : Array Operand) (ha : args = #[x, y]) :
    (execOp ρ ⟨dst, .call { callee := .builtin .max, args := args, argTypes := tys }, ty, pos, aft, g⟩).run P w = .ok (.value (.int k ((max a b : Nat) : Int))) w := by
  rw [r_max2 hx hy args ha]
  congr 3
  omega
end
end Go.Kw
