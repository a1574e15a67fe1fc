/- What the law's proof leans on. No condition. -/
import Derived.Test.YtfohfnpehfcaaaaPMcAN
namespace Go.Kw
set_option linter.unusedVariables false
set_option linter.unusedSimpArgs false

/-! ### Lists of elements of m octets -/
def SN (m : Nat) (l : List (List UInt8)) : Prop := ∀ s ∈ l, s.length = m
section
variable {m : Nat} {l : List (List UInt8)}
theorem SN.nil : SN m [] := by intro s hs; cases hs
theorem SN.app {l' : List (List UInt8)} (h : SN m l) (h' : SN m l') : SN m (l ++ l') := by
  intro s hs
  rcases List.mem_append.1 hs with hs | hs
  · exact h s hs
  · exact h' s hs
theorem SN.one {s : List UInt8} (h : s.length = m) : SN m [s] := by intro x hx; rw [List.mem_singleton.1 hx]; exact h
theorem SN.gt {i : Nat} (h : SN m l) (hi : i < l.length) : (gt l i).length = m := h _ (gt_mem l i hi)
theorem SN.filter (h : SN m l) (p : List UInt8 → Bool) : SN m (l.filter p) := fun s hs => h s (List.mem_filter.1 hs).1
theorem SN.take (h : SN m l) (k : Nat) : SN m (l.take k) := fun s hs => h s (List.mem_of_mem_take hs)
theorem SN.drop (h : SN m l) (k : Nat) : SN m (l.drop k) := fun s hs => h s (List.mem_of_mem_drop hs)
theorem flatN_len : ∀ {l : List (List UInt8)}, SN m l → l.flatten.length = l.length * m
  | [], _ => by simp
  | s :: l, h => by
    rw [List.flatten_cons, List.length_append, h s (by simp), flatN_len (l := l) (fun x hx => h x (by simp [hx])), List.length_cons, Nat.succ_mul]; omega
theorem flatN_drop : ∀ {l : List (List UInt8)} (i : Nat), SN m l → l.flatten.drop (i * m) = (l.drop i).flatten
  | l, 0, _ => by simp
  | [], i + 1, _ => by simp
  | s :: l, i + 1, h => by
    have e : (i + 1) * m = s.length + i * m := by rw [h s (by simp), Nat.succ_mul]; omega
    rw [List.flatten_cons, e, List.drop_length_add_append, List.drop_succ_cons]
    exact flatN_drop i fun x hx => h x (by simp [hx])
theorem flatN_part {i o n : Nat} (h : SN m l) (hi : i < l.length) (ho : o + n ≤ m) : (l.flatten.drop (i * m + o)).take n = ((gt l i).drop o).take n := by
  have hg := h.gt hi
  rw [← List.drop_drop, flatN_drop i h, List.drop_eq_getElem_cons hi, ← gt_eq l i hi, List.flatten_cons, List.drop_append_of_le_length (by omega), List.take_append_of_le_length (by rw [List.length_drop]; omega)]
theorem flatN_get {i : Nat} (h : SN m l) (hi : i < l.length) : (l.flatten.drop (i * m)).take m = gt l i := by
  have := flatN_part (o := 0) (n := m) h hi (by omega)
  rw [Nat.add_zero, List.drop_zero, List.take_of_length_le (Nat.le_of_eq (h.gt hi))] at this
  exact this
theorem flatN_lenV (h : SN m l) : (l.flatten.map b8).length = l.length * m := by rw [List.length_map, flatN_len h]
end
section
variable {P : Program} {ρ : Operand → Value} {w w0 : World} {M : List Nat} {L l1 l2 : List Item} {dst : Option Tmp} {ty : TypeId} {pos : String} {aft : Array Edge} {g : Option (Nat × Bool)} {x y z : Operand} {T T2 E I : TypeId} {v : Value} {k : IntKind}
  {d dE : TypeDesc} {sz bts b o : Nat} {zv : Value} {a : Option Addr} {cs C : List Value}
theorem r_ixN {len cap m : Nat} {l : List (List UInt8)} (h : P.underlying T = some (.slice E)) (hE : TI P E dE sz bts zv) (hx : ρ x = .slice a len cap) (hy : ρ y = .int k (m : Int)) (hr : Row w a (l.flatten.map b8)) (hs : SN sz l) (hl : l.length = len) (hm : m < len) (hz : 0 < sz) :
    (execOp ρ ⟨dst, .indexAddr T x y, ty, pos, aft, g⟩).run P w = .ok (.value (.pointer (a.map (·.add (m * sz))))) w :=
  r_ixS h hE hx hy hr hm (by rw [flatN_lenV hs, hl]; exact Nat.mul_lt_mul_of_pos_right hm hz)
theorem r_loadN {m : Nat} {l : List (List UInt8)} (h : TI P T d sz bts zv) (hd : aggD d = true) (hx : ρ x = .pointer (a.map (·.add (m * sz)))) (hr : Row w a (l.flatten.map b8)) (hs : SN sz l) (hm : m < l.length) (hz : 0 < sz) :
    (execOp ρ ⟨dst, .load T x, ty, pos, aft, g⟩).run P w = .ok (.value (.agg ((gt l m).map b8).toArray)) w := by
  have h1 : m * sz + sz ≤ l.length * sz := by rw [← Nat.succ_mul]; exact Nat.mul_le_mul_right _ hm
  rw [r_loadSA h hd hx hr hz (by rw [flatN_lenV hs]; exact h1), ← List.map_drop, ← List.map_take, flatN_get hs hm]
/-- A field of an element. -/
theorem r_fieldR {i off : Nat} (h : FA P T i off) (hx : ρ x = .pointer (a.map (·.add o))) (hr : Row w a cs) (hn : 0 < cs.length) : (execOp ρ ⟨dst, .fieldAddr T x i, ty, pos, aft, g⟩).run P w = .ok (.value (.pointer (a.map (·.add (o + off))))) w := by
  obtain ⟨b, q, rfl, _⟩ := hr.some_of hn
  have := r_field (ρ := ρ) (x := x) (dst := dst) (ty := ty) (pos := pos) (aft := aft) (g := g) (w := w) (b := b) (o := q + o) h (by rw [hx]; simp [add_lit])
  rw [this]
  simp [add_lit, Nat.add_assoc]
theorem r_loadNF {m off n : Nat} {l : List (List UInt8)} (h : TI P T d n bts zv) (hd : aggD d = true) (hx : ρ x = .pointer (a.map (·.add (m * sz + off)))) (hr : Row w a (l.flatten.map b8)) (hs : SN sz l) (hm : m < l.length) (hz : 0 < n) (ho : off + n ≤ sz) :
    (execOp ρ ⟨dst, .load T x, ty, pos, aft, g⟩).run P w = .ok (.value (.agg ((((gt l m).drop off).take n).map b8).toArray)) w := by
  have h1 : m * sz + sz ≤ l.length * sz := by rw [← Nat.succ_mul]; exact Nat.mul_le_mul_right _ hm
  rw [r_loadSA h hd hx hr hz (by rw [flatN_lenV hs]; omega), ← List.map_drop, ← List.map_take, flatN_part hs hm ho]
end

theorem cellsL_agg (cs : List Value) : cellsL (.agg cs.toArray) = cs := rfl
theorem cellsL_int (k : IntKind) (n : Int) : cellsL (.int k n) = [.int k n] := rfl
theorem cellsL_bool (b : Bool) : cellsL (.bool b) = [.bool b] := rfl
theorem cellsL_string (b : ByteArray) : cellsL (.string b) = [.string b] := rfl
theorem cellsL_slice (a : Option Addr) (n c : Nat) : cellsL (.slice a n c) = [.slice a n c] := rfl
theorem cellsL_pointer (a : Option Addr) : cellsL (.pointer a) = [.pointer a] := rfl
/-! ### Bits -/
def bitL (k : List UInt8) (i : Nat) : Nat := (gt k (i / 8) >>> UInt8.ofNat (7 - i % 8)).toNat % 2
theorem bitL_01 (k : List UInt8) (i : Nat) : bitL k i = 0 ∨ bitL k i = 1 := by unfold bitL; omega
def firstD (a b : List UInt8) : Nat → Nat → Nat
  | 0, i => i
  | f + 1, i => if bitL a i = bitL b i then firstD a b f (i + 1) else i
def differL (a b : List UInt8) : Nat := firstD a b 256 0
theorem firstD_step {a b : List UInt8} {f i : Nat} (h : bitL a i = bitL b i) : firstD a b (f + 1) i = firstD a b f (i + 1) := by rw [firstD, if_pos h]
theorem firstD_here {a b : List UInt8} {f i : Nat} (h : ¬ bitL a i = bitL b i) : firstD a b (f + 1) i = i := by rw [firstD, if_neg h]
theorem firstD_spec (a b : List UInt8) : ∀ (f i : Nat), i ≤ firstD a b f i ∧ firstD a b f i ≤ i + f ∧ (∀ j, i ≤ j → j < firstD a b f i → bitL a j = bitL b j) ∧ (firstD a b f i < i + f → ¬ bitL a (firstD a b f i) = bitL b (firstD a b f i))
  | 0, i => by simp only [firstD]; exact ⟨Nat.le_refl _, Nat.le_refl _, fun j h1 h2 => by omega, fun h => by omega⟩
  | f + 1, i => by
    by_cases h : bitL a i = bitL b i
    · rw [firstD_step h]
      obtain ⟨h1, h2, h3, h4⟩ := firstD_spec a b f (i + 1)
      refine ⟨by omega, by omega, fun j hj1 hj2 => ?_, fun hlt => h4 (by omega)⟩
      by_cases hij : j = i
      · subst hij; exact h
      · exact h3 j (by omega) hj2
    · rw [firstD_here h]
      exact ⟨Nat.le_refl _, by omega, fun j h1 h2 => by omega, fun _ => h⟩
theorem differL_spec (a b : List UInt8) : differL a b ≤ 256 ∧ (∀ j, j < differL a b → bitL a j = bitL b j) ∧ (differL a b < 256 → ¬ bitL a (differL a b) = bitL b (differL a b)) := by
  obtain ⟨_, h2, h3, h4⟩ := firstD_spec a b 256 0
  unfold differL
  exact ⟨by omega, fun j hj => h3 j (Nat.zero_le _) hj, fun h => h4 (by omega)⟩
/-- An octet is its bits. -/
theorem byte_bits (x y : UInt8) (h : ∀ j, j < 8 → (x >>> UInt8.ofNat (7 - j)).toNat % 2 = (y >>> UInt8.ofNat (7 - j)).toNat % 2) : x = y := by
  apply UInt8.toNat_inj.1
  have hx := x.toNat_lt
  have hy := y.toNat_lt
  have e : ∀ (z : UInt8) (s : Nat), s < 8 → (z >>> UInt8.ofNat s).toNat = z.toNat / 2 ^ s := by
    intro z s hs
    rw [UInt8.toNat_shiftRight, UInt8.toNat_ofNat', Nat.mod_eq_of_lt (a := s) (by omega), Nat.mod_eq_of_lt hs, Nat.shiftRight_eq_div_pow]
  have h0 := h 7 (by decide); have h1 := h 6 (by decide); have h2 := h 5 (by decide); have h3 := h 4 (by decide)
  have h4 := h 3 (by decide); have h5 := h 2 (by decide); have h6 := h 1 (by decide); have h7 := h 0 (by decide)
  rw [e _ _ (by decide), e _ _ (by decide)] at h0 h1 h2 h3 h4 h5 h6 h7
  simp only [Nat.reduceSub, Nat.reducePow] at *
  omega
theorem bitL_at (k : List UInt8) (i j : Nat) (hj : j < 8) : bitL k (8 * i + j) = (gt k i >>> UInt8.ofNat (7 - j)).toNat % 2 := by
  unfold bitL
  rw [show (8 * i + j) / 8 = i by omega, show (8 * i + j) % 8 = j by omega]
theorem differL_ne {a b : List UInt8} (ha : a.length = 32) (hb : b.length = 32) (h : ¬ a = b) : differL a b < 256 := by
  obtain ⟨h1, h2, _⟩ := differL_spec a b
  rcases Nat.lt_or_ge (differL a b) 256 with hlt | hge
  · exact hlt
  · exfalso
    apply h
    apply ext_gt (by omega)
    intro i hi
    apply byte_bits
    intro j hj
    rw [← bitL_at a i j hj, ← bitL_at b i j hj]
    exact h2 _ (by omega)

/-! ### Marks of levels -/
def manyTo (lv : List UInt8) : Nat → Nat
  | 0 => 0
  | k + 1 => manyTo lv k + bitL lv k
def depthTo (lv : List UInt8) : Nat → Nat
  | 0 => 0
  | k + 1 => if bitL lv k = 1 then k + 1 else depthTo lv k
theorem manyTo_le (lv : List UInt8) : ∀ k, manyTo lv k ≤ k
  | 0 => Nat.le_refl _
  | k + 1 => by rw [manyTo]; have := manyTo_le lv k; have := bitL_01 lv k; omega
theorem depthTo_le (lv : List UInt8) : ∀ k, depthTo lv k ≤ k
  | 0 => Nat.le_refl _
  | k + 1 => by rw [depthTo]; have := depthTo_le lv k; split <;> omega
theorem many_depth (lv : List UInt8) : ∀ k, manyTo lv (depthTo lv k) = manyTo lv k
  | 0 => rfl
  | k + 1 => by
    rw [depthTo]
    split
    · rfl
    · rename_i h
      have := bitL_01 lv k
      rw [many_depth lv k, manyTo]; omega
theorem manyTo_mono (lv : List UInt8) {i j : Nat} (h : i ≤ j) : manyTo lv i ≤ manyTo lv j := by
  induction j with
  | zero => rw [show i = 0 by omega]; exact Nat.le_refl _
  | succ j ih =>
    by_cases hij : i = j + 1
    · rw [hij]; exact Nat.le_refl _
    · rw [manyTo]; have := ih (by omega); omega
def popTab : List UInt8 := [0, 1, 1, 2, 1, 2, 2, 3, 1, 2, 2, 3, 2, 3, 3, 4, 1, 2, 2, 3, 2, 3, 3, 4, 2, 3, 3, 4, 3, 4, 4, 5, 1, 2, 2, 3, 2, 3, 3, 4, 2, 3, 3, 4, 3, 4, 4, 5, 2, 3, 3, 4, 3, 4, 4, 5, 3, 4, 4, 5, 4, 5, 5, 6, 1, 2, 2, 3, 2, 3, 3, 4, 2, 3, 3, 4, 3, 4, 4, 5, 2, 3, 3, 4, 3, 4, 4, 5, 3, 4, 4, 5, 4, 5, 5, 6, 2, 3, 3, 4, 3, 4, 4, 5, 3, 4, 4, 5, 4, 5, 5, 6, 3, 4, 4, 5, 4, 5, 5, 6, 4, 5, 5, 6, 5, 6, 6, 7, 1, 2, 2, 3, 2, 3, 3, 4, 2, 3, 3, 4, 3, 4, 4, 5, 2, 3, 3, 4, 3, 4, 4, 5, 3, 4, 4, 5, 4, 5, 5, 6, 2, 3, 3, 4, 3, 4, 4, 5, 3, 4, 4, 5, 4, 5, 5, 6, 3, 4, 4, 5, 4, 5, 5, 6, 4, 5, 5, 6, 5, 6, 6, 7, 2, 3, 3, 4, 3, 4, 4, 5, 3, 4, 4, 5, 4, 5, 5, 6, 3, 4, 4, 5, 4, 5, 5, 6, 4, 5, 5, 6, 5, 6, 6, 7, 3, 4, 4, 5, 4, 5, 5, 6, 4, 5, 5, 6, 5, 6, 6, 7, 4, 5, 5, 6, 5, 6, 6, 7, 5, 6, 6, 7, 6, 7, 7, 8]
def tzTab : List UInt8 := [8, 0, 1, 0, 2, 0, 1, 0, 3, 0, 1, 0, 2, 0, 1, 0, 4, 0, 1, 0, 2, 0, 1, 0, 3, 0, 1, 0, 2, 0, 1, 0, 5, 0, 1, 0, 2, 0, 1, 0, 3, 0, 1, 0, 2, 0, 1, 0, 4, 0, 1, 0, 2, 0, 1, 0, 3, 0, 1, 0, 2, 0, 1, 0, 6, 0, 1, 0, 2, 0, 1, 0, 3, 0, 1, 0, 2, 0, 1, 0, 4, 0, 1, 0, 2, 0, 1, 0, 3, 0, 1, 0, 2, 0, 1, 0, 5, 0, 1, 0, 2, 0, 1, 0, 3, 0, 1, 0, 2, 0, 1, 0, 4, 0, 1, 0, 2, 0, 1, 0, 3, 0, 1, 0, 2, 0, 1, 0, 7, 0, 1, 0, 2, 0, 1, 0, 3, 0, 1, 0, 2, 0, 1, 0, 4, 0, 1, 0, 2, 0, 1, 0, 3, 0, 1, 0, 2, 0, 1, 0, 5, 0, 1, 0, 2, 0, 1, 0, 3, 0, 1, 0, 2, 0, 1, 0, 4, 0, 1, 0, 2, 0, 1, 0, 3, 0, 1, 0, 2, 0, 1, 0, 6, 0, 1, 0, 2, 0, 1, 0, 3, 0, 1, 0, 2, 0, 1, 0, 4, 0, 1, 0, 2, 0, 1, 0, 3, 0, 1, 0, 2, 0, 1, 0, 5, 0, 1, 0, 2, 0, 1, 0, 3, 0, 1, 0, 2, 0, 1, 0, 4, 0, 1, 0, 2, 0, 1, 0, 3, 0, 1, 0, 2, 0, 1, 0]
def pbit (c j : Nat) : Nat := c / 2 ^ (7 - j) % 2
theorem pop_all : ∀ c, c < 256 → (gt popTab c).toNat = pbit c 0 + pbit c 1 + pbit c 2 + pbit c 3 + pbit c 4 + pbit c 5 + pbit c 6 + pbit c 7 := by decide +kernel
theorem tz_all : ∀ c, c < 256 → (if pbit c 7 = 1 then 0 else if pbit c 6 = 1 then 1 else if pbit c 5 = 1 then 2 else if pbit c 4 = 1 then 3 else if pbit c 3 = 1 then 4 else if pbit c 2 = 1 then 5 else if pbit c 1 = 1 then 6 else if pbit c 0 = 1 then 7 else 8) = (gt tzTab c).toNat ∧ (c = 0 ↔ (gt tzTab c).toNat = 8) := by decide +kernel
theorem pbit_eq (lv : List UInt8) (i j : Nat) (hj : j < 8) : bitL lv (8 * i + j) = pbit (gt lv i).toNat j := by
  rw [bitL_at lv i j hj, pbit, UInt8.toNat_shiftRight, UInt8.toNat_ofNat', Nat.mod_eq_of_lt (a := 7 - j) (by omega), Nat.mod_eq_of_lt (a := 7 - j) (by omega), Nat.shiftRight_eq_div_pow]
theorem many_byte (lv : List UInt8) (i : Nat) : manyTo lv (8 * (i + 1)) = manyTo lv (8 * i) + (gt popTab (gt lv i).toNat).toNat := by
  rw [pop_all _ (gt lv i).toNat_lt, show 8 * (i + 1) = 8 * i + 7 + 1 by omega]
  simp only [manyTo, ← pbit_eq lv i _ (by decide : (0 : Nat) < 8), ← pbit_eq lv i _ (by decide : (1 : Nat) < 8), ← pbit_eq lv i _ (by decide : (2 : Nat) < 8), ← pbit_eq lv i _ (by decide : (3 : Nat) < 8), ← pbit_eq lv i _ (by decide : (4 : Nat) < 8), ← pbit_eq lv i _ (by decide : (5 : Nat) < 8), ← pbit_eq lv i _ (by decide : (6 : Nat) < 8), ← pbit_eq lv i _ (by decide : (7 : Nat) < 8)]
  simp only [Nat.add_zero]; omega
theorem depth_byte (lv : List UInt8) (i : Nat) : depthTo lv (8 * (i + 1)) = if (gt lv i).toNat = 0 then depthTo lv (8 * i) else 8 * i + 8 - (gt tzTab (gt lv i).toNat).toNat := by
  obtain ⟨h1, h2⟩ := tz_all _ (gt lv i).toNat_lt
  rw [show 8 * (i + 1) = 8 * i + 7 + 1 by omega]
  have e0 := pbit_eq lv i 0 (by decide); have e1 := pbit_eq lv i 1 (by decide); have e2 := pbit_eq lv i 2 (by decide); have e3 := pbit_eq lv i 3 (by decide)
  have e4 := pbit_eq lv i 4 (by decide); have e5 := pbit_eq lv i 5 (by decide); have e6 := pbit_eq lv i 6 (by decide); have e7 := pbit_eq lv i 7 (by decide)
  rw [Nat.add_zero] at e0
  simp only [depthTo, e0, e1, e2, e3, e4, e5, e6, e7]
  by_cases hc : (gt lv i).toNat = 0
  · have := h2.1 hc
    rw [if_pos hc]
    rw [← h1] at this
    repeat (split at this <;> first | (exfalso; omega) | skip)
    repeat (rw [if_neg (by assumption)])
  · rw [if_neg hc]
    have h8 : ¬ (gt tzTab (gt lv i).toNat).toNat = 8 := fun h => hc (h2.2 h)
    rw [← h1] at h8 ⊢
    repeat' split
    all_goals first | omega | (exfalso; simp_all)

/-! ### The way up -/
def sideL (k : List UInt8) (i : Nat) (s o : List UInt8) : List UInt8 := if bitL k i = 0 then nodeL s o else nodeL o s
@[simp] theorem sideL_len (k : List UInt8) (i : Nat) (s o : List UInt8) : (sideL k i s o).length = 32 := by unfold sideL; split <;> simp
abbrev Z32L : List UInt8 := List.replicate 32 0
def upL (k lv : List UInt8) (p : List (List UInt8)) : Nat → List UInt8 → List UInt8
  | 0, s => s
  | i + 1, s => upL k lv p i (sideL k i s (if bitL lv i = 1 then gt p (manyTo lv i) else Z32L))
theorem upL_len (k lv : List UInt8) (p : List (List UInt8)) : ∀ (i : Nat) (s : List UInt8), s.length = 32 → (upL k lv p i s).length = 32
  | 0, s, h => h
  | i + 1, s, h => upL_len k lv p i _ (sideL_len _ _ _ _)
def leafM (e : List UInt8) : List UInt8 := sumL (UInt8.ofNat 4) e
@[simp] theorem leafM_len (e : List UInt8) : (leafM e).length = 32 := sumL_len _ _
def upAll (k s lv : List UInt8) (p : List (List UInt8)) : List UInt8 := upL k lv p (depthTo lv 256) s
theorem upAll_len (k s lv : List UInt8) (p : List (List UInt8)) (h : s.length = 32) : (upAll k s lv p).length = 32 := upL_len _ _ _ _ _ h
def thereE (root k v lv : List UInt8) (p : List (List UInt8)) : Nat := if v = Z32L then 2 else if p.length = manyTo lv 256 ∧ upAll k (leafM (k ++ v)) lv p = root then 0 else 12
def absentE (root k lv : List UInt8) (p : List (List UInt8)) : Nat :=
  if p.length = manyTo lv 256 then (if upAll k Z32L lv p = root then 0 else 12)
  else if p.length = manyTo lv 256 + 2 then
    (if gt p (manyTo lv 256) = k ∨ differL (gt p (manyTo lv 256)) k < depthTo lv 256 ∨ gt p (manyTo lv 256 + 1) = Z32L then 12 else if upAll k (leafM (gt p (manyTo lv 256) ++ gt p (manyTo lv 256 + 1))) lv p = root then 0 else 12)
  else 12
/-- Levels with nothing on the other side. -/
def chainL (k : List UInt8) (d : Nat) : Nat → List UInt8 → List UInt8
  | 0, s => s
  | n + 1, s => chainL k d n (sideL k (d + n) s Z32L)
theorem chainL_len (k : List UInt8) (d : Nat) : ∀ (n : Nat) (s : List UInt8), s.length = 32 → (chainL k d n s).length = 32
  | 0, s, h => h
  | n + 1, s, h => chainL_len k d n _ (sideL_len _ _ _ _)

/-! ### The reference's root of entries (a key and its value, 64 octets) -/
def mapRootF : Nat → List (List UInt8) → Nat → List UInt8
  | 0, l, _ => if l.length = 0 then Z32L else leafM (gt l 0)
  | f + 1, l, i => if l.length = 0 then Z32L else if l.length = 1 then leafM (gt l 0) else nodeL (mapRootF f (l.filter fun e => bitL e i == 0) (i + 1)) (mapRootF f (l.filter fun e => !(bitL e i == 0)) (i + 1))
theorem mapRootF_len : ∀ (f : Nat) (l : List (List UInt8)) (i : Nat), (mapRootF f l i).length = 32
  | 0, l, i => by rw [mapRootF]; split <;> simp [Z32L]
  | f + 1, l, i => by
    rw [mapRootF]
    split
    · simp [Z32L]
    · split <;> simp
theorem mapRootF_0 (f : Nat) (i : Nat) : mapRootF f [] i = Z32L := by cases f <;> rw [mapRootF] <;> simp
theorem mapRootF_1 (f : Nat) (e : List UInt8) (i : Nat) : mapRootF f [e] i = leafM e := by cases f <;> rw [mapRootF] <;> simp [gt]
/-- Two keys that part at t. -/
theorem mapRoot_two (x y : List UInt8) : ∀ (n d f : Nat), (∀ j, d ≤ j → j < d + n → bitL x j = bitL y j) → ¬ bitL x (d + n) = bitL y (d + n) → n < f → mapRootF f [x, y] d = chainL x d n (sideL x (d + n) (leafM x) (leafM y)) := by
  intro n
  induction n with
  | zero =>
    intro d f _ hd hf
    obtain ⟨f, rfl⟩ : ∃ g, f = g + 1 := ⟨f - 1, by omega⟩
    rw [Nat.add_zero] at hd ⊢
    rw [mapRootF, if_neg (by simp), if_neg (by simp), chainL, sideL]
    rcases bitL_01 x d with hx | hx <;> rcases bitL_01 y d with hy | hy
    · exact absurd (hx.trans hy.symm) hd
    · simp [hx, hy, mapRootF_1]
    · simp [hx, hy, mapRootF_1]
    · exact absurd (hx.trans hy.symm) hd
  | succ n ih =>
    intro d f he hd hf
    obtain ⟨f, rfl⟩ : ∃ g, f = g + 1 := ⟨f - 1, by omega⟩
    have h0 := he d (Nat.le_refl _) (by omega)
    have hr := ih (d + 1) f (fun j h1 h2 => he j (by omega) (by omega)) (by rw [show d + 1 + n = d + (n + 1) by omega]; exact hd) (by omega)
    rw [show d + 1 + n = d + (n + 1) by omega] at hr
    have hch : ∀ (m : Nat) (s : List UInt8), chainL x d (m + 1) s = sideL x d (chainL x (d + 1) m s) Z32L := by
      intro m
      induction m with
      | zero => intro s; rfl
      | succ m ihm =>
        intro s
        rw [chainL, ihm, chainL, show d + 1 + m = d + (m + 1) by omega]
    rw [mapRootF, if_neg (by simp), if_neg (by simp), hch, sideL]
    rcases bitL_01 x d with hx | hx
    · have hy : bitL y d = 0 := by omega
      simp [hx, hy, mapRootF_0, hr]
    · have hy : bitL y d = 1 := by omega
      simp [hx, hy, mapRootF_0, hr]
/-- Keys that part from some level on. -/
def Parts (i : Nat) (l : List (List UInt8)) : Prop := l.Pairwise fun x y => ∃ j, i ≤ j ∧ j < 256 ∧ ¬ bitL x j = bitL y j
theorem Parts.short {l : List (List UInt8)} (h : Parts 256 l) : l.length ≤ 1 := by
  match l, h with
  | [], _ => simp
  | [_], _ => simp
  | x :: y :: l, h =>
    unfold Parts at h
    rw [List.pairwise_cons] at h
    obtain ⟨j, h1, h2, _⟩ := h.1 y (by simp)
    omega
theorem Parts.zero {i : Nat} {l : List (List UInt8)} (h : Parts i l) : Parts (i + 1) (l.filter fun e => bitL e i == 0) := by
  unfold Parts
  rw [List.pairwise_filter]
  refine List.Pairwise.imp ?_ h
  rintro x y ⟨j, h1, h2, h3⟩ hx hy
  refine ⟨j, ?_, h2, h3⟩
  by_cases hij : j = i
  · subst hij
    simp only [beq_iff_eq] at hx hy
    omega
  · omega
theorem Parts.one {i : Nat} {l : List (List UInt8)} (h : Parts i l) : Parts (i + 1) (l.filter fun e => !(bitL e i == 0)) := by
  unfold Parts
  rw [List.pairwise_filter]
  refine List.Pairwise.imp ?_ h
  rintro x y ⟨j, h1, h2, h3⟩ hx hy
  refine ⟨j, ?_, h2, h3⟩
  by_cases hij : j = i
  · subst hij
    have := bitL_01 x j; have := bitL_01 y j
    simp only [Bool.not_eq_true', beq_eq_false_iff_ne, ne_eq] at hx hy
    omega
  · omega
theorem tz_le : ∀ c, c < 256 → (gt tzTab c).toNat ≤ 8 := by decide +kernel
theorem bitL_app {k v : List UInt8} (hk : k.length = 32) {j : Nat} (hj : j < 256) : bitL (k ++ v) j = bitL k j := by unfold bitL; rw [gt_app _ _ _ (by omega)]
theorem sideL_app {k v : List UInt8} (hk : k.length = 32) {j : Nat} (hj : j < 256) (s o : List UInt8) : sideL (k ++ v) j s o = sideL k j s o := by unfold sideL; rw [bitL_app hk hj]
theorem chainL_app {k v : List UInt8} (hk : k.length = 32) (d : Nat) : ∀ (n : Nat) (s : List UInt8), d + n ≤ 256 → chainL (k ++ v) d n s = chainL k d n s
  | 0, _, _ => rfl
  | n + 1, s, h => by rw [chainL, chainL, sideL_app hk (by omega), chainL_app hk d n _ (by omega)]
theorem ent_split {x : List UInt8} (h : x.length = 64) : (x.drop 0).take 32 ++ (x.drop 32).take 32 = x := by
  rw [List.drop_zero, List.take_of_length_le (l := x.drop 32) (by simp; omega), List.take_append_drop]
/-- The reference's root of two entries is the program's chain. -/
theorem mapRoot_chain {k v o u : List UInt8} (hk : k.length = 32) (ho : o.length = 32) {d : Nat} (hne : ¬ o = k) (hd : d ≤ differL o k) : mapRootF (256 - d) [k ++ v, o ++ u] d = chainL k d (differL o k - d) (sideL k (differL o k) (leafM (k ++ v)) (leafM (o ++ u))) := by
  have hlt := differL_ne ho hk hne
  obtain ⟨_, h2, h3⟩ := differL_spec o k
  have e : d + (differL o k - d) = differL o k := by omega
  have := mapRoot_two (k ++ v) (o ++ u) (differL o k - d) d (256 - d) (fun j h4 h5 => by rw [bitL_app hk (by omega), bitL_app ho (by omega)]; exact (h2 j (by omega)).symm) (by rw [e, bitL_app hk hlt, bitL_app ho hlt]; exact fun h => h3 hlt h.symm) (by omega)
  rw [this, e, sideL_app hk hlt, chainL_app hk d _ _ (by omega)]
theorem parts_two {k v o u : List UInt8} (hk : k.length = 32) (ho : o.length = 32) {d : Nat} (hne : ¬ o = k) (hd : d ≤ differL o k) : Parts d [k ++ v, o ++ u] := by
  have hlt := differL_ne ho hk hne
  obtain ⟨_, h2, h3⟩ := differL_spec o k
  refine List.pairwise_cons.2 ⟨fun y hy => ?_, by simp⟩
  obtain rfl := List.mem_singleton.1 hy
  exact ⟨differL o k, hd, hlt, by rw [bitL_app hk hlt, bitL_app ho hlt]; exact fun h => h3 hlt h.symm⟩
def changedL (root k old v lv : List UInt8) (p : List (List UInt8)) : List UInt8 × Nat :=
  if v = Z32L then (Z32L, 2) else if ¬ old = Z32L then (if thereE root k old lv p = 0 then (upAll k (leafM (k ++ v)) lv p, 0) else (Z32L, thereE root k old lv p))
  else if absentE root k lv p = 0 then
    (if p.length = manyTo lv 256 then (upAll k (leafM (k ++ v)) lv p, 0)
     else (upAll k (chainL k (depthTo lv 256) (differL (gt p (manyTo lv 256)) k - depthTo lv 256) (sideL k (differL (gt p (manyTo lv 256)) k) (leafM (k ++ v)) (leafM (gt p (manyTo lv 256) ++ gt p (manyTo lv 256 + 1))))) lv p, 0))
  else (Z32L, absentE root k lv p)
theorem absent_zero {root k lv : List UInt8} {p : List (List UInt8)} (h : absentE root k lv p = 0) : p.length = manyTo lv 256 ∨ (p.length = manyTo lv 256 + 2 ∧ ¬ gt p (manyTo lv 256) = k ∧ depthTo lv 256 ≤ differL (gt p (manyTo lv 256)) k) := by
  unfold absentE at h
  split at h
  · exact .inl (by assumption)
  · split at h
    · split at h
      · cases h
      · rename_i h1 h2 h3
        refine .inr ⟨h2, fun hh => h3 (.inl hh), ?_⟩
        exact Nat.le_of_not_lt fun hh => h3 (.inr (.inl hh))
    · cases h
section
variable {P : Program} {ρ : Operand → Value} {w w0 : World} {M : List Nat} {L l1 l2 : List Item} {dst : Option Tmp} {ty : TypeId} {pos : String} {aft : Array Edge} {g : Option (Nat × Bool)} {x y z : Operand} {T T2 E I : TypeId} {v : Value} {k : IntKind}
  {d dE : TypeDesc} {sz bts b o : Nat} {zv : Value} {a : Option Addr} {cs C : List Value}
theorem r_loadPre {α : Type} {f : α → Value} {us : List α} {fr : Nat × Nat} (h : TI P T d sz bts zv) (hd : aggD d = true) (hx : ρ x = pt b 0) (hb : w.heap[b]? = some (.cells (us.map f ++ cs).toArray E fr)) (hl : us.length = sz) :
    (execOp ρ ⟨dst, .load T x, ty, pos, aft, g⟩).run P w = .ok (.value (.agg (us.map f).toArray)) w := by
  rw [r_loadBP h hd hx hb (by simp [hl])]
  rw [List.drop_zero, List.take_left' (by simpa using hl)]
theorem mp_get {us : List UInt8} {u : Value} (h : us.length = 32) : (us.map b8 ++ [u])[32]? = some u := by
  rw [List.getElem?_append_right (by simp [h])]; simp [h]
theorem x_litA2 {parts : Array (Nat × Operand)} {as bs : List Value} (hS : St w0 M w L) (hT : P.underlying T = some (.slice E)) (hE : TI P E dE sz bts zv) (hp : parts.toList.map (fun x => (x.1, ρ x.2)) = [(0, .agg as.toArray), (1, .agg bs.toArray)]) (hl : as.length = sz) (hl2 : bs.length = sz) (hzc : zv.cells.size = sz) (hlen : 2 * sz ≤ 16777216) (h0 : 0 < sz) :
    ∃ v w', (execOp ρ ⟨dst, .buildSlice T 2 parts, ty, pos, aft, g⟩).run P w = .ok (.value v) w' ∧ ∃ b, v = .slice (some ⟨b, 0, none⟩) 2 2 ∧ St w0 M w' (.blk b (cl (as ++ bs) E) :: L) := by
  have h := x_litN (dst := dst) (ty := ty) (pos := pos) (aft := aft) (g := g) (vs := [.agg as.toArray, .agg bs.toArray]) (css := [as, bs]) (len := 2) hS hT hE (by simpa using hp) rfl rfl (fun i hi => by
    match i, hi with
    | 0, _ => exact ⟨rfl, by simpa using hl⟩
    | 1, _ => exact ⟨rfl, by simpa using hl2⟩) hzc hlen (by omega)
  simpa using h
end
theorem bitL_take {x : List UInt8} {j : Nat} (hj : j < 256) : bitL ((x.drop 0).take 32) j = bitL x j := by unfold bitL; rw [List.drop_zero, gt_take _ _ _ (by omega)]
theorem filt_t {p : List UInt8 → Bool} {l : List (List UInt8)} {i : Nat} (hi : i < l.length) (h : p (gt l i) = true) : (l.take (i + 1)).filter p = (l.take i).filter p ++ [gt l i] := by rw [take_gt l i hi, List.filter_append]; simp [h]
theorem filt_f {p : List UInt8 → Bool} {l : List (List UInt8)} {i : Nat} (hi : i < l.length) (h : p (gt l i) = false) : (l.take (i + 1)).filter p = (l.take i).filter p := by rw [take_gt l i hi, List.filter_append]; simp [h]
theorem Parts.more {f lev : Nat} {l : List (List UInt8)} (h : Parts lev l) (hlf : lev + f = 256) (hl : 2 ≤ l.length) : ∃ g, f = g + 1 := by
  rcases Nat.eq_zero_or_pos f with h0 | h0
  · exfalso
    obtain rfl : lev = 256 := by omega
    have := h.short
    omega
  · exact ⟨f - 1, by omega⟩
theorem changed_len (root k old v lv : List UInt8) (p : List (List UInt8)) : (changedL root k old v lv p).1.length = 32 := by
  unfold changedL
  repeat' split
  all_goals first | exact upAll_len _ _ _ _ (by first | (simp; done) | exact chainL_len _ _ _ _ (sideL_len _ _ _ _)) | (simp; done)
end Go.Kw
