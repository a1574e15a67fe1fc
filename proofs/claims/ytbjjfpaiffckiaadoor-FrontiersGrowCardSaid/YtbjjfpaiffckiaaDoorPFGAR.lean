/- What the law's proof leans on. No condition. -/
import Derived.Test.YtbjjfpaiffckiaaDoorPFGAP
import Derived.Test.YtbjjfpaiffckiaaDoorPFGAK
section
namespace Go.Kw
set_option linter.unusedVariables false
set_option linter.unusedSimpArgs false

/-! ### Lists of sums -/
def S32 (l : List (List UInt8)) : Prop := ∀ s ∈ l, s.length = 32
theorem S32.nil : S32 [] := by intro s hs; cases hs
theorem S32.take {l : List (List UInt8)} (h : S32 l) (k : Nat) : S32 (l.take k) := fun s hs => h s (List.mem_of_mem_take hs)
theorem S32.drop {l : List (List UInt8)} (h : S32 l) (k : Nat) : S32 (l.drop k) := fun s hs => h s (List.mem_of_mem_drop hs)
theorem S32.app {l m : List (List UInt8)} (h : S32 l) (h' : S32 m) : S32 (l ++ m) := by
  intro s hs
  rcases List.mem_append.1 hs with hs | hs
  · exact h s hs
  · exact h' s hs
theorem S32.one {s : List UInt8} (h : s.length = 32) : S32 [s] := by intro x hx; rw [List.mem_singleton.1 hx]; exact h
theorem S32.gt {l : List (List UInt8)} (h : S32 l) {i : Nat} (hi : i < l.length) : (gt l i).length = 32 := h _ (gt_mem l i hi)
theorem flat32_len : ∀ {l : List (List UInt8)}, S32 l → l.flatten.length = l.length * 32
  | [], _ => rfl
  | s :: l, h => by
    rw [List.flatten_cons, List.length_append, h s (by simp), flat32_len (l := l) (fun x hx => h x (by simp [hx])), List.length_cons]; omega
theorem flat32_drop : ∀ {l : List (List UInt8)} (i : Nat), S32 l → l.flatten.drop (i * 32) = (l.drop i).flatten
  | l, 0, _ => by simp
  | [], i + 1, _ => by simp
  | s :: l, i + 1, h => by
    rw [List.flatten_cons, List.drop_append, List.drop_of_length_le (by rw [h s (by simp)]; omega), List.nil_append, h s (by simp), List.drop_succ_cons]
    rw [show (i + 1) * 32 - 32 = i * 32 by omega]
    exact flat32_drop i fun x hx => h x (by simp [hx])
theorem flat32_take : ∀ {l : List (List UInt8)} (i : Nat), S32 l → l.flatten.take (i * 32) = (l.take i).flatten
  | l, 0, _ => by simp
  | [], i + 1, _ => by simp
  | s :: l, i + 1, h => by
    rw [List.flatten_cons, List.take_append, List.take_of_length_le (by rw [h s (by simp)]; omega), h s (by simp), List.take_succ_cons, List.flatten_cons]
    rw [show (i + 1) * 32 - 32 = i * 32 by omega]
    rw [flat32_take i fun x hx => h x (by simp [hx])]
theorem flat32_get {l : List (List UInt8)} {i : Nat} (h : S32 l) (hi : i < l.length) : (l.flatten.drop (i * 32)).take 32 = gt l i := by
  rw [flat32_drop i h, show 32 = 1 * 32 from rfl, flat32_take 1 (h.drop i), List.drop_eq_getElem_cons hi, gt_eq l i hi, List.take_succ_cons, List.take_zero, List.flatten_cons, List.flatten_nil, List.append_nil]
theorem flat32_getV {l : List (List UInt8)} {i : Nat} (h : S32 l) (hi : i < l.length) : ((l.flatten.map b8).drop (i * 32)).take 32 = (gt l i).map b8 := by
  rw [← List.map_drop, ← List.map_take, flat32_get h hi]
theorem flat32_lenV {l : List (List UInt8)} (h : S32 l) : (l.flatten.map b8).length = l.length * 32 := by rw [List.length_map, flat32_len h]
theorem Row.from32 {w : World} {a : Option Addr} {c : Nat} {l : List (List UInt8)} (h : Row w a (l.flatten.map b8)) (h32 : S32 l) (hc : l.length ≤ c) (i : Nat) : Row w (Kw.sub a c i 32) ((l.drop i).flatten.map b8) := by
  have := h.sub (cap := c) (l := i) (sz := 32) (by rw [flat32_lenV h32]; omega)
  rwa [← List.map_drop, flat32_drop i h32] at this
theorem Row.take32 {w : World} {a : Option Addr} {l : List (List UInt8)} (h : Row w a (l.flatten.map b8)) (h32 : S32 l) (i : Nat) : Row w a ((l.take i).flatten.map b8) := by
  have := h.take (n := i * 32)
  rwa [← List.map_take, flat32_take i h32] at this
/-! ### The greatest power of two below a number -/
def halfN (n : Nat) : Nat := 2 ^ (n - 1).log2
theorem halfN_lt {n : Nat} (h : 2 ≤ n) : halfN n < n := by
  have := Nat.log2_self_le (n := n - 1) (by omega)
  unfold halfN; omega
theorem halfN_pos (n : Nat) : 0 < halfN n := Nat.two_pow_pos _
theorem halfN_of {n j : Nat} (h : 2 ≤ n) (h1 : 2 ^ j < n) (h2 : n ≤ 2 * 2 ^ j) : halfN n = 2 ^ j := by
  unfold halfN
  congr 1
  have h3 : (n - 1).log2 < j + 1 := (Nat.log2_lt (by omega)).2 (by rw [Nat.pow_succ]; omega)
  have h4 : ¬ (n - 1).log2 < j := fun hh => by
    have := (Nat.log2_lt (by omega)).1 hh
    omega
  omega
/-! ### Trees of sums -/
def nodeL (a b : List UInt8) : List UInt8 := sumL (UInt8.ofNat 2) (a ++ b)
@[simp] theorem nodeL_len (a b : List UInt8) : (nodeL a b).length = 32 := sumL_len _ _
def rootL (l : List (List UInt8)) : List UInt8 :=
  if h : l.length ≤ 1 then gt l 0 else nodeL (rootL (l.take (halfN l.length))) (rootL (l.drop (halfN l.length)))
  termination_by l.length
  decreasing_by
    · have := halfN_lt (n := l.length) (by omega); simp only [List.length_take]; omega
    · have := halfN_pos l.length; simp only [List.length_drop]; omega
theorem rootL_one {l : List (List UInt8)} (h : l.length = 1) : rootL l = gt l 0 := by rw [rootL, dif_pos (by omega)]
theorem rootL_two {l : List (List UInt8)} {n : Nat} (hn : l.length = n) (h : ¬ n = 1) (h0 : 0 < n) : rootL l = nodeL (rootL (l.take (halfN n))) (rootL (l.drop (halfN n))) := by subst hn; rw [rootL, dif_neg (by omega)]
theorem rootL_len (l : List (List UInt8)) (h : S32 l) (h0 : 0 < l.length) : (rootL l).length = 32 := by
  by_cases h1 : l.length = 1
  · rw [rootL_one h1]; exact h.gt (by omega)
  · rw [rootL_two rfl h1 h0]; simp

/-! ### Proofs of places -/
section
variable {P : Program} {ρ : Operand → Value} {w w0 : World} {M : List Nat} {L l1 l2 : List Item} {dst : Option Tmp} {ty : TypeId} {pos : String} {aft : Array Edge} {g : Option (Nat × Bool)} {x y z : Operand} {T T2 E I : TypeId} {v : Value} {k : IntKind}
  {d dE : TypeDesc} {sz bts b o : Nat} {zv : Value} {a : Option Addr} {cs C : List Value}
theorem r_ix32 {len cap m : Nat} {l : List (List UInt8)} (h : P.underlying T = some (.slice E)) (hE : TI P E dE 32 bts zv) (hx : ρ x = .slice a len cap) (hy : ρ y = .int k (m : Int)) (hr : Row w a (l.flatten.map b8)) (h32 : S32 l) (hl : l.length = len) (hm : m < len) :
    (execOp ρ ⟨dst, .indexAddr T x y, ty, pos, aft, g⟩).run P w = .ok (.value (.pointer (a.map (·.add (m * 32))))) w :=
  r_ixS h hE hx hy hr hm (by rw [flat32_lenV h32, hl]; omega)
theorem r_load32 {m : Nat} {l : List (List UInt8)} (h : TI P T d 32 bts zv) (hd : aggD d = true) (hx : ρ x = .pointer (a.map (·.add (m * 32)))) (hr : Row w a (l.flatten.map b8)) (h32 : S32 l) (hm : m < l.length) :
    (execOp ρ ⟨dst, .load T x, ty, pos, aft, g⟩).run P w = .ok (.value (.agg ((gt l m).map b8).toArray)) w := by
  rw [r_loadSA h hd hx hr (by decide) (by rw [flat32_lenV h32]; omega), flat32_getV h32 hm]
end
def leafL (t : List UInt8) : List UInt8 := sumL (UInt8.ofNat 1) t
@[simp] theorem leafL_len (t : List UInt8) : (leafL t).length = 32 := sumL_len _ _
def leavesL (ps : List Piece) : List (List UInt8) := (ps.take 40).map fun q => leafL (q.xs.take 3000)
theorem leavesL_len (ps : List Piece) : (leavesL ps).length = min ps.length 40 := by simp [leavesL, Nat.min_comm]
theorem leavesL_32 (ps : List Piece) : S32 (leavesL ps) := by
  intro s hs
  obtain ⟨q, _, rfl⟩ := List.mem_map.1 hs
  simp
theorem leavesL_gt (ps : List Piece) (k : Nat) (h : k < min ps.length 40) : gt (leavesL ps) k = leafL ((gt ps k).xs.take 3000) := by
  rw [gt_eq _ _ (by rw [leavesL_len]; exact h), gt_eq _ _ (show k < ps.length by omega)]; simp [leavesL]
theorem take_gt {α : Type} [Inhabited α] (l : List α) (k : Nat) (h : k < l.length) : l.take (k + 1) = l.take k ++ [gt l k] := by
  rw [List.take_succ_eq_append_getElem h, gt_eq _ _ h]
theorem flat_take1 (l : List (List UInt8)) (k : Nat) (h : k < l.length) : (l.take (k + 1)).flatten = (l.take k).flatten ++ gt l k := by
  rw [take_gt l k h, List.flatten_append]; simp
/-! ### Proofs of growth -/
section
variable {older : List UInt8} {m n k : Nat} {wh : Bool} {p : List (List UInt8)} {x y : List UInt8}
end
/-! ### Proofs that are made -/
theorem flat_snoc (l : List (List UInt8)) (x : List UInt8) : (l ++ [x]).flatten = l.flatten ++ x := by rw [List.flatten_append]; simp
theorem ext32 {xs ys : List (List UInt8)} {k : Nat} (h : xs.take k = ys.take k) (h1 : k < xs.length) (h2 : k < ys.length) (h3 : gt xs k = gt ys k) : xs.take (k + 1) = ys.take (k + 1) := by rw [take_gt _ _ h1, take_gt _ _ h2, h, h3]
theorem ne32 {xs ys : List (List UInt8)} {k : Nat} (h3 : ¬ gt xs k = gt ys k) : ¬ xs = ys := fun h => h3 (by rw [h])
/-- Octets in pieces of 32. -/
theorem chunk32 : ∀ (n : Nat) (us : List UInt8), us.length = n * 32 → ∃ l : List (List UInt8), S32 l ∧ l.length = n ∧ l.flatten = us
  | 0, us, h => ⟨[], S32.nil, rfl, (List.eq_nil_of_length_eq_zero (by omega)).symm⟩
  | n + 1, us, h => by
    obtain ⟨l, h1, h2, h3⟩ := chunk32 n (us.drop 32) (by simp; omega)
    refine ⟨us.take 32 :: l, ?_, by simp [h2], by rw [List.flatten_cons, h3, List.take_append_drop]⟩
    intro s hs
    rcases List.mem_cons.1 hs with rfl | hs
    · simp; omega
    · exact h1 s hs
theorem St.chunk {w0 w : World} {M : List Nat} {l1 l2 : List Item} {v : Value} {E : TypeId} {n : Nat} {us : List UInt8} (hS : St w0 M w (l1 ++ .row v E 32 n (us.map b8) :: l2)) : ∃ q : List (List UInt8), S32 q ∧ q.length = n ∧ St w0 M w (l1 ++ .row v E 32 n (q.flatten.map b8) :: l2) := by
  have hl := (hS.has (.row v E 32 n (us.map b8)) (by simp)).1.1
  obtain ⟨q, h1, h2, h3⟩ := chunk32 n us (by simpa using hl)
  exact ⟨q, h1, h2, by rw [h3]; exact hS⟩
end Go.Kw
end
section
namespace Go.Kw
set_option linter.unusedVariables false
set_option linter.unusedSimpArgs false
/-- How many bits are set. -/
def popN (n : Nat) : Nat := if h : n = 0 then 0 else n % 2 + popN (n / 2)
termination_by n
decreasing_by omega
theorem popN_zero : popN 0 = 0 := by rw [popN, dif_pos rfl]
theorem popN_step {n : Nat} (h : 0 < n) : popN n = n % 2 + popN (n / 2) := by rw [popN, dif_neg (by omega)]
theorem popN_two (b : Nat) : popN (2 * b) = popN b := by
  rcases Nat.eq_zero_or_pos b with rfl | h
  · rfl
  · rw [popN_step (n := 2 * b) (by omega), show 2 * b % 2 = 0 by omega, show 2 * b / 2 = b by omega, Nat.zero_add]
theorem popN_two1 (b : Nat) : popN (2 * b + 1) = popN b + 1 := by
  rw [popN_step (n := 2 * b + 1) (by omega), show (2 * b + 1) % 2 = 1 by omega, show (2 * b + 1) / 2 = b by omega, Nat.add_comm]
def onesA (x : UInt64) : UInt64 := ((x >>> UInt64.ofNat 1) &&& 6148914691236517205) + (x &&& 6148914691236517205)
def onesB (x : UInt64) : UInt64 := ((x >>> UInt64.ofNat 2) &&& 3689348814741910323) + (x &&& 3689348814741910323)
def onesC (x : UInt64) : UInt64 := ((x >>> UInt64.ofNat 4) + x) &&& 1085102592571150095
def onesD (x : UInt64) : UInt64 := x + x >>> UInt64.ofNat 8
def onesE (x : UInt64) : UInt64 := x + x >>> UInt64.ofNat 16
def onesG (x : UInt64) : UInt64 := x + x >>> UInt64.ofNat 32
def onesU (x : UInt64) : UInt64 := onesG (onesE (onesD (onesC (onesB (onesA x)))))
/-- The same in plain numbers. -/
def onesN (n : Nat) : Nat :=
  (fun a : Nat => (fun b : Nat => (fun c : Nat => (fun d : Nat => (fun e : Nat => e + e >>> 32) (d + d >>> 16)) (c + c >>> 8)) (((b >>> 4) + b) &&& 1085102592571150095)) (((a >>> 2) &&& 3689348814741910323) + (a &&& 3689348814741910323))) (((n >>> 1) &&& 6148914691236517205) + (n &&& 6148914691236517205))
def chkOnes : Nat → Nat → Nat → Bool
  | 0, b, p => Nat.beq (onesN b % 128) p
  | k + 1, b, p => chkOnes k (2 * b) p && chkOnes k (2 * b + 1) (p + 1)
theorem chk_all : ∀ (k b p : Nat), chkOnes k b p = true → p = popN b → ∀ m, m < 2 ^ k → onesN (b * 2 ^ k + m) % 128 = popN (b * 2 ^ k + m)
  | 0, b, p, h, hp, m, hm => by
    obtain rfl : m = 0 := by simpa using hm
    subst hp
    have := Nat.eq_of_beq_eq_true h
    simpa using this
  | k + 1, b, p, h, hp, m, hm => by
    simp only [chkOnes, Bool.and_eq_true] at h
    rw [Nat.pow_succ] at hm ⊢
    by_cases hlt : m < 2 ^ k
    · have := chk_all k (2 * b) p h.1 (by rw [popN_two]; exact hp) m hlt
      have e : b * (2 ^ k * 2) + m = 2 * b * 2 ^ k + m := by rw [Nat.mul_comm (2 ^ k) 2, ← Nat.mul_assoc, Nat.mul_comm b 2]
      rwa [e]
    · have := chk_all k (2 * b + 1) (p + 1) h.2 (by rw [popN_two1, hp]) (m - 2 ^ k) (by omega)
      have e : b * (2 ^ k * 2) + m = (2 * b + 1) * 2 ^ k + (m - 2 ^ k) := by
        rw [Nat.add_mul, Nat.one_mul, Nat.mul_comm (2 ^ k) 2, ← Nat.mul_assoc, Nat.mul_comm b 2]; omega
      rwa [e]
theorem ones_all : chkOnes 16 0 0 = true := by decide +kernel
theorem onesN_pop {n : Nat} (h : n ≤ 65536) : onesN n % 128 = popN n := by
  by_cases h2 : n < 65536
  · have := chk_all 16 0 0 ones_all (by rw [popN_zero]) n h2
    simpa using this
  · obtain rfl : n = 65536 := by omega
    have : popN 65536 = 1 := by
      show popN (2 * 32768) = 1
      rw [popN_two, show 32768 = 2 * 16384 from rfl, popN_two, show 16384 = 2 * 8192 from rfl, popN_two, show 8192 = 2 * 4096 from rfl, popN_two, show 4096 = 2 * 2048 from rfl, popN_two, show 2048 = 2 * 1024 from rfl, popN_two, show 1024 = 2 * 512 from rfl, popN_two,
        show 512 = 2 * 256 from rfl, popN_two, show 256 = 2 * 128 from rfl, popN_two, show 128 = 2 * 64 from rfl, popN_two, show 64 = 2 * 32 from rfl, popN_two, show 32 = 2 * 16 from rfl, popN_two, show 16 = 2 * 8 from rfl, popN_two, show 8 = 2 * 4 from rfl, popN_two, show 4 = 2 * 2 from rfl, popN_two,
        show 2 = 2 * 1 from rfl, popN_two, show 1 = 2 * 0 + 1 from rfl, popN_two1, popN_zero]
    rw [this]; decide +kernel
theorem shr_n (x : UInt64) (s n : Nat) (hs : s < 64) (h : x.toNat = n) : (x >>> UInt64.ofNat s).toNat = n >>> s := by
  subst h
  have : (UInt64.ofNat s).toNat % 64 = s := by rw [UInt64.toNat_ofNat', Nat.mod_eq_of_lt (by omega : s < 2 ^ 64), Nat.mod_eq_of_lt hs]
  rw [UInt64.toNat_shiftRight, this]
theorem add_n {x y : UInt64} {a b : Nat} (hx : x.toNat = a) (hy : y.toNat = b) (h : a + b < 18446744073709551616) : (x + y).toNat = a + b := by
  rw [UInt64.toNat_add, hx, hy, Nat.mod_eq_of_lt (by simpa using h)]
theorem and_n {x m : UInt64} {a : Nat} (hx : x.toNat = a) : (x &&& m).toNat = a &&& m.toNat := by rw [UInt64.toNat_and, hx]
theorem shr_le (a s : Nat) : a >>> s ≤ a := Nat.shiftRight_le a s
theorem onesU_nat {x : UInt64} {n : Nat} (hx : x.toNat = n) (h : n ≤ 65536) : (onesU x).toNat = onesN n ∧ onesN n ≤ 67108864 := by
  have a1 : (onesA x).toNat = ((n >>> 1) &&& 6148914691236517205) + (n &&& 6148914691236517205) :=
    add_n (and_n (shr_n x 1 n (by decide) hx)) (and_n hx) (by have := @Nat.and_le_left (n >>> 1) 6148914691236517205; have := @Nat.and_le_left n 6148914691236517205; have := shr_le n 1; omega)
  have b1 : ((n >>> 1) &&& 6148914691236517205) + (n &&& 6148914691236517205) ≤ 131072 := by have := @Nat.and_le_left (n >>> 1) 6148914691236517205; have := @Nat.and_le_left n 6148914691236517205; have := shr_le n 1; omega
  unfold onesU onesN
  generalize ((n >>> 1) &&& 6148914691236517205) + (n &&& 6148914691236517205) = p at *
  generalize onesA x = y at *
  have a2 : (onesB y).toNat = ((p >>> 2) &&& 3689348814741910323) + (p &&& 3689348814741910323) :=
    add_n (and_n (shr_n y 2 p (by decide) a1)) (and_n a1) (by have := @Nat.and_le_left (p >>> 2) 3689348814741910323; have := @Nat.and_le_left p 3689348814741910323; have := shr_le p 2; omega)
  have b2 : ((p >>> 2) &&& 3689348814741910323) + (p &&& 3689348814741910323) ≤ 262144 := by have := @Nat.and_le_left (p >>> 2) 3689348814741910323; have := @Nat.and_le_left p 3689348814741910323; have := shr_le p 2; omega
  simp only []
  generalize ((p >>> 2) &&& 3689348814741910323) + (p &&& 3689348814741910323) = q at *
  generalize onesB y = z at *
  have a3 : (onesC z).toNat = ((q >>> 4) + q) &&& 1085102592571150095 := and_n (add_n (shr_n z 4 q (by decide) a2) a2 (by have := shr_le q 4; omega))
  have b3 : ((q >>> 4) + q) &&& 1085102592571150095 ≤ 524288 := by have := @Nat.and_le_left ((q >>> 4) + q) 1085102592571150095; have := shr_le q 4; omega
  generalize ((q >>> 4) + q) &&& 1085102592571150095 = r at *
  generalize onesC z = u at *
  have a4 : (onesD u).toNat = r + r >>> 8 := add_n a3 (shr_n u 8 r (by decide) a3) (by have := shr_le r 8; omega)
  have b4 : r + r >>> 8 ≤ 1048576 := by have := shr_le r 8; omega
  generalize r + r >>> 8 = s at *
  generalize onesD u = v at *
  have a5 : (onesE v).toNat = s + s >>> 16 := add_n a4 (shr_n v 16 s (by decide) a4) (by have := shr_le s 16; omega)
  have b5 : s + s >>> 16 ≤ 2097152 := by have := shr_le s 16; omega
  generalize s + s >>> 16 = t at *
  generalize onesE v = o at *
  have a6 : (onesG o).toNat = t + t >>> 32 := add_n a5 (shr_n o 32 t (by decide) a5) (by have := shr_le t 32; omega)
  exact ⟨a6, by have := shr_le t 32; omega⟩
end Go.Kw
end
section
namespace Go.Kw
set_option linter.unusedVariables false
set_option linter.unusedSimpArgs false
/-- The peaks of a list shorter than 2^k, the greatest first. -/
def peaksN : Nat → List (List UInt8) → List (List UInt8)
  | 0, _ => []
  | k + 1, l => if 2 ^ k ≤ l.length then rootL (l.take (2 ^ k)) :: peaksN k (l.drop (2 ^ k)) else peaksN k l
theorem peaksN_hi {k : Nat} {l : List (List UInt8)} (h : 2 ^ k ≤ l.length) : peaksN (k + 1) l = rootL (l.take (2 ^ k)) :: peaksN k (l.drop (2 ^ k)) := by rw [peaksN, if_pos h]
theorem peaksN_lo {k : Nat} {l : List (List UInt8)} (h : ¬ 2 ^ k ≤ l.length) : peaksN (k + 1) l = peaksN k l := by rw [peaksN, if_neg h]
theorem peaksN_nil : ∀ k, peaksN k [] = []
  | 0 => rfl
  | k + 1 => by rw [peaksN_lo (by have := Nat.two_pow_pos k; simp only [List.length_nil]; omega)]; exact peaksN_nil k
theorem peaksN_32 : ∀ (k : Nat) (l : List (List UInt8)), S32 l → S32 (peaksN k l)
  | 0, _, _ => S32.nil
  | k + 1, l, h => by
    by_cases h2 : 2 ^ k ≤ l.length
    · rw [peaksN_hi h2]
      intro s hs
      have hp := Nat.two_pow_pos k
      rcases List.mem_cons.1 hs with rfl | hs
      · exact rootL_len _ (h.take _) (by rw [List.length_take]; omega)
      · exact peaksN_32 k _ (h.drop _) s hs
    · rw [peaksN_lo h2]; exact peaksN_32 k l h
theorem peaksN_pos : ∀ (k : Nat) (l : List (List UInt8)), 0 < l.length → l.length < 2 ^ k → 0 < (peaksN k l).length
  | 0, l, h0, h => absurd h (by rw [Nat.pow_zero]; omega)
  | k + 1, l, h0, h => by
    by_cases h2 : 2 ^ k ≤ l.length
    · rw [peaksN_hi h2]; simp
    · rw [peaksN_lo h2]; exact peaksN_pos k l h0 (by omega)
theorem peaksN_le : ∀ (k : Nat) (l : List (List UInt8)), (peaksN k l).length ≤ k
  | 0, _ => Nat.le_refl _
  | k + 1, l => by
    by_cases h2 : 2 ^ k ≤ l.length
    · rw [peaksN_hi h2, List.length_cons]; have := peaksN_le k (l.drop (2 ^ k)); omega
    · rw [peaksN_lo h2]; have := peaksN_le k l; omega
/-- The two last ones become one. -/
def merge1 (p : List (List UInt8)) : List (List UInt8) := p.take (p.length - 2) ++ [nodeL (gt p (p.length - 2)) (gt p (p.length - 1))]
def mergeN : Nat → List (List UInt8) → List (List UInt8)
  | 0, p => p
  | j + 1, p => merge1 (mergeN j p)
theorem merge1_len {p : List (List UInt8)} (h : 2 ≤ p.length) : (merge1 p).length = p.length - 1 := by
  simp only [merge1, List.length_append, List.length_take, List.length_cons, List.length_nil]; omega
theorem mergeN_len : ∀ (j : Nat) (p : List (List UInt8)), j + 1 ≤ p.length → (mergeN j p).length = p.length - j
  | 0, p, _ => rfl
  | j + 1, p, h => by
    have ih := mergeN_len j p (by omega)
    rw [mergeN, merge1_len (by omega), ih]; omega
theorem merge1_cons {a : List UInt8} {p : List (List UInt8)} (h : 2 ≤ p.length) : merge1 (a :: p) = a :: merge1 p := by
  have e1 : (a :: p).length - 2 = (p.length - 2) + 1 := by simp only [List.length_cons]; omega
  have e2 : (a :: p).length - 1 = (p.length - 1) + 1 := by simp only [List.length_cons]; omega
  unfold merge1
  rw [e1, e2]
  rfl
theorem mergeN_cons : ∀ (j : Nat) (a : List UInt8) (p : List (List UInt8)), j + 1 ≤ p.length → mergeN j (a :: p) = a :: mergeN j p
  | 0, _, _, _ => rfl
  | j + 1, a, p, h => by
    rw [mergeN, mergeN_cons j a p (by omega), merge1_cons (by rw [mergeN_len j p (by omega)]; omega)]
    rfl
theorem merge1_32 {p : List (List UInt8)} (h : S32 p) : S32 (merge1 p) := (h.take _).app (S32.one (nodeL_len _ _))
theorem mergeN_32 : ∀ (j : Nat) {p : List (List UInt8)}, S32 p → S32 (mergeN j p)
  | 0, _, h => h
  | j + 1, _, h => merge1_32 (mergeN_32 j h)
/-- How many zeroes a number ends with. -/
def tzN (n : Nat) : Nat := if h : n = 0 then 64 else if n % 2 = 1 then 0 else tzN (n / 2) + 1
termination_by n
decreasing_by omega
theorem tzN_odd {n : Nat} (h : n % 2 = 1) : tzN n = 0 := by rw [tzN, dif_neg (by omega), if_pos h]
theorem tzN_even {n : Nat} (h0 : 0 < n) (h : n % 2 = 0) : tzN n = tzN (n / 2) + 1 := by rw [tzN, dif_neg (by omega), if_neg (by omega)]
theorem tzN_pow : ∀ k, tzN (2 ^ k) = k
  | 0 => tzN_odd rfl
  | k + 1 => by
    have hp := Nat.two_pow_pos k
    rw [tzN_even (Nat.two_pow_pos _) (by rw [Nat.pow_succ]; omega), show 2 ^ (k + 1) / 2 = 2 ^ k by rw [Nat.pow_succ]; omega, tzN_pow k]
theorem tzN_add : ∀ (k m : Nat), 0 < m → m < 2 ^ k → tzN (m + 2 ^ k) = tzN m
  | 0, m, h0, h => by simp at h; omega
  | k + 1, m, h0, h => by
    have hp := Nat.two_pow_pos k
    rw [Nat.pow_succ] at *
    rcases Nat.mod_two_eq_zero_or_one m with h2 | h2
    · rw [tzN_even (by omega) (by omega : (m + 2 ^ k * 2) % 2 = 0), tzN_even h0 h2, show (m + 2 ^ k * 2) / 2 = m / 2 + 2 ^ k by omega, tzN_add k (m / 2) (by omega) (by omega)]
    · rw [tzN_odd (by omega), tzN_odd h2]
theorem peaks_tz : ∀ (k : Nat) (d : List (List UInt8)), d.length < 2 ^ k → tzN (d.length + 1) ≤ (peaksN k d).length
  | 0, d, h => by
    have : d.length = 0 := by simpa using h
    rw [this, tzN_odd rfl]; exact Nat.zero_le _
  | k + 1, d, h => by
    have hp := Nat.two_pow_pos k
    rw [Nat.pow_succ] at h
    by_cases h2 : 2 ^ k ≤ d.length
    · rw [peaksN_hi h2, List.length_cons]
      have hd : (d.drop (2 ^ k)).length = d.length - 2 ^ k := List.length_drop ..
      have ih := peaks_tz k (d.drop (2 ^ k)) (by omega)
      rw [hd] at ih
      by_cases h3 : d.length - 2 ^ k + 1 < 2 ^ k
      · have := tzN_add k (d.length - 2 ^ k + 1) (by omega) h3
        rw [show d.length - 2 ^ k + 1 + 2 ^ k = d.length + 1 by omega] at this
        omega
      · have e : d.length - 2 ^ k + 1 = 2 ^ k := by omega
        rw [e, tzN_pow] at ih
        have e2 : d.length + 1 = 2 ^ (k + 1) := by rw [Nat.pow_succ]; omega
        rw [e2, tzN_pow]; omega
    · rw [peaksN_lo h2]; exact peaks_tz k d (by omega)
theorem peaks_full_len : ∀ (k : Nat) (l : List (List UInt8)), l.length + 1 = 2 ^ k → (peaksN k l).length = k
  | 0, _, _ => rfl
  | k + 1, l, h => by
    have hp := Nat.two_pow_pos k
    rw [Nat.pow_succ] at h
    rw [peaksN_hi (by omega), List.length_cons, peaks_full_len k _ (by rw [List.length_drop]; omega)]
theorem peaks_full : ∀ (k : Nat) (l : List (List UInt8)) (x : List UInt8), l.length + 1 = 2 ^ k → mergeN k (peaksN k l ++ [x]) = [rootL (l ++ [x])]
  | 0, l, x, h => by
    have h0 : l = [] := List.eq_nil_of_length_eq_zero (by simpa using h)
    subst h0
    show [x] = [rootL [x]]
    rw [rootL_one rfl]; rfl
  | k + 1, l, x, h => by
    have hp := Nat.two_pow_pos k
    have h' := h
    rw [Nat.pow_succ] at h
    have hd : (l.drop (2 ^ k)).length + 1 = 2 ^ k := by rw [List.length_drop]; omega
    rw [peaksN_hi (by omega), List.cons_append, mergeN, mergeN_cons k _ _ (by rw [List.length_append, peaks_full_len k _ hd]; simp), peaks_full k _ x hd]
    have hh : halfN (l.length + 1) = 2 ^ k := halfN_of (by omega) (by omega) (by omega)
    rw [rootL_two (l := l ++ [x]) (n := l.length + 1) (by simp) (by omega) (by omega), hh, List.take_append_of_le_length (by omega), List.drop_append_of_le_length (by omega)]
    rfl
/-- One leaf more. -/
theorem peaks_add : ∀ (k : Nat) (l : List (List UInt8)) (x : List UInt8), l.length + 1 < 2 ^ k → mergeN (tzN (l.length + 1)) (peaksN k l ++ [x]) = peaksN k (l ++ [x])
  | 0, l, x, h => by simp at h
  | k + 1, l, x, h => by
    have hp := Nat.two_pow_pos k
    rw [Nat.pow_succ] at h
    have hl1 : (l ++ [x]).length = l.length + 1 := by simp
    by_cases h2 : 2 ^ k ≤ l.length
    · have hd : (l.drop (2 ^ k)).length = l.length - 2 ^ k := List.length_drop ..
      have ih := peaks_add k (l.drop (2 ^ k)) x (by omega)
      have ht := tzN_add k (l.length - 2 ^ k + 1) (by omega) (by omega)
      rw [show l.length - 2 ^ k + 1 + 2 ^ k = l.length + 1 by omega] at ht
      have hz := peaks_tz k (l.drop (2 ^ k)) (by omega)
      rw [hd] at ih hz
      rw [peaksN_hi h2, peaksN_hi (l := l ++ [x]) (by omega), ht, List.cons_append, mergeN_cons _ _ _ (by rw [List.length_append]; simp only [List.length_cons, List.length_nil]; omega), ih, List.take_append_of_le_length h2, List.drop_append_of_le_length h2]
    · by_cases h3 : l.length + 1 < 2 ^ k
      · rw [peaksN_lo h2, peaksN_lo (l := l ++ [x]) (by omega)]; exact peaks_add k l x h3
      · have e : l.length + 1 = 2 ^ k := by omega
        rw [peaksN_lo h2, peaksN_hi (l := l ++ [x]) (by omega), e, tzN_pow, peaks_full k l x e, List.take_of_length_le (by omega), List.drop_eq_nil_of_le (by omega), peaksN_nil]
/-- The bag of peaks. -/
def bagL : List (List UInt8) → List UInt8
  | [] => []
  | [a] => a
  | a :: b :: p => nodeL a (bagL (b :: p))
theorem bagL_cons {a : List UInt8} {p : List (List UInt8)} (h : 0 < p.length) : bagL (a :: p) = nodeL a (bagL p) := by
  cases p with
  | nil => simp at h
  | cons b p => rfl
theorem bag_peaks : ∀ (k : Nat) (l : List (List UInt8)), 0 < l.length → l.length < 2 ^ k → bagL (peaksN k l) = rootL l
  | 0, l, h0, h => absurd h (by rw [Nat.pow_zero]; omega)
  | k + 1, l, h0, h => by
    have hp := Nat.two_pow_pos k
    rw [Nat.pow_succ] at h
    by_cases h2 : 2 ^ k ≤ l.length
    · rw [peaksN_hi h2]
      by_cases h3 : l.length = 2 ^ k
      · rw [List.drop_eq_nil_of_le (by omega), peaksN_nil, List.take_of_length_le (by omega)]; rfl
      · have hd : (l.drop (2 ^ k)).length = l.length - 2 ^ k := List.length_drop ..
        have hh : halfN l.length = 2 ^ k := halfN_of (by omega) (by omega) (by omega)
        rw [bagL_cons (peaksN_pos k _ (by omega) (by omega)), bag_peaks k _ (by omega) (by omega), rootL_two (l := l) rfl (by omega) h0, hh]
    · rw [peaksN_lo h2]; exact bag_peaks k l h0 (by omega)
theorem bag_drop {p : List (List UInt8)} {i : Nat} (h : i + 1 < p.length) : bagL (p.drop i) = nodeL (gt p i) (bagL (p.drop (i + 1))) := by
  have e : p.drop i = gt p i :: p.drop (i + 1) := by rw [gt_eq p i (by omega)]; exact List.drop_eq_getElem_cons (by omega)
  rw [e, bagL_cons (by rw [List.length_drop]; omega)]
theorem bag_last {p : List (List UInt8)} {i : Nat} (h : i + 1 = p.length) : bagL (p.drop i) = gt p i := by
  have e : p.drop i = gt p i :: p.drop (i + 1) := by rw [gt_eq p i (by omega)]; exact List.drop_eq_getElem_cons (by omega)
  rw [e, List.drop_eq_nil_of_le (by omega)]; rfl
theorem bagL_len : ∀ {p : List (List UInt8)}, S32 p → 0 < p.length → (bagL p).length = 32
  | [], _, h => by simp at h
  | [a], h, _ => h a (by simp)
  | a :: b :: p, _, _ => nodeL_len _ _
end Go.Kw
end
