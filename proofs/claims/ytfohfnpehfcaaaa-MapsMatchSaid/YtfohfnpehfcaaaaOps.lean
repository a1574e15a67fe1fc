/- What one operation comes to, an operation a lemma: numbers, tests, addresses, memory. No condition. -/
import Derived.Test.YtfohfnpehfcaaaaBase
namespace Go.Kw
set_option linter.unusedVariables false
set_option linter.unusedSimpArgs false

abbrev b8 (c : UInt8) : Value := .int .u8 (c.toNat : Int)
abbrev v32 (c : UInt32) : Value := .int .u32 (c.toNat : Int)
abbrev v64 (c : UInt64) : Value := .int .u64 (c.toNat : Int)
abbrev vi (a : Nat) : Value := .int .i64 (a : Int)

section nums
variable {P : Program} {ρ : Operand → Value} {w : World} {dst : Option Tmp} {ty : TypeId} {pos : String} {aft : Array Edge} {g : Option (Nat × Bool)} {x y z : Operand} {T T2 : TypeId} {v : Value} {k : IntKind} {a b : Int}

theorem r_move (h : ρ x = v) : (execOp ρ ⟨dst, .move x, ty, pos, aft, g⟩).run P w = .ok (.value v) w := by subst h; rfl
theorem r_assign (h : ρ x = v) : (execOp ρ ⟨dst, .assign x, ty, pos, aft, g⟩).run P w = .ok (.value v) w := by subst h; rfl
theorem r_pick_t (hc : ρ z = .bool true) (h : ρ x = v) : (execOp ρ ⟨dst, .pick z x y, ty, pos, aft, g⟩).run P w = .ok (.value v) w := by
  subst h; simp [execOp, hc, asBool]
theorem r_pick_f (hc : ρ z = .bool false) (h : ρ y = v) : (execOp ρ ⟨dst, .pick z x y, ty, pos, aft, g⟩).run P w = .ok (.value v) w := by
  subst h; simp [execOp, hc, asBool]
theorem r_not {t : Bool} (hc : ρ x = .bool t) : (execOp ρ ⟨dst, .unOp .not T x, ty, pos, aft, g⟩).run P w = .ok (.value (.bool !t)) w := by
  simp [execOp, hc, Op.unary]
theorem r_extract {vs : List Value} {i : Nat} (hx : ρ x = .tuple vs.toArray) (hv : vs[i]? = some v) : (execOp ρ ⟨dst, .extract x i, ty, pos, aft, g⟩).run P w = .ok (.value v) w := by
  simp [execOp, hx, Instr.extract, hv]

theorem r_bin {op : BinOp} {r : Value} (hx : ρ x = .int k a) (hy : ρ y = .int k b) (hr : (binOp op T (.int k a) (.int k b)).run P w = .ok r w) :
    (execOp ρ ⟨dst, .binOp op T x y T2, ty, pos, aft, g⟩).run P w = .ok (.value r) w := by
  have he : (eqGuard op T x y (.int k a) (.int k b)).run P w = .ok () w := by
    unfold eqGuard; cases op <;> simp
  simp [execOp, hx, hy, he, hr]

theorem wi {a : Int} (h1 : -9223372036854775808 ≤ a) (h2 : a ≤ 9223372036854775807) : IntKind.wrap .i64 a = a := by
  have e : IntKind.wrap .i64 a = if 9223372036854775808 ≤ a % 18446744073709551616 then a % 18446744073709551616 - 18446744073709551616 else a % 18446744073709551616 := by
    simp [IntKind.wrap, IntKind.bits, IntKind.signed]
  rw [e]
  split <;> omega

-- whole numbers, of kind int, as natural numbers
theorem r_addn {a b : Nat} (hx : ρ x = vi a) (hy : ρ y = vi b) (h : a + b ≤ 9223372036854775807) : (execOp ρ ⟨dst, .binOp .add T x y T2, ty, pos, aft, g⟩).run P w = .ok (.value (vi (a + b))) w :=
  r_bin hx hy (by simp [binOp, Op.intArith, wi (a := (a : Int) + b) (by omega) (by omega)])
theorem r_subn {a b : Nat} (hx : ρ x = vi a) (hy : ρ y = vi b) (h : b ≤ a) (ha : a ≤ 9223372036854775807) : (execOp ρ ⟨dst, .binOp .sub T x y T2, ty, pos, aft, g⟩).run P w = .ok (.value (vi (a - b))) w :=
  r_bin hx hy (by simp [binOp, Op.intArith, wi (a := (a : Int) - b) (by omega) (by omega), Int.ofNat_sub h])
theorem r_muln {a b : Nat} (hx : ρ x = vi a) (hy : ρ y = vi b) (h : a * b ≤ 9223372036854775807) : (execOp ρ ⟨dst, .binOp .mul T x y T2, ty, pos, aft, g⟩).run P w = .ok (.value (vi (a * b))) w :=
  r_bin hx hy (by simp [binOp, Op.intArith, wi (a := (a : Int) * b) (by rw [← Int.natCast_mul]; omega) (by rw [← Int.natCast_mul]; omega)])
theorem r_remn {a b : Nat} (hx : ρ x = vi a) (hy : ρ y = vi b) (h : 0 < b) : (execOp ρ ⟨dst, .binOp .rem T x y T2, ty, pos, aft, g⟩).run P w = .ok (.value (vi (a % b))) w :=
  r_bin hx hy (by
    have h0 : ¬ (b : Int) = 0 := by omega
    have h3 : (a : Int).tmod b = ((a % b : Nat) : Int) := by rw [Int.tmod_eq_emod_of_nonneg (by omega)]; exact (Int.natCast_emod a b).symm
    simp only [binOp, Op.intDiv, h0, if_false, h3, Sem.run_pure, ne_eq, not_true_eq_false])
theorem r_quon {a b : Nat} (hx : ρ x = vi a) (hy : ρ y = vi b) (h : 0 < b) (ha : a ≤ 9223372036854775807) : (execOp ρ ⟨dst, .binOp .quo T x y T2, ty, pos, aft, g⟩).run P w = .ok (.value (vi (a / b))) w :=
  r_bin hx hy (by
    have h0 : ¬ (b : Int) = 0 := by omega
    have h2 : (a / b : Nat) ≤ a := Nat.div_le_self _ _
    have h3 : (a : Int).tdiv b = ((a / b : Nat) : Int) := by rw [Int.tdiv_eq_ediv_of_nonneg (by omega)]; exact (Int.natCast_ediv a b).symm
    simp only [binOp, Op.intDiv, h0, if_false, Sem.run_pure, ne_eq, not_true_eq_false]
    rw [h3]
    generalize a / b = q at *
    rw [wi (by omega) (by omega)])
-- of kind int, as integers
theorem r_addi (hx : ρ x = .int .i64 a) (hy : ρ y = .int .i64 b) (h1 : -9223372036854775808 ≤ a + b) (h2 : a + b ≤ 9223372036854775807) : (execOp ρ ⟨dst, .binOp .add T x y T2, ty, pos, aft, g⟩).run P w = .ok (.value (.int .i64 (a + b))) w :=
  r_bin hx hy (by simp [binOp, Op.intArith, wi h1 h2])
theorem r_subi (hx : ρ x = .int .i64 a) (hy : ρ y = .int .i64 b) (h1 : -9223372036854775808 ≤ a - b) (h2 : a - b ≤ 9223372036854775807) : (execOp ρ ⟨dst, .binOp .sub T x y T2, ty, pos, aft, g⟩).run P w = .ok (.value (.int .i64 (a - b))) w :=
  r_bin hx hy (by simp [binOp, Op.intArith, wi h1 h2])
theorem r_muli (hx : ρ x = .int .i64 a) (hy : ρ y = .int .i64 b) (h1 : -9223372036854775808 ≤ a * b) (h2 : a * b ≤ 9223372036854775807) : (execOp ρ ⟨dst, .binOp .mul T x y T2, ty, pos, aft, g⟩).run P w = .ok (.value (.int .i64 (a * b))) w :=
  r_bin hx hy (by simp [binOp, Op.intArith, wi h1 h2])
-- tests
theorem r_eql (hx : ρ x = .int k a) (hy : ρ y = .int k b) : (execOp ρ ⟨dst, .binOp .eql T x y T2, ty, pos, aft, g⟩).run P w = .ok (.value (.bool (decide (a = b)))) w :=
  r_bin hx hy (by simp [binOp, Op.intCmp]; rfl)
theorem r_neq (hx : ρ x = .int k a) (hy : ρ y = .int k b) : (execOp ρ ⟨dst, .binOp .neq T x y T2, ty, pos, aft, g⟩).run P w = .ok (.value (.bool (decide (a ≠ b)))) w :=
  r_bin hx hy (by simp [binOp, Op.intCmp, bne]; rfl)
theorem r_lss (hx : ρ x = .int k a) (hy : ρ y = .int k b) : (execOp ρ ⟨dst, .binOp .lss T x y T2, ty, pos, aft, g⟩).run P w = .ok (.value (.bool (decide (a < b)))) w :=
  r_bin hx hy (by simp [binOp, Op.intCmp])
theorem r_leq (hx : ρ x = .int k a) (hy : ρ y = .int k b) : (execOp ρ ⟨dst, .binOp .leq T x y T2, ty, pos, aft, g⟩).run P w = .ok (.value (.bool (decide (a ≤ b)))) w :=
  r_bin hx hy (by simp [binOp, Op.intCmp])
theorem r_gtr (hx : ρ x = .int k a) (hy : ρ y = .int k b) : (execOp ρ ⟨dst, .binOp .gtr T x y T2, ty, pos, aft, g⟩).run P w = .ok (.value (.bool (decide (b < a)))) w :=
  r_bin hx hy (by simp [binOp, Op.intCmp])
theorem r_geq (hx : ρ x = .int k a) (hy : ρ y = .int k b) : (execOp ρ ⟨dst, .binOp .geq T x y T2, ty, pos, aft, g⟩).run P w = .ok (.value (.bool (decide (b ≤ a)))) w :=
  r_bin hx hy (by simp [binOp, Op.intCmp])

-- words
theorem wrap_u8 (n : Int) : IntKind.wrap .u8 n = n % 256 := by simp [IntKind.wrap, IntKind.bits, IntKind.signed]
theorem wrap_u32 (n : Int) : IntKind.wrap .u32 n = n % 4294967296 := by simp [IntKind.wrap, IntKind.bits, IntKind.signed]
theorem wrap_u64 (n : Int) : IntKind.wrap .u64 n = n % 18446744073709551616 := by simp [IntKind.wrap, IntKind.bits, IntKind.signed]

theorem r_add32 {a b : UInt32} (hx : ρ x = v32 a) (hy : ρ y = v32 b) : (execOp ρ ⟨dst, .binOp .add T x y T2, ty, pos, aft, g⟩).run P w = .ok (.value (v32 (a + b))) w :=
  r_bin hx hy (by simp [binOp, Op.intArith, wrap_u32, UInt32.toNat_add])
theorem r_sub32 {a b : UInt32} (hx : ρ x = v32 a) (hy : ρ y = v32 b) : (execOp ρ ⟨dst, .binOp .sub T x y T2, ty, pos, aft, g⟩).run P w = .ok (.value (v32 (a - b))) w :=
  r_bin hx hy (by
    have h1 := a.toNat_lt; have h2 := b.toNat_lt
    simp [binOp, Op.intArith, wrap_u32, UInt32.toNat_sub] <;> omega)
theorem r_mul32 {a b : UInt32} (hx : ρ x = v32 a) (hy : ρ y = v32 b) : (execOp ρ ⟨dst, .binOp .mul T x y T2, ty, pos, aft, g⟩).run P w = .ok (.value (v32 (a * b))) w :=
  r_bin hx hy (by simp [binOp, Op.intArith, wrap_u32, UInt32.toNat_mul])
theorem r_mul64 {a b : UInt64} (hx : ρ x = v64 a) (hy : ρ y = v64 b) : (execOp ρ ⟨dst, .binOp .mul T x y T2, ty, pos, aft, g⟩).run P w = .ok (.value (v64 (a * b))) w :=
  r_bin hx hy (by simp [binOp, Op.intArith, wrap_u64, UInt64.toNat_mul])
theorem r_add64 {a b : UInt64} (hx : ρ x = v64 a) (hy : ρ y = v64 b) : (execOp ρ ⟨dst, .binOp .add T x y T2, ty, pos, aft, g⟩).run P w = .ok (.value (v64 (a + b))) w :=
  r_bin hx hy (by simp [binOp, Op.intArith, wrap_u64, UInt64.toNat_add])
theorem r_sub64 {a b : UInt64} (hx : ρ x = v64 a) (hy : ρ y = v64 b) : (execOp ρ ⟨dst, .binOp .sub T x y T2, ty, pos, aft, g⟩).run P w = .ok (.value (v64 (a - b))) w :=
  r_bin hx hy (by
    have h1 := a.toNat_lt; have h2 := b.toNat_lt
    simp [binOp, Op.intArith, wrap_u64, UInt64.toNat_sub] <;> omega)
theorem r_add8 {a b : UInt8} (hx : ρ x = b8 a) (hy : ρ y = b8 b) : (execOp ρ ⟨dst, .binOp .add T x y T2, ty, pos, aft, g⟩).run P w = .ok (.value (b8 (a + b))) w :=
  r_bin hx hy (by simp [binOp, Op.intArith, wrap_u8, UInt8.toNat_add])
theorem r_sub8 {a b : UInt8} (hx : ρ x = b8 a) (hy : ρ y = b8 b) : (execOp ρ ⟨dst, .binOp .sub T x y T2, ty, pos, aft, g⟩).run P w = .ok (.value (b8 (a - b))) w :=
  r_bin hx hy (by
    have h1 := a.toNat_lt; have h2 := b.toNat_lt
    simp [binOp, Op.intArith, wrap_u8, UInt8.toNat_sub] <;> omega)

theorem bv32 (a : UInt32) : BitVec.ofInt (IntKind.bits .u32) (a.toNat : Int) = a.toBitVec := by
  apply BitVec.eq_of_toNat_eq
  have := a.toNat_lt
  simp [IntKind.bits, BitVec.toNat_ofInt]
theorem bv64 (a : UInt64) : BitVec.ofInt (IntKind.bits .u64) (a.toNat : Int) = a.toBitVec := by
  apply BitVec.eq_of_toNat_eq
  have := a.toNat_lt
  simp [IntKind.bits, BitVec.toNat_ofInt]
theorem bv8 (a : UInt8) : BitVec.ofInt (IntKind.bits .u8) (a.toNat : Int) = a.toBitVec := by
  apply BitVec.eq_of_toNat_eq
  have := a.toNat_lt
  simp [IntKind.bits, BitVec.toNat_ofInt]

theorem r_xor32 {a b : UInt32} (hx : ρ x = v32 a) (hy : ρ y = v32 b) : (execOp ρ ⟨dst, .binOp .xor T x y T2, ty, pos, aft, g⟩).run P w = .ok (.value (v32 (a ^^^ b))) w :=
  r_bin hx hy (by
    simp only [binOp, Op.intBits, bv32, Sem.run_pure, wrap_u32, ne_eq, not_true_eq_false, if_false]
    have h := (a ^^^ b).toNat_lt
    show Result.ok (Value.int _ (((a ^^^ b).toNat : Int) % 4294967296)) w = _
    rw [Int.emod_eq_of_lt (by omega) (by omega)])
theorem r_or32 {a b : UInt32} (hx : ρ x = v32 a) (hy : ρ y = v32 b) : (execOp ρ ⟨dst, .binOp .or T x y T2, ty, pos, aft, g⟩).run P w = .ok (.value (v32 (a ||| b))) w :=
  r_bin hx hy (by
    simp only [binOp, Op.intBits, bv32, Sem.run_pure, wrap_u32, ne_eq, not_true_eq_false, if_false]
    have h := (a ||| b).toNat_lt
    show Result.ok (Value.int _ (((a ||| b).toNat : Int) % 4294967296)) w = _
    rw [Int.emod_eq_of_lt (by omega) (by omega)])
theorem r_and32 {a b : UInt32} (hx : ρ x = v32 a) (hy : ρ y = v32 b) : (execOp ρ ⟨dst, .binOp .and T x y T2, ty, pos, aft, g⟩).run P w = .ok (.value (v32 (a &&& b))) w :=
  r_bin hx hy (by
    simp only [binOp, Op.intBits, bv32, Sem.run_pure, wrap_u32, ne_eq, not_true_eq_false, if_false]
    have h := (a &&& b).toNat_lt
    show Result.ok (Value.int _ (((a &&& b).toNat : Int) % 4294967296)) w = _
    rw [Int.emod_eq_of_lt (by omega) (by omega)])
theorem r_xor8 {a b : UInt8} (hx : ρ x = b8 a) (hy : ρ y = b8 b) : (execOp ρ ⟨dst, .binOp .xor T x y T2, ty, pos, aft, g⟩).run P w = .ok (.value (b8 (a ^^^ b))) w :=
  r_bin hx hy (by
    simp only [binOp, Op.intBits, bv8, Sem.run_pure, wrap_u8, ne_eq, not_true_eq_false, if_false]
    have h := (a ^^^ b).toNat_lt
    show Result.ok (Value.int _ (((a ^^^ b).toNat : Int) % 256)) w = _
    rw [Int.emod_eq_of_lt (by omega) (by omega)])
theorem r_or8 {a b : UInt8} (hx : ρ x = b8 a) (hy : ρ y = b8 b) : (execOp ρ ⟨dst, .binOp .or T x y T2, ty, pos, aft, g⟩).run P w = .ok (.value (b8 (a ||| b))) w :=
  r_bin hx hy (by
    simp only [binOp, Op.intBits, bv8, Sem.run_pure, wrap_u8, ne_eq, not_true_eq_false, if_false]
    have h := (a ||| b).toNat_lt
    show Result.ok (Value.int _ (((a ||| b).toNat : Int) % 256)) w = _
    rw [Int.emod_eq_of_lt (by omega) (by omega)])
theorem r_and8 {a b : UInt8} (hx : ρ x = b8 a) (hy : ρ y = b8 b) : (execOp ρ ⟨dst, .binOp .and T x y T2, ty, pos, aft, g⟩).run P w = .ok (.value (b8 (a &&& b))) w :=
  r_bin hx hy (by
    simp only [binOp, Op.intBits, bv8, Sem.run_pure, wrap_u8, ne_eq, not_true_eq_false, if_false]
    have h := (a &&& b).toNat_lt
    show Result.ok (Value.int _ (((a &&& b).toNat : Int) % 256)) w = _
    rw [Int.emod_eq_of_lt (by omega) (by omega)])
theorem r_or64 {a b : UInt64} (hx : ρ x = v64 a) (hy : ρ y = v64 b) : (execOp ρ ⟨dst, .binOp .or T x y T2, ty, pos, aft, g⟩).run P w = .ok (.value (v64 (a ||| b))) w :=
  r_bin hx hy (by
    simp only [binOp, Op.intBits, bv64, Sem.run_pure, wrap_u64, ne_eq, not_true_eq_false, if_false]
    have h := (a ||| b).toNat_lt
    show Result.ok (Value.int _ (((a ||| b).toNat : Int) % 18446744073709551616)) w = _
    rw [Int.emod_eq_of_lt (by omega) (by omega)])
theorem r_and64 {a b : UInt64} (hx : ρ x = v64 a) (hy : ρ y = v64 b) : (execOp ρ ⟨dst, .binOp .and T x y T2, ty, pos, aft, g⟩).run P w = .ok (.value (v64 (a &&& b))) w :=
  r_bin hx hy (by
    simp only [binOp, Op.intBits, bv64, Sem.run_pure, wrap_u64, ne_eq, not_true_eq_false, if_false]
    have h := (a &&& b).toNat_lt
    show Result.ok (Value.int _ (((a &&& b).toNat : Int) % 18446744073709551616)) w = _
    rw [Int.emod_eq_of_lt (by omega) (by omega)])

/-- A shift, of whatever kind: the count is a number that is not negative. -/
theorem r_shl {k k2 : IntKind} {s : Nat} {r : Int} (hx : ρ x = .int k a) (hy : ρ y = .int k2 (s : Int)) (hr : k.wrap (a * 2 ^ (min s k.bits)) = r) :
    (execOp ρ ⟨dst, .binOp .shl T x y T2, ty, pos, aft, g⟩).run P w = .ok (.value (.int k r)) w := by
  subst hr
  have he : (eqGuard .shl T x y (.int k a) (.int k2 (s : Int))).run P w = .ok () w := by unfold eqGuard; simp
  have hn : ¬ (s : Int) < 0 := by omega
  simp [execOp, hx, hy, he, binOp, Op.shift, hn]
theorem r_shr {k k2 : IntKind} {s : Nat} {r : Int} (hx : ρ x = .int k a) (hy : ρ y = .int k2 (s : Int)) (hr : a.fdiv (2 ^ (min s k.bits)) = r) :
    (execOp ρ ⟨dst, .binOp .shr T x y T2, ty, pos, aft, g⟩).run P w = .ok (.value (.int k r)) w := by
  subst hr
  have he : (eqGuard .shr T x y (.int k a) (.int k2 (s : Int))).run P w = .ok () w := by unfold eqGuard; simp
  have hn : ¬ (s : Int) < 0 := by omega
  simp [execOp, hx, hy, he, binOp, Op.shift, hn]

theorem shl32_eq (a : UInt32) (s : Nat) (h : s < 32) : IntKind.wrap .u32 ((a.toNat : Int) * 2 ^ (min s (IntKind.bits .u32))) = ((a <<< (UInt32.ofNat s)).toNat : Int) := by
  have e : min s (IntKind.bits .u32) = s := by simp only [IntKind.bits]; omega
  rw [e, wrap_u32, UInt32.toNat_shiftLeft]
  have e2 : (UInt32.ofNat s).toNat % 32 = s := by simp [UInt32.toNat_ofNat']; omega
  rw [e2, Nat.shiftLeft_eq]
  simp only [Int.natCast_emod, Int.natCast_mul, Int.natCast_pow]; rfl
theorem shr32_eq (a : UInt32) (s : Nat) (h : s < 32) : (a.toNat : Int).fdiv (2 ^ (min s (IntKind.bits .u32))) = ((a >>> (UInt32.ofNat s)).toNat : Int) := by
  have e : min s (IntKind.bits .u32) = s := by simp only [IntKind.bits]; omega
  rw [e, UInt32.toNat_shiftRight]
  have e2 : (UInt32.ofNat s).toNat % 32 = s := by simp [UInt32.toNat_ofNat']; omega
  rw [e2, Nat.shiftRight_eq_div_pow, Int.fdiv_eq_ediv_of_nonneg _ (Int.pow_nonneg (by decide)), Int.natCast_ediv, Int.natCast_pow]; rfl
theorem shr64_eq (a : UInt64) (s : Nat) (h : s < 64) : (a.toNat : Int).fdiv (2 ^ (min s (IntKind.bits .u64))) = ((a >>> (UInt64.ofNat s)).toNat : Int) := by
  have e : min s (IntKind.bits .u64) = s := by simp only [IntKind.bits]; omega
  rw [e, UInt64.toNat_shiftRight]
  have e2 : (UInt64.ofNat s).toNat % 64 = s := by simp [UInt64.toNat_ofNat']; omega
  rw [e2, Nat.shiftRight_eq_div_pow, Int.fdiv_eq_ediv_of_nonneg _ (Int.pow_nonneg (by decide)), Int.natCast_ediv, Int.natCast_pow]; rfl
theorem shl64_eq (a : UInt64) (s : Nat) (h : s < 64) : IntKind.wrap .u64 ((a.toNat : Int) * 2 ^ (min s (IntKind.bits .u64))) = ((a <<< (UInt64.ofNat s)).toNat : Int) := by
  have e : min s (IntKind.bits .u64) = s := by simp only [IntKind.bits]; omega
  rw [e, wrap_u64, UInt64.toNat_shiftLeft]
  have e2 : (UInt64.ofNat s).toNat % 64 = s := by simp [UInt64.toNat_ofNat']; omega
  rw [e2, Nat.shiftLeft_eq]
  simp only [Int.natCast_emod, Int.natCast_mul, Int.natCast_pow]; rfl
theorem shr8_eq (a : UInt8) (s : Nat) (h : s < 8) : (a.toNat : Int).fdiv (2 ^ (min s (IntKind.bits .u8))) = ((a >>> (UInt8.ofNat s)).toNat : Int) := by
  have e : min s (IntKind.bits .u8) = s := by simp only [IntKind.bits]; omega
  rw [e, UInt8.toNat_shiftRight]
  have e2 : (UInt8.ofNat s).toNat % 8 = s := by simp [UInt8.toNat_ofNat']; omega
  rw [e2, Nat.shiftRight_eq_div_pow, Int.fdiv_eq_ediv_of_nonneg _ (Int.pow_nonneg (by decide)), Int.natCast_ediv, Int.natCast_pow]; rfl
theorem shl8_eq (a : UInt8) (s : Nat) (h : s < 8) : IntKind.wrap .u8 ((a.toNat : Int) * 2 ^ (min s (IntKind.bits .u8))) = ((a <<< (UInt8.ofNat s)).toNat : Int) := by
  have e : min s (IntKind.bits .u8) = s := by simp only [IntKind.bits]; omega
  rw [e, wrap_u8, UInt8.toNat_shiftLeft]
  have e2 : (UInt8.ofNat s).toNat % 8 = s := by simp [UInt8.toNat_ofNat']; omega
  rw [e2, Nat.shiftLeft_eq]
  simp only [Int.natCast_emod, Int.natCast_mul, Int.natCast_pow]; rfl

theorem r_shl32 {k2 : IntKind} {a : UInt32} {s : Nat} (hx : ρ x = v32 a) (hy : ρ y = .int k2 (s : Int)) (h : s < 32) : (execOp ρ ⟨dst, .binOp .shl T x y T2, ty, pos, aft, g⟩).run P w = .ok (.value (v32 (a <<< (UInt32.ofNat s)))) w := r_shl hx hy (shl32_eq a s h)
theorem r_shr32 {k2 : IntKind} {a : UInt32} {s : Nat} (hx : ρ x = v32 a) (hy : ρ y = .int k2 (s : Int)) (h : s < 32) : (execOp ρ ⟨dst, .binOp .shr T x y T2, ty, pos, aft, g⟩).run P w = .ok (.value (v32 (a >>> (UInt32.ofNat s)))) w := r_shr hx hy (shr32_eq a s h)
theorem r_shl64 {k2 : IntKind} {a : UInt64} {s : Nat} (hx : ρ x = v64 a) (hy : ρ y = .int k2 (s : Int)) (h : s < 64) : (execOp ρ ⟨dst, .binOp .shl T x y T2, ty, pos, aft, g⟩).run P w = .ok (.value (v64 (a <<< (UInt64.ofNat s)))) w := r_shl hx hy (shl64_eq a s h)
theorem r_shr64 {k2 : IntKind} {a : UInt64} {s : Nat} (hx : ρ x = v64 a) (hy : ρ y = .int k2 (s : Int)) (h : s < 64) : (execOp ρ ⟨dst, .binOp .shr T x y T2, ty, pos, aft, g⟩).run P w = .ok (.value (v64 (a >>> (UInt64.ofNat s)))) w := r_shr hx hy (shr64_eq a s h)
theorem r_shr8 {k2 : IntKind} {a : UInt8} {s : Nat} (hx : ρ x = b8 a) (hy : ρ y = .int k2 (s : Int)) (h : s < 8) : (execOp ρ ⟨dst, .binOp .shr T x y T2, ty, pos, aft, g⟩).run P w = .ok (.value (b8 (a >>> (UInt8.ofNat s)))) w := r_shr hx hy (shr8_eq a s h)
theorem r_shl8 {k2 : IntKind} {a : UInt8} {s : Nat} (hx : ρ x = b8 a) (hy : ρ y = .int k2 (s : Int)) (h : s < 8) : (execOp ρ ⟨dst, .binOp .shl T x y T2, ty, pos, aft, g⟩).run P w = .ok (.value (b8 (a <<< (UInt8.ofNat s)))) w := r_shl hx hy (shl8_eq a s h)

/-- A conversion between kinds of whole numbers. -/
theorem r_conv {k k2 : IntKind} {T : TypeId} {r : Int} (hT : P.underlying T = some (.int k2)) (hS : ∃ d, P.underlying T2 = some d) (hx : ρ x = .int k a) (hr : k2.wrap a = r) :
    (execOp ρ ⟨dst, .convert T2 T x, ty, pos, aft, g⟩).run P w = .ok (.value (.int k2 r)) w := by
  subst hr
  obtain ⟨d, hd⟩ := hS
  simp [execOp, hx, convert, underlying, program, hT, hd, Conv.intToInt, Sem.run]

end nums
end Go.Kw
