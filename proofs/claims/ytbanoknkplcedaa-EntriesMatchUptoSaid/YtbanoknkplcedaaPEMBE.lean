/- What the law's proof leans on. No condition. -/
import Derived.Test.YtbanoknkplcedaaPEMAI
import Derived.Test.YtbanoknkplcedaaPEMAJ
namespace Go.Kw
set_option linter.unusedVariables false
set_option linter.unusedSimpArgs false
def natN (l : List UInt8) : Nat := l.foldl (fun n c => n * 256 + c.toNat) 0
def sgN (n : Nat) : Int := IntKind.i64.wrap (n : Int)
theorem wrap_def (z : Int) : IntKind.i64.wrap z = if z % 18446744073709551616 ≥ 9223372036854775808 then z % 18446744073709551616 - 18446744073709551616 else z % 18446744073709551616 := by
  unfold IntKind.wrap
  have h1 : (2 ^ IntKind.i64.bits : Int) = 18446744073709551616 := by decide
  have h2 : (2 ^ (IntKind.i64.bits - 1) : Int) = 9223372036854775808 := by decide
  simp only [h1, h2]
  have h3 : IntKind.i64.signed = true := rfl
  simp only [h3, Bool.true_and, decide_eq_true_eq]
theorem sgN_small {n : Nat} (h : n < 9223372036854775808) : sgN n = n := by rw [sgN, wrap_def]; split <;> omega
theorem sgN_big {n : Nat} (h : 9223372036854775808 ≤ n) (h2 : n < 18446744073709551616) : sgN n < 0 := by rw [sgN, wrap_def]; split <;> omega
theorem sgN_shl (n : Nat) : IntKind.i64.wrap (sgN n * 2 ^ (min 8 IntKind.i64.bits)) = sgN (n * 256) := by
  have e : (2 ^ (min 8 IntKind.i64.bits) : Int) = 256 := by decide
  rw [e, sgN, sgN, wrap_def, wrap_def, wrap_def]
  split <;> split <;> split <;> omega
theorem ofInt_sgN (n : Nat) : (BitVec.ofInt 64 (sgN n)).toNat = n % 18446744073709551616 := by
  rw [BitVec.toNat_ofInt, sgN, wrap_def]
  split <;> omega
section
variable {P : Program} {ρ : Operand → Value} {w : World} {dst : Option Tmp} {ty : TypeId} {pos : String} {aft : Array Edge} {g : Option (Nat × Bool)} {x y : Operand} {T T2 : TypeId}
theorem r_shlN {n : Nat} {k2 : IntKind} (hx : ρ x = .int .i64 (sgN n)) (hy : ρ y = .int k2 ((8 : Nat) : Int)) : (execOp ρ ⟨dst, .binOp .shl T x y T2, ty, pos, aft, g⟩).run P w = .ok (.value (.int .i64 (sgN (n * 256)))) w :=
  r_shl hx hy (sgN_shl n)
theorem r_orN {n : Nat} {c : UInt8} (hx : ρ x = .int .i64 (sgN (n * 256))) (hy : ρ y = vi c.toNat) : (execOp ρ ⟨dst, .binOp .or T x y T2, ty, pos, aft, g⟩).run P w = .ok (.value (.int .i64 (sgN (n * 256 + c.toNat)))) w :=
  r_bin hx hy (by
    have hc := c.toNat_lt
    have e2 : ((BitVec.ofInt 64 (sgN (n * 256))) ||| (BitVec.ofInt 64 (c.toNat : Int))).toNat = (n * 256) % 18446744073709551616 + c.toNat := by
      rw [BitVec.toNat_or, ofInt_sgN, BitVec.toNat_ofInt]
      have h1 : ((c.toNat : Int) % ((2 ^ 64 : Nat) : Int)).toNat = c.toNat := by omega
      have h2 : (n * 256) % 18446744073709551616 = 2 ^ 8 * (n % 72057594037927936) := by omega
      rw [h1, h2, ← Nat.two_pow_add_eq_or_of_lt (by omega)]
    show Result.ok (Value.int .i64 (IntKind.wrap .i64 ((((BitVec.ofInt 64 (sgN (n * 256))) ||| (BitVec.ofInt 64 (c.toNat : Int))).toNat : Nat) : Int))) w = _
    rw [e2, sgN, wrap_def, wrap_def]
    have : (((n * 256) % 18446744073709551616 + c.toNat : Nat) : Int) % 18446744073709551616 = ((n * 256 + c.toNat : Nat) : Int) % 18446744073709551616 := by omega
    rw [this])
end
theorem natN_step {l : List UInt8} {k : Nat} (hk : k < l.length) : natN (l.take (k + 1)) = natN (l.take k) * 256 + (gt l k).toNat := by
  rw [natN, natN, List.take_succ_eq_append_getElem hk, List.foldl_append, ← gt_eq _ _ hk]; rfl
theorem natN_four (a b c d : UInt8) : natN [a, b, c, d] = (word4 [a, b, c, d]).toNat := by rw [word4_nat]; simp [natN, gt]; omega
theorem natN_4 {l : List UInt8} (h : l.length = 4) : natN l = (word4 l).toNat := by
  match l, h with
  | [a, b, c, d], _ => exact natN_four a b c d
theorem natN_8 {l : List UInt8} (h : l.length = 8) : natN l = (long8 l).toNat := by
  match l, h with
  | [a, b, c, d, e, f, g, i], _ =>
    rw [long8_nat]
    have h1 := natN_four a b c d
    have h2 := natN_four e f g i
    show natN [a, b, c, d, e, f, g, i] = (word4 [a, b, c, d]).toNat * 4294967296 + (word4 [e, f, g, i]).toNat
    rw [← h1, ← h2]
    simp [natN]; omega
section
variable {P : Program} {ρ : Operand → Value} {w : World} {dst : Option Tmp} {ty : TypeId} {pos : String} {aft : Array Edge} {g : Option (Nat × Bool)} {T : TypeId} {d : TypeDesc} {sz bts : Nat} {zv : Value}
/-- Some fields said, each of one cell. -/
theorem r_buildP {parts : Array (Nat × Operand)} {ps : List (Nat × Value)} {pl : List (Nat × Nat)} {out : List Value} (hp : placesOf P T = some pl) (hZ : TI P T d sz bts zv) (hv : parts.toList.map (fun x => (x.1, ρ x.2)) = ps) (hf : Instr.fill (pl.toArray[·]?) zv.cells ps = some out.toArray) :
    (execOp ρ ⟨dst, .build T parts, ty, pos, aft, g⟩).run P w = .ok (.value (.agg out.toArray)) w := by
  obtain ⟨fs, hT, hr⟩ := placesOf_run (w := w) hp
  exact r_build hT hZ hr hv hf
end
theorem sgN_out {n : Nat} (h : 65536 < n) (h2 : n < 18446744073709551616) : sgN n < 0 ∨ 65536 < sgN n := by
  rcases Nat.lt_or_ge n 9223372036854775808 with h3 | h3
  · rw [sgN_small h3]; omega
  · exact .inl (sgN_big h3 h2)
theorem natN_lt8 {l : List UInt8} (h : l.length = 8) : natN l < 18446744073709551616 := by rw [natN_8 h]; exact (long8 l).toNat_lt
end Go.Kw
