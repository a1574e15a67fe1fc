/- What the law's proof leans on. No condition. -/
import Derived.Test.YtbjjfpaiffckiaaDoorPFGAU
import Derived.Test.YtbjjfpaiffckiaaDoorPFGAW
section
namespace Go.Kw
open Go.Lib
set_option linter.unusedVariables false
set_option linter.unusedSimpArgs false
/-- A power of two within a number below its double. -/
theorem and_pow {n t : Nat} (h : n < 2 ^ (t + 1)) : n &&& 2 ^ t = if 2 ^ t ≤ n then 2 ^ t else 0 := by
  have hp := Nat.two_pow_pos t
  rw [Nat.pow_succ] at h
  have hb : n.testBit t = decide (2 ^ t ≤ n) := by
    rw [Nat.testBit_eq_decide_div_mod_eq]
    by_cases h1 : 2 ^ t ≤ n
    · have h2 : n / 2 ^ t < 2 := (Nat.div_lt_iff_lt_mul hp).2 (by omega)
      have h3 : 1 ≤ n / 2 ^ t := (Nat.le_div_iff_mul_le hp).2 (by omega)
      have : n / 2 ^ t = 1 := by omega
      rw [this]; simp [h1]
    · rw [Nat.div_eq_of_lt (by omega)]; simp [h1]
  apply Nat.eq_of_testBit_eq
  intro i
  rw [Nat.testBit_and, Nat.testBit_two_pow]
  by_cases hi : t = i
  · subst hi
    rw [hb]
    by_cases h1 : 2 ^ t ≤ n
    · rw [if_pos h1, Nat.testBit_two_pow]; simp [h1]
    · rw [if_neg h1]; simp [h1]
  · by_cases h1 : 2 ^ t ≤ n
    · rw [if_pos h1, Nat.testBit_two_pow]; simp [hi]
    · rw [if_neg h1]; simp [hi]
section
variable {P : Program} {ρ : Operand → Value} {w : World} {dst : Option Tmp} {ty : TypeId} {pos : String} {aft : Array Edge} {g : Option (Nat × Bool)} {x y : Operand} {T T2 : TypeId}
theorem r_andnn {a b : Nat} (hx : ρ x = vi a) (hy : ρ y = vi b) (ha : a < 9223372036854775808) (hb : b < 9223372036854775808) : (execOp ρ ⟨dst, .binOp .and T x y T2, ty, pos, aft, g⟩).run P w = .ok (.value (vi (a &&& b))) w :=
  r_bin hx hy (by
    have e1 : (BitVec.ofInt 64 (a : Int)).toNat = a := by rw [BitVec.toNat_ofInt]; omega
    have e2 : (BitVec.ofInt 64 (b : Int)).toNat = b := by rw [BitVec.toNat_ofInt]; omega
    have e3 : ((BitVec.ofInt 64 (a : Int)) &&& (BitVec.ofInt 64 (b : Int))).toNat = a &&& b := by rw [BitVec.toNat_and, e1, e2]
    have hle : a &&& b ≤ a := Nat.and_le_left
    have hw : IntKind.i64.wrap ((a &&& b : Nat) : Int) = ((a &&& b : Nat) : Int) := by
      unfold IntKind.wrap
      simp [IntKind.bits, IntKind.signed]
      omega
    simp only [binOp, Op.intBits, Sem.run_pure, ne_eq, not_true_eq_false, if_false]
    show Result.ok (Value.int _ (IntKind.i64.wrap ((((BitVec.ofInt 64 (a : Int)) &&& (BitVec.ofInt 64 (b : Int))).toNat : Nat) : Int))) w = _
    rw [e3, hw])
end
end Go.Kw
end
section
namespace Go.Kw
open Go.Lib
set_option linter.unusedVariables false
set_option linter.unusedSimpArgs false
section
variable {P : Program} {ρ : Operand → Value} {w : World} {dst : Option Tmp} {ty : TypeId} {pos : String} {aft : Array Edge} {g : Option (Nat × Bool)} {x y : Operand} {T T2 : TypeId}
theorem r_makeF {fn : Fn} {capt : Array Operand} {vs : List Value} (hc : capt.toList.map ρ = vs) : (execOp ρ ⟨dst, .makeFunc fn #[] capt, ty, pos, aft, g⟩).run P w = .ok (.value (.func fn #[] vs.toArray)) w := by
  have hc' : capt.map ρ = vs.toArray := by
    apply Array.ext'
    simpa using hc
  simp [execOp, Instr.makeFunc, hc']
theorem r_yield {l : Nat} {t : Tmp} {args : Array Operand} {tys : Array TypeId} {vs : List Value} {fn : FuncId} {tmps : Array Value} {assign body : Code} (ha : args.toList.map ρ = vs) (hρ : ρ (.tmp t) = .func (.yield l) #[] #[])
    (hy : (Instr.yield l vs.toArray).run P w = .ok (.round l fn tmps assign body) w) :
    (execOp ρ ⟨dst, .call { callee := .value (.tmp t), args := args, argTypes := tys }, ty, pos, aft, g⟩).run P w = .ok (.round l fn tmps assign body) w := by
  have ha' : args.map ρ = vs.toArray := by
    apply Array.ext'
    simpa using ha
  simp [execOp, resolve, hρ, ha', Deferred.ofValue, invoke, hy]
end
/-- What is yielded in round k. -/
def backE (p : List (List UInt8)) (n k : Nat) : Array Value := #[vi (n - 1 - k), .agg ((gt p (n - 1 - k)).map b8).toArray]
/-- The sum so far, of all from place m - k on. -/
theorem bag_step {p : List (List UInt8)} {m k : Nat} (hk : k < m) (hm : m + 1 = p.length) : bagL (p.drop (m - (k + 1))) = nodeL (gt p (m - 1 - k)) (bagL (p.drop (m - k))) := by
  rw [show m - (k + 1) = m - 1 - k by omega, bag_drop (by omega), show m - 1 - k + 1 = m - k by omega]
theorem call_fn {P : Program} {f : FuncId} (hf : FnOk P f) : ∀ args w, (callFunc f args).run P w = .ok (.enter f args) w := by
  obtain ⟨fn, h1, h2, h3⟩ := hf
  have h2' : ¬ fn.name = "runtime.NumGoroutine" := by intro h; simp [h] at h2
  have h3' : ¬ fn.body = none := by intro h; simp [h] at h3
  intro args w
  simp [callFunc, program, Sem.run, h1, h2', h3']
section
variable {P : Program} {Q : Exit → Act → World → Prop} {n : Nat} {e : Env} {w we : World}
theorem c_range2 {g : Operand} {p1 p2 : Tmp} {assign body : Code} {gf : Nat} {lb : List Value} (hg : ev n e g = .func (.func gf) #[] lb.toArray) (hf : FnOk P gf)
    (X : Nat → List Item) (hS : St we [] w (X 0)) (v1 v2 : Nat → Value) (N : Nat)
    (hiter : ∀ (l : Nat) (W : World) (J : Nat → World → Prop), (∀ k W, J k W → ∃ B, St we [] W (X k ++ B)) → (∀ k W, k < N → J k W → YieldAt Fence.wide 0 P l #[v1 k, v2 k] W fun en W' => en = .returned (.bool true) ∧ J (k + 1) W') → J 0 W →
      Ret P gf (.func (.yield l) #[] #[] :: lb) W fun _ W' => J N W')
    (hround : ∀ (l k : Nat) (W : World) (B : List Item), k < N → St we [] W (X k ++ B) → assign.wpIn (Fence.wide.inRound l) 0 P (Exit.then (fun a1 W1 => ∃ e1 Y, a1 = act n e1 ∧ St we [] W1 (Y ++ B) ∧
      ∀ W2 B2, St we [] W2 (Y ++ B2) → body.wpIn (Fence.wide.inRound l) 0 P (fun en _ W3 => en = .normal ∧ St we [] W3 (X (k + 1) ++ B2)) (actD n e1 []) W2) (fun _ _ _ => False)) (actD n (putE (some p2) (v2 k) (putE (some p1) (v1 k) e)) []) W)
    (hdone : ∀ (D : Nat) (W : World), St we [] W (X N ++ [.blk D (.deferred (some []))]) → Q .normal (actD n e [{ target := .collected D, args := #[] }]) W) :
    (Code.rangeFunc g #[p1, p2] assign body).wp P Q (act n e) w := by
  refine c_range hg (call_fn hf) X hS (fun k => #[v1 k, v2 k]) (fun _ => rfl) N (fun k => putE (some p2) (v2 k) (putE (some p1) (v1 k) e)) (fun k => ?_) hiter hround hdone
  have h1 := act_put n e (some p1) (v1 k)
  have h2 := act_put n (putE (some p1) (v1 k) e) (some p2) (v2 k)
  rw [← h2, ← h1]
  simp [Act.put, act]
end
end Go.Kw
end
section
namespace Go.Kw
open Go.Lib
set_option linter.unusedVariables false
set_option linter.unusedSimpArgs false
theorem popN_all (n : Nat) : popN n = n % 2 + popN (n / 2) := by
  rcases Nat.eq_zero_or_pos n with h | h
  · subst h; simp [popN_zero]
  · exact popN_step h
theorem popN_pow : ∀ (k r : Nat), r < 2 ^ k → popN (2 ^ k + r) = popN r + 1
  | 0, r, h => by
    have : r = 0 := by rw [Nat.pow_zero] at h; omega
    subst this
    rw [popN_zero, popN_all]; simp [popN_zero]
  | k + 1, r, h => by
    have hp := Nat.two_pow_pos k
    have e : 2 ^ (k + 1) = 2 ^ k * 2 := Nat.pow_succ ..
    rw [e] at h
    have ih := popN_pow k (r / 2) (by omega)
    rw [popN_all (2 ^ (k + 1) + r), popN_all r, show (2 ^ (k + 1) + r) / 2 = 2 ^ k + r / 2 by omega, ih]
    omega
theorem peaks_pop : ∀ (k : Nat) (l : List (List UInt8)), l.length < 2 ^ k → (peaksN k l).length = popN l.length
  | 0, l, h => by
    have : l.length = 0 := by rw [Nat.pow_zero] at h; omega
    rw [this, popN_zero]; rfl
  | k + 1, l, h => by
    have hp := Nat.two_pow_pos k
    rw [Nat.pow_succ] at h
    by_cases h2 : 2 ^ k ≤ l.length
    · have hd : (l.drop (2 ^ k)).length = l.length - 2 ^ k := List.length_drop ..
      rw [peaksN_hi h2, List.length_cons, peaks_pop k _ (by omega), hd]
      have := popN_pow k (l.length - 2 ^ k) (by omega)
      rw [show 2 ^ k + (l.length - 2 ^ k) = l.length by omega] at this
      omega
    · rw [peaksN_lo h2]; exact peaks_pop k l (by omega)
def dbInts : List Int := [0, 1, 56, 2, 57, 49, 28, 3, 61, 58, 42, 50, 38, 29, 17, 4, 62, 47, 59, 36, 45, 43, 51, 22, 53, 39, 33, 30, 24, 18, 12, 5, 63, 55, 48, 27, 60, 41, 37, 16, 46, 35, 44, 21, 52, 32, 23, 11, 54, 26, 40, 15, 34, 20, 31, 10, 25, 14, 19, 9, 13, 8, 7, 6]
theorem db_cells : dbTab.map b8 = dbInts.map fun z => Value.int .u8 z := rfl
theorem tab_at {P : Program} {W : World} {name : String} {g : Nat} {zs : List Int} (h : TabIs P W name .u8 zs) (hg : P.globalNamed name = some g) : At W g 0 (zs.map fun z => Value.int .u8 z) := by
  intro i v hv
  rw [List.getElem?_map, Option.map_eq_some_iff] at hv
  obtain ⟨z, hz, rfl⟩ := hv
  have hi := (List.getElem?_eq_some_iff.1 hz).1
  have h2 := h.cell hg i hi
  rw [List.getD_eq_getElem?_getD, hz] at h2
  rw [Nat.zero_add]
  exact h2
end Go.Kw
end
