/- What the law's proof leans on. No condition. -/
import Derived.Test.YtbanoknkplcedaaPBMAS
import Derived.Test.YtbanoknkplcedaaPBMBJ
import Derived.Test.YtbanoknkplcedaaPBMBE
import Derived.Test.YtbanoknkplcedaaPBMBH
namespace Go.Kw
open Go.Lib
set_option linter.unusedVariables false
set_option linter.unusedSimpArgs false
def textL (s : List UInt8) : List UInt8 := UInt8.ofNat s.length :: s
def numX (x : BodyD) : Nat → Int
  | 6 => x.pu
  | 7 => x.re
  | 8 => x.ne
  | _ => x.ve
def part (x : BodyD) : Nat → List UInt8
  | 0 => x.tx
  | 1 => x.mb
  | 2 => UInt8.ofNat x.ro.length :: x.ro.flatMap textL
  | 3 => textL x.lb
  | 4 => x.cm
  | 5 => octs (UInt32.ofNat x.ep.toNat)
  | 9 => UInt8.ofNat x.ho.length :: x.ho.flatten
  | 11 => octs8 (UInt64.ofNat x.ct.toNat)
  | i => [UInt8.ofNat (numX x i).toNat]
def optP (f : Nat → Bool) (x : BodyD) (i : Nat) : List UInt8 := if f i then part x i else []
def ordL : List Nat := [1, 2, 3, 6, 7, 8, 10, 9, 5, 11, 4]
def stage (f : Nat → Bool) (x : BodyD) (k : Nat) : List UInt8 := x.tx ++ (ordL.take k).flatMap (optP f x)
theorem stage_0 (f : Nat → Bool) (x : BodyD) : stage f x 0 = x.tx := by simp [stage]
theorem stage_s {f : Nat → Bool} {x : BodyD} {k : Nat} (hk : k < 11) : stage f x (k + 1) = stage f x k ++ optP f x (gt ordL k) := by
  have hk' : k < ordL.length := hk
  rw [stage, stage, List.take_succ_eq_append_getElem hk', List.flatMap_append, List.append_assoc, gt_eq _ _ hk']
  simp
theorem stage_t {f : Nat → Bool} {x : BodyD} {k i : Nat} (hk : k < 11) (hi : gt ordL k = i) (h : f i = true) : stage f x (k + 1) = stage f x k ++ part x i := by rw [stage_s hk, hi, optP, h]; rfl
theorem stage_f {f : Nat → Bool} {x : BodyD} {k i : Nat} (hk : k < 11) (hi : gt ordL k = i) (h : f i = false) : stage f x (k + 1) = stage f x k := by rw [stage_s hk, hi, optP, h]; simp
/-- A body that is as it should be, for an act. -/
structure BodyGood (a : Nat) (x : BodyD) : Prop where
  a1 : 1 ≤ a
  a2 : a < 13
  no : ex x (needF a) 12 = false
  tx : x.tx.length ≤ 32768
  rn : x.ro.length ≤ 16
  hn : x.ho.length ≤ 32
  ro : rolesE x.ro = 0
  lb : ¬ (needF a 3 = true ∧ nameE x.lb = false)
  rg : ¬ rangeBad (needF a) x
  ho : holdersE x.ho = 0
theorem body_good {act : Int} {x : BodyD} (h : bodyE act x = 0) : ∃ a : Nat, act = a ∧ BodyGood a x := by
  by_cases h1 : act < 1 ∨ 12 < act
  · rw [bodyE_1 h1] at h; exact absurd h (by decide)
  obtain ⟨a, rfl⟩ : ∃ a : Nat, act = a := ⟨act.toNat, by omega⟩
  refine ⟨a, rfl, ?_⟩
  cases h2 : ex x (needF a) 12 with
  | true => rw [bodyN_2 h1 h2] at h; exact absurd h (by decide)
  | false =>
    by_cases h3 : 32768 < x.tx.length ∨ 16 < x.ro.length ∨ 32 < x.ho.length
    · rw [bodyN_3 h1 h2 h3] at h; exact absurd h (by decide)
    by_cases h4 : rolesE x.ro = 0
    · by_cases h5 : needF a 3 = true ∧ nameE x.lb = false
      · rw [bodyN_5 h1 h2 h3 h4 h5.1 h5.2] at h; exact absurd h (by decide)
      by_cases h6 : rangeBad (needF a) x
      · rw [bodyN_6 h1 h2 h3 h4 h5 h6] at h; exact absurd h (by decide)
      rw [bodyN_7 h1 h2 h3 h4 h5 h6] at h
      exact ⟨by omega, by omega, h2, by omega, by omega, by omega, h4, h5, h6, h⟩
    · rw [bodyN_4 h1 h2 h3 h4] at h; exact absurd h h4
theorem good_body {a : Nat} {x : BodyD} (h : BodyGood a x) : bodyE (a : Int) x = 0 := by
  have a1 := h.a1; have a2 := h.a2; have h1 := h.tx; have h2 := h.rn; have h3 := h.hn
  rw [bodyN_7 (by omega) h.no (by omega) h.ro h.lb h.rg]
  exact h.ho
theorem firstI_zero {f : Nat → Int} : ∀ (n i : Nat), firstI f n i = 0 → ∀ j, i ≤ j → j < i + n → f j = 0
  | 0, i, _, j, h1, h2 => by omega
  | n + 1, i, h, j, h1, h2 => by
    rw [firstI] at h
    by_cases e : f i = 0
    · rw [if_pos e] at h
      by_cases e2 : i = j
      · subst e2; exact e
      · exact firstI_zero n (i + 1) h j (by omega) (by omega)
    · rw [if_neg e] at h; exact absurd h e
namespace BodyGood
variable {a : Nat} {x : BodyD}
theorem zero (h : BodyGood a x) {i : Nat} (hi : i < 12) (hf : needF a i = false) : setB x i = false := ex_no 12 h.no i hi hf
theorem role (h : BodyGood a x) {i : Nat} (hi : i < x.ro.length) : nameE (gt x.ro i) = true := by
  have h1 := firstI_zero _ _ h.ro i (Nat.zero_le _) (by omega)
  rw [roleAt] at h1
  cases h2 : nameE (gt x.ro i) with
  | true => rfl
  | false => rw [if_pos h2] at h1; exact absurd h1 (by decide)
theorem roles (h : BodyGood a x) : ∀ s ∈ x.ro, s.length ≤ 32 := by
  intro s hs
  obtain ⟨i, hi, rfl⟩ := List.mem_iff_getElem.1 hs
  have := h.role hi
  rw [gt_eq _ _ hi] at this
  exact nameE_len this
theorem label (h : BodyGood a x) : x.lb.length ≤ 32 := by
  cases h3 : needF a 3 with
  | true =>
    cases h4 : nameE x.lb with
    | true => exact nameE_len h4
    | false => exact absurd ⟨h3, h4⟩ h.lb
  | false =>
    have := of_decide_eq_false (h.zero (i := 3) (by omega) h3)
    rw [Decidable.of_not_not this]; decide
theorem pu (h : BodyGood a x) : 0 ≤ x.pu ∧ x.pu ≤ 3 := by
  cases h3 : needF a 6 with
  | true =>
    have := h.rg
    by_cases ho : outI x.pu 1 3
    · exact absurd (.inl ⟨h3, ho⟩) this
    · unfold outI at ho; omega
  | false =>
    have := Decidable.of_not_not (of_decide_eq_false (h.zero (i := 6) (by omega) h3))
    omega
theorem re (h : BodyGood a x) : 0 ≤ x.re ∧ x.re ≤ 255 := by
  by_cases ho : outI x.re 0 255
  · exact absurd (.inr (.inl ho)) h.rg
  · unfold outI at ho; omega
theorem ve (h : BodyGood a x) : 0 ≤ x.ve ∧ x.ve ≤ 255 := by
  by_cases ho : outI x.ve 0 255
  · exact absurd (.inr (.inr (.inl ho))) h.rg
  · unfold outI at ho; omega
theorem ne (h : BodyGood a x) : 0 ≤ x.ne ∧ x.ne ≤ 32 := by
  cases h3 : needF a 8 with
  | true =>
    by_cases ho : outI x.ne 1 32
    · exact absurd (.inr (.inr (.inr (.inl ⟨h3, ho⟩)))) h.rg
    · unfold outI at ho; omega
  | false =>
    have := Decidable.of_not_not (of_decide_eq_false (h.zero (i := 8) (by omega) h3))
    omega
theorem ep (h : BodyGood a x) : 0 ≤ x.ep ∧ x.ep ≤ 4294967295 := by
  by_cases ho : outI x.ep 0 4294967295
  · exact absurd (.inr (.inr (.inr (.inr (.inl ho))))) h.rg
  · unfold outI at ho; omega
theorem ct (h : BodyGood a x) : 0 ≤ x.ct ∧ x.ct ≤ 65536 := by
  by_cases ho : outI x.ct 0 65536
  · exact absurd (.inr (.inr (.inr (.inr (.inr ho))))) h.rg
  · unfold outI at ho; omega
theorem num (h : BodyGood a x) (i : Nat) : 0 ≤ numX x i ∧ numX x i ≤ 255 := by
  have h1 := h.pu; have h2 := h.re; have h3 := h.ne; have h4 := h.ve
  unfold numX
  split <;> omega
end BodyGood
theorem flat_text {l : List (List UInt8)} (h : ∀ s ∈ l, s.length ≤ 32) : (l.flatMap textL).length ≤ 33 * l.length := by
  induction l with
  | nil => simp
  | cons s l ih =>
    have h1 := ih fun t ht => h t (by simp [ht])
    have h2 := h s (by simp)
    simp only [List.flatMap_cons, List.length_append, List.length_cons, textL]
    omega
theorem part_len {a : Nat} {x : BodyD} (h : BodyGood a x) (hx : BodyOk x) {i : Nat} (hi : 1 ≤ i) : (part x i).length ≤ 2000 := by
  have h1 := flat_text h.roles
  have h2 := h.rn; have h3 := h.hn; have h4 := h.label
  have h5 : x.ho.flatten.length = x.ho.length * 16 := flatN_len hx.h16
  unfold part
  have h6 := hx.mb; have h7 := hx.cm
  split
  · omega
  · omega
  · rw [List.length_cons]; omega
  · rw [textL, List.length_cons]; omega
  · omega
  · rw [octs_len]; omega
  · rw [List.length_cons]; omega
  · rw [octs8_len]; omega
  · simp
theorem stage_len {a : Nat} {x : BodyD} (h : BodyGood a x) (hx : BodyOk x) {k : Nat} (hk : k ≤ 11) : (stage (needF a) x k).length ≤ 32768 + k * 2000 := by
  induction k with
  | zero => rw [stage_0]; have := h.tx; omega
  | succ k ih =>
    have h1 := ih (by omega)
    rw [stage_s (by omega), List.length_append]
    have h2 : (optP (needF a) x (gt ordL k)).length ≤ 2000 := by
      rw [optP]
      split
      · refine part_len h hx ?_
        have : ∀ k, k < 11 → 1 ≤ gt ordL k := by decide
        exact this k (by omega)
      · simp
    omega
/-- The parts in the order of the reference. -/
theorem stage_all {a : Nat} {x : BodyD} (h : BodyGood a x) : stage (needF a) x 11 = (gt needT (a - 1)).flatMap (part x) := by
  have h1 := h.a1; have h2 := h.a2
  have ht : needF a 0 = false → x.tx = [] := fun hf => Decidable.of_not_not (of_decide_eq_false (h.zero (by omega) hf))
  have e0 : (if needF a 0 then part x 0 else []) = x.tx := by
    cases hf : needF a 0 with
    | true => rfl
    | false => rw [ht hf]; rfl
  have e : stage (needF a) x 11 = ([0] ++ ordL).flatMap (optP (needF a) x) := by
    show x.tx ++ ordL.flatMap (optP (needF a) x) = optP (needF a) x 0 ++ ordL.flatMap (optP (needF a) x)
    rw [optP, e0]
  rw [e]
  have hc : a = 1 ∨ a = 2 ∨ a = 3 ∨ a = 4 ∨ a = 5 ∨ a = 6 ∨ a = 7 ∨ a = 8 ∨ a = 9 ∨ a = 10 ∨ a = 11 ∨ a = 12 := by omega
  rcases hc with rfl | rfl | rfl | rfl | rfl | rfl | rfl | rfl | rfl | rfl | rfl | rfl <;> simp [ordL, optP, needF, needT, gt]
theorem uses_idx : ∀ a, a < 13 → 1 ≤ a → gt usesT a = (gt needT (a - 1)).map (gt letters) := by decide
theorem idx_lt : ∀ a, a < 13 → 1 ≤ a → ∀ i ∈ gt needT (a - 1), i < 12 ∧ needF a i = true := by decide
theorem need_apart : ∀ a, a < 13 → (needF a 6 = true → needF a 7 = false) ∧ (needF a 7 = true → needF a 6 = false) ∧ (needF a 8 = true → needF a 6 = false ∧ needF a 7 = false) ∧ (needF a 10 = true → needF a 6 = false ∧ needF a 7 = false) := by decide
section
variable {P : Program} {ρ : Operand → Value} {w : World} {dst : Option Tmp} {ty : TypeId} {pos : String} {aft : Array Edge} {g : Option (Nat × Bool)} {x : Operand} {T T2 : TypeId}
theorem c_z_u8 {a : Int} (hT : P.underlying T = some (.int .u8)) (hS : ∃ d, P.underlying T2 = some d) (hx : ρ x = .int .i64 a) (h0 : 0 ≤ a) : (execOp ρ ⟨dst, .convert T2 T x, ty, pos, aft, g⟩).run P w = .ok (.value (b8 (UInt8.ofNat a.toNat))) w := by
  obtain ⟨n, rfl⟩ : ∃ n : Nat, a = n := ⟨a.toNat, by omega⟩
  exact c_i64_u8 hT hS hx
theorem c_z_u32 {a : Int} (hT : P.underlying T = some (.int .u32)) (hS : ∃ d, P.underlying T2 = some d) (hx : ρ x = .int .i64 a) (h0 : 0 ≤ a) (h1 : a ≤ 9223372036854775807) : (execOp ρ ⟨dst, .convert T2 T x, ty, pos, aft, g⟩).run P w = .ok (.value (v32 (UInt32.ofNat a.toNat))) w := by
  obtain ⟨n, rfl⟩ : ∃ n : Nat, a = n := ⟨a.toNat, by omega⟩
  exact c_i64_u32 hT hS hx (by omega)
end
theorem RowZ.norm {it : Item} {a : Option Addr} {c k : Nat} {E : TypeId} {ys : List Value} {l : List UInt8} (hz : RowZ it (.slice a k c) E k ys) (hk : l.length = k) (h : ys = l.map b8) : RowZ it (.slice a l.length c) E l.length (l.map b8) := by
  subst hk; subst h; exact hz
/-! ### Four numbers that may be said -/
def numL : List Nat := [6, 7, 8, 10]
def nv (f : Nat → Bool) (x : BodyD) (i : Nat) : List Value := [.bool (f i), iv (numX x i)]
theorem nv_len (f : Nat → Bool) (x : BodyD) : ∀ i, (nv f x i).length = 2 := fun _ => rfl
theorem one_nv (f : Nat → Bool) (x : BodyD) (i : Nat) : One (nv f x i) := one_cons rfl (one_cons rfl one_nil)
theorem nv_flat (f : Nat → Bool) (x : BodyD) : [[.bool (f 6), iv x.pu], [.bool (f 7), iv x.re], [.bool (f 8), iv x.ne], [.bool (f 10), iv x.ve]].flatten = numL.flatMap (nv f x) := rfl
theorem ord_num : ∀ k, k < 4 → gt ordL (3 + k) = gt numL k := by decide
theorem part_num (x : BodyD) : ∀ k, k < 4 → part x (gt numL k) = [UInt8.ofNat (numX x (gt numL k)).toNat]
  | 0, _ => rfl
  | 1, _ => rfl
  | 2, _ => rfl
  | 3, _ => rfl
theorem nv_b {f : Nat → Bool} {x : BodyD} {i : Nat} {b : Bool} (h : f i = b) : (nv f x i)[0]? = some (.bool b) := by rw [nv, h]; rfl
theorem putN_z {n : Int} (h0 : 0 ≤ n) (h1 : n ≤ 65536) : putN n = n.toNat := by
  have := putN_in (n := n) (by omega) (by omega)
  omega
/-! ### Lists, printed one by one -/
def rolesTo (S : List UInt8) (x : BodyD) (j : Nat) : List UInt8 := S ++ UInt8.ofNat x.ro.length :: (x.ro.take j).flatMap textL
def holdTo (S : List UInt8) (x : BodyD) (j : Nat) : List UInt8 := S ++ UInt8.ofNat x.ho.length :: (x.ho.take j).flatten
theorem rolesTo_0 (S : List UInt8) (x : BodyD) : rolesTo S x 0 = S ++ [UInt8.ofNat x.ro.length] := by simp [rolesTo]
theorem holdTo_0 (S : List UInt8) (x : BodyD) : holdTo S x 0 = S ++ [UInt8.ofNat x.ho.length] := by simp [holdTo]
theorem rolesTo_s {S : List UInt8} {x : BodyD} {j : Nat} (h : j < x.ro.length) : rolesTo S x (j + 1) = rolesTo S x j ++ textL (gt x.ro j) := by
  rw [rolesTo, rolesTo, List.take_succ_eq_append_getElem h, List.flatMap_append, gt_eq _ _ h]; simp
theorem holdTo_s {S : List UInt8} {x : BodyD} {j : Nat} (h : j < x.ho.length) : holdTo S x (j + 1) = holdTo S x j ++ gt x.ho j := by
  rw [holdTo, holdTo, List.take_succ_eq_append_getElem h, List.flatten_append, gt_eq _ _ h]; simp
theorem rolesTo_all (S : List UInt8) (x : BodyD) : rolesTo S x x.ro.length = S ++ part x 2 := by rw [rolesTo, List.take_length]; rfl
theorem holdTo_all (S : List UInt8) (x : BodyD) : holdTo S x x.ho.length = S ++ part x 9 := by rw [holdTo, List.take_length]; rfl
theorem rolesTo_len {a : Nat} {S : List UInt8} {x : BodyD} (h : BodyGood a x) (j : Nat) : (rolesTo S x j).length ≤ S.length + 2000 := by
  have h1 := flat_text (l := x.ro.take j) fun s hs => h.roles s (List.mem_of_mem_take hs)
  have h2 := h.rn
  rw [List.length_take] at h1
  rw [rolesTo, List.length_append, List.length_cons]; omega
theorem holdTo_len {a : Nat} {S : List UInt8} {x : BodyD} (h : BodyGood a x) (hx : BodyOk x) (j : Nat) : (holdTo S x j).length ≤ S.length + 2000 := by
  have h1 : (x.ho.take j).flatten.length = (x.ho.take j).length * 16 := flatN_len (hx.h16.take j)
  have h2 := h.hn
  rw [List.length_take] at h1
  rw [holdTo, List.length_append, List.length_cons]; omega
end Go.Kw
