/- What the law's proof leans on. No condition. -/
import Derived.Test.YtbanoknkplcedaaPBMBR
namespace Go.Kw
open Go.Lib
set_option linter.unusedVariables false
set_option linter.unusedSimpArgs false
theorem runP_ok {keep : Bool} : ∀ (l : List Nat) {q : BV × Rd}, BVok q.1 → q.2.1.length ≤ 140737488355328 → BVok (runP keep l q).1
  | [], _, h, _ => h
  | i :: l, q, h, h' => by
    have h2 := stepP_ok (keep := keep) (i := i) h h'
    exact runP_ok l (q := stepP keep i q) h2.1 h2.2
theorem runA_ok (keep : Bool) (a : Nat) {l : List UInt8} (h : l.length ≤ 140737488355328) : BVok (runA keep a l).1 := runP_ok _ BVok.zero h
section
variable {k : Bool} {l : List UInt8} {q : BV × Rd} {a : Nat}
theorem parsE_1 {act : Int} (h : act < 1 ∨ 12 < act) : parsE k act l = 3 := by rw [parsE, if_pos h]
theorem parsE_2 {act : Int} (h1 : ¬ (act < 1 ∨ 12 < act)) (h : 32768 < l.length) : parsE k act l = 5 := by rw [parsE, if_neg h1, if_pos h]
theorem parsE_3 (h1 : ¬ ((a : Int) < 1 ∨ 12 < (a : Int))) (h2 : ¬ 32768 < l.length) (hq : q = runA k a l) (h : q.2.2 = true) : parsE k (a : Int) l = 1 := by
  subst hq; rw [parsE, if_neg h1, if_neg h2, Int.toNat_natCast, if_pos h]
theorem parsE_4 (h1 : ¬ ((a : Int) < 1 ∨ 12 < (a : Int))) (h2 : ¬ 32768 < l.length) (hq : q = runA k a l) (h3 : q.2.2 = false) (h : 0 < q.2.1.length) : parsE k (a : Int) l = 2 := by
  subst hq; rw [parsE, if_neg h1, if_neg h2, Int.toNat_natCast, if_neg (by rw [h3]; decide), if_pos h]
theorem parsE_5 (h1 : ¬ ((a : Int) < 1 ∨ 12 < (a : Int))) (h2 : ¬ 32768 < l.length) (hq : q = runA k a l) (h3 : q.2.2 = false) (h : ¬ 0 < q.2.1.length) : parsE k (a : Int) l = q.1.e a := by
  subst hq; rw [parsE, if_neg h1, if_neg h2, Int.toNat_natCast, if_neg (by rw [h3]; decide), if_neg h]
theorem parsX_n {act : Int} (h : ¬ parsE k act l = 0) : parsX k act l = BV.zero := by rw [parsX, if_neg h]
theorem parsX_0 (hq : q = runA k a l) (h : parsE k (a : Int) l = 0) : parsX k (a : Int) l = q.1 := by subst hq; rw [parsX, if_pos h, Int.toNat_natCast]
end
/-- The answer of a parser: a body, its lists, and what is wrong. -/
def PAns (T1 T2 : TypeId) (k : Bool) (act : Int) (l : List UInt8) (w w' : World) (v : Value) : Prop :=
  ∃ x : BodyD, v = .tuple #[.agg x.v.toArray, .int .i64 (parsE k act l)] ∧ x.bv = parsX k act l ∧ BodyOk x ∧ St w [] w' [.row (.slice x.ra x.ro.length x.rc) T1 1 x.ro.length (x.ro.map sv), .row (.slice x.ha x.ho.length x.hc) T2 16 x.ho.length (x.ho.flatten.map b8)]
theorem PAns.bad {T1 T2 : TypeId} {k : Bool} {act : Int} {l : List UInt8} {w w' : World} {e : Int} (he : parsE k act l = e) (h0 : ¬ e = 0) (hS : St w [] w' []) : PAns T1 T2 k act l w w' (.tuple #[.agg (BodyD.v (BV.d BV.zero none 0 none 0)).toArray, .int .i64 e]) := by
  subst he
  exact ⟨BV.d BV.zero none 0 none 0, rfl, (parsX_n h0).symm, BVok.zero.body (Nat.le_refl _) (Nat.le_refl _), St.nilRow (E := T1) (sz := 1) (St.nilRow (E := T2) (sz := 16) hS)⟩
theorem PAns.good {T1 T2 : TypeId} {k : Bool} {a : Nat} {l : List UInt8} {w w' : World} {q : BV × Rd} {ra ha : Option Addr} {rc hd : Nat} (hq : q = runA k a l) (he : parsE k (a : Int) l = 0) (hok : BVok q.1) (h1 : q.1.ro.length ≤ rc) (h2 : q.1.ho.length ≤ hd)
    (hS : St w [] w' [.row (.slice ra q.1.ro.length rc) T1 1 q.1.ro.length (q.1.ro.map sv), .row (.slice ha q.1.ho.length hd) T2 16 q.1.ho.length (q.1.ho.flatten.map b8)]) :
    PAns T1 T2 k (a : Int) l w w' (.tuple #[.agg (BodyD.v (BV.d q.1 ra rc ha hd)).toArray, vi 0]) :=
  ⟨BV.d q.1 ra rc ha hd, by rw [he]; rfl, (parsX_0 hq he).symm, hok.body h1 h2, hS⟩
end Go.Kw
