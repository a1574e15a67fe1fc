/- What the law's proof leans on. No condition. -/
import Derived.Test.YtjnnhlbfgnopiaaGreatDoorPCAX
import Derived.Laws.RangeString
section
namespace Go.Kw
open Go.Lib
set_option linter.unusedVariables false
set_option linter.unusedSimpArgs false
/-- A body without the places of its lists. -/
structure BV where
  tx : List UInt8
  mb : List UInt8
  ro : List (List UInt8)
  lb : List UInt8
  cm : List UInt8
  ep : Int
  pu : Int
  re : Int
  ne : Int
  ve : Int
  ct : Int
  ho : List (List UInt8)
def BV.zero : BV := ⟨[], List.replicate 16 0, [], [], List.replicate 32 0, 0, 0, 0, 0, 0, 0, []⟩
def BV.d (b : BV) (ra : Option Addr) (rc : Nat) (ha : Option Addr) (hc : Nat) : BodyD := ⟨b.tx, b.mb, ra, b.ro, rc, b.lb, b.cm, b.ep, b.pu, b.re, b.ne, b.ve, b.ct, ha, b.ho, hc⟩
structure BVok (b : BV) : Prop where
  mb : b.mb.length = 16
  cm : b.cm.length = 32
  h16 : SN 16 b.ho
  rn : b.ro.length ≤ 255
  hn : b.ho.length ≤ 255
  rl : ∀ s ∈ b.ro, s.length ≤ 255
  tl : b.tx.length ≤ 140737488355328
  ll : b.lb.length ≤ 255
theorem BVok.zero : BVok .zero := ⟨rfl, rfl, SN.nil, by decide, by decide, (fun s hs => nomatch hs), by decide, by decide⟩
theorem BVok.body {b : BV} (h : BVok b) {ra ha : Option Addr} {rc hc : Nat} (h1 : b.ro.length ≤ rc) (h2 : b.ho.length ≤ hc) : BodyOk (b.d ra rc ha hc) := by
  have h3 := h.rn; have h4 := h.hn; have h5 := h.tl; have h6 := h.ll
  refine ⟨h.mb, h.cm, h.h16, h1, ?_, fun s hs => ?_, h2, ?_, ?_, ?_⟩
  · show b.ro.length ≤ _; omega
  · have := h.rl s hs; omega
  · show b.ho.length ≤ _; omega
  · show b.tx.length ≤ _; omega
  · show b.lb.length ≤ _; omega
noncomputable def BV.e (act : Int) (b : BV) : Int := bodyE act (b.d none 0 none 0)
/-! ### Readers -/
abbrev Rd := List UInt8 × Bool
def tkV (l : List UInt8) (m : Nat) : List UInt8 := if m ≤ l.length then l.take m else List.replicate m 0
def tkR (keep : Bool) (l : List UInt8) (m : Nat) : List UInt8 := if m ≤ l.length then l.drop m else if keep then l else []
def tkS (l : List UInt8) (m : Nat) (sh : Bool) : Bool := sh || decide (l.length < m)
def tk (keep : Bool) (s : Rd) (m : Nat) : List UInt8 × Rd := (tkV s.1 m, tkR keep s.1 m, tkS s.1 m s.2)
def one1 (keep : Bool) (s : Rd) : Nat × Rd := ((gt (tk keep s 1).1 0).toNat, (tk keep s 1).2)
def octB (keep : Bool) (is : Bool) (s : Rd) : Nat × Rd := if is then one1 keep s else (0, s)
def text1 (keep : Bool) (s : Rd) : List UInt8 × Rd := tk keep (one1 keep s).2 (one1 keep s).1
def texts (keep : Bool) : Nat → Rd → List (List UInt8) × Rd
  | 0, s => ([], s)
  | n + 1, s => ((texts keep n s).1 ++ [(text1 keep (texts keep n s).2).1], (text1 keep (texts keep n s).2).2)
def ids (keep : Bool) : Nat → Rd → List (List UInt8) × Rd
  | 0, s => ([], s)
  | n + 1, s => ((ids keep n s).1 ++ [(tk keep (ids keep n s).2 16).1], (tk keep (ids keep n s).2 16).2)
def ctV (keep : Bool) (l : List UInt8) : Int := if keep then (if 4611686018427387904 < (long8 l).toNat then 65537 else (long8 l).toNat) else sgN (natN l)
/-! ### The two readers side by side -/
def badCt (z : Int) : Prop := z < 0 ∨ 65536 < z
/-- Equal, but for contents that are both out of range. -/
def Agr (b b' : BV) : Prop := { b with ct := 0 } = { b' with ct := 0 } ∧ (b.ct = b'.ct ∨ (badCt b.ct ∧ badCt b'.ct))
theorem Agr.set {b b' : BV} (h : Agr b b') (F : BV → BV) (hF : ∀ b, { F b with ct := 0 } = F { b with ct := 0 }) (hc : ∀ b, (F b).ct = b.ct) : Agr (F b) (F b') :=
  ⟨by rw [hF, hF, h.1], by rw [hc, hc]; exact h.2⟩
end Go.Kw
end
section
namespace Go.Kw
open Go.Lib
set_option linter.unusedVariables false
set_option linter.unusedSimpArgs false
section
variable {P : Program} {ρ : Operand → Value} {w : World} {dst : Option Tmp} {ty : TypeId} {pos : String} {aft : Array Edge} {g : Option (Nat × Bool)} {x y z : Operand} {T E : TypeId} {dE : TypeDesc} {sz bts : Nat} {zv : Value} {a : Option Addr}
theorem r_sl_hm {len cap h m : Nat} {u : Operand} (hT : P.underlying T = some (.slice E)) (hE : TI P E dE sz bts zv) (hx : ρ x = .slice a len cap) {k2 k3 : IntKind} (hz : ρ z = .int k2 (h : Int)) (hu : ρ u = .int k3 (m : Int)) (hhm : h ≤ m) (hc : m ≤ cap) :
    (execOp ρ ⟨dst, .slice T x none (some z) (some u), ty, pos, aft, g⟩).run P w = .ok (.value (.slice a h m)) w := by
  have e := sub_zero (a := a) (cap := m) (sz := sz)
  simp only [sub] at e
  simp [execOp, hx, hz, hu, Instr.sliceAt, Instr.slice, Instr.sliceBounds, run_underlying hT, run_sizeOf hE, bound_ok hc, bound_ok hhm]
  simpa using e
end
theorem Row.rest {w : World} {a : Option Addr} {l : List UInt8} {c m : Nat} (h : Row w a (l.map b8)) (hc : l.length ≤ c) : Row w (Kw.sub a c m 1) ((l.drop m).map b8) := by
  have := h.sub (cap := c) (l := m) (sz := 1) (by rw [List.length_map]; omega)
  rwa [Nat.mul_one, ← List.map_drop] at this
theorem Row.head {w : World} {a : Option Addr} {l : List UInt8} {m : Nat} (h : Row w a (l.map b8)) : Row w a ((l.take m).map b8) := by
  have := h.take (n := m)
  rwa [← List.map_take] at this
end Go.Kw
end
section
namespace Go.Kw
open Go.Lib
set_option linter.unusedVariables false
set_option linter.unusedSimpArgs false
section
variable (f : Nat → Bool) (s : Rd)
def g0 : List UInt8 × Rd := if f 0 = true then tk true s s.1.length else ([], s)
def g1 : List UInt8 × Rd := if f 1 = true then tk true (g0 f s).2 16 else (List.replicate 16 0, (g0 f s).2)
def g2n : Nat × Rd := octB true (f 2) (g1 f s).2
def g2 : List (List UInt8) × Rd := texts true (g2n f s).1 (g2n f s).2
def g3 : List UInt8 × Rd := if f 3 = true then text1 true (g2 f s).2 else ([], (g2 f s).2)
def g6 : Nat × Rd := octB true (f 6) (g3 f s).2
def g7 : Nat × Rd := octB true (f 7) (g6 f s).2
def g8 : Nat × Rd := octB true (f 8) (g7 f s).2
def g10 : Nat × Rd := octB true (f 10) (g8 f s).2
def g9n : Nat × Rd := octB true (f 9) (g10 f s).2
def g9 : List (List UInt8) × Rd := ids true (g9n f s).1 (g9n f s).2
def g5 : Nat × Rd := if f 5 = true then ((word4 (tk true (g9 f s).2 4).1).toNat, (tk true (g9 f s).2 4).2) else (0, (g9 f s).2)
def g11 : Int × Rd := if f 11 = true then (ctV true (tk true (g5 f s).2 8).1, (tk true (g5 f s).2 8).2) else (0, (g5 f s).2)
def g4 : List UInt8 × Rd := if f 4 = true then tk true (g11 f s).2 32 else (List.replicate 32 0, (g11 f s).2)
def gB : BV := ⟨(g0 f s).1, (g1 f s).1, (g2 f s).1, (g3 f s).1, (g4 f s).1, (g5 f s).1, (g6 f s).1, (g7 f s).1, (g8 f s).1, (g10 f s).1, (g11 f s).1, (g9 f s).1⟩
end
/-! ### A body's cells, one field put anew -/
section
variable {x : BodyD}
end
theorem St.reRow1 {w0 w : World} {M : List Nat} {L : List Item} {a : Option Addr} {n k c sz : Nat} {E : TypeId} {ys zs : List Value} (h : St w0 M w (.row (.slice a n c) E sz n ys :: L)) (hn : k = n) (hy : ys = zs) : St w0 M w (.row (.slice a k c) E sz k zs :: L) := by
  subst hn; subst hy; exact h
end Go.Kw
end
