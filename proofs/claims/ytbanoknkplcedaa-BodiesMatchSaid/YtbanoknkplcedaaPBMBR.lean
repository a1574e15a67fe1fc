/- What the law's proof leans on. No condition. -/
import Derived.Test.YtbanoknkplcedaaPBMBO
namespace Go.Kw
open Go.Lib
set_option linter.unusedVariables false
set_option linter.unusedSimpArgs false
section
variable (f : Nat → Bool) (s : Rd)
def g0 : List UInt8 × Rd := if f 0 = true then tk true s s.1.length else ([], s)
def g1 : List UInt8 × Rd := if f 1 = true then tk true (g0 f s).2 16 else (List.replicate 16 0, (g0 f s).2)
def g2n : Nat × Rd := octB true (f 2) (g1 f s).2
def g2 : List (List UInt8) × Rd := texts true (g2n f s).1 (g2n f s).2
def g3 : List UInt8 × Rd := if f 3 = true then text1 true (g2 f s).2 else ([], (g2 f s).2)
def g6 : Nat × Rd := octB true (f 6) (g3 f s).2
def g7 : Nat × Rd := octB true (f 7) (g6 f s).2
def g8 : Nat × Rd := octB true (f 8) (g7 f s).2
def g10 : Nat × Rd := octB true (f 10) (g8 f s).2
def g9n : Nat × Rd := octB true (f 9) (g10 f s).2
def g9 : List (List UInt8) × Rd := ids true (g9n f s).1 (g9n f s).2
def g5 : Nat × Rd := if f 5 = true then ((word4 (tk true (g9 f s).2 4).1).toNat, (tk true (g9 f s).2 4).2) else (0, (g9 f s).2)
def g11 : Int × Rd := if f 11 = true then (ctV true (tk true (g5 f s).2 8).1, (tk true (g5 f s).2 8).2) else (0, (g5 f s).2)
def g4 : List UInt8 × Rd := if f 4 = true then tk true (g11 f s).2 32 else (List.replicate 32 0, (g11 f s).2)
def gB : BV := ⟨(g0 f s).1, (g1 f s).1, (g2 f s).1, (g3 f s).1, (g4 f s).1, (g5 f s).1, (g6 f s).1, (g7 f s).1, (g8 f s).1, (g10 f s).1, (g11 f s).1, (g9 f s).1⟩
theorem g1_len : (g1 f s).1.length = 16 := by
  unfold g1; split
  · exact tk_len _ _ _
  · rfl
theorem g4_len : (g4 f s).1.length = 32 := by
  unfold g4; split
  · exact tk_len _ _ _
  · rfl
end
/-- Stage for stage the program reads what its act needs. -/
theorem g_run {a : Nat} (h1 : 1 ≤ a) (h2 : a < 13) (l : List UInt8) : (gB (needF a) (l, false), (g4 (needF a) (l, false)).2) = runA true a l := by
  have hc : a = 1 ∨ a = 2 ∨ a = 3 ∨ a = 4 ∨ a = 5 ∨ a = 6 ∨ a = 7 ∨ a = 8 ∨ a = 9 ∨ a = 10 ∨ a = 11 ∨ a = 12 := by omega
  rcases hc with rfl | rfl | rfl | rfl | rfl | rfl | rfl | rfl | rfl | rfl | rfl | rfl <;> rfl
/-! ### A body's cells, one field put anew -/
theorem app_set {α : Type} {l m : List α} {n : Nat} (h : l.length = n) (i : Nat) (v : α) : (l ++ m).set (n + i) v = l ++ m.set i v := by
  rw [List.set_append_right _ _ (by omega), h, Nat.add_sub_cancel_left]
section
variable {x : BodyD}
theorem v_up (h : x.mb.length = 16) (i : Nat) (v : Value) : x.v.set (17 + i) v = [sv x.tx] ++ (x.mb.map b8 ++ (x.mid ++ (x.cm.map b8 ++ x.tl)).set i v) := by
  rw [show 17 + i = 1 + (16 + i) by omega, BodyD.v, app_set (n := 1) (l := [sv x.tx]) rfl, app_set (n := 16) (by rw [List.length_map, h])]
theorem v_set0 (t : List UInt8) : x.v.set 0 (sv t) = ({ x with tx := t } : BodyD).v := rfl
theorem v_set17 (h : x.mb.length = 16) {a : Option Addr} {n c : Nat} (l : List (List UInt8)) (hn : l.length = n) : x.v.set 17 (.slice a n c) = ({ x with ra := a, ro := l, rc := c } : BodyD).v := by subst hn; exact v_up h 0 _
theorem v_set18 (h : x.mb.length = 16) (t : List UInt8) : x.v.set 18 (sv t) = ({ x with lb := t } : BodyD).v := v_up h 1 _
theorem v_tl (h : x.mb.length = 16) (h' : x.cm.length = 32) (i : Nat) (v : Value) : x.v.set (51 + i) v = [sv x.tx] ++ (x.mb.map b8 ++ (x.mid ++ (x.cm.map b8 ++ x.tl.set i v))) := by
  rw [show 51 + i = 17 + (2 + (32 + i)) by omega, v_up h, app_set (n := 2) (l := x.mid) rfl, app_set (n := 32) (by rw [List.length_map, h'])]
theorem v_set51 (h : x.mb.length = 16) (h' : x.cm.length = 32) (z : Int) : x.v.set 51 (iv z) = ({ x with ep := z } : BodyD).v := v_tl h h' 0 _
theorem v_set52 (h : x.mb.length = 16) (h' : x.cm.length = 32) (z : Int) : x.v.set 52 (iv z) = ({ x with pu := z } : BodyD).v := v_tl h h' 1 _
theorem v_set53 (h : x.mb.length = 16) (h' : x.cm.length = 32) (z : Int) : x.v.set 53 (iv z) = ({ x with re := z } : BodyD).v := v_tl h h' 2 _
theorem v_set54 (h : x.mb.length = 16) (h' : x.cm.length = 32) (z : Int) : x.v.set 54 (iv z) = ({ x with ne := z } : BodyD).v := v_tl h h' 3 _
theorem v_set55 (h : x.mb.length = 16) (h' : x.cm.length = 32) (z : Int) : x.v.set 55 (iv z) = ({ x with ve := z } : BodyD).v := v_tl h h' 4 _
theorem v_set56 (h : x.mb.length = 16) (h' : x.cm.length = 32) (z : Int) : x.v.set 56 (iv z) = ({ x with ct := z } : BodyD).v := v_tl h h' 5 _
theorem v_set57 (h : x.mb.length = 16) (h' : x.cm.length = 32) {a : Option Addr} {n c : Nat} (l : List (List UInt8)) (hn : l.length = n) : x.v.set 57 (.slice a n c) = ({ x with ha := a, ho := l, hc := c } : BodyD).v := by subst hn; exact v_tl h h' 6 _
theorem v_put1 (h : x.mb.length = 16) (m : List UInt8) : x.v.take 1 ++ m.map b8 ++ x.v.drop 17 = ({ x with mb := m } : BodyD).v := by
  have h1 : x.v.drop (1 + (16 + 0)) = x.mid ++ (x.cm.map b8 ++ x.tl) := by
    rw [BodyD.v, app_dr (n := 1) (l := [sv x.tx]) rfl, app_dr (n := 16) (by rw [List.length_map, h]), List.drop_zero]
  rw [show (17 : Nat) = 1 + (16 + 0) from rfl, h1]
  show ([sv x.tx] ++ m.map b8) ++ _ = _
  rw [List.append_assoc]; rfl
theorem v_len (h : x.mb.length = 16) (h' : x.cm.length = 32) : x.v.length = 58 := by simp [BodyD.v, BodyD.mid, BodyD.tl, h, h']
theorem v_get17 (h : x.mb.length = 16) : x.v[17]? = some (.slice x.ra x.ro.length x.rc) := by
  rw [show 17 = 1 + (16 + 0) by omega, BodyD.v, app_at (n := 1) (l := [sv x.tx]) rfl, app_at (n := 16) (by rw [List.length_map, h])]; rfl
theorem v_get57 (h : x.mb.length = 16) (h' : x.cm.length = 32) : x.v[57]? = some (.slice x.ha x.ho.length x.hc) := by
  rw [show 57 = 1 + (16 + (2 + (32 + 6))) by omega, BodyD.v, app_at (n := 1) (l := [sv x.tx]) rfl, app_at (n := 16) (by rw [List.length_map, h]), app_at (n := 2) (l := x.mid) rfl, app_at (n := 32) (by rw [List.length_map, h'])]; rfl
theorem v_splice1 (h : x.mb.length = 16) {m : List UInt8} (hm : m.length = 16) : splice x.v 1 (m.map b8) = ({ x with mb := m } : BodyD).v := by
  rw [splice, List.length_map, hm]; exact v_put1 h m
theorem v_put19 (h : x.mb.length = 16) (h' : x.cm.length = 32) (m : List UInt8) : x.v.take 19 ++ m.map b8 ++ x.v.drop 51 = ({ x with cm := m } : BodyD).v := by
  have h1 : x.v.drop (1 + (16 + (2 + (32 + 0)))) = x.tl := by
    rw [BodyD.v, app_dr (n := 1) (l := [sv x.tx]) rfl, app_dr (n := 16) (by rw [List.length_map, h]), app_dr (n := 2) (l := x.mid) rfl, app_dr (n := 32) (by rw [List.length_map, h']), List.drop_zero]
  have h2 : x.v.take 19 = [sv x.tx] ++ (x.mb.map b8 ++ x.mid) := by
    rw [BodyD.v, ← List.append_assoc (x.mb.map b8), ← List.append_assoc [sv x.tx]]
    exact List.take_left' (by simp [BodyD.mid, h])
  rw [show (51 : Nat) = 1 + (16 + (2 + (32 + 0))) from rfl, h1, h2]
  simp [BodyD.v, BodyD.mid, BodyD.tl]
theorem v_splice19 (h : x.mb.length = 16) (h' : x.cm.length = 32) {m : List UInt8} (hm : m.length = 32) : splice x.v 19 (m.map b8) = ({ x with cm := m } : BodyD).v := by
  rw [splice, List.length_map, hm, ← List.append_assoc]; exact v_put19 h h' m
end
theorem St.reBlk {w0 w : World} {M : List Nat} {L : List Item} {b : Nat} {E : TypeId} {C C' : List Value} (h : St w0 M w (.blk b (cl C E) :: L)) (e : C = C') : St w0 M w (.blk b (cl C' E) :: L) := e ▸ h
theorem St.reRow1 {w0 w : World} {M : List Nat} {L : List Item} {a : Option Addr} {n k c sz : Nat} {E : TypeId} {ys zs : List Value} (h : St w0 M w (.row (.slice a n c) E sz n ys :: L)) (hn : k = n) (hy : ys = zs) : St w0 M w (.row (.slice a k c) E sz k zs :: L) := by
  subst hn; subst hy; exact h
end Go.Kw
