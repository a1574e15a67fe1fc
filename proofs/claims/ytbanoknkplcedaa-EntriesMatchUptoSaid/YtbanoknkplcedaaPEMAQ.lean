/- What the law's proof leans on. No condition. -/
import Derived.Test.YtbanoknkplcedaaPEMAO
import Derived.Test.YtbanoknkplcedaaPEMAN
import Derived.Test.YtbanoknkplcedaaPEMAP
namespace Go.Kw
open Go.Lib
set_option linter.unusedVariables false
set_option linter.unusedSimpArgs false
structure BodyD where
  tx : List UInt8
  mb : List UInt8
  ra : Option Addr
  ro : List (List UInt8)
  rc : Nat
  lb : List UInt8
  cm : List UInt8
  ep : Int
  pu : Int
  re : Int
  ne : Int
  ve : Int
  ct : Int
  ha : Option Addr
  ho : List (List UInt8)
  hc : Nat
def BodyD.mid (x : BodyD) : List Value := [.slice x.ra x.ro.length x.rc, sv x.lb]
def BodyD.tl (x : BodyD) : List Value := [iv x.ep, iv x.pu, iv x.re, iv x.ne, iv x.ve, iv x.ct, .slice x.ha x.ho.length x.hc]
def BodyD.v (x : BodyD) : List Value := [sv x.tx] ++ (x.mb.map b8 ++ (x.mid ++ (x.cm.map b8 ++ x.tl)))
structure BodyOk (x : BodyD) : Prop where
  mb : x.mb.length = 16
  cm : x.cm.length = 32
  h16 : SN 16 x.ho
  rc : x.ro.length ≤ x.rc
  rn : x.ro.length ≤ 140737488351232
  rl : ∀ s ∈ x.ro, s.length ≤ 9223372036854775807
  hc : x.ho.length ≤ x.hc
  hn : x.ho.length ≤ 8796093021952
  tl : x.tx.length ≤ 9223372036854775807
  ll : x.lb.length ≤ 9223372036854775807
theorem app_at {α : Type} {l m : List α} {n : Nat} (h : l.length = n) (i : Nat) : (l ++ m)[n + i]? = m[i]? := by
  rw [List.getElem?_append_right (by omega), h, Nat.add_sub_cancel_left]
theorem app_dr {α : Type} {l m : List α} {n : Nat} (h : l.length = n) (i : Nat) : (l ++ m).drop (n + i) = m.drop i := by
  rw [← List.drop_drop, List.drop_left' h]
section
variable {x : BodyD}
theorem body_len (h : BodyOk x) : x.v.length = 58 := by simp [BodyD.v, BodyD.mid, BodyD.tl, h.mb, h.cm]
theorem body_tx : x.v[0]? = some (sv x.tx) := rfl
theorem body_up (h : BodyOk x) (i : Nat) : x.v[17 + i]? = (x.mid ++ (x.cm.map b8 ++ x.tl))[i]? := by
  rw [show 17 + i = 1 + (16 + i) by omega, BodyD.v, app_at (n := 1) (l := [sv x.tx]) rfl, app_at (n := 16) (by rw [List.length_map, h.mb])]
theorem body_ro (h : BodyOk x) : x.v[17]? = some (.slice x.ra x.ro.length x.rc) := body_up h 0
theorem body_lb (h : BodyOk x) : x.v[18]? = some (sv x.lb) := body_up h 1
theorem body_tl (h : BodyOk x) (i : Nat) : x.v[51 + i]? = x.tl[i]? := by
  rw [show 51 + i = 17 + (2 + (32 + i)) by omega, body_up h, app_at (n := 2) (l := x.mid) rfl, app_at (n := 32) (by rw [List.length_map, h.cm])]
theorem body_ep (h : BodyOk x) : x.v[51]? = some (iv x.ep) := body_tl h 0
theorem body_pu (h : BodyOk x) : x.v[52]? = some (iv x.pu) := body_tl h 1
theorem body_re (h : BodyOk x) : x.v[53]? = some (iv x.re) := body_tl h 2
theorem body_ne (h : BodyOk x) : x.v[54]? = some (iv x.ne) := body_tl h 3
theorem body_ve (h : BodyOk x) : x.v[55]? = some (iv x.ve) := body_tl h 4
theorem body_ct (h : BodyOk x) : x.v[56]? = some (iv x.ct) := body_tl h 5
theorem body_ho (h : BodyOk x) : x.v[57]? = some (.slice x.ha x.ho.length x.hc) := body_tl h 6
theorem body_d1 (h : BodyOk x) : (x.v.drop 1).take 16 = x.mb.map b8 := by
  rw [BodyD.v, show (1 : Nat) = 1 + 0 from rfl, app_dr (n := 1) (l := [sv x.tx]) rfl, List.drop_zero, List.take_left' (by rw [List.length_map, h.mb])]
theorem body_d19 (h : BodyOk x) : (x.v.drop 19).take 32 = x.cm.map b8 := by
  rw [BodyD.v, show (19 : Nat) = 1 + (16 + (2 + 0)) from rfl, app_dr (n := 1) (l := [sv x.tx]) rfl, app_dr (n := 16) (by rw [List.length_map, h.mb]), app_dr (n := 2) (l := x.mid) rfl, List.drop_zero, List.take_left' (by rw [List.length_map, h.cm])]
theorem one_body : One x.v := one_app (one_cons rfl one_nil) (one_app (one_b8 _) (one_app (one_cons rfl (one_cons rfl one_nil)) (one_app (one_b8 _) (one_cons rfl (one_cons rfl (one_cons rfl (one_cons rfl (one_cons rfl (one_cons rfl (one_cons rfl one_nil))))))))))
variable {w : World} {b : Nat} {E : TypeId} {fr : Nat × Nat}
theorem body_at1 (hb : w.heap[b]? = some (.cells x.v.toArray E fr)) (h : BodyOk x) : At w b 1 (x.mb.map b8) := by
  have := at_part (off := 1) (n := 16) hb
  rwa [body_d1 h] at this
theorem body_at19 (hb : w.heap[b]? = some (.cells x.v.toArray E fr)) (h : BodyOk x) : At w b 19 (x.cm.map b8) := by
  have := at_part (off := 19) (n := 32) hb
  rwa [body_d19 h] at this
end
/-! ### What an act needs -/
def needT : List (List Nat) := [[0], [1, 2], [1], [3, 4], [5, 4], [6, 5, 4], [7], [4], [8, 9, 5, 4], [9, 5, 4], [10, 4], [10, 11, 4]]
def needF (a : Nat) (i : Nat) : Bool := (gt needT (a - 1)).contains i
def needV (f : Nat → Bool) : List Value := [.bool (f 0), .bool (f 1), .bool (f 2), .bool (f 3), .bool (f 4), .bool (f 5), .bool (f 6), .bool (f 7), .bool (f 8), .bool (f 9), .bool (f 10), .bool (f 11)]
def usesT : List (List UInt8) := [[], [116], [109, 114], [109], [108, 99], [101, 99], [112, 101, 99], [97], [99], [110, 104, 101, 99], [104, 101, 99], [118, 99], [118, 107, 99]]
def letters : List UInt8 := [116, 109, 114, 108, 99, 101, 112, 97, 110, 104, 118, 107]
theorem uses_need : ∀ a, a < 13 → 1 ≤ a → ∀ i, i < 12 → (gt usesT a).contains (gt letters i) = needF a i := by decide
def setB (x : BodyD) : Nat → Bool
  | 0 => decide (¬ x.tx = [])
  | 1 => decide (¬ x.mb = List.replicate 16 0)
  | 2 => decide (0 < x.ro.length)
  | 3 => decide (¬ x.lb = [])
  | 4 => decide (¬ x.cm = List.replicate 32 0)
  | 5 => decide (¬ x.ep = 0)
  | 6 => decide (¬ x.pu = 0)
  | 7 => decide (¬ x.re = 0)
  | 8 => decide (¬ x.ne = 0)
  | 9 => decide (0 < x.ho.length)
  | 10 => decide (¬ x.ve = 0)
  | _ => decide (¬ x.ct = 0)
/-- Is one of the first fields set that the act does not need? -/
def ex (x : BodyD) (f : Nat → Bool) : Nat → Bool
  | 0 => false
  | i + 1 => ex x f i || (!(f i) && setB x i)
theorem ex_t {x : BodyD} {f : Nat → Bool} {i : Nat} (h : ex x f i = true) : ex x f (i + 1) = true := by rw [ex, h]; rfl
theorem ex_n {x : BodyD} {f : Nat → Bool} {i : Nat} (h : ex x f i = false) (hn : f i = true) : ex x f (i + 1) = false := by rw [ex, h, hn]; rfl
theorem ex_s {x : BodyD} {f : Nat → Bool} {i : Nat} {b : Bool} (h : ex x f i = false) (hn : f i = false) (hs : setB x i = b) : ex x f (i + 1) = b := by rw [ex, h, hn, hs]; rfl
theorem ex_no {x : BodyD} {f : Nat → Bool} : ∀ n, ex x f n = false → ∀ i, i < n → f i = false → setB x i = false
  | 0, _, i, hi, _ => by omega
  | n + 1, h, i, hi, hf => by
    rw [ex, Bool.or_eq_false_iff] at h
    by_cases e : i = n
    · subst e
      have := h.2
      rw [hf] at this
      simpa using this
    · exact ex_no n h.1 i (by omega) hf
theorem ex_yes {x : BodyD} {f : Nat → Bool} : ∀ n i, i < n → f i = false → setB x i = true → ex x f n = true
  | 0, i, hi, _, _ => by omega
  | n + 1, i, hi, hf, hs => by
    rw [ex]
    by_cases e : i = n
    · subst e; rw [hf, hs]; simp
    · rw [ex_yes n i (by omega) hf hs]; rfl
/-! ### What is wrong -/
def firstI (f : Nat → Int) : Nat → Nat → Int
  | 0, _ => 0
  | n + 1, i => if f i = 0 then firstI f n (i + 1) else f i
theorem firstI_at {f : Nat → Int} {k : Nat} : ∀ (n i : Nat), i ≤ k → k < i + n → (∀ j, i ≤ j → j < k → f j = 0) → ¬ f k = 0 → firstI f n i = f k
  | 0, i, h1, h2, _, _ => by omega
  | n + 1, i, h1, h2, h3, h4 => by
    rw [firstI]
    by_cases e : i = k
    · subst e; rw [if_neg h4]
    · rw [if_pos (h3 i (Nat.le_refl _) (by omega))]
      exact firstI_at n (i + 1) (by omega) (by omega) (fun j hj => h3 j (by omega)) h4
theorem firstI_ok {f : Nat → Int} : ∀ (n i : Nat), (∀ j, i ≤ j → j < i + n → f j = 0) → firstI f n i = 0
  | 0, _, _ => rfl
  | n + 1, i, h => by rw [firstI, if_pos (h i (Nat.le_refl _) (by omega))]; exact firstI_ok n (i + 1) fun j h1 h2 => h j (by omega) (by omega)
open Classical in
noncomputable def roleAt (l : List (List UInt8)) (i : Nat) : Int := if nameE (gt l i) = false then 6 else if 0 < i ∧ ¬ Op.bytesLess (gt l (i - 1)) (gt l i) = true then 9 else 0
noncomputable def rolesE (l : List (List UInt8)) : Int := firstI (roleAt l) l.length 0
def holdAt (l : List (List UInt8)) (i : Nat) : Int := if 0 < i ∧ 0 ≤ compareBytes (gt l (i - 1)) (gt l i) then 9 else 0
def holdersE (l : List (List UInt8)) : Int := firstI (holdAt l) l.length 0
def outI (n lo hi : Int) : Prop := n < lo ∨ hi < n
def rangeBad (f : Nat → Bool) (x : BodyD) : Prop := (f 6 = true ∧ outI x.pu 1 3) ∨ outI x.re 0 255 ∨ outI x.ve 0 255 ∨ (f 8 = true ∧ outI x.ne 1 32) ∨ outI x.ep 0 4294967295 ∨ outI x.ct 0 65536
open Classical in
/-- What is wrong with a body of an act. -/
noncomputable def bodyE (act : Int) (x : BodyD) : Int :=
  if act < 1 ∨ 12 < act then 3
  else if ex x (needF act.toNat) 12 = true then 2
  else if 32768 < x.tx.length ∨ 16 < x.ro.length ∨ 32 < x.ho.length then 5
  else if ¬ rolesE x.ro = 0 then rolesE x.ro
  else if needF act.toNat 3 = true ∧ nameE x.lb = false then 6
  else if rangeBad (needF act.toNat) x then 4
  else holdersE x.ho
section
variable {x : BodyD} {act : Int}
theorem bodyE_1 (h : act < 1 ∨ 12 < act) : bodyE act x = 3 := by rw [bodyE, if_pos h]
theorem bodyE_2 (h1 : ¬ (act < 1 ∨ 12 < act)) (h : ex x (needF act.toNat) 12 = true) : bodyE act x = 2 := by rw [bodyE, if_neg h1, if_pos h]
theorem bodyE_3 (h1 : ¬ (act < 1 ∨ 12 < act)) (h2 : ex x (needF act.toNat) 12 = false) (h : 32768 < x.tx.length ∨ 16 < x.ro.length ∨ 32 < x.ho.length) : bodyE act x = 5 := by rw [bodyE, if_neg h1, if_neg (by rw [h2]; decide), if_pos h]
theorem bodyE_4 (h1 : ¬ (act < 1 ∨ 12 < act)) (h2 : ex x (needF act.toNat) 12 = false) (h3 : ¬ (32768 < x.tx.length ∨ 16 < x.ro.length ∨ 32 < x.ho.length)) (h : ¬ rolesE x.ro = 0) : bodyE act x = rolesE x.ro := by rw [bodyE, if_neg h1, if_neg (by rw [h2]; decide), if_neg h3, if_pos h]
theorem bodyE_5 (h1 : ¬ (act < 1 ∨ 12 < act)) (h2 : ex x (needF act.toNat) 12 = false) (h3 : ¬ (32768 < x.tx.length ∨ 16 < x.ro.length ∨ 32 < x.ho.length)) (h4 : rolesE x.ro = 0) (h : needF act.toNat 3 = true) (h' : nameE x.lb = false) : bodyE act x = 6 := by rw [bodyE, if_neg h1, if_neg (by rw [h2]; decide), if_neg h3, if_neg (not_not_intro h4), if_pos ⟨h, h'⟩]
theorem bodyE_6 (h1 : ¬ (act < 1 ∨ 12 < act)) (h2 : ex x (needF act.toNat) 12 = false) (h3 : ¬ (32768 < x.tx.length ∨ 16 < x.ro.length ∨ 32 < x.ho.length)) (h4 : rolesE x.ro = 0) (h5 : ¬ (needF act.toNat 3 = true ∧ nameE x.lb = false)) (h : rangeBad (needF act.toNat) x) : bodyE act x = 4 := by rw [bodyE, if_neg h1, if_neg (by rw [h2]; decide), if_neg h3, if_neg (not_not_intro h4), if_neg h5, if_pos h]
theorem bodyE_7 (h1 : ¬ (act < 1 ∨ 12 < act)) (h2 : ex x (needF act.toNat) 12 = false) (h3 : ¬ (32768 < x.tx.length ∨ 16 < x.ro.length ∨ 32 < x.ho.length)) (h4 : rolesE x.ro = 0) (h5 : ¬ (needF act.toNat 3 = true ∧ nameE x.lb = false)) (h6 : ¬ rangeBad (needF act.toNat) x) : bodyE act x = holdersE x.ho := by rw [bodyE, if_neg h1, if_neg (by rw [h2]; decide), if_neg h3, if_neg (not_not_intro h4), if_neg h5, if_neg h6]
theorem bodyN_2 {a : Nat} (h1 : ¬ ((a : Int) < 1 ∨ 12 < (a : Int))) (h : ex x (needF a) 12 = true) : bodyE (a : Int) x = 2 := bodyE_2 h1 h
theorem bodyN_3 {a : Nat} (h1 : ¬ ((a : Int) < 1 ∨ 12 < (a : Int))) (h2 : ex x (needF a) 12 = false) (h : 32768 < x.tx.length ∨ 16 < x.ro.length ∨ 32 < x.ho.length) : bodyE (a : Int) x = 5 := bodyE_3 h1 h2 h
theorem bodyN_4 {a : Nat} (h1 : ¬ ((a : Int) < 1 ∨ 12 < (a : Int))) (h2 : ex x (needF a) 12 = false) (h3 : ¬ (32768 < x.tx.length ∨ 16 < x.ro.length ∨ 32 < x.ho.length)) (h : ¬ rolesE x.ro = 0) : bodyE (a : Int) x = rolesE x.ro := bodyE_4 h1 h2 h3 h
theorem bodyN_5 {a : Nat} (h1 : ¬ ((a : Int) < 1 ∨ 12 < (a : Int))) (h2 : ex x (needF a) 12 = false) (h3 : ¬ (32768 < x.tx.length ∨ 16 < x.ro.length ∨ 32 < x.ho.length)) (h4 : rolesE x.ro = 0) (h : needF a 3 = true) (h' : nameE x.lb = false) : bodyE (a : Int) x = 6 := bodyE_5 h1 h2 h3 h4 h h'
theorem bodyN_6 {a : Nat} (h1 : ¬ ((a : Int) < 1 ∨ 12 < (a : Int))) (h2 : ex x (needF a) 12 = false) (h3 : ¬ (32768 < x.tx.length ∨ 16 < x.ro.length ∨ 32 < x.ho.length)) (h4 : rolesE x.ro = 0) (h5 : ¬ (needF a 3 = true ∧ nameE x.lb = false)) (h : rangeBad (needF a) x) : bodyE (a : Int) x = 4 := bodyE_6 h1 h2 h3 h4 h5 h
theorem bodyN_7 {a : Nat} (h1 : ¬ ((a : Int) < 1 ∨ 12 < (a : Int))) (h2 : ex x (needF a) 12 = false) (h3 : ¬ (32768 < x.tx.length ∨ 16 < x.ro.length ∨ 32 < x.ho.length)) (h4 : rolesE x.ro = 0) (h5 : ¬ (needF a 3 = true ∧ nameE x.lb = false)) (h6 : ¬ rangeBad (needF a) x) : bodyE (a : Int) x = holdersE x.ho := bodyE_7 h1 h2 h3 h4 h5 h6
end
theorem one_need (f : Nat → Bool) : One (needV f) := one_cons rfl (one_cons rfl (one_cons rfl (one_cons rfl (one_cons rfl (one_cons rfl (one_cons rfl (one_cons rfl (one_cons rfl (one_cons rfl (one_cons rfl (one_cons rfl one_nil)))))))))))
theorem need_mem {f : Nat → Bool} {i : Nat} {b : Bool} (h : f i = b) (hv : (needV f)[i]? = some (.bool (f i))) : (needV f)[i]? = some (.bool b) := by rw [hv, h]
/-! ### The reference's form -/
theorem ex_z {x : BodyD} {f : Nat → Bool} {i : Nat} (h : ex x f i = false) (hs : setB x i = false) : ex x f (i + 1) = false := by rw [ex, h, hs]; simp
def fv (x : BodyD) (i : Nat) : List Value := [sv [gt letters i], .bool (setB x i)]
theorem fv_len (x : BodyD) : ∀ i, (fv x i).length = 2 := fun _ => rfl
theorem one_fv (x : BodyD) (i : Nat) : One (fv x i) := one_cons rfl (one_cons rfl one_nil)
theorem gt_range {n k : Nat} (h : k < n) : gt (List.range n) k = k := by rw [gt_eq _ _ (by simpa using h), List.getElem_range]
theorem form_flat (x : BodyD) {p q : Bool} (hp : p = decide (0 < x.ro.length)) (hq : q = decide (0 < x.ho.length)) :
    [[sv [116], .bool (decide (¬ x.tx = []))], [sv [109], .bool (decide (¬ x.mb = List.replicate 16 0))], [sv [114], .bool p], [sv [108], .bool (decide (¬ x.lb = []))], [sv [99], .bool (decide (¬ x.cm = List.replicate 32 0))],
      [sv [101], .bool (decide (¬ x.ep = 0))], [sv [112], .bool (decide (¬ x.pu = 0))], [sv [97], .bool (decide (¬ x.re = 0))], [sv [110], .bool (decide (¬ x.ne = 0))], [sv [104], .bool q], [sv [118], .bool (decide (¬ x.ve = 0))], [sv [107], .bool (decide (¬ x.ct = 0))]].flatten = (List.range 12).flatMap (fv x) := by
  subst hp hq; rfl
theorem fv_b {x : BodyD} {k : Nat} {b : Bool} (h : setB x k = b) : (fv x k)[1]? = some (.bool b) := by rw [fv, h]; rfl
section
variable {P : Program} {ρ : Operand → Value} {w w0 : World} {M : List Nat} {L : List Item} {dst : Option Tmp} {ty : TypeId} {pos : String} {aft : Array Edge} {g : Option (Nat × Bool)} {T E : TypeId} {dE : TypeDesc} {sz bts : Nat} {zv : Value}
theorem x_litP {parts : Array (Nat × Operand)} {ps : List (List Value)} {cs : List Value} {len : Nat} (hfl : ps.flatten = cs) (hS : St w0 M w L) (hT : P.underlying T = some (.slice E)) (hE : TI P E dE sz bts zv)
    (hp : parts.toList.map (fun x => (x.1, ρ x.2)) = (ps.map fun c => Value.agg c.toArray).zipIdx.map (fun x => (x.2, x.1))) (hl : ps.length = len) (hs : ∀ c ∈ ps, c.length = sz) (hzc : zv.cells.size = sz) (hlen : len * sz ≤ 16777216) (h0 : 0 < len * sz) :
    ∃ v w', (execOp ρ ⟨dst, .buildSlice T len parts, ty, pos, aft, g⟩).run P w = .ok (.value v) w' ∧ ∃ b, v = .slice (some ⟨b, 0, none⟩) len len ∧ St w0 M w' (.blk b (cl cs E) :: L) := by
  subst hfl
  refine x_litN (vs := ps.map fun c => Value.agg c.toArray) (css := ps) hS hT hE hp (by rw [List.length_map]; exact hl) hl (fun i hi => ?_) hzc hlen h0
  have hi' : i < ps.length := by omega
  have h1 : (ps.map fun c => Value.agg c.toArray).getD i undef = .agg (ps.getD i []).toArray := by simp [hi']
  have h2 : ps.getD i [] = ps[i] := by simp [hi']
  exact ⟨by rw [h1]; rfl, by rw [h2]; exact hs _ (List.getElem_mem hi')⟩
end
/-- The reference asks for the range of each field that the act needs. -/
def rangeR (f : Nat → Bool) (x : BodyD) : Prop := (f 6 = true ∧ outI x.pu 1 3) ∨ (f 7 = true ∧ outI x.re 0 255) ∨ (f 10 = true ∧ outI x.ve 0 255) ∨ (f 8 = true ∧ outI x.ne 1 32) ∨ (f 5 = true ∧ outI x.ep 0 4294967295) ∨ (f 11 = true ∧ outI x.ct 0 65536)
theorem range_iff {x : BodyD} {f : Nat → Bool} (h : ex x f 12 = false) : rangeBad f x ↔ rangeR f x := by
  have z : ∀ i, i < 12 → f i = false → setB x i = false := fun i hi hf => ex_no 12 h i hi hf
  have h7 : outI x.re 0 255 ↔ (f 7 = true ∧ outI x.re 0 255) := by
    refine ⟨fun ho => ⟨?_, ho⟩, fun ho => ho.2⟩
    cases hf : f 7 with
    | true => rfl
    | false => have := of_decide_eq_false (z 7 (by omega) hf); exact absurd (Decidable.of_not_not this) (fun e => by rw [e] at ho; exact absurd ho (by unfold outI; omega))
  have h10 : outI x.ve 0 255 ↔ (f 10 = true ∧ outI x.ve 0 255) := by
    refine ⟨fun ho => ⟨?_, ho⟩, fun ho => ho.2⟩
    cases hf : f 10 with
    | true => rfl
    | false => have := of_decide_eq_false (z 10 (by omega) hf); exact absurd (Decidable.of_not_not this) (fun e => by rw [e] at ho; exact absurd ho (by unfold outI; omega))
  have h5 : outI x.ep 0 4294967295 ↔ (f 5 = true ∧ outI x.ep 0 4294967295) := by
    refine ⟨fun ho => ⟨?_, ho⟩, fun ho => ho.2⟩
    cases hf : f 5 with
    | true => rfl
    | false => have := of_decide_eq_false (z 5 (by omega) hf); exact absurd (Decidable.of_not_not this) (fun e => by rw [e] at ho; exact absurd ho (by unfold outI; omega))
  have h11 : outI x.ct 0 65536 ↔ (f 11 = true ∧ outI x.ct 0 65536) := by
    refine ⟨fun ho => ⟨?_, ho⟩, fun ho => ho.2⟩
    cases hf : f 11 with
    | true => rfl
    | false => have := of_decide_eq_false (z 11 (by omega) hf); exact absurd (Decidable.of_not_not this) (fun e => by rw [e] at ho; exact absurd ho (by unfold outI; omega))
  unfold rangeBad rangeR
  rw [← h7, ← h10, ← h5, ← h11]
end Go.Kw
