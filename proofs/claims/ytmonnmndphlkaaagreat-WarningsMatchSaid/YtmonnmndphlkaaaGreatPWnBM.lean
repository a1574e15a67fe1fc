/- What the law's proof leans on. No condition. -/
import Derived.Test.YtmonnmndphlkaaaGreatPWnAT
import Derived.Test.YtmonnmndphlkaaaGreatPWnBG
import Derived.Test.YtmonnmndphlkaaaGreatPWnBI
import Derived.Test.YtmonnmndphlkaaaGreatPWnBE
section
namespace Go.Kw
set_option linter.unusedVariables false
set_option linter.unusedSimpArgs false
/-! ### Maps that tell of each key the same -/
structure MapOf {α : Type} (E : List (MB α)) (clock : Nat) (ks : List α) (vf : α → Bool) : Prop where
  wf : WfM E clock
  val : ∀ x ∈ E, x.v = vf x.k
  mem : ∀ q, q ∈ E.map (·.k) ↔ q ∈ ks
  len : E.length ≤ ks.length
theorem MapOf.zero {α : Type} {vf : α → Bool} : MapOf ([] : List (MB α)) 0 [] vf := ⟨WfM.nil, by simp, by simp, by simp⟩
theorem MapOf.to {α : Type} {E : List (MB α)} {c : Nat} {ks ks' : List α} {vf : α → Bool} (h : MapOf E c ks vf) (e : ks = ks') : MapOf E c ks' vf := e ▸ h
section
variable {α : Type} [DecidableEq α]
theorem MapOf.put {E : List (MB α)} {c : Nat} {ks : List α} {vf : α → Bool} {q : α} {v : Bool} (h : MapOf E c ks vf) (hv : v = vf q) : MapOf (putM E c q v).1 (putM E c q v).2 (ks ++ [q]) vf := by
  rcases getM_cases E q with hg | ⟨v0, hg⟩
  · rw [putM_new hg]
    refine ⟨h.wf.new hg, fun x hx => ?_, fun p => ?_, by simpa using h.len⟩
    · rcases List.mem_append.1 hx with hx | hx
      · exact h.val x hx
      · rw [List.mem_singleton.1 hx]; exact hv
    · rw [List.map_append, List.mem_append, List.mem_append, h.mem]; simp
  · rw [putM_old hg]
    have hk : q ∈ E.map (·.k) := by
      cases hq : decide (q ∈ E.map (·.k)) with
      | true => exact of_decide_eq_true hq
      | false =>
        have hn := of_decide_eq_false hq
        rw [getM_none.2 (fun x hx e => hn (List.mem_map.2 ⟨x, hx, e⟩))] at hg
        cases hg
    refine ⟨h.wf.set, fun x hx => ?_, fun p => ?_, ?_⟩
    · obtain ⟨y, hy, rfl⟩ := List.mem_map.1 hx
      by_cases e : y.k = q
      · rw [if_pos e, hv, ← e]
      · rw [if_neg e]; exact h.val y hy
    · rw [setM_keys, List.mem_append, List.mem_singleton, h.mem]
      refine ⟨.inl, fun hh => hh.elim id fun e => ?_⟩
      rw [e, ← h.mem]; exact hk
    · have hl := h.len
      simp only [setM, List.length_map, List.length_append, List.length_singleton]; omega
theorem MapOf.sorted [Inhabited α] {E : List (MB α)} {c : Nat} {ks D : List α} {vf : α → Bool} {le : α → α → Bool} (o : TOrd le) (h : MapOf E c ks vf) (hD : D.Perm (E.map (·.k))) : D.mergeSort le = usort le ks ∧ D.length = (usort le ks).length := by
  have e : D.mergeSort le = usort le ks := keys_sorted o (hD.nodup_iff.2 h.wf.keys) (fun x => by rw [hD.mem_iff, h.mem])
  exact ⟨e, by rw [← e, List.length_mergeSort]⟩
section
variable {f : α → Value} {P : Program} {ρ : Operand → Value} {w w0 : World} {M : List Nat} {L l1 l2 : List Item} {dst : Option Tmp} {ty : TypeId} {pos : String} {aft : Array Edge} {g : Option (Nat × Bool)} {x y z : Operand} {T T2 E' I K : TypeId} {b : Nat}
theorem x_mapPutB {E : List (MB α)} {clock : Nat} {ks : List α} {vf : α → Bool} {q : α} {v : Bool} (l1 : List Item) {l2 : List Item} (hS : St w0 M w (l1 ++ .blk b (mobj f E clock) :: l2)) (hK : KeyF P K f) (hM : MapOf E clock ks vf) (hT : P.underlying T = some (.map K E')) (hx : ρ x = .map (some b)) (hy : ρ y = f q) (hz : ρ z = .bool v) (hv : v = vf q) :
    ∃ w', (execOp ρ ⟨none, .mapUpdate T x y z, ty, pos, aft, g⟩).run P w = .ok .skip w' ∧ ∃ E2 c2, MapOf E2 c2 (ks ++ [q]) vf ∧ St w0 M w' (l1 ++ .blk b (mobj f E2 c2) :: l2) := by
  have hp := hM.put (q := q) hv
  rcases getM_cases E q with hg | ⟨v0, hg⟩
  · obtain ⟨w', h1, h2⟩ := x_mapNew (ty := ty) (pos := pos) (aft := aft) (g := g) l1 hS hK hT hx hy hz hg
    rw [putM_new hg] at hp
    exact ⟨w', h1, _, _, hp, h2⟩
  · obtain ⟨w', h1, h2⟩ := x_mapOld (ty := ty) (pos := pos) (aft := aft) (g := g) l1 hS hK hM.wf hT hx hy hz hg
    rw [putM_old hg] at hp
    exact ⟨w', h1, _, _, hp, h2⟩
theorem x_insertB {E : List (MB α)} {clock : Nat} {ks : List α} {vf : α → Bool} {q : α} {v : Bool} (l1 : List Item) {l2 : List Item} (hS : St w0 M w (l1 ++ .blk b (mobj f E clock) :: l2)) (hK : KeyF P K f) (hM : MapOf E clock ks vf) (hT : P.underlying T = some (.map K E')) (hx : ρ x = .map (some b)) (hy : ρ y = f q) (hz : ρ z = .bool v) (hv : v = vf q) :
    ∃ w', (execOp ρ ⟨none, .insert T x y z, ty, pos, aft, g⟩).run P w = .ok .skip w' ∧ ∃ E2 c2, MapOf E2 c2 (ks ++ [q]) vf ∧ St w0 M w' (l1 ++ .blk b (mobj f E2 c2) :: l2) :=
  x_mapPutB (ty := ty) (pos := pos) (aft := aft) (g := g) l1 hS hK hM hT hx hy hz hv
end
end
/-! ### What lies behind -/
/-- The items hold, wherever they are. -/
def Hold0 (W : World) (LT : List Item) : Prop := ∀ x ∈ LT, x.sat 0 [] W
theorem sat0 {B : Nat} {M : List Nat} {W : World} {x : Item} (h : x.sat B M W) : x.sat 0 [] W := by
  cases x with
  | blk b o => exact ⟨h.1, .inl (Nat.zero_le _)⟩
  | row v E sz n xs => exact ⟨h.1, fun g _ => .inl (Nat.zero_le _)⟩
theorem St.hold {w0 w : World} {M : List Nat} {L LT : List Item} (h : St w0 M w L) (hs : ∀ x ∈ LT, x ∈ L) : Hold0 w LT := fun x hx => sat0 (h.has x (hs x hx))
theorem Hold0.row {W : World} {LT : List Item} {a : Option Addr} {n c sz : Nat} {E : TypeId} {xs : List Value} (h : Hold0 W LT) (hx : Item.row (.slice a n c) E sz n xs ∈ LT) : Row W a xs := by
  obtain ⟨a', c', hv, hr, _, _⟩ := row_at (h _ hx).1
  simp only [Value.slice.injEq] at hv
  rw [hv.1]; exact hr
theorem Hold0.sub {W : World} {L L' : List Item} (h : Hold0 W L) (hs : ∀ x ∈ L', x ∈ L) : Hold0 W L' := fun x hx => h x (hs x hx)
/-- The sets of roles stand where they say, as long as the items behind hold. -/
def SetsT (LT : List Item) (S : List (Sl (List UInt8))) : Prop := ∀ W, Hold0 W LT → ∀ s ∈ S, Row W s.a (s.xs.map sv)
theorem SetsT.nil {LT : List Item} : SetsT LT [] := fun W _ s hs => by cases hs
theorem SetsT.empty {LT : List Item} : SetsT LT [(⟨none, 0, []⟩ : Sl (List UInt8))] := fun W _ s hs => by rw [List.mem_singleton.1 hs]; exact Row.nil
theorem SetsT.add {LT : List Item} {S : List (Sl (List UInt8))} {a : Option Addr} {n c : Nat} {E : TypeId} {xs : List (List UInt8)} (h : SetsT LT S) (hn : xs.length = n) :
    SetsT (.row (.slice a n c) E 1 n (xs.map sv) :: LT) (S ++ [⟨a, c, xs⟩]) := fun W hW s hs => by
  rcases List.mem_append.1 hs with hs | hs
  · exact h W (hW.sub fun x hx => List.mem_cons_of_mem _ hx) s hs
  · rw [List.mem_singleton.1 hs]; exact hW.row (.head _)
theorem SetsT.more {LT LT' : List Item} {S : List (Sl (List UInt8))} (h : SetsT LT S) (hs : ∀ x ∈ LT, x ∈ LT') : SetsT LT' S := fun W hW => h W (hW.sub hs)
/-! ### Roles, labels, hours -/
def rolesR (r : RuleD) : List (List UInt8) := r.ro ++ (if r.ofr = [] then [] else [r.ofr])
def rolesIn (rs : List RuleD) : List (List UInt8) := rs.flatMap rolesR
abbrev longS (s : List UInt8) : List UInt8 := headS s ++ [120]
def keysL (s : List UInt8) : List (List UInt8) := [headS s] ++ (if sfx s [42] = true ∧ nameE (longS s) = true then [longS s] else [])
def vfL (k : List UInt8) : Bool := nameE k || decide (k = [])
def labsK (rs : List RuleD) : List (List UInt8) := [[], [120]] ++ rs.flatMap fun r => r.las.flatMap keysL
def labsX (s : List UInt8) : List (List UInt8) := if sfx s [42] = true then [headS s, longS s].filter nameE else [s]
def labsR (rs : List RuleD) : List (List UInt8) := [[], [120]] ++ rs.flatMap fun r => r.las.flatMap labsX
def hoursR (r : RuleD) : List Int := [r.fr, r.to].filter fun h => decide (h < 24)
def hoursIn (rs : List RuleD) : List Int := [0] ++ rs.flatMap hoursR
def wR (rs : List RuleD) : List (List UInt8) := usort leS (rolesIn rs)
def wL (rs : List RuleD) : List (List UInt8) := usort leS (labsR rs)
def wH (rs : List RuleD) : List Int := usort leI (hoursIn rs)
theorem flat_step {α β : Type} [Inhabited α] {f : α → List β} (l : List α) {k : Nat} (h : k < l.length) : (l.take (k + 1)).flatMap f = (l.take k).flatMap f ++ f (gt l k) := by
  rw [take_gt l k h, List.flatMap_append]; simp
theorem rule_las {r : RuleD} (h : ruleE r = 0) : ∀ s ∈ r.las, patE s = true := by
  intro s hs
  cases hp : patE s with
  | true => rfl
  | false =>
    exfalso
    by_cases h1 : (16 < r.ro.length ∨ 16 < r.acs.length ∨ 16 < r.las.length)
    · rw [rule_1 h1] at h; cases h
    by_cases h2 : (r.ro.any (fun s => !nameE s) = true ∨ (¬ r.ofr = [] ∧ nameE r.ofr = false))
    · rw [rule_2 h1 h2] at h; cases h
    by_cases h3 : (r.acs.any actOut = true)
    · rw [rule_3 h1 h2 h3] at h; cases h
    have h4 : (r.las.any (fun s => !patE s) = true) := List.any_eq_true.2 ⟨s, hs, by rw [hp]; rfl⟩
    rw [rule_4 h1 h2 h3 h4] at h; cases h
theorem rule_sz {r : RuleD} (h : ruleE r = 0) : r.ro.length ≤ 16 ∧ r.acs.length ≤ 16 ∧ r.las.length ≤ 16 := by
  by_cases h1 : (16 < r.ro.length ∨ 16 < r.acs.length ∨ 16 < r.las.length)
  · rw [rule_1 h1] at h; cases h
  · omega
theorem rule_hr {r : RuleD} (h : ruleE r = 0) : 0 ≤ r.fr ∧ r.fr ≤ 24 ∧ 0 ≤ r.to ∧ r.to ≤ 24 := by
  by_cases h1 : (16 < r.ro.length ∨ 16 < r.acs.length ∨ 16 < r.las.length)
  · rw [rule_1 h1] at h; cases h
  by_cases h2 : (r.ro.any (fun s => !nameE s) = true ∨ (¬ r.ofr = [] ∧ nameE r.ofr = false))
  · rw [rule_2 h1 h2] at h; cases h
  by_cases h3 : (r.acs.any actOut = true)
  · rw [rule_3 h1 h2 h3] at h; cases h
  by_cases h4 : (r.las.any (fun s => !patE s) = true)
  · rw [rule_4 h1 h2 h3 h4] at h; cases h
  by_cases h5 : (¬ r.ro.Nodup ∨ ¬ r.acs.Nodup ∨ ¬ r.las.Nodup)
  · rw [rule_5 h1 h2 h3 h4 h5] at h; cases h
  by_cases h6 : (r.fr < 0 ∨ 24 < r.fr ∨ r.to < 0 ∨ 24 < r.to ∨ (r.fr = r.to ∧ ¬ r.fr = 0) ∨ r.nd < 0 ∨ 16 < r.nd)
  · rw [rule_6 h1 h2 h3 h4 h5 h6] at h; cases h
  · omega
/-- One label gives both sides the same, but for the empty one. -/
theorem lab_one {s x : List UInt8} (hp : patE s = true) (hx : ¬ x = []) : (x ∈ (keysL s).filter vfL ↔ x ∈ labsX s) := by
  rw [List.mem_filter]
  unfold keysL labsX vfL
  rw [decide_eq_false hx, Bool.or_false]
  cases hs : sfx s [42] with
  | true =>
    rw [if_pos rfl, List.mem_filter]
    constructor
    · rintro ⟨h1, h2⟩
      refine ⟨?_, h2⟩
      rcases List.mem_append.1 h1 with h | h
      · rw [List.mem_singleton.1 h]; exact .head _
      · by_cases hc : true = true ∧ nameE (longS s) = true
        · rw [if_pos hc] at h; rw [List.mem_singleton.1 h]; exact .tail _ (.head _)
        · rw [if_neg hc] at h; cases h
    · rintro ⟨h1, h2⟩
      refine ⟨?_, h2⟩
      simp only [List.mem_cons, List.not_mem_nil, or_false] at h1
      rcases h1 with rfl | rfl
      · exact List.mem_append_left _ (.head _)
      · exact List.mem_append_right _ (by rw [if_pos ⟨rfl, h2⟩]; exact .head _)
  | false =>
    rw [if_neg (fun h => by cases h.1), if_neg (fun h => by cases h), headS_f hs]
    have hn : nameE s = true := by
      unfold patE at hp
      rw [hs, headS_f hs] at hp
      simpa using hp
    simp only [List.append_nil, List.mem_singleton]
    exact ⟨fun h => h.1, fun h => ⟨h, by rw [h]; exact hn⟩⟩
theorem labs_same {rs : List RuleD} (h : ∀ r ∈ rs, ruleE r = 0) : usort leS ((labsK rs).filter vfL) = wL rs := by
  refine usort_congr ordS fun x => ?_
  by_cases hx : x = []
  · subst hx
    exact ⟨fun _ => List.mem_append_left _ (.head _), fun _ => List.mem_filter.2 ⟨List.mem_append_left _ (.head _), by decide⟩⟩
  · unfold labsK labsR
    rw [List.filter_append, List.mem_append, List.mem_append]
    have e1 : x ∈ List.filter vfL [[], [120]] ↔ x ∈ ([[], [120]] : List (List UInt8)) := by
      have : List.filter vfL [[], [120]] = [[], [120]] := by decide
      rw [this]
    have e2 : x ∈ List.filter vfL (rs.flatMap fun r => r.las.flatMap keysL) ↔ x ∈ (rs.flatMap fun r => r.las.flatMap labsX) := by
      simp only [List.mem_filter, List.mem_flatMap]
      constructor
      · rintro ⟨⟨r, hr, s, hs, hk⟩, hv⟩
        exact ⟨r, hr, s, hs, (lab_one (rule_las (h r hr) s hs) hx).1 (List.mem_filter.2 ⟨hk, hv⟩)⟩
      · rintro ⟨r, hr, s, hs, hk⟩
        have := List.mem_filter.1 ((lab_one (rule_las (h r hr) s hs) hx).2 hk)
        exact ⟨⟨r, hr, s, hs, this.1⟩, this.2⟩
    rw [e1, e2]
/-! ### Sets of roles -/
def pairsAt (R : List (List UInt8)) (i j : Nat) : List (List (List UInt8)) := ((R.drop (i + 1)).take j).map fun t => [gt R i, t]
def pairsTo (R : List (List UInt8)) (i : Nat) : List (List (List UInt8)) := (List.range i).flatMap fun i => pairsAt R i (R.length - (i + 1))
def setsA (R : List (List UInt8)) (i : Nat) : List (List (List UInt8)) := [[]] ++ (R.take i).map fun s => [s]
def setsB (R : List (List UInt8)) (i j : Nat) : List (List (List UInt8)) := setsA R R.length ++ pairsTo R i ++ pairsAt R i j
def setsL (R : List (List UInt8)) : List (List (List UInt8)) := setsB R R.length 0 ++ (if 3 ≤ R.length then [R] else [])
theorem setsA_step {R : List (List UInt8)} {i : Nat} (h : i < R.length) : setsA R (i + 1) = setsA R i ++ [[gt R i]] := by
  unfold setsA
  rw [take_gt R i h, List.map_append, List.append_assoc]; rfl
theorem setsB_zero (R : List (List UInt8)) : setsB R 0 0 = setsA R R.length := by simp [setsB, pairsTo, pairsAt]
theorem setsB_in {R : List (List UInt8)} {i j : Nat} (h : i + 1 + j < R.length) : setsB R i (j + 1) = setsB R i j ++ [[gt R i, gt R (i + 1 + j)]] := by
  unfold setsB pairsAt
  have e : (R.drop (i + 1)).take (j + 1) = (R.drop (i + 1)).take j ++ [gt R (i + 1 + j)] := by
    rw [take_gt _ j (by rw [List.length_drop]; omega), gt_eq _ _ (by rw [List.length_drop]; omega), gt_eq R _ h]
    simp
  rw [e, List.map_append, List.append_assoc, List.append_assoc, List.append_assoc]; rfl
theorem setsB_out {R : List (List UInt8)} {i : Nat} (h : i < R.length) : setsB R (i + 1) 0 = setsB R i (R.length - (i + 1)) := by
  unfold setsB pairsTo
  rw [List.range_succ, List.flatMap_append]
  simp [pairsAt]
theorem pairsAt_len (R : List (List UInt8)) (i j : Nat) : (pairsAt R i j).length ≤ R.length := by
  unfold pairsAt
  rw [List.length_map, List.length_take, List.length_drop]; omega
theorem pairsTo_len (R : List (List UInt8)) : ∀ i, (pairsTo R i).length ≤ i * R.length
  | 0 => by simp [pairsTo]
  | i + 1 => by
    have ih := pairsTo_len R i
    have h1 := pairsAt_len R i (R.length - (i + 1))
    unfold pairsTo at ih ⊢
    rw [List.range_succ, List.flatMap_append, List.length_append, Nat.add_mul, Nat.one_mul]
    have e : (List.flatMap (fun i => pairsAt R i (R.length - (i + 1))) [i]).length = (pairsAt R i (R.length - (i + 1))).length := by simp
    rw [e]; omega
theorem setsA_len (R : List (List UInt8)) (i : Nat) : (setsA R i).length ≤ 1 + R.length := by
  unfold setsA
  rw [List.length_append, List.length_map, List.length_take]
  simp only [List.length_cons, List.length_nil]; omega
theorem setsB_len {R : List (List UInt8)} {i : Nat} (j : Nat) (hi : i ≤ R.length) (hR : R.length ≤ 1700) : (setsB R i j).length ≤ 3000000 := by
  have h1 := setsA_len R R.length
  have h2 := pairsTo_len R i
  have h3 := pairsAt_len R i j
  have h4 : i * R.length ≤ 1700 * 1700 := Nat.mul_le_mul (by omega) hR
  unfold setsB
  rw [List.length_append, List.length_append]; omega
theorem setsL_len {R : List (List UInt8)} (hR : R.length ≤ 1700) : (setsL R).length ≤ 3000001 := by
  have := setsB_len (R := R) 0 (Nat.le_refl _) hR
  unfold setsL
  rw [List.length_append]
  split <;> simp only [List.length_cons, List.length_nil] <;> omega
theorem setsL_pos (R : List (List UInt8)) : 0 < (setsL R).length := by
  unfold setsL setsB setsA
  simp only [List.length_append, List.length_cons, List.length_nil]; omega
theorem flat_le {α β : Type} {f : α → List β} {m : Nat} : ∀ (l : List α), (∀ x ∈ l, (f x).length ≤ m) → (l.flatMap f).length ≤ l.length * m
  | [], _ => by simp
  | x :: l, h => by
    have := flat_le l (fun y hy => h y (.tail _ hy))
    have h1 := h x (.head _)
    rw [List.flatMap_cons, List.length_append, List.length_cons, Nat.add_mul, Nat.one_mul]; omega
theorem rolesIn_len {rs : List RuleD} (h : ∀ r ∈ rs, ruleE r = 0) (h1 : rs.length ≤ 100) : (rolesIn rs).length ≤ 1700 := by
  have := flat_le (f := rolesR) (m := 17) rs (fun r hr => by
    have := rule_sz (h r hr)
    unfold rolesR
    rw [List.length_append]
    split <;> simp only [List.length_cons, List.length_nil] <;> omega)
  unfold rolesIn; omega
theorem wR_len {rs : List RuleD} (h : ∀ r ∈ rs, ruleE r = 0) (h1 : rs.length ≤ 100) : (wR rs).length ≤ 1700 := Nat.le_trans (usort_len _) (rolesIn_len h h1)
theorem keysL_len (s : List UInt8) : (keysL s).length ≤ 2 := by
  unfold keysL
  rw [List.length_append]
  split <;> simp
theorem labsX_len (s : List UInt8) : (labsX s).length ≤ 2 := by
  unfold labsX
  split
  · exact List.length_filter_le _ _
  · simp
theorem labsF_len {rs : List RuleD} {f : List UInt8 → List (List UInt8)} (hf : ∀ s, (f s).length ≤ 2) (h : ∀ r ∈ rs, ruleE r = 0) (h1 : rs.length ≤ 100) : ([[], [120]] ++ rs.flatMap fun r : RuleD => r.las.flatMap f).length ≤ 3202 := by
  have := flat_le (f := fun r : RuleD => r.las.flatMap f) (m := 32) rs (fun r hr => by
    have h2 := rule_sz (h r hr)
    have h3 := flat_le (f := f) (m := 2) r.las (fun s _ => hf s)
    show (r.las.flatMap f).length ≤ 32
    omega)
  rw [List.length_append]
  simp only [List.length_cons, List.length_nil]; omega
theorem hoursIn_len {rs : List RuleD} (h1 : rs.length ≤ 100) : (hoursIn rs).length ≤ 201 := by
  have := flat_le (f := hoursR) (m := 2) rs (fun r hr => List.length_filter_le _ _)
  unfold hoursIn
  rw [List.length_append]
  simp only [List.length_cons, List.length_nil]; omega
theorem wL_len {rs : List RuleD} (h : ∀ r ∈ rs, ruleE r = 0) (h1 : rs.length ≤ 100) : (wL rs).length ≤ 3202 := Nat.le_trans (usort_len _) (labsF_len labsX_len h h1)
theorem wH_len {rs : List RuleD} (h1 : rs.length ≤ 100) : (wH rs).length ≤ 201 := Nat.le_trans (usort_len _) (hoursIn_len h1)
theorem rolesR_n {r : RuleD} (h : r.ofr = []) : rolesR r = r.ro := by unfold rolesR; rw [if_pos h, List.append_nil]
theorem rolesR_y {r : RuleD} (h : ¬ r.ofr = []) : rolesR r = r.ro ++ [r.ofr] := by unfold rolesR; rw [if_neg h]
theorem sl_len {S : List (Sl (List UInt8))} {X : List (List (List UInt8))} (h : S.map (·.xs) = X) : S.length = X.length := by rw [← h, List.length_map]
theorem Row.dropM {α : Type} {f : α → Value} {w : World} {a : Option Addr} {c : Nat} {l : List α} (h : Row w a (l.map f)) (hc : l.length ≤ c) (i : Nat) : Row w (Kw.sub a c i 1) ((l.drop i).map f) := by
  have := h.sub (cap := c) (l := i) (sz := 1) (by simpa using hc)
  simpa [List.map_drop] using this
theorem gt_dropW {α : Type} [Inhabited α] (l : List α) (i j : Nat) (h : i + j < l.length) : gt (l.drop i) j = gt l (i + j) := by
  rw [gt_eq _ _ (by rw [List.length_drop]; omega), gt_eq l _ h]; simp
theorem SetsT.addB {LT : List Item} {S : List (Sl (List UInt8))} {b c : Nat} {E : TypeId} {xs : List (List UInt8)} (h : SetsT LT S) : SetsT (.blk b (cl (xs.map sv) E) :: LT) (S ++ [⟨some ⟨b, 0, none⟩, c, xs⟩]) := fun W hW s hs => by
  rcases List.mem_append.1 hs with hs | hs
  · exact h W (hW.sub fun x hx => List.mem_cons_of_mem _ hx) s hs
  · rw [List.mem_singleton.1 hs]; exact Row.of_at (at_all (hW _ (.head _)).1)
theorem sets_cap {S : List (Sl (List UInt8))} {x : Sl (List UInt8)} (h : ∀ s ∈ S, s.xs.length ≤ s.c) (hx : x.xs.length ≤ x.c) : ∀ s ∈ S ++ [x], s.xs.length ≤ s.c := fun s hs => by
  rcases List.mem_append.1 hs with hs | hs
  · exact h s hs
  · rw [List.mem_singleton.1 hs]; exact hx
theorem sets_xs {S : List (Sl (List UInt8))} {x : Sl (List UInt8)} {X Y : List (List (List UInt8))} (h : S.map (·.xs) = X) (e : Y = X ++ [x.xs]) : (S ++ [x]).map (·.xs) = Y := by rw [List.map_append, h, e]; rfl
theorem headS_p {s : List UInt8} (h : patE s = true) : (headS s).length ≤ 32 := by
  unfold patE at h
  rcases Bool.or_eq_true _ _ ▸ h with h | h
  · unfold nameE at h
    simp only [Bool.and_eq_true, decide_eq_true_eq] at h
    exact h.2
  · simp only [Bool.and_eq_true, decide_eq_true_eq] at h
    rw [h.2]; exact Nat.zero_le _
theorem keysL_y {s : List UInt8} (h1 : sfx s [42] = true) (h2 : nameE (longS s) = true) : keysL s = [headS s] ++ [longS s] := by unfold keysL; rw [if_pos ⟨h1, h2⟩]
theorem keysL_n {s : List UInt8} (h : ¬ (sfx s [42] = true ∧ nameE (longS s) = true)) : keysL s = [headS s] := by unfold keysL; rw [if_neg h]; rfl
/-! ### What is dropped of a map -/
theorem WfM.filt {α : Type} {E : List (MB α)} {c : Nat} (h : WfM E c) (p : MB α → Bool) : WfM (E.filter p) c :=
  ⟨h.keys.sublist (List.filter_sublist.map _), h.born.sublist (List.filter_sublist.map _), fun x hx => h.lt x (List.mem_filter.1 hx).1⟩
section
variable {α : Type} [DecidableEq α]
def delTo (E D : List (MB α)) : List (MB α) := E.filter fun x => x.v || !decide (x ∈ D)
theorem delTo_nil (E : List (MB α)) : delTo E [] = E := by simp [delTo]
theorem delTo_sub {E D : List (MB α)} : ∀ e ∈ delTo E D, e ∈ E := fun e he => (List.mem_filter.1 he).1
theorem delTo_keep {E D : List (MB α)} {e : MB α} (hv : e.v = true) : delTo E (D ++ [e]) = delTo E D := by
  unfold delTo
  refine List.filter_congr fun x _ => ?_
  by_cases h : x = e
  · subst h; rw [hv]; rfl
  · simp [h]
theorem delTo_drop {E D : List (MB α)} {c : Nat} {e : MB α} (hwf : WfM E c) (he : e ∈ E) (hv : e.v = false) : dropM (delTo E D) e.k = delTo E (D ++ [e]) := by
  unfold delTo dropM
  rw [List.filter_filter]
  refine List.filter_congr fun x hx => ?_
  by_cases h : x = e
  · subst h; rw [hv]; simp
  · have hk : ¬ x.k = e.k := fun hk => h (by
      obtain ⟨i, hi, hie⟩ := List.mem_iff_getElem.1 hx
      obtain ⟨j, hj, hje⟩ := List.mem_iff_getElem.1 he
      have : i = j := nodup_at hwf.keys (by simpa using hi) (by simpa using hj) (by simp [hie, hje, hk])
      subst this
      exact hie.symm.trans hje)
    simp [h, hk]
theorem delTo_all {E D : List (MB α)} (h : ∀ e ∈ delTo E D, e ∈ D) : delTo E D = E.filter (·.v) := by
  unfold delTo
  refine List.filter_congr fun x hx => ?_
  cases hv : x.v with
  | true => rfl
  | false =>
    by_cases hd : x ∈ D
    · simp [hd]
    · exact absurd (h x (List.mem_filter.2 ⟨hx, by simp [hd]⟩)) hd
theorem getM_in {E : List (MB α)} {c : Nat} {e : MB α} (hwf : WfM E c) (he : e ∈ E) : getM E e.k = some e.v := by
  obtain ⟨i, hi, rfl⟩ := List.mem_iff_getElem.1 he
  exact getM_at hwf.keys (List.getElem?_eq_getElem hi) rfl
theorem MapOf.filt {E : List (MB α)} {c : Nat} {ks : List α} {vf : α → Bool} (h : MapOf E c ks vf) : MapOf (E.filter (·.v)) c (ks.filter vf) vf := by
  have hm : ∀ q, q ∈ (E.filter (·.v)).map (·.k) ↔ q ∈ ks.filter vf := fun q => by
    rw [List.mem_filter, ← h.mem, List.mem_map, List.mem_map]
    constructor
    · rintro ⟨x, hx, rfl⟩
      have := List.mem_filter.1 hx
      exact ⟨⟨x, this.1, rfl⟩, by rw [← h.val x this.1]; exact this.2⟩
    · rintro ⟨⟨x, hx, rfl⟩, hv⟩
      exact ⟨x, List.mem_filter.2 ⟨hx, by rw [h.val x hx]; exact hv⟩, rfl⟩
  have hw := h.wf.filt (·.v)
  refine ⟨hw, fun x hx => h.val x (List.mem_filter.1 hx).1, hm, ?_⟩
  have := nodup_lenB hw.keys (b := ks.filter vf) (fun x hx => (hm x).1 hx)
  rwa [List.length_map] at this
end
end Go.Kw
end
section
namespace Go.Kw
set_option linter.unusedVariables false
set_option linter.unusedSimpArgs false
abbrev Z16 : List UInt8 := [0, 0, 0, 0, 0, 0, 0, 0, 0, 0, 0, 0, 0, 0, 0, 0]
abbrev Z32B : List UInt8 := [0, 0, 0, 0, 0, 0, 0, 0, 0, 0, 0, 0, 0, 0, 0, 0, 0, 0, 0, 0, 0, 0, 0, 0, 0, 0, 0, 0, 0, 0, 0, 0]
/-- An ask of a world: who asks, the key and the detail are zero. -/
structure WA where
  ra : Option Addr
  ro : List (List UInt8)
  rc : Nat
  act : Int
  lab : List UInt8
  tm : Int
instance : Inhabited WA := ⟨⟨none, [], 0, 0, [], 0⟩⟩
def WA.q (a : WA) : AskD := ⟨Z16, a.ra, a.ro, a.rc, a.act, a.lab, Z16, a.tm, Z32B⟩
def WA.v (a : WA) : List Value := a.q.v
theorem wa_v68 (a : WA) : a.v.length = 68 := ask_len rfl rfl rfl
theorem one_wa (a : WA) : One a.v := one_app (one_b8 _) (one_app (one_cons rfl (one_cons rfl (one_cons rfl one_nil))) (one_app (one_b8 _) (one_app (one_cons rfl one_nil) (one_b8 _))))
def askOf (s : Sl (List UInt8)) (act : Int) (l : List UInt8) (h : Int) : WA := ⟨s.a, s.xs, s.c, act, l, 3600 * h⟩
def aH (s : Sl (List UInt8)) (act : Int) (l : List UInt8) (H : List Int) : List WA := H.map fun h => askOf s act l h
def aL (s : Sl (List UInt8)) (act : Int) (H : List Int) (L : List (List UInt8)) : List WA := L.flatMap fun l => aH s act l H
def aA (s : Sl (List UInt8)) (L : List (List UInt8)) (H : List Int) (n : Nat) : List WA := (List.range n).flatMap fun k => aL s ((k + 1 : Nat) : Int) H L
def aS (L : List (List UInt8)) (H : List Int) (S : List (Sl (List UInt8))) : List WA := S.flatMap fun s => aA s L H 12
theorem aH_step {s : Sl (List UInt8)} {act : Int} {l : List UInt8} {H : List Int} {m : Nat} (h : m < H.length) : aH s act l (H.take (m + 1)) = aH s act l (H.take m) ++ [askOf s act l (gt H m)] := by
  unfold aH; rw [take_gt H m h, List.map_append]; rfl
theorem aL_step {s : Sl (List UInt8)} {act : Int} {L : List (List UInt8)} {H : List Int} {j : Nat} (h : j < L.length) : aL s act H (L.take (j + 1)) = aL s act H (L.take j) ++ aH s act (gt L j) H := flat_step L h
theorem aA_step {s : Sl (List UInt8)} {L : List (List UInt8)} {H : List Int} {k : Nat} : aA s L H (k + 1) = aA s L H k ++ aL s ((k + 1 : Nat) : Int) H L := by
  unfold aA; rw [List.range_succ, List.flatMap_append]; simp
theorem aS_step {L : List (List UInt8)} {H : List Int} {S : List (Sl (List UInt8))} {i : Nat} (h : i < S.length) : aS L H (S.take (i + 1)) = aS L H (S.take i) ++ aA (gt S i) L H 12 := flat_step S h
theorem aH_len (s : Sl (List UInt8)) (act : Int) (l : List UInt8) (H : List Int) : (aH s act l H).length = H.length := by unfold aH; rw [List.length_map]
theorem aL_len (s : Sl (List UInt8)) (act : Int) (H : List Int) (L : List (List UInt8)) : (aL s act H L).length = L.length * H.length := by
  unfold aL
  induction L with
  | nil => simp
  | cons x L ih => rw [List.flatMap_cons, List.length_append, ih, aH_len, List.length_cons, Nat.add_mul, Nat.one_mul, Nat.add_comm]
theorem aA_len (s : Sl (List UInt8)) (L : List (List UInt8)) (H : List Int) : ∀ n, (aA s L H n).length = n * (L.length * H.length)
  | 0 => by simp [aA]
  | n + 1 => by rw [aA_step, List.length_append, aA_len s L H n, aL_len, Nat.add_mul, Nat.one_mul]
theorem aS_len (L : List (List UInt8)) (H : List Int) (S : List (Sl (List UInt8))) : (aS L H S).length = S.length * (12 * (L.length * H.length)) := by
  unfold aS
  induction S with
  | nil => simp
  | cons x S ih => rw [List.flatMap_cons, List.length_append, ih, aA_len, List.length_cons, Nat.add_mul, Nat.one_mul, Nat.add_comm]
/-- So many asks at most stand there on the way. -/
theorem pre_le {L : List (List UInt8)} {H : List Int} {S : List (Sl (List UInt8))} {s : Sl (List UInt8)} {act : Int} {l : List UInt8} {i k j m : Nat} (hT : S.length * (12 * (L.length * H.length)) ≤ 100000) (hi : i < S.length) (hk : k ≤ 12) :
    (aS L H (S.take i)).length ≤ 100000 ∧ (aA s L H k).length ≤ 100000 ∧ (aL s act H (L.take j)).length ≤ 100000 ∧ (aH s act l (H.take m)).length ≤ H.length := by
  have h1 : i * (12 * (L.length * H.length)) ≤ S.length * (12 * (L.length * H.length)) := Nat.mul_le_mul_right _ (by omega)
  have h2 : 1 * (12 * (L.length * H.length)) ≤ S.length * (12 * (L.length * H.length)) := Nat.mul_le_mul_right _ (by omega)
  have h3 : k * (L.length * H.length) ≤ 12 * (L.length * H.length) := Nat.mul_le_mul_right _ hk
  have h4 : (L.take j).length * H.length ≤ L.length * H.length := Nat.mul_le_mul_right _ (by rw [List.length_take]; omega)
  refine ⟨?_, ?_, ?_, ?_⟩
  · rw [aS_len, List.length_take, Nat.min_eq_left (by omega)]; omega
  · rw [aA_len]; omega
  · rw [aL_len]; omega
  · rw [aH_len, List.length_take]; omega
def prodTo (ns nl nh : Nat) : Nat → Nat
  | 0 => 12
  | 1 => 12 * ns
  | 2 => 12 * ns * nl
  | _ => 12 * ns * nl * nh
theorem prod_step {ns nl nh i : Nat} (h : i < 3) : prodTo ns nl nh (i + 1) = prodTo ns nl nh i * gt [ns, nl, nh] i := by
  have : i = 0 ∨ i = 1 ∨ i = 2 := by omega
  rcases this with rfl | rfl | rfl <;> rfl
theorem prod_all (ns nl nh : Nat) : prodTo ns nl nh 3 = ns * (12 * (nl * nh)) := by
  show 12 * ns * nl * nh = _
  rw [Nat.mul_comm 12 ns, Nat.mul_assoc, Nat.mul_assoc]
theorem prod_big {ns nl nh i : Nat} (h1 : 0 < ns) (h2 : 0 < nl) (h3 : 0 < nh) (hi : i ≤ 3) (h : 100000 < prodTo ns nl nh i) : 100000 < ns * (12 * (nl * nh)) := by
  rw [← prod_all]
  have a1 : prodTo ns nl nh 0 ≤ prodTo ns nl nh 1 := Nat.le_mul_of_pos_right 12 h1
  have a2 : prodTo ns nl nh 1 ≤ prodTo ns nl nh 2 := Nat.le_mul_of_pos_right (12 * ns) h2
  have a3 : prodTo ns nl nh 2 ≤ prodTo ns nl nh 3 := Nat.le_mul_of_pos_right (12 * ns * nl) h3
  have : i = 0 ∨ i = 1 ∨ i = 2 ∨ i = 3 := by omega
  rcases this with rfl | rfl | rfl | rfl <;> omega
theorem wH_rng {rs : List RuleD} (h : ∀ r ∈ rs, ruleE r = 0) : ∀ x ∈ wH rs, 0 ≤ x ∧ x < 24 := by
  intro x hx
  unfold wH at hx
  rw [usort_mem] at hx
  unfold hoursIn at hx
  rcases List.mem_append.1 hx with hx | hx
  · rw [List.mem_singleton.1 hx]; omega
  · obtain ⟨r, hr, hm⟩ := List.mem_flatMap.1 hx
    have := rule_hr (h r hr)
    obtain ⟨h1, h2⟩ := List.mem_filter.1 hm
    have h2 := of_decide_eq_true h2
    simp only [List.mem_cons, List.not_mem_nil, or_false] at h1
    rcases h1 with rfl | rfl <;> omega
theorem mem_pos {α : Type} {x : α} {l : List α} (h : x ∈ l) : 0 < l.length := List.length_pos_of_mem h
theorem wL_pos (rs : List RuleD) : 0 < (wL rs).length := mem_pos (x := []) (usort_mem.2 (List.mem_append_left _ (.head _)))
theorem wH_pos (rs : List RuleD) : 0 < (wH rs).length := mem_pos (x := 0) (usort_mem.2 (List.mem_append_left _ (.head _)))
theorem gt3_le {a b c B : Nat} (h1 : a ≤ B) (h2 : b ≤ B) (h3 : c ≤ B) (i : Nat) (hi : i < 3) : gt [a, b, c] i ≤ B := by
  have : i = 0 ∨ i = 1 ∨ i = 2 := by omega
  rcases this with rfl | rfl | rfl
  · exact h1
  · exact h2
  · exact h3
def wTot (rs : List RuleD) : Nat := (setsL (wR rs)).length * (12 * ((wL rs).length * (wH rs).length))
/-- A call that brings items, and more behind them. -/
theorem St.untail {w0 w : World} {M : List Nat} {A B : List Item} (X : List Item) (h : St w0 M w (X ++ (A ++ B))) : St w0 M w (X ++ A) :=
  h.sub (List.Sublist.append_left (List.sublist_append_left A B) X)
theorem St.callT {w0 w w' : World} {M : List Nat} {X L LT : List Item} (h : St w0 M w L) (h' : St w [] w' (X ++ LT)) : St w0 M w' (X ++ (L ++ LT)) := by
  refine (h.call h').perm ?_
  rw [List.append_assoc]
  exact List.Perm.append_left X List.perm_append_comm
end Go.Kw
end
section
namespace Go.Kw
set_option linter.unusedVariables false
set_option linter.unusedSimpArgs false
def WA.b (q : WA) : List (List UInt8) × Int × List UInt8 × Int := (q.ro, q.act, q.lab, q.tm)
def worldB (L : List (List UInt8)) (H : List Int) (X : List (List (List UInt8))) : List (List (List UInt8) × Int × List UInt8 × Int) :=
  X.flatMap fun x => (List.range 12).flatMap fun k => L.flatMap fun l => H.map fun h => (x, ((k + 1 : Nat) : Int), l, 3600 * h)
theorem aS_b (L : List (List UInt8)) (H : List Int) (S : List (Sl (List UInt8))) : (aS L H S).map WA.b = worldB L H (S.map (·.xs)) := by
  unfold aS aA aL aH worldB
  simp only [List.map_flatMap, List.map_map, List.flatMap_map]
  rfl
/-- The roles of the asks stand where they say, as long as the items behind hold. -/
def AsksT (LT : List Item) (qs : List WA) : Prop := ∀ W, Hold0 W LT → ∀ q ∈ qs, Row W q.ra (q.ro.map sv)
theorem aS_mem {L : List (List UInt8)} {H : List Int} {S : List (Sl (List UInt8))} {q : WA} (h : q ∈ aS L H S) : ∃ s ∈ S, q.ra = s.a ∧ q.ro = s.xs ∧ q.rc = s.c := by
  unfold aS aA aL aH at h
  obtain ⟨s, hs, h⟩ := List.mem_flatMap.1 h
  obtain ⟨k, _, h⟩ := List.mem_flatMap.1 h
  obtain ⟨l, _, h⟩ := List.mem_flatMap.1 h
  obtain ⟨x, _, rfl⟩ := List.mem_map.1 h
  exact ⟨s, hs, rfl, rfl, rfl⟩
theorem AsksT.of {LT : List Item} {L : List (List UInt8)} {H : List Int} {S : List (Sl (List UInt8))} (h : SetsT LT S) : AsksT LT (aS L H S) := fun W hW q hq => by
  obtain ⟨s, hs, e1, e2, _⟩ := aS_mem hq
  rw [e1, e2]; exact h W hW s hs
def WA.to (q : WA) (a : Option Addr) (c : Nat) : WA := ⟨a, q.ro, c, q.act, q.lab, q.tm⟩
theorem AsksT.set {LT : List Item} {qs : List WA} {i n c : Nat} {a : Option Addr} {E : TypeId} (h : AsksT LT qs) (hi : i < qs.length) (hn : (gt qs i).ro.length = n) :
    AsksT (.row (.slice a n c) E 1 n ((gt qs i).ro.map sv) :: LT) (qs.set i ((gt qs i).to a c)) := fun W hW q hq => by
  rcases List.mem_or_eq_of_mem_set hq with hq | rfl
  · exact h W (hW.sub fun x hx => List.mem_cons_of_mem _ hx) q hq
  · exact hW.row (.head _)
theorem setsL_el {R : List (List UInt8)} {x : List (List UInt8)} (h : x ∈ setsL R) : x.length ≤ R.length + 2 := by
  unfold setsL setsB setsA at h
  rcases List.mem_append.1 h with h | h
  · rcases List.mem_append.1 h with h | h
    · rcases List.mem_append.1 h with h | h
      · rcases List.mem_append.1 h with h | h
        · rw [List.mem_singleton.1 h]; simp
        · obtain ⟨s, _, rfl⟩ := List.mem_map.1 h; simp
      · unfold pairsTo at h
        obtain ⟨i, _, h⟩ := List.mem_flatMap.1 h
        unfold pairsAt at h
        obtain ⟨s, _, rfl⟩ := List.mem_map.1 h; simp
    · unfold pairsAt at h
      obtain ⟨s, _, rfl⟩ := List.mem_map.1 h; simp
  · split at h
    · rw [List.mem_singleton.1 h]; omega
    · cases h
theorem asks_ro {L : List (List UInt8)} {H : List Int} {R : List (List UInt8)} {qs : List WA} (h : qs.map WA.b = worldB L H (setsL R)) : ∀ q ∈ qs, q.ro.length ≤ R.length + 2 := fun q hq => by
  have hm : q.b ∈ worldB L H (setsL R) := by rw [← h]; exact List.mem_map.2 ⟨q, hq, rfl⟩
  unfold worldB at hm
  obtain ⟨x, hx, hm⟩ := List.mem_flatMap.1 hm
  obtain ⟨k, _, hm⟩ := List.mem_flatMap.1 hm
  obtain ⟨l, _, hm⟩ := List.mem_flatMap.1 hm
  obtain ⟨z, _, hz⟩ := List.mem_map.1 hm
  have e : q.ro = x := (congrArg Prod.fst hz).symm
  rw [e]; exact setsL_el hx
theorem asks_len {L : List (List UInt8)} {H : List Int} {X : List (List (List UInt8))} {qs : List WA} (h : qs.map WA.b = worldB L H X) : qs.length = X.length * (12 * (L.length * H.length)) := by
  have h1 := congrArg List.length h
  rw [List.length_map] at h1
  have h2 := congrArg List.length (aS_b L H (X.map fun x => (⟨none, 0, x⟩ : Sl (List UInt8))))
  rw [List.length_map, aS_len, List.length_map] at h2
  have e : (X.map fun x => (⟨none, 0, x⟩ : Sl (List UInt8))).map (·.xs) = X := by
    rw [List.map_map]; exact List.map_id X
  rw [e] at h2
  omega
theorem gt2_le {x y : List UInt8} {B t : Nat} (hx : x.length ≤ B) (hy : y.length ≤ B) (ht : t < 2) : (gt [x, y] t).length ≤ B := by
  have : t = 0 ∨ t = 1 := by omega
  rcases this with rfl | rfl
  · exact hx
  · exact hy
theorem mem_tk {α : Type} {l : List α} {n : Nat} {x : α} (h : x ∈ l.take n) : x ∈ l := List.mem_of_mem_take h
theorem rolesK_len {rs : List RuleD} {k : Nat} (h : ∀ r ∈ rs, ruleE r = 0) (h1 : rs.length ≤ 100) : (rolesIn (rs.take k)).length ≤ 1700 := rolesIn_len (fun r hr => h r (mem_tk hr)) (by rw [List.length_take]; omega)
theorem labsK_len {rs : List RuleD} {k : Nat} (h : ∀ r ∈ rs, ruleE r = 0) (h1 : rs.length ≤ 100) : (labsR (rs.take k)).length ≤ 3202 := labsF_len labsX_len (fun r hr => h r (mem_tk hr)) (by rw [List.length_take]; omega)
theorem hoursK_len {rs : List RuleD} {k : Nat} (h1 : rs.length ≤ 100) : (hoursIn (rs.take k)).length ≤ 201 := hoursIn_len (by rw [List.length_take]; omega)
theorem lasX_len {l : List (List UInt8)} {i : Nat} (h : l.length ≤ 16) : ((l.take i).flatMap labsX).length ≤ 32 := by
  have h1 := flat_le (f := labsX) (m := 2) (l.take i) (fun s _ => labsX_len s)
  have h2 : (l.take i).length ≤ 16 := by rw [List.length_take]; omega
  omega
theorem labsX_n {s : List UInt8} (h : sfx s [42] = false) : labsX s = [s] := by unfold labsX; rw [h, if_neg (fun h => by cases h)]
theorem labsX_y {s : List UInt8} (h : sfx s [42] = true) : labsX s = [headS s, longS s].filter nameE := by unfold labsX; rw [if_pos h]
theorem rolesK_y {rs : List RuleD} {k : Nat} (hk : k < rs.length) (h : ¬ (gt rs k).ofr = []) : rolesIn (rs.take (k + 1)) = rolesIn (rs.take k) ++ (gt rs k).ro ++ [(gt rs k).ofr] := by
  unfold rolesIn; rw [flat_step rs hk, rolesR_y h, List.append_assoc]
theorem rolesK_n {rs : List RuleD} {k : Nat} (hk : k < rs.length) (h : (gt rs k).ofr = []) : rolesIn (rs.take (k + 1)) = rolesIn (rs.take k) ++ (gt rs k).ro := by
  unfold rolesIn; rw [flat_step rs hk, rolesR_n h]
theorem labsK_step {rs : List RuleD} {k : Nat} (hk : k < rs.length) : labsR (rs.take (k + 1)) = labsR (rs.take k) ++ (gt rs k).las.flatMap labsX := by
  unfold labsR; rw [flat_step rs hk, List.append_assoc]
theorem hoursK_step {rs : List RuleD} {k : Nat} (hk : k < rs.length) : hoursIn (rs.take (k + 1)) = hoursIn (rs.take k) ++ hoursR (gt rs k) := by
  unfold hoursIn; rw [flat_step rs hk, List.append_assoc]
theorem filt_y {α : Type} [Inhabited α] {p : α → Bool} {l : List α} {i : Nat} (h : i < l.length) (hp : p (gt l i) = true) : (l.take (i + 1)).filter p = (l.take i).filter p ++ [gt l i] := by
  rw [take_gt l i h, List.filter_append, List.filter_cons_of_pos hp, List.filter_nil]
theorem filt_n {α : Type} [Inhabited α] {p : α → Bool} {l : List α} {i : Nat} (h : i < l.length) (hp : p (gt l i) = false) : (l.take (i + 1)).filter p = (l.take i).filter p := by
  rw [take_gt l i h, List.filter_append, List.filter_cons_of_neg (by rw [hp]; decide), List.filter_nil, List.append_nil]
theorem filt_le {α : Type} {p : α → Bool} {l : List α} {i : Nat} (h : l.length = 2) : ((l.take i).filter p).length ≤ 2 := Nat.le_trans (List.length_filter_le _ _) (by rw [List.length_take]; omega)
theorem usort_small {α : Type} [Inhabited α] [DecidableEq α] {le : α → α → Bool} {l : List α} (h : l.length < 2) : usort le l = l.mergeSort le := uq_small (by rw [List.length_mergeSort]; exact h)
theorem aS_rc {L : List (List UInt8)} {H : List Int} {S : List (Sl (List UInt8))} (h : ∀ s ∈ S, s.xs.length ≤ s.c) : ∀ q ∈ aS L H S, q.ro.length ≤ q.rc := fun q hq => by
  obtain ⟨s, hs, _, e2, e3⟩ := aS_mem hq
  rw [e2, e3]; exact h s hs
end Go.Kw
end
