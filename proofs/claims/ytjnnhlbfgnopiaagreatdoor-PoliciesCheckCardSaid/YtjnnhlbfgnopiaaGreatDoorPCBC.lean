/- What the law's proof leans on. No condition. -/
import Derived.Test.YtjnnhlbfgnopiaaGreatDoorPCBA
import Derived.Test.YtjnnhlbfgnopiaaGreatDoorPCAP
import Derived.Test.YtjnnhlbfgnopiaaGreatDoorPCBB
import Derived.Test.YtjnnhlbfgnopiaaGreatDoorPCAO
section
namespace Go.Kw
set_option linter.unusedVariables false
set_option linter.unusedSimpArgs false
/-! ### Maps that tell of each key the same -/
structure MapOf {α : Type} (E : List (MB α)) (clock : Nat) (ks : List α) (vf : α → Bool) : Prop where
  wf : WfM E clock
  val : ∀ x ∈ E, x.v = vf x.k
  mem : ∀ q, q ∈ E.map (·.k) ↔ q ∈ ks
  len : E.length ≤ ks.length
theorem MapOf.zero {α : Type} {vf : α → Bool} : MapOf ([] : List (MB α)) 0 [] vf := ⟨WfM.nil, by simp, by simp, by simp⟩
theorem MapOf.to {α : Type} {E : List (MB α)} {c : Nat} {ks ks' : List α} {vf : α → Bool} (h : MapOf E c ks vf) (e : ks = ks') : MapOf E c ks' vf := e ▸ h
section
variable {α : Type} [DecidableEq α]
theorem MapOf.put {E : List (MB α)} {c : Nat} {ks : List α} {vf : α → Bool} {q : α} {v : Bool} (h : MapOf E c ks vf) (hv : v = vf q) : MapOf (putM E c q v).1 (putM E c q v).2 (ks ++ [q]) vf := by
  rcases getM_cases E q with hg | ⟨v0, hg⟩
  · rw [putM_new hg]
    refine ⟨h.wf.new hg, fun x hx => ?_, fun p => ?_, by simpa using h.len⟩
    · rcases List.mem_append.1 hx with hx | hx
      · exact h.val x hx
      · rw [List.mem_singleton.1 hx]; exact hv
    · rw [List.map_append, List.mem_append, List.mem_append, h.mem]; simp
  · rw [putM_old hg]
    have hk : q ∈ E.map (·.k) := by
      cases hq : decide (q ∈ E.map (·.k)) with
      | true => exact of_decide_eq_true hq
      | false =>
        have hn := of_decide_eq_false hq
        rw [getM_none.2 (fun x hx e => hn (List.mem_map.2 ⟨x, hx, e⟩))] at hg
        cases hg
    refine ⟨h.wf.set, fun x hx => ?_, fun p => ?_, ?_⟩
    · obtain ⟨y, hy, rfl⟩ := List.mem_map.1 hx
      by_cases e : y.k = q
      · rw [if_pos e, hv, ← e]
      · rw [if_neg e]; exact h.val y hy
    · rw [setM_keys, List.mem_append, List.mem_singleton, h.mem]
      refine ⟨.inl, fun hh => hh.elim id fun e => ?_⟩
      rw [e, ← h.mem]; exact hk
    · have hl := h.len
      simp only [setM, List.length_map, List.length_append, List.length_singleton]; omega
section
variable {f : α → Value} {P : Program} {ρ : Operand → Value} {w w0 : World} {M : List Nat} {L l1 l2 : List Item} {dst : Option Tmp} {ty : TypeId} {pos : String} {aft : Array Edge} {g : Option (Nat × Bool)} {x y z : Operand} {T T2 E' I K : TypeId} {b : Nat}
end
end
/-! ### What lies behind -/
/-- The items hold, wherever they are. -/
def Hold0 (W : World) (LT : List Item) : Prop := ∀ x ∈ LT, x.sat 0 [] W
theorem sat0 {B : Nat} {M : List Nat} {W : World} {x : Item} (h : x.sat B M W) : x.sat 0 [] W := by
  cases x with
  | blk b o => exact ⟨h.1, .inl (Nat.zero_le _)⟩
  | row v E sz n xs => exact ⟨h.1, fun g _ => .inl (Nat.zero_le _)⟩
theorem St.hold {w0 w : World} {M : List Nat} {L LT : List Item} (h : St w0 M w L) (hs : ∀ x ∈ LT, x ∈ L) : Hold0 w LT := fun x hx => sat0 (h.has x (hs x hx))
theorem Hold0.row {W : World} {LT : List Item} {a : Option Addr} {n c sz : Nat} {E : TypeId} {xs : List Value} (h : Hold0 W LT) (hx : Item.row (.slice a n c) E sz n xs ∈ LT) : Row W a xs := by
  obtain ⟨a', c', hv, hr, _, _⟩ := row_at (h _ hx).1
  simp only [Value.slice.injEq] at hv
  rw [hv.1]; exact hr
theorem Hold0.sub {W : World} {L L' : List Item} (h : Hold0 W L) (hs : ∀ x ∈ L', x ∈ L) : Hold0 W L' := fun x hx => h x (hs x hx)
/-- The sets of roles stand where they say, as long as the items behind hold. -/
def SetsT (LT : List Item) (S : List (Sl (List UInt8))) : Prop := ∀ W, Hold0 W LT → ∀ s ∈ S, Row W s.a (s.xs.map sv)
theorem SetsT.nil {LT : List Item} : SetsT LT [] := fun W _ s hs => by cases hs
theorem SetsT.add {LT : List Item} {S : List (Sl (List UInt8))} {a : Option Addr} {n c : Nat} {E : TypeId} {xs : List (List UInt8)} (h : SetsT LT S) (hn : xs.length = n) :
    SetsT (.row (.slice a n c) E 1 n (xs.map sv) :: LT) (S ++ [⟨a, c, xs⟩]) := fun W hW s hs => by
  rcases List.mem_append.1 hs with hs | hs
  · exact h W (hW.sub fun x hx => List.mem_cons_of_mem _ hx) s hs
  · rw [List.mem_singleton.1 hs]; exact hW.row (.head _)
/-! ### Roles, labels, hours -/
/-! ### Sets of roles -/
theorem Row.dropM {α : Type} {f : α → Value} {w : World} {a : Option Addr} {c : Nat} {l : List α} (h : Row w a (l.map f)) (hc : l.length ≤ c) (i : Nat) : Row w (Kw.sub a c i 1) ((l.drop i).map f) := by
  have := h.sub (cap := c) (l := i) (sz := 1) (by simpa using hc)
  simpa [List.map_drop] using this
/-! ### What is dropped of a map -/
section
variable {α : Type} [DecidableEq α]
end
end Go.Kw
end
section
namespace Go.Kw
set_option linter.unusedVariables false
set_option linter.unusedSimpArgs false
abbrev Z16 : List UInt8 := [0, 0, 0, 0, 0, 0, 0, 0, 0, 0, 0, 0, 0, 0, 0, 0]
abbrev Z32B : List UInt8 := [0, 0, 0, 0, 0, 0, 0, 0, 0, 0, 0, 0, 0, 0, 0, 0, 0, 0, 0, 0, 0, 0, 0, 0, 0, 0, 0, 0, 0, 0, 0, 0]
/-- An ask of a world: who asks, the key and the detail are zero. -/
structure WA where
  ra : Option Addr
  ro : List (List UInt8)
  rc : Nat
  act : Int
  lab : List UInt8
  tm : Int
instance : Inhabited WA := ⟨⟨none, [], 0, 0, [], 0⟩⟩
def WA.q (a : WA) : AskD := ⟨Z16, a.ra, a.ro, a.rc, a.act, a.lab, Z16, a.tm, Z32B⟩
def WA.v (a : WA) : List Value := a.q.v
def askOf (s : Sl (List UInt8)) (act : Int) (l : List UInt8) (h : Int) : WA := ⟨s.a, s.xs, s.c, act, l, 3600 * h⟩
def aH (s : Sl (List UInt8)) (act : Int) (l : List UInt8) (H : List Int) : List WA := H.map fun h => askOf s act l h
def aL (s : Sl (List UInt8)) (act : Int) (H : List Int) (L : List (List UInt8)) : List WA := L.flatMap fun l => aH s act l H
def aA (s : Sl (List UInt8)) (L : List (List UInt8)) (H : List Int) (n : Nat) : List WA := (List.range n).flatMap fun k => aL s ((k + 1 : Nat) : Int) H L
theorem St.callT {w0 w w' : World} {M : List Nat} {X L LT : List Item} (h : St w0 M w L) (h' : St w [] w' (X ++ LT)) : St w0 M w' (X ++ (L ++ LT)) := by
  refine (h.call h').perm ?_
  rw [List.append_assoc]
  exact List.Perm.append_left X List.perm_append_comm
end Go.Kw
end
