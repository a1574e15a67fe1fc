/- What the law's proof leans on. No condition. -/
import Derived.Test.YtmonnmndphlkaaaGreatPWnBG
import Derived.Test.YtmonnmndphlkaaaGreatPWnBR
import Derived.Laws.StructEq
import Derived.WideKeyArr
namespace Go.Kw
open Go.WideMaps
set_option linter.unusedVariables false
set_option linter.unusedSimpArgs false
abbrev ID16 := { l : List UInt8 // l.length = 16 }
instance : Inhabited ID16 := ⟨⟨List.replicate 16 0, by simp⟩⟩
abbrev idv (x : ID16) : Value := .agg (x.1.map b8).toArray
/-- What is known of keys that are arrays. -/
structure IdKeys (P : Program) (K : TypeId) : Prop where
  law : KeyLaw P K
  some : ∀ x : ID16, ∃ l, keyOf P K (idv x) = some l
section
variable {P : Program} {ρ : Operand → Value} {w w0 : World} {M : List Nat} {L l1 l2 : List Item} {dst : Option Tmp} {ty : TypeId} {pos : String} {aft : Array Edge} {g : Option (Nat × Bool)} {x y z : Operand} {T T2 E I K : TypeId} {v : Value} {k : IntKind}
  {d dE : TypeDesc} {sz bts b o : Nat} {zv : Value} {a : Option Addr} {cs C : List Value}
end
/-- An approval. -/
structure ApprD where
  me : ID16
  ra : Option Addr
  ro : List (List UInt8)
  rc : Nat
instance : Inhabited ApprD := ⟨⟨default, none, [], 0⟩⟩
def ApprD.v (a : ApprD) : List Value := a.me.1.map b8 ++ [.slice a.ra a.ro.length a.rc]
structure ApprAt (w : World) (a : ApprD) : Prop where
  rn : a.ro.length ≤ 140737488351232
  rl : ∀ s ∈ a.ro, s.length ≤ 9223372036854775807
  h1 : Row w a.ra (a.ro.map sv)
theorem ApprAt.st {w0 w : World} {L : List Item} {a : ApprD} (h : ApprAt w0 a) (hS : St w0 [] w L) : ApprAt w a := ⟨h.rn, h.rl, h.h1.st hS⟩
/-- A decision hangs on its rules alone. -/
theorem dec_uniq {rs : List RuleD} {q : AskD} {al al' : Bool} {ru ru' nd nd' : Int} {fr fr' : List UInt8} (h : DecR rs q al ru nd fr) (h' : DecR rs q al' ru' nd' fr') : al = al' ∧ ru = ru' ∧ nd = nd' ∧ fr = fr' := by
  rcases h with ⟨i, hi, hm, hd, hb, rfl, rfl, rfl, rfl⟩ | ⟨b, hb, hc⟩
  · rcases h' with ⟨j, hj, hm', hd', hb', rfl, rfl, rfl, rfl⟩ | ⟨b', hb', _⟩
    · refine ⟨rfl, ?_, rfl, rfl⟩
      rcases Nat.lt_trichotomy i j with e | e | e
      · have := hb' i e hm; rw [hd] at this; cases this
      · rw [e]
      · have := hb j e hm'; rw [hd'] at this; cases this
    · have := hb'.1 i hi hm; rw [hd] at this; cases this
  · rcases h' with ⟨j, hj, hm', hd', _⟩ | ⟨b', hb', hc'⟩
    · have := hb.1 j hj hm'; rw [hd'] at this; cases this
    · have e : b = b' := by
        rcases hb.2 with ⟨h1, h2⟩ | ⟨j, h1, h2, h3, h4, h5⟩
        · rcases hb'.2 with ⟨h1', _⟩ | ⟨j', _, h2', h3', _⟩
          · omega
          · have := h2 j' h2'; rw [h3'] at this; cases this
        · rcases hb'.2 with ⟨_, h2'⟩ | ⟨j', h1', h2', h3', h4', h5'⟩
          · have := h2' j h2; rw [h3] at this; cases this
          · rcases Nat.lt_trichotomy j j' with e | e | e
            · have x1 := h5' j e h3; have x2 := h4 j' h2' h3'; omega
            · omega
            · have x1 := h5 j' e h3'; have x2 := h4' j h2 h3; omega
      subst e
      rcases hc with ⟨h1, rfl, rfl, rfl, rfl⟩ | ⟨j, h1, rfl, rfl, rfl, rfl⟩
      · rcases hc' with ⟨_, rfl, rfl, rfl, rfl⟩ | ⟨j', h1', _⟩
        · exact ⟨rfl, rfl, rfl, rfl⟩
        · omega
      · rcases hc' with ⟨h1', _⟩ | ⟨j', h1', rfl, rfl, rfl, rfl⟩
        · omega
        · obtain rfl : j = j' := by omega
          exact ⟨rfl, rfl, rfl, rfl⟩
/-- What the reference keeps of the best rule. -/
def DecC (rs : List RuleD) (b : Int) (al : Bool) (nd : Int) (fr : List UInt8) : Prop := (b = -1 ∧ al = false ∧ nd = 0 ∧ fr = []) ∨ ∃ j : Nat, b = (j : Int) ∧ al = true ∧ nd = (gt rs j).nd ∧ fr = (gt rs j).ofr
theorem upd_new {rs : List RuleD} {q : AskD} {k : Nat} {b nd : Int} {al : Bool} {fr : List UInt8} (h : BestR rs q k b) (hc : DecC rs b al nd fr) (hm : meetE (gt rs k) q = true) (hd : (gt rs k).dn = false) (hn : b < 0 ∨ (gt rs k).nd < nd) : BestR rs q (k + 1) (k : Int) := by
  rcases hc with ⟨rfl, _⟩ | ⟨j, rfl, _, rfl, _⟩
  · exact best_first h hm hd
  · rcases hn with hn | hn
    · omega
    · exact best_new h hm hd hn
theorem upd_keep {rs : List RuleD} {q : AskD} {k : Nat} {b nd : Int} {al : Bool} {fr : List UInt8} (h : BestR rs q k b) (hc : DecC rs b al nd fr) (hd : (gt rs k).dn = false) (h0 : ¬ b < 0) (hn : ¬ (gt rs k).nd < nd) : BestR rs q (k + 1) b := by
  rcases hc with ⟨rfl, _⟩ | ⟨j, rfl, _, rfl, _⟩
  · omega
  · exact best_keep h hd hn
theorem dec_of {rs : List RuleD} {q : AskD} {b nd : Int} {al : Bool} {fr : List UInt8} (h : BestR rs q rs.length b) (hc : DecC rs b al nd fr) : DecR rs q al b nd fr := by
  refine .inr ⟨b, h, ?_⟩
  rcases hc with ⟨h1, h2, h3, h4⟩ | ⟨j, h1, h2, h3, h4⟩
  · exact .inl ⟨h1, h2, h1, h3, h4⟩
  · exact .inr ⟨j, h1, h2, h1, h3, h4⟩
section
variable {P : Program} {w : World} {t : TypeId}
end
end Go.Kw
