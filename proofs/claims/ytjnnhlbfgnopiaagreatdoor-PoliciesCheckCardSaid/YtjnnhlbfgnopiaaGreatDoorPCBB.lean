/- What the law's proof leans on. No condition. -/
import Derived.Test.YtjnnhlbfgnopiaaGreatDoorPCAM
import Derived.RangeFuncFrom
import Derived.RangeFuncLeaves
import Derived.TacticsIn
namespace Go.Kw
open Go.RowKit
set_option linter.unusedVariables false
set_option linter.unusedSimpArgs false
section
variable {n : Nat} {e : Env} {ds : List Deferred}
end
/-- A fence that lets everything in. -/
structure Lets (F : Fence) : Prop where
  fn : ∀ f, F.fn f
  depth : F.depth = none
  calls : ∀ {m : Nat} {P : Program} {f : FuncId} {args : Array Value} {w : World} {R : Ending → World → Prop}, Calls P f args w R → CallsIn F m P f args w R
/-- The goal of a list of operations inside a fence, held shut. -/
structure WI (F : Fence) (m : Nat) (P : Program) (ops : Array Oper) (Q : Exit → Act → World → Prop) (l : List Oper) (a : Act) (w : World) : Prop where
  out : wpListIn F m P ops Q l a w
section
variable {F : Fence} {m : Nat} {P : Program} {ops : Array Oper} {Q : Exit → Act → World → Prop} {n : Nat} {e : Env} {ds : List Deferred} {w w' : World} {rest : List Oper} {dst : Option Tmp} {op : Op} {ty : TypeId} {pos : String} {aft : Array Edge} {g : Option (Nat × Bool)} {v : Value}
end
theorem St.reRow1 {w0 w : World} {M : List Nat} {L : List Item} {a : Option Addr} {n k c sz : Nat} {E : TypeId} {ys zs : List Value} (h : St w0 M w (.row (.slice a n c) E sz n ys :: L)) (hn : k = n) (hy : ys = zs) : St w0 M w (.row (.slice a k c) E sz k zs :: L) := by
  subst hn; subst hy; exact h
section
variable {P : Program} {Q : Exit → Act → World → Prop} {n : Nat} {e : Env} {w we : World}
end
end Go.Kw
