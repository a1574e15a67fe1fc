/-
  No cell of these rows narrows 'for every input' (looked for: loops, veiled, ifaces, maps, wideKeys, modest, calm, conditions, laid).
  DERIVED. THE GIVEN ROWS OF THIS SEAT. 3 by the template 'for every input the law returns true; each argument reads behind the call as it read before'; 0 by the template 'total and deterministic' (their statements: YtmonnmndphlkaaaGreatTotals.lean).
  GIVEN WITH THE SEED: the statements are not yours to turn. If you find one false, say at which input.
  Laid BY PROGRAM, IN A SANDBOX (cutbox-rows.mjs): the forced cells as the released guide's own fill.sh prints them over the translation 8a9044a0eac8ee22… (all of the seat's roots in one cut). By AI agents, Wed Nov 11 2026. No macro, syntax, notation, axiom, sorry.
-/
import Derived.Test.YtmonnmndphlkaaaGreatChecked
import GoSem.Claim
import GoSem.ClaimJoined
import GoSem.ClaimMapViews
import Derived.JoinedTies
import Derived.KernelRfl
namespace Go.Proofs.YtmonnmndphlkaaaGreat
/- THE CELL 'sum', in the pinned program and in every row, IS THE sha256 OF THE DUMP (.gsa) THAT YtmonnmndphlkaaaGreatProg.lean LOADS. Nothing in Lean hashes anything: it is a label: what it is worth is what the hold of that sum in a sandbox is worth. -/
noncomputable def Tryz.pinned : Pinned := { name := "ytmonnmndphlkaaagreat", sum := "8a9044a0eac8ee2208dab071015a6e8b11324aa6d39da66fa203c8e725a8659d", checked := Tryz.checked }
namespace Rows
def none {H : Type} : Left H := { results := [], args := [] }

/-- 'keylaw1.WorldsMatch': WHATEVER THE INPUT: true; the input reads as it did. -/
def worldsMatchSpec : ChangeSpec := { name := "worldsMatch", fn := fun _ => fun
  | [d] => { results := [.lit (.bool true)], args := [d] }
  | _ => none }
def worldsMatchRow : OpenClaim := { program := "ytmonnmndphlkaaagreat", sum := "8a9044a0eac8ee2208dab071015a6e8b11324aa6d39da66fa203c8e725a8659d", func := "keywarden/keylaw1.WorldsMatch", spec := "worldsMatch", inPlace := ["internal/bytealg.IndexByteString", "internal/bytealg.IndexString"], unfollowed := true, recurses := true, named := ["internal/bytealg.MaxLen"], apart := false }
def WorldsMatchSaid : Prop := worldsMatchRow.holds Tryz.pinned (OpenSpec.ofChange worldsMatchSpec)

/-- ITS FALSE NEIGHBOUR: 'it returns false'. Refute it at one input. -/
def worldsMatchWrong : ChangeSpec := { name := "worldsMatch", fn := fun _ => fun
  | [d] => { results := [.lit (.bool false)], args := [d] }
  | _ => none }
def WorldsMatchWrongFalsely : Prop := worldsMatchRow.holds Tryz.pinned (OpenSpec.ofChange worldsMatchWrong)

/-- 'keylaw1.PoliciesDiffer': WHATEVER THE INPUT: true; the input reads as it did. -/
def policiesDifferSpec : ChangeSpec := { name := "policiesDiffer", fn := fun _ => fun
  | [d1, d2] => { results := [.lit (.bool true)], args := [d1, d2] }
  | _ => none }
def policiesDifferRow : OpenClaim := { program := "ytmonnmndphlkaaagreat", sum := "8a9044a0eac8ee2208dab071015a6e8b11324aa6d39da66fa203c8e725a8659d", func := "keywarden/keylaw1.PoliciesDiffer", spec := "policiesDiffer", inPlace := ["internal/bytealg.IndexByteString", "internal/bytealg.IndexString"], unfollowed := true, recurses := true, named := ["internal/bytealg.MaxLen"], apart := false }
def PoliciesDifferSaid : Prop := policiesDifferRow.holds Tryz.pinned (OpenSpec.ofChange policiesDifferSpec)

/-- ITS FALSE NEIGHBOUR: 'it returns false'. Refute it at one input. -/
def policiesDifferWrong : ChangeSpec := { name := "policiesDiffer", fn := fun _ => fun
  | [d1, d2] => { results := [.lit (.bool false)], args := [d1, d2] }
  | _ => none }
def PoliciesDifferWrongFalsely : Prop := policiesDifferRow.holds Tryz.pinned (OpenSpec.ofChange policiesDifferWrong)

/-- 'keylaw1.WarningsMatch': WHATEVER THE INPUT: true; the input reads as it did. -/
def warningsMatchSpec : ChangeSpec := { name := "warningsMatch", fn := fun _ => fun
  | [d] => { results := [.lit (.bool true)], args := [d] }
  | _ => none }
def warningsMatchRow : OpenClaim := { program := "ytmonnmndphlkaaagreat", sum := "8a9044a0eac8ee2208dab071015a6e8b11324aa6d39da66fa203c8e725a8659d", func := "keywarden/keylaw1.WarningsMatch", spec := "warningsMatch", inPlace := ["internal/bytealg.IndexByteString", "internal/bytealg.IndexString"], unfollowed := true, recurses := true, named := ["internal/bytealg.MaxLen"], apart := false }
def WarningsMatchSaid : Prop := warningsMatchRow.holds Tryz.pinned (OpenSpec.ofChange warningsMatchSpec)

/-- ITS FALSE NEIGHBOUR: 'it returns false'. Refute it at one input. -/
def warningsMatchWrong : ChangeSpec := { name := "warningsMatch", fn := fun _ => fun
  | [d] => { results := [.lit (.bool false)], args := [d] }
  | _ => none }
def WarningsMatchWrongFalsely : Prop := warningsMatchRow.holds Tryz.pinned (OpenSpec.ofChange warningsMatchWrong)

/- THE SECOND FORM. 'bulk': how many values and letters a reading holds, each counted each time it is reached (what is shared counts as often as it is met; a slice's spare places count too). A statement '..UptoSaid' is the law's where the arguments, and the package variables that the reading takes, are together of bulk at most 1048576: NARROWER than '..Said'. Prove '..Said' where nothing that the law and all that it calls make is longer than what came in: it says more and counts as full. Else prove '..UptoSaid'. A law counts once. -/
mutual
def uptoBulk {H : Type} : DataW H → Nat
  | .lit (.string bytes) => bytes.length + 1
  | .lit _ => 1
  | .nil => 1
  | .ptr d => uptoBulk d + 1
  | .slice elems spare => uptoBulkAll elems + uptoBulkAll spare + 1
  | .agg parts => uptoBulkAll parts + 1
  | .iface _ d => uptoBulk d + 1
  | .map entries => uptoBulkEntries entries + 1
  | .held _ => 1
def uptoBulkAll {H : Type} : List (DataW H) → Nat
  | [] => 0
  | d :: r => uptoBulk d + uptoBulkAll r
def uptoBulkEntries {H : Type} : List (Lit × DataW H) → Nat
  | [] => 0
  | x :: r => uptoBulkEntry x + uptoBulkEntries r
def uptoBulkEntry {H : Type} : Lit × DataW H → Nat
  | (.string bytes, d) => bytes.length + uptoBulk d + 1
  | (_, d) => uptoBulk d + 1
 end
def uptoSmall : (H : Type) → List (DataW H) → Bool := fun _ ds => decide (uptoBulkAll ds ≤ 1048576)
def OpenSpec.upto (s : _root_.Go.ChangeSpec) : _root_.Go.OpenSpec := { _root_.Go.OpenSpec.ofChange s with cond := some uptoSmall }

/-- 'keylaw1.WorldsMatch', WHERE WHAT IT READS IS OF BULK AT MOST 1048576: true; the input reads as it did. -/
def worldsMatchUptoRow : OpenClaim := { program := "ytmonnmndphlkaaagreat", sum := "8a9044a0eac8ee2208dab071015a6e8b11324aa6d39da66fa203c8e725a8659d", func := "keywarden/keylaw1.WorldsMatch", spec := "worldsMatch", inPlace := ["internal/bytealg.IndexByteString", "internal/bytealg.IndexString"], unfollowed := true, recurses := true, named := ["internal/bytealg.MaxLen"], apart := false, narrowed := true }
def WorldsMatchUptoSaid : Prop := worldsMatchUptoRow.holds Tryz.pinned (OpenSpec.upto worldsMatchSpec)

/-- 'keylaw1.PoliciesDiffer', WHERE WHAT IT READS IS OF BULK AT MOST 1048576: true; the input reads as it did. -/
def policiesDifferUptoRow : OpenClaim := { program := "ytmonnmndphlkaaagreat", sum := "8a9044a0eac8ee2208dab071015a6e8b11324aa6d39da66fa203c8e725a8659d", func := "keywarden/keylaw1.PoliciesDiffer", spec := "policiesDiffer", inPlace := ["internal/bytealg.IndexByteString", "internal/bytealg.IndexString"], unfollowed := true, recurses := true, named := ["internal/bytealg.MaxLen"], apart := false, narrowed := true }
def PoliciesDifferUptoSaid : Prop := policiesDifferUptoRow.holds Tryz.pinned (OpenSpec.upto policiesDifferSpec)

/-- 'keylaw1.WarningsMatch', WHERE WHAT IT READS IS OF BULK AT MOST 1048576: true; the input reads as it did. -/
def warningsMatchUptoRow : OpenClaim := { program := "ytmonnmndphlkaaagreat", sum := "8a9044a0eac8ee2208dab071015a6e8b11324aa6d39da66fa203c8e725a8659d", func := "keywarden/keylaw1.WarningsMatch", spec := "warningsMatch", inPlace := ["internal/bytealg.IndexByteString", "internal/bytealg.IndexString"], unfollowed := true, recurses := true, named := ["internal/bytealg.MaxLen"], apart := false, narrowed := true }
def WarningsMatchUptoSaid : Prop := warningsMatchUptoRow.holds Tryz.pinned (OpenSpec.upto warningsMatchSpec)

end Rows
end Go.Proofs.YtmonnmndphlkaaaGreat
