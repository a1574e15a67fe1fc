/-
  No cell of these rows narrows 'for every input' (looked for: loops, veiled, ifaces, maps, wideKeys, modest, calm, conditions, laid).
  DERIVED. THE GIVEN ROWS OF THIS SEAT. 12 by the template 'for every input the law returns true; each argument reads behind the call as it read before'; 0 by the template 'total and deterministic' (their statements: YtcadjopdjpgomaaTotals.lean).
  GIVEN WITH THE SEED: the statements are not yours to turn. If you find one false, say at which input.
  Laid BY PROGRAM, IN A SANDBOX (cutbox-rows.mjs): the forced cells as the released guide's own fill.sh prints them over the translation 2796d38d5800352e… (all of the seat's roots in one cut). By AI agents, Wed Nov 11 2026. No macro, syntax, notation, axiom, sorry.
-/
import Derived.Test.YtcadjopdjpgomaaChecked
import GoSem.Claim
import GoSem.ClaimJoined
import GoSem.ClaimMapViews
import Derived.JoinedTies
import Derived.KernelRfl
namespace Go.Proofs.Ytcadjopdjpgomaa
/- THE CELL 'sum', in the pinned program and in every row, IS THE sha256 OF THE DUMP (.gsa) THAT YtcadjopdjpgomaaProg.lean LOADS. Nothing in Lean hashes anything: it is a label: what it is worth is what the hold of that sum in a sandbox is worth. -/
noncomputable def Try.pinned : Pinned := { name := "ytcadjopdjpgomaa", sum := "2796d38d5800352ebcebdcd4bdcf635d8be8a5465574d2e58d022337eadc2fc5", checked := Try.checked }
namespace Rows
def none {H : Type} : Left H := { results := [], args := [] }

/-- 'keylaw1.StirringMatches': WHATEVER THE INPUT: true; the input reads as it did. -/
def stirringMatchesSpec : ChangeSpec := { name := "stirringMatches", fn := fun _ => fun
  | [d] => { results := [.lit (.bool true)], args := [d] }
  | _ => none }
def stirringMatchesRow : OpenClaim := { program := "ytcadjopdjpgomaa", sum := "2796d38d5800352ebcebdcd4bdcf635d8be8a5465574d2e58d022337eadc2fc5", func := "keywarden/keylaw1.StirringMatches", spec := "stirringMatches", apart := false }
def StirringMatchesSaid : Prop := stirringMatchesRow.holds Try.pinned (OpenSpec.ofChange stirringMatchesSpec)

/-- ITS FALSE NEIGHBOUR: 'it returns false'. Refute it at one input. -/
def stirringMatchesWrong : ChangeSpec := { name := "stirringMatches", fn := fun _ => fun
  | [d] => { results := [.lit (.bool false)], args := [d] }
  | _ => none }
def StirringMatchesWrongFalsely : Prop := stirringMatchesRow.holds Try.pinned (OpenSpec.ofChange stirringMatchesWrong)

/-- 'keylaw1.OctetsAreTaken': WHATEVER THE INPUT: true; the input reads as it did. -/
def octetsAreTakenSpec : ChangeSpec := { name := "octetsAreTaken", fn := fun _ => fun
  | [d1, d2, d3, d4] => { results := [.lit (.bool true)], args := [d1, d2, d3, d4] }
  | _ => none }
def octetsAreTakenRow : OpenClaim := { program := "ytcadjopdjpgomaa", sum := "2796d38d5800352ebcebdcd4bdcf635d8be8a5465574d2e58d022337eadc2fc5", func := "keywarden/keylaw1.OctetsAreTaken", spec := "octetsAreTaken", apart := false }
def OctetsAreTakenSaid : Prop := octetsAreTakenRow.holds Try.pinned (OpenSpec.ofChange octetsAreTakenSpec)

/-- ITS FALSE NEIGHBOUR: 'it returns false'. Refute it at one input. -/
def octetsAreTakenWrong : ChangeSpec := { name := "octetsAreTaken", fn := fun _ => fun
  | [d1, d2, d3, d4] => { results := [.lit (.bool false)], args := [d1, d2, d3, d4] }
  | _ => none }
def OctetsAreTakenWrongFalsely : Prop := octetsAreTakenRow.holds Try.pinned (OpenSpec.ofChange octetsAreTakenWrong)

/-- 'keylaw1.NumbersArePut': WHATEVER THE INPUT: true; the input reads as it did. -/
def numbersArePutSpec : ChangeSpec := { name := "numbersArePut", fn := fun _ => fun
  | [d1, d2, d3, d4] => { results := [.lit (.bool true)], args := [d1, d2, d3, d4] }
  | _ => none }
def numbersArePutRow : OpenClaim := { program := "ytcadjopdjpgomaa", sum := "2796d38d5800352ebcebdcd4bdcf635d8be8a5465574d2e58d022337eadc2fc5", func := "keywarden/keylaw1.NumbersArePut", spec := "numbersArePut", apart := false }
def NumbersArePutSaid : Prop := numbersArePutRow.holds Try.pinned (OpenSpec.ofChange numbersArePutSpec)

/-- ITS FALSE NEIGHBOUR: 'it returns false'. Refute it at one input. -/
def numbersArePutWrong : ChangeSpec := { name := "numbersArePut", fn := fun _ => fun
  | [d1, d2, d3, d4] => { results := [.lit (.bool false)], args := [d1, d2, d3, d4] }
  | _ => none }
def NumbersArePutWrongFalsely : Prop := numbersArePutRow.holds Try.pinned (OpenSpec.ofChange numbersArePutWrong)

/-- 'keylaw1.StreamsMatch': WHATEVER THE INPUT: true; the input reads as it did. -/
def streamsMatchSpec : ChangeSpec := { name := "streamsMatch", fn := fun _ => fun
  | [d1, d2, d3, d4, d5] => { results := [.lit (.bool true)], args := [d1, d2, d3, d4, d5] }
  | _ => none }
def streamsMatchRow : OpenClaim := { program := "ytcadjopdjpgomaa", sum := "2796d38d5800352ebcebdcd4bdcf635d8be8a5465574d2e58d022337eadc2fc5", func := "keywarden/keylaw1.StreamsMatch", spec := "streamsMatch", apart := false }
def StreamsMatchSaid : Prop := streamsMatchRow.holds Try.pinned (OpenSpec.ofChange streamsMatchSpec)

/-- ITS FALSE NEIGHBOUR: 'it returns false'. Refute it at one input. -/
def streamsMatchWrong : ChangeSpec := { name := "streamsMatch", fn := fun _ => fun
  | [d1, d2, d3, d4, d5] => { results := [.lit (.bool false)], args := [d1, d2, d3, d4, d5] }
  | _ => none }
def StreamsMatchWrongFalsely : Prop := streamsMatchRow.holds Try.pinned (OpenSpec.ofChange streamsMatchWrong)

/-- 'keylaw1.SummersAreBounded': WHATEVER THE INPUT: true; the input reads as it did. -/
def summersAreBoundedSpec : ChangeSpec := { name := "summersAreBounded", fn := fun _ => fun
  | [d1, d2, d3] => { results := [.lit (.bool true)], args := [d1, d2, d3] }
  | _ => none }
def summersAreBoundedRow : OpenClaim := { program := "ytcadjopdjpgomaa", sum := "2796d38d5800352ebcebdcd4bdcf635d8be8a5465574d2e58d022337eadc2fc5", func := "keywarden/keylaw1.SummersAreBounded", spec := "summersAreBounded", apart := false }
def SummersAreBoundedSaid : Prop := summersAreBoundedRow.holds Try.pinned (OpenSpec.ofChange summersAreBoundedSpec)

/-- ITS FALSE NEIGHBOUR: 'it returns false'. Refute it at one input. -/
def summersAreBoundedWrong : ChangeSpec := { name := "summersAreBounded", fn := fun _ => fun
  | [d1, d2, d3] => { results := [.lit (.bool false)], args := [d1, d2, d3] }
  | _ => none }
def SummersAreBoundedWrongFalsely : Prop := summersAreBoundedRow.holds Try.pinned (OpenSpec.ofChange summersAreBoundedWrong)

/-- 'keylaw1.SummersMatch': WHATEVER THE INPUT: true; the input reads as it did. -/
def summersMatchSpec : ChangeSpec := { name := "summersMatch", fn := fun _ => fun
  | [d1, d2, d3] => { results := [.lit (.bool true)], args := [d1, d2, d3] }
  | _ => none }
def summersMatchRow : OpenClaim := { program := "ytcadjopdjpgomaa", sum := "2796d38d5800352ebcebdcd4bdcf635d8be8a5465574d2e58d022337eadc2fc5", func := "keywarden/keylaw1.SummersMatch", spec := "summersMatch", apart := false }
def SummersMatchSaid : Prop := summersMatchRow.holds Try.pinned (OpenSpec.ofChange summersMatchSpec)

/-- ITS FALSE NEIGHBOUR: 'it returns false'. Refute it at one input. -/
def summersMatchWrong : ChangeSpec := { name := "summersMatch", fn := fun _ => fun
  | [d1, d2, d3] => { results := [.lit (.bool false)], args := [d1, d2, d3] }
  | _ => none }
def SummersMatchWrongFalsely : Prop := summersMatchRow.holds Try.pinned (OpenSpec.ofChange summersMatchWrong)

/-- 'keylaw1.ProofsArePrinted': WHATEVER THE INPUT: true; the input reads as it did. -/
def proofsArePrintedSpec : ChangeSpec := { name := "proofsArePrinted", fn := fun _ => fun
  | [d1, d2] => { results := [.lit (.bool true)], args := [d1, d2] }
  | _ => none }
def proofsArePrintedRow : OpenClaim := { program := "ytcadjopdjpgomaa", sum := "2796d38d5800352ebcebdcd4bdcf635d8be8a5465574d2e58d022337eadc2fc5", func := "keywarden/keylaw1.ProofsArePrinted", spec := "proofsArePrinted", apart := false }
def ProofsArePrintedSaid : Prop := proofsArePrintedRow.holds Try.pinned (OpenSpec.ofChange proofsArePrintedSpec)

/-- ITS FALSE NEIGHBOUR: 'it returns false'. Refute it at one input. -/
def proofsArePrintedWrong : ChangeSpec := { name := "proofsArePrinted", fn := fun _ => fun
  | [d1, d2] => { results := [.lit (.bool false)], args := [d1, d2] }
  | _ => none }
def ProofsArePrintedWrongFalsely : Prop := proofsArePrintedRow.holds Try.pinned (OpenSpec.ofChange proofsArePrintedWrong)

/-- 'keylaw1.TagsMatch': WHATEVER THE INPUT: true; the input reads as it did. -/
def tagsMatchSpec : ChangeSpec := { name := "tagsMatch", fn := fun _ => fun
  | [d1, d2] => { results := [.lit (.bool true)], args := [d1, d2] }
  | _ => none }
def tagsMatchRow : OpenClaim := { program := "ytcadjopdjpgomaa", sum := "2796d38d5800352ebcebdcd4bdcf635d8be8a5465574d2e58d022337eadc2fc5", func := "keywarden/keylaw1.TagsMatch", spec := "tagsMatch", apart := false }
def TagsMatchSaid : Prop := tagsMatchRow.holds Try.pinned (OpenSpec.ofChange tagsMatchSpec)

/-- ITS FALSE NEIGHBOUR: 'it returns false'. Refute it at one input. -/
def tagsMatchWrong : ChangeSpec := { name := "tagsMatch", fn := fun _ => fun
  | [d1, d2] => { results := [.lit (.bool false)], args := [d1, d2] }
  | _ => none }
def TagsMatchWrongFalsely : Prop := tagsMatchRow.holds Try.pinned (OpenSpec.ofChange tagsMatchWrong)

/-- 'keylaw1.SumsMatch': WHATEVER THE INPUT: true; the input reads as it did. -/
def sumsMatchSpec : ChangeSpec := { name := "sumsMatch", fn := fun _ => fun
  | [d1, d2, d3] => { results := [.lit (.bool true)], args := [d1, d2, d3] }
  | _ => none }
def sumsMatchRow : OpenClaim := { program := "ytcadjopdjpgomaa", sum := "2796d38d5800352ebcebdcd4bdcf635d8be8a5465574d2e58d022337eadc2fc5", func := "keywarden/keylaw1.SumsMatch", spec := "sumsMatch", apart := false }
def SumsMatchSaid : Prop := sumsMatchRow.holds Try.pinned (OpenSpec.ofChange sumsMatchSpec)

/-- ITS FALSE NEIGHBOUR: 'it returns false'. Refute it at one input. -/
def sumsMatchWrong : ChangeSpec := { name := "sumsMatch", fn := fun _ => fun
  | [d1, d2, d3] => { results := [.lit (.bool false)], args := [d1, d2, d3] }
  | _ => none }
def SumsMatchWrongFalsely : Prop := sumsMatchRow.holds Try.pinned (OpenSpec.ofChange sumsMatchWrong)

/-- 'keylaw1.OrderMeansLittle': WHATEVER THE INPUT: true; the input reads as it did. -/
def orderMeansLittleSpec : ChangeSpec := { name := "orderMeansLittle", fn := fun _ => fun
  | [d1, d2, d3] => { results := [.lit (.bool true)], args := [d1, d2, d3] }
  | _ => none }
def orderMeansLittleRow : OpenClaim := { program := "ytcadjopdjpgomaa", sum := "2796d38d5800352ebcebdcd4bdcf635d8be8a5465574d2e58d022337eadc2fc5", func := "keywarden/keylaw1.OrderMeansLittle", spec := "orderMeansLittle", unfollowed := true, recurses := true, apart := false }
def OrderMeansLittleSaid : Prop := orderMeansLittleRow.holds Try.pinned (OpenSpec.ofChange orderMeansLittleSpec)

/-- ITS FALSE NEIGHBOUR: 'it returns false'. Refute it at one input. -/
def orderMeansLittleWrong : ChangeSpec := { name := "orderMeansLittle", fn := fun _ => fun
  | [d1, d2, d3] => { results := [.lit (.bool false)], args := [d1, d2, d3] }
  | _ => none }
def OrderMeansLittleWrongFalsely : Prop := orderMeansLittleRow.holds Try.pinned (OpenSpec.ofChange orderMeansLittleWrong)

/-- 'keylaw1.RootsMatch': WHATEVER THE INPUT: true; the input reads as it did. -/
def rootsMatchSpec : ChangeSpec := { name := "rootsMatch", fn := fun _ => fun
  | [d1, d2, d3] => { results := [.lit (.bool true)], args := [d1, d2, d3] }
  | _ => none }
def rootsMatchRow : OpenClaim := { program := "ytcadjopdjpgomaa", sum := "2796d38d5800352ebcebdcd4bdcf635d8be8a5465574d2e58d022337eadc2fc5", func := "keywarden/keylaw1.RootsMatch", spec := "rootsMatch", recurses := true, apart := false }
def RootsMatchSaid : Prop := rootsMatchRow.holds Try.pinned (OpenSpec.ofChange rootsMatchSpec)

/-- ITS FALSE NEIGHBOUR: 'it returns false'. Refute it at one input. -/
def rootsMatchWrong : ChangeSpec := { name := "rootsMatch", fn := fun _ => fun
  | [d1, d2, d3] => { results := [.lit (.bool false)], args := [d1, d2, d3] }
  | _ => none }
def RootsMatchWrongFalsely : Prop := rootsMatchRow.holds Try.pinned (OpenSpec.ofChange rootsMatchWrong)

/-- 'keylaw1.HeadsMatch': WHATEVER THE INPUT: true; the input reads as it did. -/
def headsMatchSpec : ChangeSpec := { name := "headsMatch", fn := fun _ => fun
  | [d1, d2, d3, d4] => { results := [.lit (.bool true)], args := [d1, d2, d3, d4] }
  | _ => none }
def headsMatchRow : OpenClaim := { program := "ytcadjopdjpgomaa", sum := "2796d38d5800352ebcebdcd4bdcf635d8be8a5465574d2e58d022337eadc2fc5", func := "keywarden/keylaw1.HeadsMatch", spec := "headsMatch", apart := false }
def HeadsMatchSaid : Prop := headsMatchRow.holds Try.pinned (OpenSpec.ofChange headsMatchSpec)

/-- ITS FALSE NEIGHBOUR: 'it returns false'. Refute it at one input. -/
def headsMatchWrong : ChangeSpec := { name := "headsMatch", fn := fun _ => fun
  | [d1, d2, d3, d4] => { results := [.lit (.bool false)], args := [d1, d2, d3, d4] }
  | _ => none }
def HeadsMatchWrongFalsely : Prop := headsMatchRow.holds Try.pinned (OpenSpec.ofChange headsMatchWrong)

/- THE SECOND FORM. 'bulk': how many values and letters a reading holds, each counted each time it is reached (what is shared counts as often as it is met; a slice's spare places count too). A statement '..UptoSaid' is the law's where the arguments, and the package variables that the reading takes, are together of bulk at most 1048576: NARROWER than '..Said'. Prove '..Said' where nothing that the law and all that it calls make is longer than what came in: it says more and counts as full. Else prove '..UptoSaid'. A law counts once. -/
mutual
def uptoBulk {H : Type} : DataW H → Nat
  | .lit (.string bytes) => bytes.length + 1
  | .lit _ => 1
  | .nil => 1
  | .ptr d => uptoBulk d + 1
  | .slice elems spare => uptoBulkAll elems + uptoBulkAll spare + 1
  | .agg parts => uptoBulkAll parts + 1
  | .iface _ d => uptoBulk d + 1
  | .map entries => uptoBulkEntries entries + 1
  | .held _ => 1
def uptoBulkAll {H : Type} : List (DataW H) → Nat
  | [] => 0
  | d :: r => uptoBulk d + uptoBulkAll r
def uptoBulkEntries {H : Type} : List (Lit × DataW H) → Nat
  | [] => 0
  | x :: r => uptoBulkEntry x + uptoBulkEntries r
def uptoBulkEntry {H : Type} : Lit × DataW H → Nat
  | (.string bytes, d) => bytes.length + uptoBulk d + 1
  | (_, d) => uptoBulk d + 1
 end
def uptoSmall : (H : Type) → List (DataW H) → Bool := fun _ ds => decide (uptoBulkAll ds ≤ 1048576)
def OpenSpec.upto (s : _root_.Go.ChangeSpec) : _root_.Go.OpenSpec := { _root_.Go.OpenSpec.ofChange s with cond := some uptoSmall }

/-- 'keylaw1.StirringMatches', WHERE WHAT IT READS IS OF BULK AT MOST 1048576: true; the input reads as it did. -/
def stirringMatchesUptoRow : OpenClaim := { program := "ytcadjopdjpgomaa", sum := "2796d38d5800352ebcebdcd4bdcf635d8be8a5465574d2e58d022337eadc2fc5", func := "keywarden/keylaw1.StirringMatches", spec := "stirringMatches", apart := false, narrowed := true }
def StirringMatchesUptoSaid : Prop := stirringMatchesUptoRow.holds Try.pinned (OpenSpec.upto stirringMatchesSpec)

/-- 'keylaw1.OctetsAreTaken', WHERE WHAT IT READS IS OF BULK AT MOST 1048576: true; the input reads as it did. -/
def octetsAreTakenUptoRow : OpenClaim := { program := "ytcadjopdjpgomaa", sum := "2796d38d5800352ebcebdcd4bdcf635d8be8a5465574d2e58d022337eadc2fc5", func := "keywarden/keylaw1.OctetsAreTaken", spec := "octetsAreTaken", apart := false, narrowed := true }
def OctetsAreTakenUptoSaid : Prop := octetsAreTakenUptoRow.holds Try.pinned (OpenSpec.upto octetsAreTakenSpec)

/-- 'keylaw1.NumbersArePut', WHERE WHAT IT READS IS OF BULK AT MOST 1048576: true; the input reads as it did. -/
def numbersArePutUptoRow : OpenClaim := { program := "ytcadjopdjpgomaa", sum := "2796d38d5800352ebcebdcd4bdcf635d8be8a5465574d2e58d022337eadc2fc5", func := "keywarden/keylaw1.NumbersArePut", spec := "numbersArePut", apart := false, narrowed := true }
def NumbersArePutUptoSaid : Prop := numbersArePutUptoRow.holds Try.pinned (OpenSpec.upto numbersArePutSpec)

/-- 'keylaw1.StreamsMatch', WHERE WHAT IT READS IS OF BULK AT MOST 1048576: true; the input reads as it did. -/
def streamsMatchUptoRow : OpenClaim := { program := "ytcadjopdjpgomaa", sum := "2796d38d5800352ebcebdcd4bdcf635d8be8a5465574d2e58d022337eadc2fc5", func := "keywarden/keylaw1.StreamsMatch", spec := "streamsMatch", apart := false, narrowed := true }
def StreamsMatchUptoSaid : Prop := streamsMatchUptoRow.holds Try.pinned (OpenSpec.upto streamsMatchSpec)

/-- 'keylaw1.SummersAreBounded', WHERE WHAT IT READS IS OF BULK AT MOST 1048576: true; the input reads as it did. -/
def summersAreBoundedUptoRow : OpenClaim := { program := "ytcadjopdjpgomaa", sum := "2796d38d5800352ebcebdcd4bdcf635d8be8a5465574d2e58d022337eadc2fc5", func := "keywarden/keylaw1.SummersAreBounded", spec := "summersAreBounded", apart := false, narrowed := true }
def SummersAreBoundedUptoSaid : Prop := summersAreBoundedUptoRow.holds Try.pinned (OpenSpec.upto summersAreBoundedSpec)

/-- 'keylaw1.SummersMatch', WHERE WHAT IT READS IS OF BULK AT MOST 1048576: true; the input reads as it did. -/
def summersMatchUptoRow : OpenClaim := { program := "ytcadjopdjpgomaa", sum := "2796d38d5800352ebcebdcd4bdcf635d8be8a5465574d2e58d022337eadc2fc5", func := "keywarden/keylaw1.SummersMatch", spec := "summersMatch", apart := false, narrowed := true }
def SummersMatchUptoSaid : Prop := summersMatchUptoRow.holds Try.pinned (OpenSpec.upto summersMatchSpec)

/-- 'keylaw1.ProofsArePrinted', WHERE WHAT IT READS IS OF BULK AT MOST 1048576: true; the input reads as it did. -/
def proofsArePrintedUptoRow : OpenClaim := { program := "ytcadjopdjpgomaa", sum := "2796d38d5800352ebcebdcd4bdcf635d8be8a5465574d2e58d022337eadc2fc5", func := "keywarden/keylaw1.ProofsArePrinted", spec := "proofsArePrinted", apart := false, narrowed := true }
def ProofsArePrintedUptoSaid : Prop := proofsArePrintedUptoRow.holds Try.pinned (OpenSpec.upto proofsArePrintedSpec)

/-- 'keylaw1.TagsMatch', WHERE WHAT IT READS IS OF BULK AT MOST 1048576: true; the input reads as it did. -/
def tagsMatchUptoRow : OpenClaim := { program := "ytcadjopdjpgomaa", sum := "2796d38d5800352ebcebdcd4bdcf635d8be8a5465574d2e58d022337eadc2fc5", func := "keywarden/keylaw1.TagsMatch", spec := "tagsMatch", apart := false, narrowed := true }
def TagsMatchUptoSaid : Prop := tagsMatchUptoRow.holds Try.pinned (OpenSpec.upto tagsMatchSpec)

/-- 'keylaw1.SumsMatch', WHERE WHAT IT READS IS OF BULK AT MOST 1048576: true; the input reads as it did. -/
def sumsMatchUptoRow : OpenClaim := { program := "ytcadjopdjpgomaa", sum := "2796d38d5800352ebcebdcd4bdcf635d8be8a5465574d2e58d022337eadc2fc5", func := "keywarden/keylaw1.SumsMatch", spec := "sumsMatch", apart := false, narrowed := true }
def SumsMatchUptoSaid : Prop := sumsMatchUptoRow.holds Try.pinned (OpenSpec.upto sumsMatchSpec)

/-- 'keylaw1.OrderMeansLittle', WHERE WHAT IT READS IS OF BULK AT MOST 1048576: true; the input reads as it did. -/
def orderMeansLittleUptoRow : OpenClaim := { program := "ytcadjopdjpgomaa", sum := "2796d38d5800352ebcebdcd4bdcf635d8be8a5465574d2e58d022337eadc2fc5", func := "keywarden/keylaw1.OrderMeansLittle", spec := "orderMeansLittle", unfollowed := true, recurses := true, apart := false, narrowed := true }
def OrderMeansLittleUptoSaid : Prop := orderMeansLittleUptoRow.holds Try.pinned (OpenSpec.upto orderMeansLittleSpec)

/-- 'keylaw1.RootsMatch', WHERE WHAT IT READS IS OF BULK AT MOST 1048576: true; the input reads as it did. -/
def rootsMatchUptoRow : OpenClaim := { program := "ytcadjopdjpgomaa", sum := "2796d38d5800352ebcebdcd4bdcf635d8be8a5465574d2e58d022337eadc2fc5", func := "keywarden/keylaw1.RootsMatch", spec := "rootsMatch", recurses := true, apart := false, narrowed := true }
def RootsMatchUptoSaid : Prop := rootsMatchUptoRow.holds Try.pinned (OpenSpec.upto rootsMatchSpec)

/-- 'keylaw1.HeadsMatch', WHERE WHAT IT READS IS OF BULK AT MOST 1048576: true; the input reads as it did. -/
def headsMatchUptoRow : OpenClaim := { program := "ytcadjopdjpgomaa", sum := "2796d38d5800352ebcebdcd4bdcf635d8be8a5465574d2e58d022337eadc2fc5", func := "keywarden/keylaw1.HeadsMatch", spec := "headsMatch", apart := false, narrowed := true }
def HeadsMatchUptoSaid : Prop := headsMatchUptoRow.holds Try.pinned (OpenSpec.upto headsMatchSpec)

end Rows
end Go.Proofs.Ytcadjopdjpgomaa
