/-
  No cell of these rows narrows 'for every input' (looked for: loops, veiled, ifaces, maps, wideKeys, modest, calm, conditions, laid).
  DERIVED. THE GIVEN ROWS OF THIS SEAT. 17 by the template 'for every input the law returns true; each argument reads behind the call as it read before'; 0 by the template 'total and deterministic' (their statements: YtfohfnpehfcaaaaTotals.lean).
  GIVEN WITH THE SEED: the statements are not yours to turn. If you find one false, say at which input.
  Laid BY PROGRAM, IN A SANDBOX (cutbox-rows.mjs): the forced cells as the released guide's own fill.sh prints them over the translation 5f71e34f23713f6c… (all of the seat's roots in one cut). By AI agents, Wed Nov 11 2026. No macro, syntax, notation, axiom, sorry.
-/
import Derived.Test.YtfohfnpehfcaaaaChecked
import GoSem.Claim
import GoSem.ClaimJoined
import GoSem.ClaimMapViews
import Derived.JoinedTies
import Derived.KernelRfl
namespace Go.Proofs.Ytfohfnpehfcaaaa
/- THE CELL 'sum', in the pinned program and in every row, IS THE sha256 OF THE DUMP (.gsa) THAT YtfohfnpehfcaaaaProg.lean LOADS. Nothing in Lean hashes anything: it is a label: what it is worth is what the hold of that sum in a sandbox is worth. -/
noncomputable def Try.pinned : Pinned := { name := "ytfohfnpehfcaaaa", sum := "5f71e34f23713f6ce191f994c45fdb1a5cc542e9ebadcc1b9ee298e0376804a3", checked := Try.checked }
namespace Rows
def none {H : Type} : Left H := { results := [], args := [] }

/-- 'keylaw1.OctetsAreTaken': WHATEVER THE INPUT: true; the input reads as it did. -/
def octetsAreTakenSpec : ChangeSpec := { name := "octetsAreTaken", fn := fun _ => fun
  | [d1, d2, d3, d4] => { results := [.lit (.bool true)], args := [d1, d2, d3, d4] }
  | _ => none }
def octetsAreTakenRow : OpenClaim := { program := "ytfohfnpehfcaaaa", sum := "5f71e34f23713f6ce191f994c45fdb1a5cc542e9ebadcc1b9ee298e0376804a3", func := "keywarden/keylaw1.OctetsAreTaken", spec := "octetsAreTaken", plainKeys := false, apart := false }
def OctetsAreTakenSaid : Prop := octetsAreTakenRow.holds Try.pinned (OpenSpec.ofChange octetsAreTakenSpec)

/-- ITS FALSE NEIGHBOUR: 'it returns false'. Refute it at one input. -/
def octetsAreTakenWrong : ChangeSpec := { name := "octetsAreTaken", fn := fun _ => fun
  | [d1, d2, d3, d4] => { results := [.lit (.bool false)], args := [d1, d2, d3, d4] }
  | _ => none }
def OctetsAreTakenWrongFalsely : Prop := octetsAreTakenRow.holds Try.pinned (OpenSpec.ofChange octetsAreTakenWrong)

/-- 'keylaw1.SummersMatch': WHATEVER THE INPUT: true; the input reads as it did. -/
def summersMatchSpec : ChangeSpec := { name := "summersMatch", fn := fun _ => fun
  | [d1, d2, d3] => { results := [.lit (.bool true)], args := [d1, d2, d3] }
  | _ => none }
def summersMatchRow : OpenClaim := { program := "ytfohfnpehfcaaaa", sum := "5f71e34f23713f6ce191f994c45fdb1a5cc542e9ebadcc1b9ee298e0376804a3", func := "keywarden/keylaw1.SummersMatch", spec := "summersMatch", plainKeys := false, apart := false }
def SummersMatchSaid : Prop := summersMatchRow.holds Try.pinned (OpenSpec.ofChange summersMatchSpec)

/-- ITS FALSE NEIGHBOUR: 'it returns false'. Refute it at one input. -/
def summersMatchWrong : ChangeSpec := { name := "summersMatch", fn := fun _ => fun
  | [d1, d2, d3] => { results := [.lit (.bool false)], args := [d1, d2, d3] }
  | _ => none }
def SummersMatchWrongFalsely : Prop := summersMatchRow.holds Try.pinned (OpenSpec.ofChange summersMatchWrong)

/-- 'keylaw1.ProofsArePrinted': WHATEVER THE INPUT: true; the input reads as it did. -/
def proofsArePrintedSpec : ChangeSpec := { name := "proofsArePrinted", fn := fun _ => fun
  | [d1, d2] => { results := [.lit (.bool true)], args := [d1, d2] }
  | _ => none }
def proofsArePrintedRow : OpenClaim := { program := "ytfohfnpehfcaaaa", sum := "5f71e34f23713f6ce191f994c45fdb1a5cc542e9ebadcc1b9ee298e0376804a3", func := "keywarden/keylaw1.ProofsArePrinted", spec := "proofsArePrinted", plainKeys := false, apart := false }
def ProofsArePrintedSaid : Prop := proofsArePrintedRow.holds Try.pinned (OpenSpec.ofChange proofsArePrintedSpec)

/-- ITS FALSE NEIGHBOUR: 'it returns false'. Refute it at one input. -/
def proofsArePrintedWrong : ChangeSpec := { name := "proofsArePrinted", fn := fun _ => fun
  | [d1, d2] => { results := [.lit (.bool false)], args := [d1, d2] }
  | _ => none }
def ProofsArePrintedWrongFalsely : Prop := proofsArePrintedRow.holds Try.pinned (OpenSpec.ofChange proofsArePrintedWrong)

/-- 'keylaw1.TagsMatch': WHATEVER THE INPUT: true; the input reads as it did. -/
def tagsMatchSpec : ChangeSpec := { name := "tagsMatch", fn := fun _ => fun
  | [d1, d2] => { results := [.lit (.bool true)], args := [d1, d2] }
  | _ => none }
def tagsMatchRow : OpenClaim := { program := "ytfohfnpehfcaaaa", sum := "5f71e34f23713f6ce191f994c45fdb1a5cc542e9ebadcc1b9ee298e0376804a3", func := "keywarden/keylaw1.TagsMatch", spec := "tagsMatch", plainKeys := false, apart := false }
def TagsMatchSaid : Prop := tagsMatchRow.holds Try.pinned (OpenSpec.ofChange tagsMatchSpec)

/-- ITS FALSE NEIGHBOUR: 'it returns false'. Refute it at one input. -/
def tagsMatchWrong : ChangeSpec := { name := "tagsMatch", fn := fun _ => fun
  | [d1, d2] => { results := [.lit (.bool false)], args := [d1, d2] }
  | _ => none }
def TagsMatchWrongFalsely : Prop := tagsMatchRow.holds Try.pinned (OpenSpec.ofChange tagsMatchWrong)

/-- 'keylaw1.SumsMatch': WHATEVER THE INPUT: true; the input reads as it did. -/
def sumsMatchSpec : ChangeSpec := { name := "sumsMatch", fn := fun _ => fun
  | [d1, d2, d3] => { results := [.lit (.bool true)], args := [d1, d2, d3] }
  | _ => none }
def sumsMatchRow : OpenClaim := { program := "ytfohfnpehfcaaaa", sum := "5f71e34f23713f6ce191f994c45fdb1a5cc542e9ebadcc1b9ee298e0376804a3", func := "keywarden/keylaw1.SumsMatch", spec := "sumsMatch", plainKeys := false, apart := false }
def SumsMatchSaid : Prop := sumsMatchRow.holds Try.pinned (OpenSpec.ofChange sumsMatchSpec)

/-- ITS FALSE NEIGHBOUR: 'it returns false'. Refute it at one input. -/
def sumsMatchWrong : ChangeSpec := { name := "sumsMatch", fn := fun _ => fun
  | [d1, d2, d3] => { results := [.lit (.bool false)], args := [d1, d2, d3] }
  | _ => none }
def SumsMatchWrongFalsely : Prop := sumsMatchRow.holds Try.pinned (OpenSpec.ofChange sumsMatchWrong)

/-- 'keylaw1.RootsMatch': WHATEVER THE INPUT: true; the input reads as it did. -/
def rootsMatchSpec : ChangeSpec := { name := "rootsMatch", fn := fun _ => fun
  | [d1, d2, d3] => { results := [.lit (.bool true)], args := [d1, d2, d3] }
  | _ => none }
def rootsMatchRow : OpenClaim := { program := "ytfohfnpehfcaaaa", sum := "5f71e34f23713f6ce191f994c45fdb1a5cc542e9ebadcc1b9ee298e0376804a3", func := "keywarden/keylaw1.RootsMatch", spec := "rootsMatch", recurses := true, plainKeys := false, apart := false }
def RootsMatchSaid : Prop := rootsMatchRow.holds Try.pinned (OpenSpec.ofChange rootsMatchSpec)

/-- ITS FALSE NEIGHBOUR: 'it returns false'. Refute it at one input. -/
def rootsMatchWrong : ChangeSpec := { name := "rootsMatch", fn := fun _ => fun
  | [d1, d2, d3] => { results := [.lit (.bool false)], args := [d1, d2, d3] }
  | _ => none }
def RootsMatchWrongFalsely : Prop := rootsMatchRow.holds Try.pinned (OpenSpec.ofChange rootsMatchWrong)

/-- 'keylaw1.HeadsMatch': WHATEVER THE INPUT: true; the input reads as it did. -/
def headsMatchSpec : ChangeSpec := { name := "headsMatch", fn := fun _ => fun
  | [d1, d2, d3, d4] => { results := [.lit (.bool true)], args := [d1, d2, d3, d4] }
  | _ => none }
def headsMatchRow : OpenClaim := { program := "ytfohfnpehfcaaaa", sum := "5f71e34f23713f6ce191f994c45fdb1a5cc542e9ebadcc1b9ee298e0376804a3", func := "keywarden/keylaw1.HeadsMatch", spec := "headsMatch", plainKeys := false, apart := false }
def HeadsMatchSaid : Prop := headsMatchRow.holds Try.pinned (OpenSpec.ofChange headsMatchSpec)

/-- ITS FALSE NEIGHBOUR: 'it returns false'. Refute it at one input. -/
def headsMatchWrong : ChangeSpec := { name := "headsMatch", fn := fun _ => fun
  | [d1, d2, d3, d4] => { results := [.lit (.bool false)], args := [d1, d2, d3, d4] }
  | _ => none }
def HeadsMatchWrongFalsely : Prop := headsMatchRow.holds Try.pinned (OpenSpec.ofChange headsMatchWrong)

/-- 'keylaw1.RawProofs': WHATEVER THE INPUT: true; the input reads as it did. -/
def rawProofsSpec : ChangeSpec := { name := "rawProofs", fn := fun _ => fun
  | [d1, d2, d3] => { results := [.lit (.bool true)], args := [d1, d2, d3] }
  | _ => none }
def rawProofsRow : OpenClaim := { program := "ytfohfnpehfcaaaa", sum := "5f71e34f23713f6ce191f994c45fdb1a5cc542e9ebadcc1b9ee298e0376804a3", func := "keywarden/keylaw1.RawProofs", spec := "rawProofs", recurses := true, plainKeys := false, apart := false }
def RawProofsSaid : Prop := rawProofsRow.holds Try.pinned (OpenSpec.ofChange rawProofsSpec)

/-- ITS FALSE NEIGHBOUR: 'it returns false'. Refute it at one input. -/
def rawProofsWrong : ChangeSpec := { name := "rawProofs", fn := fun _ => fun
  | [d1, d2, d3] => { results := [.lit (.bool false)], args := [d1, d2, d3] }
  | _ => none }
def RawProofsWrongFalsely : Prop := rawProofsRow.holds Try.pinned (OpenSpec.ofChange rawProofsWrong)

/-- 'keylaw1.RawGrowth': WHATEVER THE INPUT: true; the input reads as it did. -/
def rawGrowthSpec : ChangeSpec := { name := "rawGrowth", fn := fun _ => fun
  | [d1, d2, d3] => { results := [.lit (.bool true)], args := [d1, d2, d3] }
  | _ => none }
def rawGrowthRow : OpenClaim := { program := "ytfohfnpehfcaaaa", sum := "5f71e34f23713f6ce191f994c45fdb1a5cc542e9ebadcc1b9ee298e0376804a3", func := "keywarden/keylaw1.RawGrowth", spec := "rawGrowth", recurses := true, plainKeys := false, apart := false }
def RawGrowthSaid : Prop := rawGrowthRow.holds Try.pinned (OpenSpec.ofChange rawGrowthSpec)

/-- ITS FALSE NEIGHBOUR: 'it returns false'. Refute it at one input. -/
def rawGrowthWrong : ChangeSpec := { name := "rawGrowth", fn := fun _ => fun
  | [d1, d2, d3] => { results := [.lit (.bool false)], args := [d1, d2, d3] }
  | _ => none }
def RawGrowthWrongFalsely : Prop := rawGrowthRow.holds Try.pinned (OpenSpec.ofChange rawGrowthWrong)

/-- 'keylaw1.RawMapProofs': WHATEVER THE INPUT: true; the input reads as it did. -/
def rawMapProofsSpec : ChangeSpec := { name := "rawMapProofs", fn := fun _ => fun
  | [d1, d2, d3, d4, d5] => { results := [.lit (.bool true)], args := [d1, d2, d3, d4, d5] }
  | _ => none }
def rawMapProofsRow : OpenClaim := { program := "ytfohfnpehfcaaaa", sum := "5f71e34f23713f6ce191f994c45fdb1a5cc542e9ebadcc1b9ee298e0376804a3", func := "keywarden/keylaw1.RawMapProofs", spec := "rawMapProofs", recurses := true, plainKeys := false, apart := false }
def RawMapProofsSaid : Prop := rawMapProofsRow.holds Try.pinned (OpenSpec.ofChange rawMapProofsSpec)

/-- ITS FALSE NEIGHBOUR: 'it returns false'. Refute it at one input. -/
def rawMapProofsWrong : ChangeSpec := { name := "rawMapProofs", fn := fun _ => fun
  | [d1, d2, d3, d4, d5] => { results := [.lit (.bool false)], args := [d1, d2, d3, d4, d5] }
  | _ => none }
def RawMapProofsWrongFalsely : Prop := rawMapProofsRow.holds Try.pinned (OpenSpec.ofChange rawMapProofsWrong)

/-- 'keylaw1.KeysAreDerived': WHATEVER THE INPUT: true; the input reads as it did. -/
def keysAreDerivedSpec : ChangeSpec := { name := "keysAreDerived", fn := fun _ => fun
  | [d1, d2, d3] => { results := [.lit (.bool true)], args := [d1, d2, d3] }
  | _ => none }
def keysAreDerivedRow : OpenClaim := { program := "ytfohfnpehfcaaaa", sum := "5f71e34f23713f6ce191f994c45fdb1a5cc542e9ebadcc1b9ee298e0376804a3", func := "keywarden/keylaw1.KeysAreDerived", spec := "keysAreDerived", inPlace := ["internal/bytealg.IndexByteString", "internal/bytealg.IndexString"], unfollowed := true, recurses := true, named := ["internal/bytealg.MaxLen"], plainKeys := false, apart := false }
def KeysAreDerivedSaid : Prop := keysAreDerivedRow.holds Try.pinned (OpenSpec.ofChange keysAreDerivedSpec)

/-- ITS FALSE NEIGHBOUR: 'it returns false'. Refute it at one input. -/
def keysAreDerivedWrong : ChangeSpec := { name := "keysAreDerived", fn := fun _ => fun
  | [d1, d2, d3] => { results := [.lit (.bool false)], args := [d1, d2, d3] }
  | _ => none }
def KeysAreDerivedWrongFalsely : Prop := keysAreDerivedRow.holds Try.pinned (OpenSpec.ofChange keysAreDerivedWrong)

/-- 'keylaw1.PlacesAreProved': WHATEVER THE INPUT: true; the input reads as it did. -/
def placesAreProvedSpec : ChangeSpec := { name := "placesAreProved", fn := fun _ => fun
  | [d1, d2, d3, d4] => { results := [.lit (.bool true)], args := [d1, d2, d3, d4] }
  | _ => none }
def placesAreProvedRow : OpenClaim := { program := "ytfohfnpehfcaaaa", sum := "5f71e34f23713f6ce191f994c45fdb1a5cc542e9ebadcc1b9ee298e0376804a3", func := "keywarden/keylaw1.PlacesAreProved", spec := "placesAreProved", recurses := true, plainKeys := false, apart := false }
def PlacesAreProvedSaid : Prop := placesAreProvedRow.holds Try.pinned (OpenSpec.ofChange placesAreProvedSpec)

/-- ITS FALSE NEIGHBOUR: 'it returns false'. Refute it at one input. -/
def placesAreProvedWrong : ChangeSpec := { name := "placesAreProved", fn := fun _ => fun
  | [d1, d2, d3, d4] => { results := [.lit (.bool false)], args := [d1, d2, d3, d4] }
  | _ => none }
def PlacesAreProvedWrongFalsely : Prop := placesAreProvedRow.holds Try.pinned (OpenSpec.ofChange placesAreProvedWrong)

/-- 'keylaw1.GrowthIsProved': WHATEVER THE INPUT: true; the input reads as it did. -/
def growthIsProvedSpec : ChangeSpec := { name := "growthIsProved", fn := fun _ => fun
  | [d1, d2, d3, d4] => { results := [.lit (.bool true)], args := [d1, d2, d3, d4] }
  | _ => none }
def growthIsProvedRow : OpenClaim := { program := "ytfohfnpehfcaaaa", sum := "5f71e34f23713f6ce191f994c45fdb1a5cc542e9ebadcc1b9ee298e0376804a3", func := "keywarden/keylaw1.GrowthIsProved", spec := "growthIsProved", recurses := true, plainKeys := false, apart := false }
def GrowthIsProvedSaid : Prop := growthIsProvedRow.holds Try.pinned (OpenSpec.ofChange growthIsProvedSpec)

/-- ITS FALSE NEIGHBOUR: 'it returns false'. Refute it at one input. -/
def growthIsProvedWrong : ChangeSpec := { name := "growthIsProved", fn := fun _ => fun
  | [d1, d2, d3, d4] => { results := [.lit (.bool false)], args := [d1, d2, d3, d4] }
  | _ => none }
def GrowthIsProvedWrongFalsely : Prop := growthIsProvedRow.holds Try.pinned (OpenSpec.ofChange growthIsProvedWrong)

/-- 'keylaw1.SumsAreOrdered': WHATEVER THE INPUT: true; the input reads as it did. -/
def sumsAreOrderedSpec : ChangeSpec := { name := "sumsAreOrdered", fn := fun _ => fun
  | [d1, d2, d3, d4, d5] => { results := [.lit (.bool true)], args := [d1, d2, d3, d4, d5] }
  | _ => none }
def sumsAreOrderedRow : OpenClaim := { program := "ytfohfnpehfcaaaa", sum := "5f71e34f23713f6ce191f994c45fdb1a5cc542e9ebadcc1b9ee298e0376804a3", func := "keywarden/keylaw1.SumsAreOrdered", spec := "sumsAreOrdered", inPlace := ["internal/bytealg.Compare"], unfollowed := true, recurses := true, plainKeys := false, apart := false }
def SumsAreOrderedSaid : Prop := sumsAreOrderedRow.holds Try.pinned (OpenSpec.ofChange sumsAreOrderedSpec)

/-- ITS FALSE NEIGHBOUR: 'it returns false'. Refute it at one input. -/
def sumsAreOrderedWrong : ChangeSpec := { name := "sumsAreOrdered", fn := fun _ => fun
  | [d1, d2, d3, d4, d5] => { results := [.lit (.bool false)], args := [d1, d2, d3, d4, d5] }
  | _ => none }
def SumsAreOrderedWrongFalsely : Prop := sumsAreOrderedRow.holds Try.pinned (OpenSpec.ofChange sumsAreOrderedWrong)

/-- 'keylaw1.MapsMatch': WHATEVER THE INPUT: true; the input reads as it did. -/
def mapsMatchSpec : ChangeSpec := { name := "mapsMatch", fn := fun _ => fun
  | [d] => { results := [.lit (.bool true)], args := [d] }
  | _ => none }
def mapsMatchRow : OpenClaim := { program := "ytfohfnpehfcaaaa", sum := "5f71e34f23713f6ce191f994c45fdb1a5cc542e9ebadcc1b9ee298e0376804a3", func := "keywarden/keylaw1.MapsMatch", spec := "mapsMatch", inPlace := ["internal/bytealg.Compare"], unfollowed := true, recurses := true, plainKeys := false, apart := false }
def MapsMatchSaid : Prop := mapsMatchRow.holds Try.pinned (OpenSpec.ofChange mapsMatchSpec)

/-- ITS FALSE NEIGHBOUR: 'it returns false'. Refute it at one input. -/
def mapsMatchWrong : ChangeSpec := { name := "mapsMatch", fn := fun _ => fun
  | [d] => { results := [.lit (.bool false)], args := [d] }
  | _ => none }
def MapsMatchWrongFalsely : Prop := mapsMatchRow.holds Try.pinned (OpenSpec.ofChange mapsMatchWrong)

/-- 'keylaw1.KeysAreProved': WHATEVER THE INPUT: true; the input reads as it did. -/
def keysAreProvedSpec : ChangeSpec := { name := "keysAreProved", fn := fun _ => fun
  | [d1, d2, d3, d4] => { results := [.lit (.bool true)], args := [d1, d2, d3, d4] }
  | _ => none }
def keysAreProvedRow : OpenClaim := { program := "ytfohfnpehfcaaaa", sum := "5f71e34f23713f6ce191f994c45fdb1a5cc542e9ebadcc1b9ee298e0376804a3", func := "keywarden/keylaw1.KeysAreProved", spec := "keysAreProved", inPlace := ["internal/bytealg.Compare"], unfollowed := true, recurses := true, plainKeys := false, apart := false }
def KeysAreProvedSaid : Prop := keysAreProvedRow.holds Try.pinned (OpenSpec.ofChange keysAreProvedSpec)

/-- ITS FALSE NEIGHBOUR: 'it returns false'. Refute it at one input. -/
def keysAreProvedWrong : ChangeSpec := { name := "keysAreProved", fn := fun _ => fun
  | [d1, d2, d3, d4] => { results := [.lit (.bool false)], args := [d1, d2, d3, d4] }
  | _ => none }
def KeysAreProvedWrongFalsely : Prop := keysAreProvedRow.holds Try.pinned (OpenSpec.ofChange keysAreProvedWrong)

/-- 'keylaw1.MapsChange': WHATEVER THE INPUT: true; the input reads as it did. -/
def mapsChangeSpec : ChangeSpec := { name := "mapsChange", fn := fun _ => fun
  | [d1, d2, d3] => { results := [.lit (.bool true)], args := [d1, d2, d3] }
  | _ => none }
def mapsChangeRow : OpenClaim := { program := "ytfohfnpehfcaaaa", sum := "5f71e34f23713f6ce191f994c45fdb1a5cc542e9ebadcc1b9ee298e0376804a3", func := "keywarden/keylaw1.MapsChange", spec := "mapsChange", inPlace := ["internal/bytealg.Compare"], unfollowed := true, recurses := true, plainKeys := false, apart := false }
def MapsChangeSaid : Prop := mapsChangeRow.holds Try.pinned (OpenSpec.ofChange mapsChangeSpec)

/-- ITS FALSE NEIGHBOUR: 'it returns false'. Refute it at one input. -/
def mapsChangeWrong : ChangeSpec := { name := "mapsChange", fn := fun _ => fun
  | [d1, d2, d3] => { results := [.lit (.bool false)], args := [d1, d2, d3] }
  | _ => none }
def MapsChangeWrongFalsely : Prop := mapsChangeRow.holds Try.pinned (OpenSpec.ofChange mapsChangeWrong)

/- THE SECOND FORM. 'bulk': how many values and letters a reading holds, each counted each time it is reached (what is shared counts as often as it is met; a slice's spare places count too). A statement '..UptoSaid' is the law's where the arguments, and the package variables that the reading takes, are together of bulk at most 1048576: NARROWER than '..Said'. Prove '..Said' where nothing that the law and all that it calls make is longer than what came in: it says more and counts as full. Else prove '..UptoSaid'. A law counts once. -/
mutual
def uptoBulk {H : Type} : DataW H → Nat
  | .lit (.string bytes) => bytes.length + 1
  | .lit _ => 1
  | .nil => 1
  | .ptr d => uptoBulk d + 1
  | .slice elems spare => uptoBulkAll elems + uptoBulkAll spare + 1
  | .agg parts => uptoBulkAll parts + 1
  | .iface _ d => uptoBulk d + 1
  | .map entries => uptoBulkEntries entries + 1
  | .held _ => 1
def uptoBulkAll {H : Type} : List (DataW H) → Nat
  | [] => 0
  | d :: r => uptoBulk d + uptoBulkAll r
def uptoBulkEntries {H : Type} : List (Lit × DataW H) → Nat
  | [] => 0
  | x :: r => uptoBulkEntry x + uptoBulkEntries r
def uptoBulkEntry {H : Type} : Lit × DataW H → Nat
  | (.string bytes, d) => bytes.length + uptoBulk d + 1
  | (_, d) => uptoBulk d + 1
 end
def uptoSmall : (H : Type) → List (DataW H) → Bool := fun _ ds => decide (uptoBulkAll ds ≤ 1048576)
def OpenSpec.upto (s : _root_.Go.ChangeSpec) : _root_.Go.OpenSpec := { _root_.Go.OpenSpec.ofChange s with cond := some uptoSmall }

/-- 'keylaw1.OctetsAreTaken', WHERE WHAT IT READS IS OF BULK AT MOST 1048576: true; the input reads as it did. -/
def octetsAreTakenUptoRow : OpenClaim := { program := "ytfohfnpehfcaaaa", sum := "5f71e34f23713f6ce191f994c45fdb1a5cc542e9ebadcc1b9ee298e0376804a3", func := "keywarden/keylaw1.OctetsAreTaken", spec := "octetsAreTaken", plainKeys := false, apart := false, narrowed := true }
def OctetsAreTakenUptoSaid : Prop := octetsAreTakenUptoRow.holds Try.pinned (OpenSpec.upto octetsAreTakenSpec)

/-- 'keylaw1.SummersMatch', WHERE WHAT IT READS IS OF BULK AT MOST 1048576: true; the input reads as it did. -/
def summersMatchUptoRow : OpenClaim := { program := "ytfohfnpehfcaaaa", sum := "5f71e34f23713f6ce191f994c45fdb1a5cc542e9ebadcc1b9ee298e0376804a3", func := "keywarden/keylaw1.SummersMatch", spec := "summersMatch", plainKeys := false, apart := false, narrowed := true }
def SummersMatchUptoSaid : Prop := summersMatchUptoRow.holds Try.pinned (OpenSpec.upto summersMatchSpec)

/-- 'keylaw1.ProofsArePrinted', WHERE WHAT IT READS IS OF BULK AT MOST 1048576: true; the input reads as it did. -/
def proofsArePrintedUptoRow : OpenClaim := { program := "ytfohfnpehfcaaaa", sum := "5f71e34f23713f6ce191f994c45fdb1a5cc542e9ebadcc1b9ee298e0376804a3", func := "keywarden/keylaw1.ProofsArePrinted", spec := "proofsArePrinted", plainKeys := false, apart := false, narrowed := true }
def ProofsArePrintedUptoSaid : Prop := proofsArePrintedUptoRow.holds Try.pinned (OpenSpec.upto proofsArePrintedSpec)

/-- 'keylaw1.TagsMatch', WHERE WHAT IT READS IS OF BULK AT MOST 1048576: true; the input reads as it did. -/
def tagsMatchUptoRow : OpenClaim := { program := "ytfohfnpehfcaaaa", sum := "5f71e34f23713f6ce191f994c45fdb1a5cc542e9ebadcc1b9ee298e0376804a3", func := "keywarden/keylaw1.TagsMatch", spec := "tagsMatch", plainKeys := false, apart := false, narrowed := true }
def TagsMatchUptoSaid : Prop := tagsMatchUptoRow.holds Try.pinned (OpenSpec.upto tagsMatchSpec)

/-- 'keylaw1.SumsMatch', WHERE WHAT IT READS IS OF BULK AT MOST 1048576: true; the input reads as it did. -/
def sumsMatchUptoRow : OpenClaim := { program := "ytfohfnpehfcaaaa", sum := "5f71e34f23713f6ce191f994c45fdb1a5cc542e9ebadcc1b9ee298e0376804a3", func := "keywarden/keylaw1.SumsMatch", spec := "sumsMatch", plainKeys := false, apart := false, narrowed := true }
def SumsMatchUptoSaid : Prop := sumsMatchUptoRow.holds Try.pinned (OpenSpec.upto sumsMatchSpec)

/-- 'keylaw1.RootsMatch', WHERE WHAT IT READS IS OF BULK AT MOST 1048576: true; the input reads as it did. -/
def rootsMatchUptoRow : OpenClaim := { program := "ytfohfnpehfcaaaa", sum := "5f71e34f23713f6ce191f994c45fdb1a5cc542e9ebadcc1b9ee298e0376804a3", func := "keywarden/keylaw1.RootsMatch", spec := "rootsMatch", recurses := true, plainKeys := false, apart := false, narrowed := true }
def RootsMatchUptoSaid : Prop := rootsMatchUptoRow.holds Try.pinned (OpenSpec.upto rootsMatchSpec)

/-- 'keylaw1.HeadsMatch', WHERE WHAT IT READS IS OF BULK AT MOST 1048576: true; the input reads as it did. -/
def headsMatchUptoRow : OpenClaim := { program := "ytfohfnpehfcaaaa", sum := "5f71e34f23713f6ce191f994c45fdb1a5cc542e9ebadcc1b9ee298e0376804a3", func := "keywarden/keylaw1.HeadsMatch", spec := "headsMatch", plainKeys := false, apart := false, narrowed := true }
def HeadsMatchUptoSaid : Prop := headsMatchUptoRow.holds Try.pinned (OpenSpec.upto headsMatchSpec)

/-- 'keylaw1.RawProofs', WHERE WHAT IT READS IS OF BULK AT MOST 1048576: true; the input reads as it did. -/
def rawProofsUptoRow : OpenClaim := { program := "ytfohfnpehfcaaaa", sum := "5f71e34f23713f6ce191f994c45fdb1a5cc542e9ebadcc1b9ee298e0376804a3", func := "keywarden/keylaw1.RawProofs", spec := "rawProofs", recurses := true, plainKeys := false, apart := false, narrowed := true }
def RawProofsUptoSaid : Prop := rawProofsUptoRow.holds Try.pinned (OpenSpec.upto rawProofsSpec)

/-- 'keylaw1.RawGrowth', WHERE WHAT IT READS IS OF BULK AT MOST 1048576: true; the input reads as it did. -/
def rawGrowthUptoRow : OpenClaim := { program := "ytfohfnpehfcaaaa", sum := "5f71e34f23713f6ce191f994c45fdb1a5cc542e9ebadcc1b9ee298e0376804a3", func := "keywarden/keylaw1.RawGrowth", spec := "rawGrowth", recurses := true, plainKeys := false, apart := false, narrowed := true }
def RawGrowthUptoSaid : Prop := rawGrowthUptoRow.holds Try.pinned (OpenSpec.upto rawGrowthSpec)

/-- 'keylaw1.RawMapProofs', WHERE WHAT IT READS IS OF BULK AT MOST 1048576: true; the input reads as it did. -/
def rawMapProofsUptoRow : OpenClaim := { program := "ytfohfnpehfcaaaa", sum := "5f71e34f23713f6ce191f994c45fdb1a5cc542e9ebadcc1b9ee298e0376804a3", func := "keywarden/keylaw1.RawMapProofs", spec := "rawMapProofs", recurses := true, plainKeys := false, apart := false, narrowed := true }
def RawMapProofsUptoSaid : Prop := rawMapProofsUptoRow.holds Try.pinned (OpenSpec.upto rawMapProofsSpec)

/-- 'keylaw1.KeysAreDerived', WHERE WHAT IT READS IS OF BULK AT MOST 1048576: true; the input reads as it did. -/
def keysAreDerivedUptoRow : OpenClaim := { program := "ytfohfnpehfcaaaa", sum := "5f71e34f23713f6ce191f994c45fdb1a5cc542e9ebadcc1b9ee298e0376804a3", func := "keywarden/keylaw1.KeysAreDerived", spec := "keysAreDerived", inPlace := ["internal/bytealg.IndexByteString", "internal/bytealg.IndexString"], unfollowed := true, recurses := true, named := ["internal/bytealg.MaxLen"], plainKeys := false, apart := false, narrowed := true }
def KeysAreDerivedUptoSaid : Prop := keysAreDerivedUptoRow.holds Try.pinned (OpenSpec.upto keysAreDerivedSpec)

/-- 'keylaw1.PlacesAreProved', WHERE WHAT IT READS IS OF BULK AT MOST 1048576: true; the input reads as it did. -/
def placesAreProvedUptoRow : OpenClaim := { program := "ytfohfnpehfcaaaa", sum := "5f71e34f23713f6ce191f994c45fdb1a5cc542e9ebadcc1b9ee298e0376804a3", func := "keywarden/keylaw1.PlacesAreProved", spec := "placesAreProved", recurses := true, plainKeys := false, apart := false, narrowed := true }
def PlacesAreProvedUptoSaid : Prop := placesAreProvedUptoRow.holds Try.pinned (OpenSpec.upto placesAreProvedSpec)

/-- 'keylaw1.GrowthIsProved', WHERE WHAT IT READS IS OF BULK AT MOST 1048576: true; the input reads as it did. -/
def growthIsProvedUptoRow : OpenClaim := { program := "ytfohfnpehfcaaaa", sum := "5f71e34f23713f6ce191f994c45fdb1a5cc542e9ebadcc1b9ee298e0376804a3", func := "keywarden/keylaw1.GrowthIsProved", spec := "growthIsProved", recurses := true, plainKeys := false, apart := false, narrowed := true }
def GrowthIsProvedUptoSaid : Prop := growthIsProvedUptoRow.holds Try.pinned (OpenSpec.upto growthIsProvedSpec)

/-- 'keylaw1.SumsAreOrdered', WHERE WHAT IT READS IS OF BULK AT MOST 1048576: true; the input reads as it did. -/
def sumsAreOrderedUptoRow : OpenClaim := { program := "ytfohfnpehfcaaaa", sum := "5f71e34f23713f6ce191f994c45fdb1a5cc542e9ebadcc1b9ee298e0376804a3", func := "keywarden/keylaw1.SumsAreOrdered", spec := "sumsAreOrdered", inPlace := ["internal/bytealg.Compare"], unfollowed := true, recurses := true, plainKeys := false, apart := false, narrowed := true }
def SumsAreOrderedUptoSaid : Prop := sumsAreOrderedUptoRow.holds Try.pinned (OpenSpec.upto sumsAreOrderedSpec)

/-- 'keylaw1.MapsMatch', WHERE WHAT IT READS IS OF BULK AT MOST 1048576: true; the input reads as it did. -/
def mapsMatchUptoRow : OpenClaim := { program := "ytfohfnpehfcaaaa", sum := "5f71e34f23713f6ce191f994c45fdb1a5cc542e9ebadcc1b9ee298e0376804a3", func := "keywarden/keylaw1.MapsMatch", spec := "mapsMatch", inPlace := ["internal/bytealg.Compare"], unfollowed := true, recurses := true, plainKeys := false, apart := false, narrowed := true }
def MapsMatchUptoSaid : Prop := mapsMatchUptoRow.holds Try.pinned (OpenSpec.upto mapsMatchSpec)

/-- 'keylaw1.KeysAreProved', WHERE WHAT IT READS IS OF BULK AT MOST 1048576: true; the input reads as it did. -/
def keysAreProvedUptoRow : OpenClaim := { program := "ytfohfnpehfcaaaa", sum := "5f71e34f23713f6ce191f994c45fdb1a5cc542e9ebadcc1b9ee298e0376804a3", func := "keywarden/keylaw1.KeysAreProved", spec := "keysAreProved", inPlace := ["internal/bytealg.Compare"], unfollowed := true, recurses := true, plainKeys := false, apart := false, narrowed := true }
def KeysAreProvedUptoSaid : Prop := keysAreProvedUptoRow.holds Try.pinned (OpenSpec.upto keysAreProvedSpec)

/-- 'keylaw1.MapsChange', WHERE WHAT IT READS IS OF BULK AT MOST 1048576: true; the input reads as it did. -/
def mapsChangeUptoRow : OpenClaim := { program := "ytfohfnpehfcaaaa", sum := "5f71e34f23713f6ce191f994c45fdb1a5cc542e9ebadcc1b9ee298e0376804a3", func := "keywarden/keylaw1.MapsChange", spec := "mapsChange", inPlace := ["internal/bytealg.Compare"], unfollowed := true, recurses := true, plainKeys := false, apart := false, narrowed := true }
def MapsChangeUptoSaid : Prop := mapsChangeUptoRow.holds Try.pinned (OpenSpec.upto mapsChangeSpec)

end Rows
end Go.Proofs.Ytfohfnpehfcaaaa
