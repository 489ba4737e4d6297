/-
  No cell of these rows narrows 'for every input' (looked for: loops, veiled, ifaces, maps, wideKeys, modest, calm, conditions, laid).
  DERIVED. THE GIVEN ROWS OF THIS SEAT. 12 by the template 'for every input the law returns true; each argument reads behind the call as it read before'; 0 by the template 'total and deterministic' (their statements: YtbapglkldnlckaaTotals.lean).
  GIVEN WITH THE SEED: the statements are not yours to turn. If you find one false, say at which input.
  Laid BY PROGRAM, IN A SANDBOX (cutbox-rows.mjs): the forced cells as the released guide's own fill.sh prints them over the translation 4a192a8254eee325… (all of the seat's roots in one cut). By AI agents, Wed Nov 11 2026. No macro, syntax, notation, axiom, sorry.
-/
import Derived.Test.YtbapglkldnlckaaChecked
import GoSem.Claim
import GoSem.ClaimJoined
import GoSem.ClaimMapViews
import Derived.JoinedTies
import Derived.KernelRfl
namespace Go.Proofs.Ytbapglkldnlckaa
/- THE CELL 'sum', in the pinned program and in every row, IS THE sha256 OF THE DUMP (.gsa) THAT YtbapglkldnlckaaProg.lean LOADS. Nothing in Lean hashes anything: it is a label: what it is worth is what the hold of that sum in a sandbox is worth. -/
noncomputable def Try.pinned : Pinned := { name := "ytbapglkldnlckaa", sum := "4a192a8254eee3256c78e8089a2603a5d2fa6d4ae180b971755bcf11ead7eddf", checked := Try.checked }
namespace Rows
def none {H : Type} : Left H := { results := [], args := [] }

/-- 'laws.FnExactApart': WHATEVER THE INPUT: true; the input reads as it did. -/
def fnExactApartSpec : ChangeSpec := { name := "fnExactApart", fn := fun _ => fun
  | [d1, d2] => { results := [.lit (.bool true)], args := [d1, d2] }
  | _ => none }
def fnExactApartRow : OpenClaim := { program := "ytbapglkldnlckaa", sum := "4a192a8254eee3256c78e8089a2603a5d2fa6d4ae180b971755bcf11ead7eddf", func := "loop.example/g00758/laws.FnExactApart", spec := "fnExactApart", plainKeys := false, apart := false }
def FnExactApartSaid : Prop := fnExactApartRow.holds Try.pinned (OpenSpec.ofChange fnExactApartSpec)

/-- ITS FALSE NEIGHBOUR: 'it returns false'. Refute it at one input. -/
def fnExactApartWrong : ChangeSpec := { name := "fnExactApart", fn := fun _ => fun
  | [d1, d2] => { results := [.lit (.bool false)], args := [d1, d2] }
  | _ => none }
def FnExactApartWrongFalsely : Prop := fnExactApartRow.holds Try.pinned (OpenSpec.ofChange fnExactApartWrong)

/-- 'laws.FnApart': WHATEVER THE INPUT: true; the input reads as it did. -/
def fnApartSpec : ChangeSpec := { name := "fnApart", fn := fun _ => fun
  | [d1, d2] => { results := [.lit (.bool true)], args := [d1, d2] }
  | _ => none }
def fnApartRow : OpenClaim := { program := "ytbapglkldnlckaa", sum := "4a192a8254eee3256c78e8089a2603a5d2fa6d4ae180b971755bcf11ead7eddf", func := "loop.example/g00758/laws.FnApart", spec := "fnApart", plainKeys := false, apart := false }
def FnApartSaid : Prop := fnApartRow.holds Try.pinned (OpenSpec.ofChange fnApartSpec)

/-- ITS FALSE NEIGHBOUR: 'it returns false'. Refute it at one input. -/
def fnApartWrong : ChangeSpec := { name := "fnApart", fn := fun _ => fun
  | [d1, d2] => { results := [.lit (.bool false)], args := [d1, d2] }
  | _ => none }
def FnApartWrongFalsely : Prop := fnApartRow.holds Try.pinned (OpenSpec.ofChange fnApartWrong)

/-- 'laws.FnExactPackedSize': WHATEVER THE INPUT: true; the input reads as it did. -/
def fnExactPackedSizeSpec : ChangeSpec := { name := "fnExactPackedSize", fn := fun _ => fun
  | [d] => { results := [.lit (.bool true)], args := [d] }
  | _ => none }
def fnExactPackedSizeRow : OpenClaim := { program := "ytbapglkldnlckaa", sum := "4a192a8254eee3256c78e8089a2603a5d2fa6d4ae180b971755bcf11ead7eddf", func := "loop.example/g00758/laws.FnExactPackedSize", spec := "fnExactPackedSize", plainKeys := false, apart := false }
def FnExactPackedSizeSaid : Prop := fnExactPackedSizeRow.holds Try.pinned (OpenSpec.ofChange fnExactPackedSizeSpec)

/-- ITS FALSE NEIGHBOUR: 'it returns false'. Refute it at one input. -/
def fnExactPackedSizeWrong : ChangeSpec := { name := "fnExactPackedSize", fn := fun _ => fun
  | [d] => { results := [.lit (.bool false)], args := [d] }
  | _ => none }
def FnExactPackedSizeWrongFalsely : Prop := fnExactPackedSizeRow.holds Try.pinned (OpenSpec.ofChange fnExactPackedSizeWrong)

/-- 'laws.FnExactIsWave': WHATEVER THE INPUT: true; the input reads as it did. -/
def fnExactIsWaveSpec : ChangeSpec := { name := "fnExactIsWave", fn := fun _ => fun
  | [d1, d2, d3] => { results := [.lit (.bool true)], args := [d1, d2, d3] }
  | _ => none }
def fnExactIsWaveRow : OpenClaim := { program := "ytbapglkldnlckaa", sum := "4a192a8254eee3256c78e8089a2603a5d2fa6d4ae180b971755bcf11ead7eddf", func := "loop.example/g00758/laws.FnExactIsWave", spec := "fnExactIsWave", plainKeys := false, apart := false }
def FnExactIsWaveSaid : Prop := fnExactIsWaveRow.holds Try.pinned (OpenSpec.ofChange fnExactIsWaveSpec)

/-- ITS FALSE NEIGHBOUR: 'it returns false'. Refute it at one input. -/
def fnExactIsWaveWrong : ChangeSpec := { name := "fnExactIsWave", fn := fun _ => fun
  | [d1, d2, d3] => { results := [.lit (.bool false)], args := [d1, d2, d3] }
  | _ => none }
def FnExactIsWaveWrongFalsely : Prop := fnExactIsWaveRow.holds Try.pinned (OpenSpec.ofChange fnExactIsWaveWrong)

/-- 'laws.FnExactGoodMachine': WHATEVER THE INPUT: true; the input reads as it did. -/
def fnExactGoodMachineSpec : ChangeSpec := { name := "fnExactGoodMachine", fn := fun _ => fun
  | [d] => { results := [.lit (.bool true)], args := [d] }
  | _ => none }
def fnExactGoodMachineRow : OpenClaim := { program := "ytbapglkldnlckaa", sum := "4a192a8254eee3256c78e8089a2603a5d2fa6d4ae180b971755bcf11ead7eddf", func := "loop.example/g00758/laws.FnExactGoodMachine", spec := "fnExactGoodMachine", plainKeys := false, apart := false }
def FnExactGoodMachineSaid : Prop := fnExactGoodMachineRow.holds Try.pinned (OpenSpec.ofChange fnExactGoodMachineSpec)

/-- ITS FALSE NEIGHBOUR: 'it returns false'. Refute it at one input. -/
def fnExactGoodMachineWrong : ChangeSpec := { name := "fnExactGoodMachine", fn := fun _ => fun
  | [d] => { results := [.lit (.bool false)], args := [d] }
  | _ => none }
def FnExactGoodMachineWrongFalsely : Prop := fnExactGoodMachineRow.holds Try.pinned (OpenSpec.ofChange fnExactGoodMachineWrong)

/-- 'laws.FnExactIsRegular': WHATEVER THE INPUT: true; the input reads as it did. -/
def fnExactIsRegularSpec : ChangeSpec := { name := "fnExactIsRegular", fn := fun _ => fun
  | [d] => { results := [.lit (.bool true)], args := [d] }
  | _ => none }
def fnExactIsRegularRow : OpenClaim := { program := "ytbapglkldnlckaa", sum := "4a192a8254eee3256c78e8089a2603a5d2fa6d4ae180b971755bcf11ead7eddf", func := "loop.example/g00758/laws.FnExactIsRegular", spec := "fnExactIsRegular", unfollowed := true, recurses := true, plainKeys := false, apart := false }
def FnExactIsRegularSaid : Prop := fnExactIsRegularRow.holds Try.pinned (OpenSpec.ofChange fnExactIsRegularSpec)

/-- ITS FALSE NEIGHBOUR: 'it returns false'. Refute it at one input. -/
def fnExactIsRegularWrong : ChangeSpec := { name := "fnExactIsRegular", fn := fun _ => fun
  | [d] => { results := [.lit (.bool false)], args := [d] }
  | _ => none }
def FnExactIsRegularWrongFalsely : Prop := fnExactIsRegularRow.holds Try.pinned (OpenSpec.ofChange fnExactIsRegularWrong)

/-- 'laws.FnExactShortAmbiguous': WHATEVER THE INPUT: true; the input reads as it did. -/
def fnExactShortAmbiguousSpec : ChangeSpec := { name := "fnExactShortAmbiguous", fn := fun _ => fun
  | [d1, d2] => { results := [.lit (.bool true)], args := [d1, d2] }
  | _ => none }
def fnExactShortAmbiguousRow : OpenClaim := { program := "ytbapglkldnlckaa", sum := "4a192a8254eee3256c78e8089a2603a5d2fa6d4ae180b971755bcf11ead7eddf", func := "loop.example/g00758/laws.FnExactShortAmbiguous", spec := "fnExactShortAmbiguous", unfollowed := true, recurses := true, plainKeys := false, apart := false }
def FnExactShortAmbiguousSaid : Prop := fnExactShortAmbiguousRow.holds Try.pinned (OpenSpec.ofChange fnExactShortAmbiguousSpec)

/-- ITS FALSE NEIGHBOUR: 'it returns false'. Refute it at one input. -/
def fnExactShortAmbiguousWrong : ChangeSpec := { name := "fnExactShortAmbiguous", fn := fun _ => fun
  | [d1, d2] => { results := [.lit (.bool false)], args := [d1, d2] }
  | _ => none }
def FnExactShortAmbiguousWrongFalsely : Prop := fnExactShortAmbiguousRow.holds Try.pinned (OpenSpec.ofChange fnExactShortAmbiguousWrong)

/-- 'laws.FnExactSameForest': WHATEVER THE INPUT: true; the input reads as it did. -/
def fnExactSameForestSpec : ChangeSpec := { name := "fnExactSameForest", fn := fun _ => fun
  | [d1, d2] => { results := [.lit (.bool true)], args := [d1, d2] }
  | _ => none }
def fnExactSameForestRow : OpenClaim := { program := "ytbapglkldnlckaa", sum := "4a192a8254eee3256c78e8089a2603a5d2fa6d4ae180b971755bcf11ead7eddf", func := "loop.example/g00758/laws.FnExactSameForest", spec := "fnExactSameForest", unfollowed := true, recurses := true, plainKeys := false, apart := false }
def FnExactSameForestSaid : Prop := fnExactSameForestRow.holds Try.pinned (OpenSpec.ofChange fnExactSameForestSpec)

/-- ITS FALSE NEIGHBOUR: 'it returns false'. Refute it at one input. -/
def fnExactSameForestWrong : ChangeSpec := { name := "fnExactSameForest", fn := fun _ => fun
  | [d1, d2] => { results := [.lit (.bool false)], args := [d1, d2] }
  | _ => none }
def FnExactSameForestWrongFalsely : Prop := fnExactSameForestRow.holds Try.pinned (OpenSpec.ofChange fnExactSameForestWrong)

/-- 'laws.FnExactRacesIn': WHATEVER THE INPUT: true; the input reads as it did. -/
def fnExactRacesInSpec : ChangeSpec := { name := "fnExactRacesIn", fn := fun _ => fun
  | [d1, d2, d3] => { results := [.lit (.bool true)], args := [d1, d2, d3] }
  | _ => none }
def fnExactRacesInRow : OpenClaim := { program := "ytbapglkldnlckaa", sum := "4a192a8254eee3256c78e8089a2603a5d2fa6d4ae180b971755bcf11ead7eddf", func := "loop.example/g00758/laws.FnExactRacesIn", spec := "fnExactRacesIn", unfollowed := true, recurses := true, plainKeys := false, apart := false }
def FnExactRacesInSaid : Prop := fnExactRacesInRow.holds Try.pinned (OpenSpec.ofChange fnExactRacesInSpec)

/-- ITS FALSE NEIGHBOUR: 'it returns false'. Refute it at one input. -/
def fnExactRacesInWrong : ChangeSpec := { name := "fnExactRacesIn", fn := fun _ => fun
  | [d1, d2, d3] => { results := [.lit (.bool false)], args := [d1, d2, d3] }
  | _ => none }
def FnExactRacesInWrongFalsely : Prop := fnExactRacesInRow.holds Try.pinned (OpenSpec.ofChange fnExactRacesInWrong)

/-- 'laws.FnExactEdgesOf': WHATEVER THE INPUT: true; the input reads as it did. -/
def fnExactEdgesOfSpec : ChangeSpec := { name := "fnExactEdgesOf", fn := fun _ => fun
  | [d1, d2] => { results := [.lit (.bool true)], args := [d1, d2] }
  | _ => none }
def fnExactEdgesOfRow : OpenClaim := { program := "ytbapglkldnlckaa", sum := "4a192a8254eee3256c78e8089a2603a5d2fa6d4ae180b971755bcf11ead7eddf", func := "loop.example/g00758/laws.FnExactEdgesOf", spec := "fnExactEdgesOf", plainKeys := false, apart := false }
def FnExactEdgesOfSaid : Prop := fnExactEdgesOfRow.holds Try.pinned (OpenSpec.ofChange fnExactEdgesOfSpec)

/-- ITS FALSE NEIGHBOUR: 'it returns false'. Refute it at one input. -/
def fnExactEdgesOfWrong : ChangeSpec := { name := "fnExactEdgesOf", fn := fun _ => fun
  | [d1, d2] => { results := [.lit (.bool false)], args := [d1, d2] }
  | _ => none }
def FnExactEdgesOfWrongFalsely : Prop := fnExactEdgesOfRow.holds Try.pinned (OpenSpec.ofChange fnExactEdgesOfWrong)

/-- 'laws.FnExactTreeEnd': WHATEVER THE INPUT: true; the input reads as it did. -/
def fnExactTreeEndSpec : ChangeSpec := { name := "fnExactTreeEnd", fn := fun _ => fun
  | [d1, d2, d3] => { results := [.lit (.bool true)], args := [d1, d2, d3] }
  | _ => none }
def fnExactTreeEndRow : OpenClaim := { program := "ytbapglkldnlckaa", sum := "4a192a8254eee3256c78e8089a2603a5d2fa6d4ae180b971755bcf11ead7eddf", func := "loop.example/g00758/laws.FnExactTreeEnd", spec := "fnExactTreeEnd", unfollowed := true, recurses := true, plainKeys := false, apart := false }
def FnExactTreeEndSaid : Prop := fnExactTreeEndRow.holds Try.pinned (OpenSpec.ofChange fnExactTreeEndSpec)

/-- ITS FALSE NEIGHBOUR: 'it returns false'. Refute it at one input. -/
def fnExactTreeEndWrong : ChangeSpec := { name := "fnExactTreeEnd", fn := fun _ => fun
  | [d1, d2, d3] => { results := [.lit (.bool false)], args := [d1, d2, d3] }
  | _ => none }
def FnExactTreeEndWrongFalsely : Prop := fnExactTreeEndRow.holds Try.pinned (OpenSpec.ofChange fnExactTreeEndWrong)

/-- 'laws.FnExactBestAnyCost': WHATEVER THE INPUT: true; the input reads as it did. -/
def fnExactBestAnyCostSpec : ChangeSpec := { name := "fnExactBestAnyCost", fn := fun _ => fun
  | [d1, d2, d3] => { results := [.lit (.bool true)], args := [d1, d2, d3] }
  | _ => none }
def fnExactBestAnyCostRow : OpenClaim := { program := "ytbapglkldnlckaa", sum := "4a192a8254eee3256c78e8089a2603a5d2fa6d4ae180b971755bcf11ead7eddf", func := "loop.example/g00758/laws.FnExactBestAnyCost", spec := "fnExactBestAnyCost", unfollowed := true, recurses := true, plainKeys := false, apart := false }
def FnExactBestAnyCostSaid : Prop := fnExactBestAnyCostRow.holds Try.pinned (OpenSpec.ofChange fnExactBestAnyCostSpec)

/-- ITS FALSE NEIGHBOUR: 'it returns false'. Refute it at one input. -/
def fnExactBestAnyCostWrong : ChangeSpec := { name := "fnExactBestAnyCost", fn := fun _ => fun
  | [d1, d2, d3] => { results := [.lit (.bool false)], args := [d1, d2, d3] }
  | _ => none }
def FnExactBestAnyCostWrongFalsely : Prop := fnExactBestAnyCostRow.holds Try.pinned (OpenSpec.ofChange fnExactBestAnyCostWrong)

/- THE SECOND FORM. 'bulk': how many values and letters a reading holds, each counted each time it is reached (what is shared counts as often as it is met; a slice's spare places count too). A statement '..UptoSaid' is the law's where the arguments, and the package variables that the reading takes, are together of bulk at most 1048576: NARROWER than '..Said'. Prove '..Said' where nothing that the law and all that it calls make is longer than what came in: it says more and counts as full. Else prove '..UptoSaid'. A law counts once. -/
mutual
def uptoBulk {H : Type} : DataW H → Nat
  | .lit (.string bytes) => bytes.length + 1
  | .lit _ => 1
  | .nil => 1
  | .ptr d => uptoBulk d + 1
  | .slice elems spare => uptoBulkAll elems + uptoBulkAll spare + 1
  | .agg parts => uptoBulkAll parts + 1
  | .iface _ d => uptoBulk d + 1
  | .map entries => uptoBulkEntries entries + 1
  | .held _ => 1
def uptoBulkAll {H : Type} : List (DataW H) → Nat
  | [] => 0
  | d :: r => uptoBulk d + uptoBulkAll r
def uptoBulkEntries {H : Type} : List (Lit × DataW H) → Nat
  | [] => 0
  | x :: r => uptoBulkEntry x + uptoBulkEntries r
def uptoBulkEntry {H : Type} : Lit × DataW H → Nat
  | (.string bytes, d) => bytes.length + uptoBulk d + 1
  | (_, d) => uptoBulk d + 1
 end
def uptoSmall : (H : Type) → List (DataW H) → Bool := fun _ ds => decide (uptoBulkAll ds ≤ 1048576)
def OpenSpec.upto (s : _root_.Go.ChangeSpec) : _root_.Go.OpenSpec := { _root_.Go.OpenSpec.ofChange s with cond := some uptoSmall }

/-- 'laws.FnExactApart', WHERE WHAT IT READS IS OF BULK AT MOST 1048576: true; the input reads as it did. -/
def fnExactApartUptoRow : OpenClaim := { program := "ytbapglkldnlckaa", sum := "4a192a8254eee3256c78e8089a2603a5d2fa6d4ae180b971755bcf11ead7eddf", func := "loop.example/g00758/laws.FnExactApart", spec := "fnExactApart", plainKeys := false, apart := false, narrowed := true }
def FnExactApartUptoSaid : Prop := fnExactApartUptoRow.holds Try.pinned (OpenSpec.upto fnExactApartSpec)

/-- 'laws.FnApart', WHERE WHAT IT READS IS OF BULK AT MOST 1048576: true; the input reads as it did. -/
def fnApartUptoRow : OpenClaim := { program := "ytbapglkldnlckaa", sum := "4a192a8254eee3256c78e8089a2603a5d2fa6d4ae180b971755bcf11ead7eddf", func := "loop.example/g00758/laws.FnApart", spec := "fnApart", plainKeys := false, apart := false, narrowed := true }
def FnApartUptoSaid : Prop := fnApartUptoRow.holds Try.pinned (OpenSpec.upto fnApartSpec)

/-- 'laws.FnExactPackedSize', WHERE WHAT IT READS IS OF BULK AT MOST 1048576: true; the input reads as it did. -/
def fnExactPackedSizeUptoRow : OpenClaim := { program := "ytbapglkldnlckaa", sum := "4a192a8254eee3256c78e8089a2603a5d2fa6d4ae180b971755bcf11ead7eddf", func := "loop.example/g00758/laws.FnExactPackedSize", spec := "fnExactPackedSize", plainKeys := false, apart := false, narrowed := true }
def FnExactPackedSizeUptoSaid : Prop := fnExactPackedSizeUptoRow.holds Try.pinned (OpenSpec.upto fnExactPackedSizeSpec)

/-- 'laws.FnExactIsWave', WHERE WHAT IT READS IS OF BULK AT MOST 1048576: true; the input reads as it did. -/
def fnExactIsWaveUptoRow : OpenClaim := { program := "ytbapglkldnlckaa", sum := "4a192a8254eee3256c78e8089a2603a5d2fa6d4ae180b971755bcf11ead7eddf", func := "loop.example/g00758/laws.FnExactIsWave", spec := "fnExactIsWave", plainKeys := false, apart := false, narrowed := true }
def FnExactIsWaveUptoSaid : Prop := fnExactIsWaveUptoRow.holds Try.pinned (OpenSpec.upto fnExactIsWaveSpec)

/-- 'laws.FnExactGoodMachine', WHERE WHAT IT READS IS OF BULK AT MOST 1048576: true; the input reads as it did. -/
def fnExactGoodMachineUptoRow : OpenClaim := { program := "ytbapglkldnlckaa", sum := "4a192a8254eee3256c78e8089a2603a5d2fa6d4ae180b971755bcf11ead7eddf", func := "loop.example/g00758/laws.FnExactGoodMachine", spec := "fnExactGoodMachine", plainKeys := false, apart := false, narrowed := true }
def FnExactGoodMachineUptoSaid : Prop := fnExactGoodMachineUptoRow.holds Try.pinned (OpenSpec.upto fnExactGoodMachineSpec)

/-- 'laws.FnExactIsRegular', WHERE WHAT IT READS IS OF BULK AT MOST 1048576: true; the input reads as it did. -/
def fnExactIsRegularUptoRow : OpenClaim := { program := "ytbapglkldnlckaa", sum := "4a192a8254eee3256c78e8089a2603a5d2fa6d4ae180b971755bcf11ead7eddf", func := "loop.example/g00758/laws.FnExactIsRegular", spec := "fnExactIsRegular", unfollowed := true, recurses := true, plainKeys := false, apart := false, narrowed := true }
def FnExactIsRegularUptoSaid : Prop := fnExactIsRegularUptoRow.holds Try.pinned (OpenSpec.upto fnExactIsRegularSpec)

/-- 'laws.FnExactShortAmbiguous', WHERE WHAT IT READS IS OF BULK AT MOST 1048576: true; the input reads as it did. -/
def fnExactShortAmbiguousUptoRow : OpenClaim := { program := "ytbapglkldnlckaa", sum := "4a192a8254eee3256c78e8089a2603a5d2fa6d4ae180b971755bcf11ead7eddf", func := "loop.example/g00758/laws.FnExactShortAmbiguous", spec := "fnExactShortAmbiguous", unfollowed := true, recurses := true, plainKeys := false, apart := false, narrowed := true }
def FnExactShortAmbiguousUptoSaid : Prop := fnExactShortAmbiguousUptoRow.holds Try.pinned (OpenSpec.upto fnExactShortAmbiguousSpec)

/-- 'laws.FnExactSameForest', WHERE WHAT IT READS IS OF BULK AT MOST 1048576: true; the input reads as it did. -/
def fnExactSameForestUptoRow : OpenClaim := { program := "ytbapglkldnlckaa", sum := "4a192a8254eee3256c78e8089a2603a5d2fa6d4ae180b971755bcf11ead7eddf", func := "loop.example/g00758/laws.FnExactSameForest", spec := "fnExactSameForest", unfollowed := true, recurses := true, plainKeys := false, apart := false, narrowed := true }
def FnExactSameForestUptoSaid : Prop := fnExactSameForestUptoRow.holds Try.pinned (OpenSpec.upto fnExactSameForestSpec)

/-- 'laws.FnExactRacesIn', WHERE WHAT IT READS IS OF BULK AT MOST 1048576: true; the input reads as it did. -/
def fnExactRacesInUptoRow : OpenClaim := { program := "ytbapglkldnlckaa", sum := "4a192a8254eee3256c78e8089a2603a5d2fa6d4ae180b971755bcf11ead7eddf", func := "loop.example/g00758/laws.FnExactRacesIn", spec := "fnExactRacesIn", unfollowed := true, recurses := true, plainKeys := false, apart := false, narrowed := true }
def FnExactRacesInUptoSaid : Prop := fnExactRacesInUptoRow.holds Try.pinned (OpenSpec.upto fnExactRacesInSpec)

/-- 'laws.FnExactEdgesOf', WHERE WHAT IT READS IS OF BULK AT MOST 1048576: true; the input reads as it did. -/
def fnExactEdgesOfUptoRow : OpenClaim := { program := "ytbapglkldnlckaa", sum := "4a192a8254eee3256c78e8089a2603a5d2fa6d4ae180b971755bcf11ead7eddf", func := "loop.example/g00758/laws.FnExactEdgesOf", spec := "fnExactEdgesOf", plainKeys := false, apart := false, narrowed := true }
def FnExactEdgesOfUptoSaid : Prop := fnExactEdgesOfUptoRow.holds Try.pinned (OpenSpec.upto fnExactEdgesOfSpec)

/-- 'laws.FnExactTreeEnd', WHERE WHAT IT READS IS OF BULK AT MOST 1048576: true; the input reads as it did. -/
def fnExactTreeEndUptoRow : OpenClaim := { program := "ytbapglkldnlckaa", sum := "4a192a8254eee3256c78e8089a2603a5d2fa6d4ae180b971755bcf11ead7eddf", func := "loop.example/g00758/laws.FnExactTreeEnd", spec := "fnExactTreeEnd", unfollowed := true, recurses := true, plainKeys := false, apart := false, narrowed := true }
def FnExactTreeEndUptoSaid : Prop := fnExactTreeEndUptoRow.holds Try.pinned (OpenSpec.upto fnExactTreeEndSpec)

/-- 'laws.FnExactBestAnyCost', WHERE WHAT IT READS IS OF BULK AT MOST 1048576: true; the input reads as it did. -/
def fnExactBestAnyCostUptoRow : OpenClaim := { program := "ytbapglkldnlckaa", sum := "4a192a8254eee3256c78e8089a2603a5d2fa6d4ae180b971755bcf11ead7eddf", func := "loop.example/g00758/laws.FnExactBestAnyCost", spec := "fnExactBestAnyCost", unfollowed := true, recurses := true, plainKeys := false, apart := false, narrowed := true }
def FnExactBestAnyCostUptoSaid : Prop := fnExactBestAnyCostUptoRow.holds Try.pinned (OpenSpec.upto fnExactBestAnyCostSpec)

end Rows
end Go.Proofs.Ytbapglkldnlckaa
