/-
  No cell of these rows narrows 'for every input' (looked for: loops, veiled, ifaces, maps, wideKeys, modest, calm, conditions, laid).
  DERIVED. THE GIVEN ROWS OF THIS SEAT. 6 by the template 'for every input the law returns true; each argument reads behind the call as it read before'; 0 by the template 'total and deterministic' (their statements: YtcgfhjglalhjjaaTotals.lean).
  GIVEN WITH THE SEED: the statements are not yours to turn. If you find one false, say at which input.
  Laid BY PROGRAM, IN A SANDBOX (cutbox-rows.mjs): the forced cells as the released guide's own fill.sh prints them over the translation 4fb87d383ecc9ed6… (all of the seat's roots in one cut). By AI agents, Wed Nov 11 2026. No macro, syntax, notation, axiom, sorry.
-/
import Derived.Test.YtcgfhjglalhjjaaChecked
import GoSem.Claim
import GoSem.ClaimJoined
import GoSem.ClaimMapViews
import Derived.JoinedTies
import Derived.KernelRfl
namespace Go.Proofs.Ytcgfhjglalhjjaa
/- THE CELL 'sum', in the pinned program and in every row, IS THE sha256 OF THE DUMP (.gsa) THAT YtcgfhjglalhjjaaProg.lean LOADS. Nothing in Lean hashes anything: it is a label: what it is worth is what the hold of that sum in a sandbox is worth. -/
noncomputable def Try.pinned : Pinned := { name := "ytcgfhjglalhjjaa", sum := "4fb87d383ecc9ed6054a62b60bf27b117d50cb1af1187517b3568beb0fda4251", checked := Try.checked }
namespace Rows
def none {H : Type} : Left H := { results := [], args := [] }

/-- 'laws.FnExactRacesIn': WHATEVER THE INPUT: true; the input reads as it did. -/
def fnExactRacesInSpec : ChangeSpec := { name := "fnExactRacesIn", fn := fun _ => fun
  | [d1, d2, d3] => { results := [.lit (.bool true)], args := [d1, d2, d3] }
  | _ => none }
def fnExactRacesInRow : OpenClaim := { program := "ytcgfhjglalhjjaa", sum := "4fb87d383ecc9ed6054a62b60bf27b117d50cb1af1187517b3568beb0fda4251", func := "loop.example/g00758/laws.FnExactRacesIn", spec := "fnExactRacesIn", unfollowed := true, recurses := true, apart := false }
def FnExactRacesInSaid : Prop := fnExactRacesInRow.holds Try.pinned (OpenSpec.ofChange fnExactRacesInSpec)

/-- ITS FALSE NEIGHBOUR: 'it returns false'. Refute it at one input. -/
def fnExactRacesInWrong : ChangeSpec := { name := "fnExactRacesIn", fn := fun _ => fun
  | [d1, d2, d3] => { results := [.lit (.bool false)], args := [d1, d2, d3] }
  | _ => none }
def FnExactRacesInWrongFalsely : Prop := fnExactRacesInRow.holds Try.pinned (OpenSpec.ofChange fnExactRacesInWrong)

/-- 'laws.FnExactEdgesOf': WHATEVER THE INPUT: true; the input reads as it did. -/
def fnExactEdgesOfSpec : ChangeSpec := { name := "fnExactEdgesOf", fn := fun _ => fun
  | [d1, d2] => { results := [.lit (.bool true)], args := [d1, d2] }
  | _ => none }
def fnExactEdgesOfRow : OpenClaim := { program := "ytcgfhjglalhjjaa", sum := "4fb87d383ecc9ed6054a62b60bf27b117d50cb1af1187517b3568beb0fda4251", func := "loop.example/g00758/laws.FnExactEdgesOf", spec := "fnExactEdgesOf", apart := false }
def FnExactEdgesOfSaid : Prop := fnExactEdgesOfRow.holds Try.pinned (OpenSpec.ofChange fnExactEdgesOfSpec)

/-- ITS FALSE NEIGHBOUR: 'it returns false'. Refute it at one input. -/
def fnExactEdgesOfWrong : ChangeSpec := { name := "fnExactEdgesOf", fn := fun _ => fun
  | [d1, d2] => { results := [.lit (.bool false)], args := [d1, d2] }
  | _ => none }
def FnExactEdgesOfWrongFalsely : Prop := fnExactEdgesOfRow.holds Try.pinned (OpenSpec.ofChange fnExactEdgesOfWrong)

/-- 'laws.FnExactTreeOfRight': WHATEVER THE INPUT: true; the input reads as it did. -/
def fnExactTreeOfRightSpec : ChangeSpec := { name := "fnExactTreeOfRight", fn := fun _ => fun
  | [d1, d2] => { results := [.lit (.bool true)], args := [d1, d2] }
  | _ => none }
def fnExactTreeOfRightRow : OpenClaim := { program := "ytcgfhjglalhjjaa", sum := "4fb87d383ecc9ed6054a62b60bf27b117d50cb1af1187517b3568beb0fda4251", func := "loop.example/g00758/laws.FnExactTreeOfRight", spec := "fnExactTreeOfRight", unfollowed := true, recurses := true, apart := false }
def FnExactTreeOfRightSaid : Prop := fnExactTreeOfRightRow.holds Try.pinned (OpenSpec.ofChange fnExactTreeOfRightSpec)

/-- ITS FALSE NEIGHBOUR: 'it returns false'. Refute it at one input. -/
def fnExactTreeOfRightWrong : ChangeSpec := { name := "fnExactTreeOfRight", fn := fun _ => fun
  | [d1, d2] => { results := [.lit (.bool false)], args := [d1, d2] }
  | _ => none }
def FnExactTreeOfRightWrongFalsely : Prop := fnExactTreeOfRightRow.holds Try.pinned (OpenSpec.ofChange fnExactTreeOfRightWrong)

/-- 'laws.FnExactReadTree': WHATEVER THE INPUT: true; the input reads as it did. -/
def fnExactReadTreeSpec : ChangeSpec := { name := "fnExactReadTree", fn := fun _ => fun
  | [d1, d2] => { results := [.lit (.bool true)], args := [d1, d2] }
  | _ => none }
def fnExactReadTreeRow : OpenClaim := { program := "ytcgfhjglalhjjaa", sum := "4fb87d383ecc9ed6054a62b60bf27b117d50cb1af1187517b3568beb0fda4251", func := "loop.example/g00758/laws.FnExactReadTree", spec := "fnExactReadTree", inPlace := ["internal/bytealg.IndexByteString"], unfollowed := true, recurses := true, apart := false }
def FnExactReadTreeSaid : Prop := fnExactReadTreeRow.holds Try.pinned (OpenSpec.ofChange fnExactReadTreeSpec)

/-- ITS FALSE NEIGHBOUR: 'it returns false'. Refute it at one input. -/
def fnExactReadTreeWrong : ChangeSpec := { name := "fnExactReadTree", fn := fun _ => fun
  | [d1, d2] => { results := [.lit (.bool false)], args := [d1, d2] }
  | _ => none }
def FnExactReadTreeWrongFalsely : Prop := fnExactReadTreeRow.holds Try.pinned (OpenSpec.ofChange fnExactReadTreeWrong)

/-- 'laws.FnExactGrammarFrom': WHATEVER THE INPUT: true; the input reads as it did. -/
def fnExactGrammarFromSpec : ChangeSpec := { name := "fnExactGrammarFrom", fn := fun _ => fun
  | [d] => { results := [.lit (.bool true)], args := [d] }
  | _ => none }
def fnExactGrammarFromRow : OpenClaim := { program := "ytcgfhjglalhjjaa", sum := "4fb87d383ecc9ed6054a62b60bf27b117d50cb1af1187517b3568beb0fda4251", func := "loop.example/g00758/laws.FnExactGrammarFrom", spec := "fnExactGrammarFrom", unfollowed := true, recurses := true, apart := false }
def FnExactGrammarFromSaid : Prop := fnExactGrammarFromRow.holds Try.pinned (OpenSpec.ofChange fnExactGrammarFromSpec)

/-- ITS FALSE NEIGHBOUR: 'it returns false'. Refute it at one input. -/
def fnExactGrammarFromWrong : ChangeSpec := { name := "fnExactGrammarFrom", fn := fun _ => fun
  | [d] => { results := [.lit (.bool false)], args := [d] }
  | _ => none }
def FnExactGrammarFromWrongFalsely : Prop := fnExactGrammarFromRow.holds Try.pinned (OpenSpec.ofChange fnExactGrammarFromWrong)

/-- 'laws.FnExactMachineTakes': WHATEVER THE INPUT: true; the input reads as it did. -/
def fnExactMachineTakesSpec : ChangeSpec := { name := "fnExactMachineTakes", fn := fun _ => fun
  | [d1, d2] => { results := [.lit (.bool true)], args := [d1, d2] }
  | _ => none }
def fnExactMachineTakesRow : OpenClaim := { program := "ytcgfhjglalhjjaa", sum := "4fb87d383ecc9ed6054a62b60bf27b117d50cb1af1187517b3568beb0fda4251", func := "loop.example/g00758/laws.FnExactMachineTakes", spec := "fnExactMachineTakes", unfollowed := true, recurses := true, apart := false }
def FnExactMachineTakesSaid : Prop := fnExactMachineTakesRow.holds Try.pinned (OpenSpec.ofChange fnExactMachineTakesSpec)

/-- ITS FALSE NEIGHBOUR: 'it returns false'. Refute it at one input. -/
def fnExactMachineTakesWrong : ChangeSpec := { name := "fnExactMachineTakes", fn := fun _ => fun
  | [d1, d2] => { results := [.lit (.bool false)], args := [d1, d2] }
  | _ => none }
def FnExactMachineTakesWrongFalsely : Prop := fnExactMachineTakesRow.holds Try.pinned (OpenSpec.ofChange fnExactMachineTakesWrong)

/- THE SECOND FORM. 'bulk': how many values and letters a reading holds, each counted each time it is reached (what is shared counts as often as it is met; a slice's spare places count too). A statement '..UptoSaid' is the law's where the arguments, and the package variables that the reading takes, are together of bulk at most 1048576: NARROWER than '..Said'. Prove '..Said' where nothing that the law and all that it calls make is longer than what came in: it says more and counts as full. Else prove '..UptoSaid'. A law counts once. -/
mutual
def uptoBulk {H : Type} : DataW H → Nat
  | .lit (.string bytes) => bytes.length + 1
  | .lit _ => 1
  | .nil => 1
  | .ptr d => uptoBulk d + 1
  | .slice elems spare => uptoBulkAll elems + uptoBulkAll spare + 1
  | .agg parts => uptoBulkAll parts + 1
  | .iface _ d => uptoBulk d + 1
  | .map entries => uptoBulkEntries entries + 1
  | .held _ => 1
def uptoBulkAll {H : Type} : List (DataW H) → Nat
  | [] => 0
  | d :: r => uptoBulk d + uptoBulkAll r
def uptoBulkEntries {H : Type} : List (Lit × DataW H) → Nat
  | [] => 0
  | x :: r => uptoBulkEntry x + uptoBulkEntries r
def uptoBulkEntry {H : Type} : Lit × DataW H → Nat
  | (.string bytes, d) => bytes.length + uptoBulk d + 1
  | (_, d) => uptoBulk d + 1
 end
def uptoSmall : (H : Type) → List (DataW H) → Bool := fun _ ds => decide (uptoBulkAll ds ≤ 1048576)
def OpenSpec.upto (s : _root_.Go.ChangeSpec) : _root_.Go.OpenSpec := { _root_.Go.OpenSpec.ofChange s with cond := some uptoSmall }

/-- 'laws.FnExactRacesIn', WHERE WHAT IT READS IS OF BULK AT MOST 1048576: true; the input reads as it did. -/
def fnExactRacesInUptoRow : OpenClaim := { program := "ytcgfhjglalhjjaa", sum := "4fb87d383ecc9ed6054a62b60bf27b117d50cb1af1187517b3568beb0fda4251", func := "loop.example/g00758/laws.FnExactRacesIn", spec := "fnExactRacesIn", unfollowed := true, recurses := true, apart := false, narrowed := true }
def FnExactRacesInUptoSaid : Prop := fnExactRacesInUptoRow.holds Try.pinned (OpenSpec.upto fnExactRacesInSpec)

/-- 'laws.FnExactEdgesOf', WHERE WHAT IT READS IS OF BULK AT MOST 1048576: true; the input reads as it did. -/
def fnExactEdgesOfUptoRow : OpenClaim := { program := "ytcgfhjglalhjjaa", sum := "4fb87d383ecc9ed6054a62b60bf27b117d50cb1af1187517b3568beb0fda4251", func := "loop.example/g00758/laws.FnExactEdgesOf", spec := "fnExactEdgesOf", apart := false, narrowed := true }
def FnExactEdgesOfUptoSaid : Prop := fnExactEdgesOfUptoRow.holds Try.pinned (OpenSpec.upto fnExactEdgesOfSpec)

/-- 'laws.FnExactTreeOfRight', WHERE WHAT IT READS IS OF BULK AT MOST 1048576: true; the input reads as it did. -/
def fnExactTreeOfRightUptoRow : OpenClaim := { program := "ytcgfhjglalhjjaa", sum := "4fb87d383ecc9ed6054a62b60bf27b117d50cb1af1187517b3568beb0fda4251", func := "loop.example/g00758/laws.FnExactTreeOfRight", spec := "fnExactTreeOfRight", unfollowed := true, recurses := true, apart := false, narrowed := true }
def FnExactTreeOfRightUptoSaid : Prop := fnExactTreeOfRightUptoRow.holds Try.pinned (OpenSpec.upto fnExactTreeOfRightSpec)

/-- 'laws.FnExactReadTree', WHERE WHAT IT READS IS OF BULK AT MOST 1048576: true; the input reads as it did. -/
def fnExactReadTreeUptoRow : OpenClaim := { program := "ytcgfhjglalhjjaa", sum := "4fb87d383ecc9ed6054a62b60bf27b117d50cb1af1187517b3568beb0fda4251", func := "loop.example/g00758/laws.FnExactReadTree", spec := "fnExactReadTree", inPlace := ["internal/bytealg.IndexByteString"], unfollowed := true, recurses := true, apart := false, narrowed := true }
def FnExactReadTreeUptoSaid : Prop := fnExactReadTreeUptoRow.holds Try.pinned (OpenSpec.upto fnExactReadTreeSpec)

/-- 'laws.FnExactGrammarFrom', WHERE WHAT IT READS IS OF BULK AT MOST 1048576: true; the input reads as it did. -/
def fnExactGrammarFromUptoRow : OpenClaim := { program := "ytcgfhjglalhjjaa", sum := "4fb87d383ecc9ed6054a62b60bf27b117d50cb1af1187517b3568beb0fda4251", func := "loop.example/g00758/laws.FnExactGrammarFrom", spec := "fnExactGrammarFrom", unfollowed := true, recurses := true, apart := false, narrowed := true }
def FnExactGrammarFromUptoSaid : Prop := fnExactGrammarFromUptoRow.holds Try.pinned (OpenSpec.upto fnExactGrammarFromSpec)

/-- 'laws.FnExactMachineTakes', WHERE WHAT IT READS IS OF BULK AT MOST 1048576: true; the input reads as it did. -/
def fnExactMachineTakesUptoRow : OpenClaim := { program := "ytcgfhjglalhjjaa", sum := "4fb87d383ecc9ed6054a62b60bf27b117d50cb1af1187517b3568beb0fda4251", func := "loop.example/g00758/laws.FnExactMachineTakes", spec := "fnExactMachineTakes", unfollowed := true, recurses := true, apart := false, narrowed := true }
def FnExactMachineTakesUptoSaid : Prop := fnExactMachineTakesUptoRow.holds Try.pinned (OpenSpec.upto fnExactMachineTakesSpec)

end Rows
end Go.Proofs.Ytcgfhjglalhjjaa
