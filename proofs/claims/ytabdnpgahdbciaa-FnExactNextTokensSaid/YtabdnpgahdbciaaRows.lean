/-
  No cell of these rows narrows 'for every input' (looked for: loops, veiled, ifaces, maps, wideKeys, modest, calm, conditions, laid).
  DERIVED. THE GIVEN ROWS OF THIS SEAT. 5 by the template 'for every input the law returns true; each argument reads behind the call as it read before'; 0 by the template 'total and deterministic' (their statements: YtabdnpgahdbciaaTotals.lean).
  GIVEN WITH THE SEED: the statements are not yours to turn. If you find one false, say at which input.
  Laid BY PROGRAM, IN A SANDBOX (cutbox-rows.mjs): the forced cells as the released guide's own fill.sh prints them over the translation 73da0d47a372ec2a… (all of the seat's roots in one cut). By AI agents, Wed Nov 11 2026. No macro, syntax, notation, axiom, sorry.
-/
import Derived.Test.YtabdnpgahdbciaaChecked
import GoSem.Claim
import GoSem.ClaimJoined
import GoSem.ClaimMapViews
import Derived.JoinedTies
import Derived.KernelRfl
namespace Go.Proofs.Ytabdnpgahdbciaa
/- THE CELL 'sum', in the pinned program and in every row, IS THE sha256 OF THE DUMP (.gsa) THAT YtabdnpgahdbciaaProg.lean LOADS. Nothing in Lean hashes anything: it is a label: what it is worth is what the hold of that sum in a sandbox is worth. -/
noncomputable def Try.pinned : Pinned := { name := "ytabdnpgahdbciaa", sum := "73da0d47a372ec2ae7d49185cb9f6198c4a559156459ab80e5c97a53c11f3711", checked := Try.checked }
namespace Rows
def none {H : Type} : Left H := { results := [], args := [] }

/-- 'laws.FnExactEarleyAccepts': WHATEVER THE INPUT: true; the input reads as it did. -/
def fnExactEarleyAcceptsSpec : ChangeSpec := { name := "fnExactEarleyAccepts", fn := fun _ => fun
  | [d1, d2] => { results := [.lit (.bool true)], args := [d1, d2] }
  | _ => none }
def fnExactEarleyAcceptsRow : OpenClaim := { program := "ytabdnpgahdbciaa", sum := "73da0d47a372ec2ae7d49185cb9f6198c4a559156459ab80e5c97a53c11f3711", func := "loop.example/g00758/laws.FnExactEarleyAccepts", spec := "fnExactEarleyAccepts", unfollowed := true, recurses := true, apart := false }
def FnExactEarleyAcceptsSaid : Prop := fnExactEarleyAcceptsRow.holds Try.pinned (OpenSpec.ofChange fnExactEarleyAcceptsSpec)

/-- ITS FALSE NEIGHBOUR: 'it returns false'. Refute it at one input. -/
def fnExactEarleyAcceptsWrong : ChangeSpec := { name := "fnExactEarleyAccepts", fn := fun _ => fun
  | [d1, d2] => { results := [.lit (.bool false)], args := [d1, d2] }
  | _ => none }
def FnExactEarleyAcceptsWrongFalsely : Prop := fnExactEarleyAcceptsRow.holds Try.pinned (OpenSpec.ofChange fnExactEarleyAcceptsWrong)

/-- 'laws.FnExactCanBegin': WHATEVER THE INPUT: true; the input reads as it did. -/
def fnExactCanBeginSpec : ChangeSpec := { name := "fnExactCanBegin", fn := fun _ => fun
  | [d1, d2] => { results := [.lit (.bool true)], args := [d1, d2] }
  | _ => none }
def fnExactCanBeginRow : OpenClaim := { program := "ytabdnpgahdbciaa", sum := "73da0d47a372ec2ae7d49185cb9f6198c4a559156459ab80e5c97a53c11f3711", func := "loop.example/g00758/laws.FnExactCanBegin", spec := "fnExactCanBegin", unfollowed := true, recurses := true, apart := false }
def FnExactCanBeginSaid : Prop := fnExactCanBeginRow.holds Try.pinned (OpenSpec.ofChange fnExactCanBeginSpec)

/-- ITS FALSE NEIGHBOUR: 'it returns false'. Refute it at one input. -/
def fnExactCanBeginWrong : ChangeSpec := { name := "fnExactCanBegin", fn := fun _ => fun
  | [d1, d2] => { results := [.lit (.bool false)], args := [d1, d2] }
  | _ => none }
def FnExactCanBeginWrongFalsely : Prop := fnExactCanBeginRow.holds Try.pinned (OpenSpec.ofChange fnExactCanBeginWrong)

/-- 'laws.FnExactFirstWrong': WHATEVER THE INPUT: true; the input reads as it did. -/
def fnExactFirstWrongSpec : ChangeSpec := { name := "fnExactFirstWrong", fn := fun _ => fun
  | [d1, d2] => { results := [.lit (.bool true)], args := [d1, d2] }
  | _ => none }
def fnExactFirstWrongRow : OpenClaim := { program := "ytabdnpgahdbciaa", sum := "73da0d47a372ec2ae7d49185cb9f6198c4a559156459ab80e5c97a53c11f3711", func := "loop.example/g00758/laws.FnExactFirstWrong", spec := "fnExactFirstWrong", unfollowed := true, recurses := true, apart := false }
def FnExactFirstWrongSaid : Prop := fnExactFirstWrongRow.holds Try.pinned (OpenSpec.ofChange fnExactFirstWrongSpec)

/-- ITS FALSE NEIGHBOUR: 'it returns false'. Refute it at one input. -/
def fnExactFirstWrongWrong : ChangeSpec := { name := "fnExactFirstWrong", fn := fun _ => fun
  | [d1, d2] => { results := [.lit (.bool false)], args := [d1, d2] }
  | _ => none }
def FnExactFirstWrongWrongFalsely : Prop := fnExactFirstWrongRow.holds Try.pinned (OpenSpec.ofChange fnExactFirstWrongWrong)

/-- 'laws.FnExactItemsAt': WHATEVER THE INPUT: true; the input reads as it did. -/
def fnExactItemsAtSpec : ChangeSpec := { name := "fnExactItemsAt", fn := fun _ => fun
  | [d1, d2, d3] => { results := [.lit (.bool true)], args := [d1, d2, d3] }
  | _ => none }
def fnExactItemsAtRow : OpenClaim := { program := "ytabdnpgahdbciaa", sum := "73da0d47a372ec2ae7d49185cb9f6198c4a559156459ab80e5c97a53c11f3711", func := "loop.example/g00758/laws.FnExactItemsAt", spec := "fnExactItemsAt", unfollowed := true, recurses := true, apart := false }
def FnExactItemsAtSaid : Prop := fnExactItemsAtRow.holds Try.pinned (OpenSpec.ofChange fnExactItemsAtSpec)

/-- ITS FALSE NEIGHBOUR: 'it returns false'. Refute it at one input. -/
def fnExactItemsAtWrong : ChangeSpec := { name := "fnExactItemsAt", fn := fun _ => fun
  | [d1, d2, d3] => { results := [.lit (.bool false)], args := [d1, d2, d3] }
  | _ => none }
def FnExactItemsAtWrongFalsely : Prop := fnExactItemsAtRow.holds Try.pinned (OpenSpec.ofChange fnExactItemsAtWrong)

/-- 'laws.FnExactNextTokens': WHATEVER THE INPUT: true; the input reads as it did. -/
def fnExactNextTokensSpec : ChangeSpec := { name := "fnExactNextTokens", fn := fun _ => fun
  | [d1, d2] => { results := [.lit (.bool true)], args := [d1, d2] }
  | _ => none }
def fnExactNextTokensRow : OpenClaim := { program := "ytabdnpgahdbciaa", sum := "73da0d47a372ec2ae7d49185cb9f6198c4a559156459ab80e5c97a53c11f3711", func := "loop.example/g00758/laws.FnExactNextTokens", spec := "fnExactNextTokens", unfollowed := true, recurses := true, apart := false }
def FnExactNextTokensSaid : Prop := fnExactNextTokensRow.holds Try.pinned (OpenSpec.ofChange fnExactNextTokensSpec)

/-- ITS FALSE NEIGHBOUR: 'it returns false'. Refute it at one input. -/
def fnExactNextTokensWrong : ChangeSpec := { name := "fnExactNextTokens", fn := fun _ => fun
  | [d1, d2] => { results := [.lit (.bool false)], args := [d1, d2] }
  | _ => none }
def FnExactNextTokensWrongFalsely : Prop := fnExactNextTokensRow.holds Try.pinned (OpenSpec.ofChange fnExactNextTokensWrong)

/- THE SECOND FORM. 'bulk': how many values and letters a reading holds, each counted each time it is reached (what is shared counts as often as it is met; a slice's spare places count too). A statement '..UptoSaid' is the law's where the arguments, and the package variables that the reading takes, are together of bulk at most 1048576: NARROWER than '..Said'. Prove '..Said' where nothing that the law and all that it calls make is longer than what came in: it says more and counts as full. Else prove '..UptoSaid'. A law counts once. -/
mutual
def uptoBulk {H : Type} : DataW H → Nat
  | .lit (.string bytes) => bytes.length + 1
  | .lit _ => 1
  | .nil => 1
  | .ptr d => uptoBulk d + 1
  | .slice elems spare => uptoBulkAll elems + uptoBulkAll spare + 1
  | .agg parts => uptoBulkAll parts + 1
  | .iface _ d => uptoBulk d + 1
  | .map entries => uptoBulkEntries entries + 1
  | .held _ => 1
def uptoBulkAll {H : Type} : List (DataW H) → Nat
  | [] => 0
  | d :: r => uptoBulk d + uptoBulkAll r
def uptoBulkEntries {H : Type} : List (Lit × DataW H) → Nat
  | [] => 0
  | x :: r => uptoBulkEntry x + uptoBulkEntries r
def uptoBulkEntry {H : Type} : Lit × DataW H → Nat
  | (.string bytes, d) => bytes.length + uptoBulk d + 1
  | (_, d) => uptoBulk d + 1
 end
def uptoSmall : (H : Type) → List (DataW H) → Bool := fun _ ds => decide (uptoBulkAll ds ≤ 1048576)
def OpenSpec.upto (s : _root_.Go.ChangeSpec) : _root_.Go.OpenSpec := { _root_.Go.OpenSpec.ofChange s with cond := some uptoSmall }

/-- 'laws.FnExactEarleyAccepts', WHERE WHAT IT READS IS OF BULK AT MOST 1048576: true; the input reads as it did. -/
def fnExactEarleyAcceptsUptoRow : OpenClaim := { program := "ytabdnpgahdbciaa", sum := "73da0d47a372ec2ae7d49185cb9f6198c4a559156459ab80e5c97a53c11f3711", func := "loop.example/g00758/laws.FnExactEarleyAccepts", spec := "fnExactEarleyAccepts", unfollowed := true, recurses := true, apart := false, narrowed := true }
def FnExactEarleyAcceptsUptoSaid : Prop := fnExactEarleyAcceptsUptoRow.holds Try.pinned (OpenSpec.upto fnExactEarleyAcceptsSpec)

/-- 'laws.FnExactCanBegin', WHERE WHAT IT READS IS OF BULK AT MOST 1048576: true; the input reads as it did. -/
def fnExactCanBeginUptoRow : OpenClaim := { program := "ytabdnpgahdbciaa", sum := "73da0d47a372ec2ae7d49185cb9f6198c4a559156459ab80e5c97a53c11f3711", func := "loop.example/g00758/laws.FnExactCanBegin", spec := "fnExactCanBegin", unfollowed := true, recurses := true, apart := false, narrowed := true }
def FnExactCanBeginUptoSaid : Prop := fnExactCanBeginUptoRow.holds Try.pinned (OpenSpec.upto fnExactCanBeginSpec)

/-- 'laws.FnExactFirstWrong', WHERE WHAT IT READS IS OF BULK AT MOST 1048576: true; the input reads as it did. -/
def fnExactFirstWrongUptoRow : OpenClaim := { program := "ytabdnpgahdbciaa", sum := "73da0d47a372ec2ae7d49185cb9f6198c4a559156459ab80e5c97a53c11f3711", func := "loop.example/g00758/laws.FnExactFirstWrong", spec := "fnExactFirstWrong", unfollowed := true, recurses := true, apart := false, narrowed := true }
def FnExactFirstWrongUptoSaid : Prop := fnExactFirstWrongUptoRow.holds Try.pinned (OpenSpec.upto fnExactFirstWrongSpec)

/-- 'laws.FnExactItemsAt', WHERE WHAT IT READS IS OF BULK AT MOST 1048576: true; the input reads as it did. -/
def fnExactItemsAtUptoRow : OpenClaim := { program := "ytabdnpgahdbciaa", sum := "73da0d47a372ec2ae7d49185cb9f6198c4a559156459ab80e5c97a53c11f3711", func := "loop.example/g00758/laws.FnExactItemsAt", spec := "fnExactItemsAt", unfollowed := true, recurses := true, apart := false, narrowed := true }
def FnExactItemsAtUptoSaid : Prop := fnExactItemsAtUptoRow.holds Try.pinned (OpenSpec.upto fnExactItemsAtSpec)

/-- 'laws.FnExactNextTokens', WHERE WHAT IT READS IS OF BULK AT MOST 1048576: true; the input reads as it did. -/
def fnExactNextTokensUptoRow : OpenClaim := { program := "ytabdnpgahdbciaa", sum := "73da0d47a372ec2ae7d49185cb9f6198c4a559156459ab80e5c97a53c11f3711", func := "loop.example/g00758/laws.FnExactNextTokens", spec := "fnExactNextTokens", unfollowed := true, recurses := true, apart := false, narrowed := true }
def FnExactNextTokensUptoSaid : Prop := fnExactNextTokensUptoRow.holds Try.pinned (OpenSpec.upto fnExactNextTokensSpec)

end Rows
end Go.Proofs.Ytabdnpgahdbciaa
