/-
  No cell of these rows narrows 'for every input' (looked for: loops, veiled, ifaces, maps, wideKeys, modest, calm, conditions, laid).
  DERIVED. THE GIVEN ROWS OF THIS SEAT. 6 by the template 'for every input the law returns true; each argument reads behind the call as it read before'; 0 by the template 'total and deterministic' (their statements: YtenienncgjanpaaTotals.lean).
  GIVEN WITH THE SEED: the statements are not yours to turn. If you find one false, say at which input.
  Laid BY PROGRAM, IN A SANDBOX (cutbox-rows.mjs): the forced cells as the released guide's own fill.sh prints them over the translation 5cc8c1d601bfbeef… (all of the seat's roots in one cut). By AI agents, Wed Nov 11 2026. No macro, syntax, notation, axiom, sorry.
-/
import Derived.Test.YtenienncgjanpaaChecked
import GoSem.Claim
import GoSem.ClaimJoined
import GoSem.ClaimMapViews
import Derived.JoinedTies
import Derived.KernelRfl
namespace Go.Proofs.Ytenienncgjanpaa
/- THE CELL 'sum', in the pinned program and in every row, IS THE sha256 OF THE DUMP (.gsa) THAT YtenienncgjanpaaProg.lean LOADS. Nothing in Lean hashes anything: it is a label: what it is worth is what the hold of that sum in a sandbox is worth. -/
noncomputable def Try.pinned : Pinned := { name := "ytenienncgjanpaa", sum := "5cc8c1d601bfbeeffe5e0881c18c4742b2c876771d4374f689ebcb50642a1c62", checked := Try.checked }
namespace Rows
def none {H : Type} : Left H := { results := [], args := [] }

/-- 'laws.FnExactFirstOf': WHATEVER THE INPUT: true; the input reads as it did. -/
def fnExactFirstOfSpec : ChangeSpec := { name := "fnExactFirstOf", fn := fun _ => fun
  | [d1, d2] => { results := [.lit (.bool true)], args := [d1, d2] }
  | _ => none }
def fnExactFirstOfRow : OpenClaim := { program := "ytenienncgjanpaa", sum := "5cc8c1d601bfbeeffe5e0881c18c4742b2c876771d4374f689ebcb50642a1c62", func := "loop.example/g00758/laws.FnExactFirstOf", spec := "fnExactFirstOf", unfollowed := true, recurses := true, apart := false }
def FnExactFirstOfSaid : Prop := fnExactFirstOfRow.holds Try.pinned (OpenSpec.ofChange fnExactFirstOfSpec)

/-- ITS FALSE NEIGHBOUR: 'it returns false'. Refute it at one input. -/
def fnExactFirstOfWrong : ChangeSpec := { name := "fnExactFirstOf", fn := fun _ => fun
  | [d1, d2] => { results := [.lit (.bool false)], args := [d1, d2] }
  | _ => none }
def FnExactFirstOfWrongFalsely : Prop := fnExactFirstOfRow.holds Try.pinned (OpenSpec.ofChange fnExactFirstOfWrong)

/-- 'laws.FnExactFollowOf': WHATEVER THE INPUT: true; the input reads as it did. -/
def fnExactFollowOfSpec : ChangeSpec := { name := "fnExactFollowOf", fn := fun _ => fun
  | [d1, d2] => { results := [.lit (.bool true)], args := [d1, d2] }
  | _ => none }
def fnExactFollowOfRow : OpenClaim := { program := "ytenienncgjanpaa", sum := "5cc8c1d601bfbeeffe5e0881c18c4742b2c876771d4374f689ebcb50642a1c62", func := "loop.example/g00758/laws.FnExactFollowOf", spec := "fnExactFollowOf", unfollowed := true, recurses := true, apart := false }
def FnExactFollowOfSaid : Prop := fnExactFollowOfRow.holds Try.pinned (OpenSpec.ofChange fnExactFollowOfSpec)

/-- ITS FALSE NEIGHBOUR: 'it returns false'. Refute it at one input. -/
def fnExactFollowOfWrong : ChangeSpec := { name := "fnExactFollowOf", fn := fun _ => fun
  | [d1, d2] => { results := [.lit (.bool false)], args := [d1, d2] }
  | _ => none }
def FnExactFollowOfWrongFalsely : Prop := fnExactFollowOfRow.holds Try.pinned (OpenSpec.ofChange fnExactFollowOfWrong)

/-- 'laws.FnExactIsOneAhead': WHATEVER THE INPUT: true; the input reads as it did. -/
def fnExactIsOneAheadSpec : ChangeSpec := { name := "fnExactIsOneAhead", fn := fun _ => fun
  | [d] => { results := [.lit (.bool true)], args := [d] }
  | _ => none }
def fnExactIsOneAheadRow : OpenClaim := { program := "ytenienncgjanpaa", sum := "5cc8c1d601bfbeeffe5e0881c18c4742b2c876771d4374f689ebcb50642a1c62", func := "loop.example/g00758/laws.FnExactIsOneAhead", spec := "fnExactIsOneAhead", unfollowed := true, recurses := true, apart := false }
def FnExactIsOneAheadSaid : Prop := fnExactIsOneAheadRow.holds Try.pinned (OpenSpec.ofChange fnExactIsOneAheadSpec)

/-- ITS FALSE NEIGHBOUR: 'it returns false'. Refute it at one input. -/
def fnExactIsOneAheadWrong : ChangeSpec := { name := "fnExactIsOneAhead", fn := fun _ => fun
  | [d] => { results := [.lit (.bool false)], args := [d] }
  | _ => none }
def FnExactIsOneAheadWrongFalsely : Prop := fnExactIsOneAheadRow.holds Try.pinned (OpenSpec.ofChange fnExactIsOneAheadWrong)

/-- 'laws.FnExactChoicesOf': WHATEVER THE INPUT: true; the input reads as it did. -/
def fnExactChoicesOfSpec : ChangeSpec := { name := "fnExactChoicesOf", fn := fun _ => fun
  | [d] => { results := [.lit (.bool true)], args := [d] }
  | _ => none }
def fnExactChoicesOfRow : OpenClaim := { program := "ytenienncgjanpaa", sum := "5cc8c1d601bfbeeffe5e0881c18c4742b2c876771d4374f689ebcb50642a1c62", func := "loop.example/g00758/laws.FnExactChoicesOf", spec := "fnExactChoicesOf", unfollowed := true, recurses := true, apart := false }
def FnExactChoicesOfSaid : Prop := fnExactChoicesOfRow.holds Try.pinned (OpenSpec.ofChange fnExactChoicesOfSpec)

/-- ITS FALSE NEIGHBOUR: 'it returns false'. Refute it at one input. -/
def fnExactChoicesOfWrong : ChangeSpec := { name := "fnExactChoicesOf", fn := fun _ => fun
  | [d] => { results := [.lit (.bool false)], args := [d] }
  | _ => none }
def FnExactChoicesOfWrongFalsely : Prop := fnExactChoicesOfRow.holds Try.pinned (OpenSpec.ofChange fnExactChoicesOfWrong)

/-- 'laws.FnExactClashesOf': WHATEVER THE INPUT: true; the input reads as it did. -/
def fnExactClashesOfSpec : ChangeSpec := { name := "fnExactClashesOf", fn := fun _ => fun
  | [d] => { results := [.lit (.bool true)], args := [d] }
  | _ => none }
def fnExactClashesOfRow : OpenClaim := { program := "ytenienncgjanpaa", sum := "5cc8c1d601bfbeeffe5e0881c18c4742b2c876771d4374f689ebcb50642a1c62", func := "loop.example/g00758/laws.FnExactClashesOf", spec := "fnExactClashesOf", unfollowed := true, recurses := true, apart := false }
def FnExactClashesOfSaid : Prop := fnExactClashesOfRow.holds Try.pinned (OpenSpec.ofChange fnExactClashesOfSpec)

/-- ITS FALSE NEIGHBOUR: 'it returns false'. Refute it at one input. -/
def fnExactClashesOfWrong : ChangeSpec := { name := "fnExactClashesOf", fn := fun _ => fun
  | [d] => { results := [.lit (.bool false)], args := [d] }
  | _ => none }
def FnExactClashesOfWrongFalsely : Prop := fnExactClashesOfRow.holds Try.pinned (OpenSpec.ofChange fnExactClashesOfWrong)

/-- 'laws.FnExactParseAhead': WHATEVER THE INPUT: true; the input reads as it did. -/
def fnExactParseAheadSpec : ChangeSpec := { name := "fnExactParseAhead", fn := fun _ => fun
  | [d1, d2] => { results := [.lit (.bool true)], args := [d1, d2] }
  | _ => none }
def fnExactParseAheadRow : OpenClaim := { program := "ytenienncgjanpaa", sum := "5cc8c1d601bfbeeffe5e0881c18c4742b2c876771d4374f689ebcb50642a1c62", func := "loop.example/g00758/laws.FnExactParseAhead", spec := "fnExactParseAhead", unfollowed := true, recurses := true, apart := false }
def FnExactParseAheadSaid : Prop := fnExactParseAheadRow.holds Try.pinned (OpenSpec.ofChange fnExactParseAheadSpec)

/-- ITS FALSE NEIGHBOUR: 'it returns false'. Refute it at one input. -/
def fnExactParseAheadWrong : ChangeSpec := { name := "fnExactParseAhead", fn := fun _ => fun
  | [d1, d2] => { results := [.lit (.bool false)], args := [d1, d2] }
  | _ => none }
def FnExactParseAheadWrongFalsely : Prop := fnExactParseAheadRow.holds Try.pinned (OpenSpec.ofChange fnExactParseAheadWrong)

/- THE SECOND FORM. 'bulk': how many values and letters a reading holds, each counted each time it is reached (what is shared counts as often as it is met; a slice's spare places count too). A statement '..UptoSaid' is the law's where the arguments, and the package variables that the reading takes, are together of bulk at most 1048576: NARROWER than '..Said'. Prove '..Said' where nothing that the law and all that it calls make is longer than what came in: it says more and counts as full. Else prove '..UptoSaid'. A law counts once. -/
mutual
def uptoBulk {H : Type} : DataW H → Nat
  | .lit (.string bytes) => bytes.length + 1
  | .lit _ => 1
  | .nil => 1
  | .ptr d => uptoBulk d + 1
  | .slice elems spare => uptoBulkAll elems + uptoBulkAll spare + 1
  | .agg parts => uptoBulkAll parts + 1
  | .iface _ d => uptoBulk d + 1
  | .map entries => uptoBulkEntries entries + 1
  | .held _ => 1
def uptoBulkAll {H : Type} : List (DataW H) → Nat
  | [] => 0
  | d :: r => uptoBulk d + uptoBulkAll r
def uptoBulkEntries {H : Type} : List (Lit × DataW H) → Nat
  | [] => 0
  | x :: r => uptoBulkEntry x + uptoBulkEntries r
def uptoBulkEntry {H : Type} : Lit × DataW H → Nat
  | (.string bytes, d) => bytes.length + uptoBulk d + 1
  | (_, d) => uptoBulk d + 1
 end
def uptoSmall : (H : Type) → List (DataW H) → Bool := fun _ ds => decide (uptoBulkAll ds ≤ 1048576)
def OpenSpec.upto (s : _root_.Go.ChangeSpec) : _root_.Go.OpenSpec := { _root_.Go.OpenSpec.ofChange s with cond := some uptoSmall }

/-- 'laws.FnExactFirstOf', WHERE WHAT IT READS IS OF BULK AT MOST 1048576: true; the input reads as it did. -/
def fnExactFirstOfUptoRow : OpenClaim := { program := "ytenienncgjanpaa", sum := "5cc8c1d601bfbeeffe5e0881c18c4742b2c876771d4374f689ebcb50642a1c62", func := "loop.example/g00758/laws.FnExactFirstOf", spec := "fnExactFirstOf", unfollowed := true, recurses := true, apart := false, narrowed := true }
def FnExactFirstOfUptoSaid : Prop := fnExactFirstOfUptoRow.holds Try.pinned (OpenSpec.upto fnExactFirstOfSpec)

/-- 'laws.FnExactFollowOf', WHERE WHAT IT READS IS OF BULK AT MOST 1048576: true; the input reads as it did. -/
def fnExactFollowOfUptoRow : OpenClaim := { program := "ytenienncgjanpaa", sum := "5cc8c1d601bfbeeffe5e0881c18c4742b2c876771d4374f689ebcb50642a1c62", func := "loop.example/g00758/laws.FnExactFollowOf", spec := "fnExactFollowOf", unfollowed := true, recurses := true, apart := false, narrowed := true }
def FnExactFollowOfUptoSaid : Prop := fnExactFollowOfUptoRow.holds Try.pinned (OpenSpec.upto fnExactFollowOfSpec)

/-- 'laws.FnExactIsOneAhead', WHERE WHAT IT READS IS OF BULK AT MOST 1048576: true; the input reads as it did. -/
def fnExactIsOneAheadUptoRow : OpenClaim := { program := "ytenienncgjanpaa", sum := "5cc8c1d601bfbeeffe5e0881c18c4742b2c876771d4374f689ebcb50642a1c62", func := "loop.example/g00758/laws.FnExactIsOneAhead", spec := "fnExactIsOneAhead", unfollowed := true, recurses := true, apart := false, narrowed := true }
def FnExactIsOneAheadUptoSaid : Prop := fnExactIsOneAheadUptoRow.holds Try.pinned (OpenSpec.upto fnExactIsOneAheadSpec)

/-- 'laws.FnExactChoicesOf', WHERE WHAT IT READS IS OF BULK AT MOST 1048576: true; the input reads as it did. -/
def fnExactChoicesOfUptoRow : OpenClaim := { program := "ytenienncgjanpaa", sum := "5cc8c1d601bfbeeffe5e0881c18c4742b2c876771d4374f689ebcb50642a1c62", func := "loop.example/g00758/laws.FnExactChoicesOf", spec := "fnExactChoicesOf", unfollowed := true, recurses := true, apart := false, narrowed := true }
def FnExactChoicesOfUptoSaid : Prop := fnExactChoicesOfUptoRow.holds Try.pinned (OpenSpec.upto fnExactChoicesOfSpec)

/-- 'laws.FnExactClashesOf', WHERE WHAT IT READS IS OF BULK AT MOST 1048576: true; the input reads as it did. -/
def fnExactClashesOfUptoRow : OpenClaim := { program := "ytenienncgjanpaa", sum := "5cc8c1d601bfbeeffe5e0881c18c4742b2c876771d4374f689ebcb50642a1c62", func := "loop.example/g00758/laws.FnExactClashesOf", spec := "fnExactClashesOf", unfollowed := true, recurses := true, apart := false, narrowed := true }
def FnExactClashesOfUptoSaid : Prop := fnExactClashesOfUptoRow.holds Try.pinned (OpenSpec.upto fnExactClashesOfSpec)

/-- 'laws.FnExactParseAhead', WHERE WHAT IT READS IS OF BULK AT MOST 1048576: true; the input reads as it did. -/
def fnExactParseAheadUptoRow : OpenClaim := { program := "ytenienncgjanpaa", sum := "5cc8c1d601bfbeeffe5e0881c18c4742b2c876771d4374f689ebcb50642a1c62", func := "loop.example/g00758/laws.FnExactParseAhead", spec := "fnExactParseAhead", unfollowed := true, recurses := true, apart := false, narrowed := true }
def FnExactParseAheadUptoSaid : Prop := fnExactParseAheadUptoRow.holds Try.pinned (OpenSpec.upto fnExactParseAheadSpec)

end Rows
end Go.Proofs.Ytenienncgjanpaa
