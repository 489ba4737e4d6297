/-
  No cell of these rows narrows 'for every input' (looked for: loops, veiled, ifaces, maps, wideKeys, modest, calm, conditions, laid).
  DERIVED. THE GIVEN ROWS OF THIS SEAT. 5 by the template 'for every input the law returns true; each argument reads behind the call as it read before'; 0 by the template 'total and deterministic' (their statements: YtkolhcoeifghpaaGreatTotals.lean).
  GIVEN WITH THE SEED: the statements are not yours to turn. If you find one false, say at which input.
  Laid BY PROGRAM, IN A SANDBOX (cutbox-rows.mjs): the forced cells as the released guide's own fill.sh prints them over the translation da5140b3ae47a620… (all of the seat's roots in one cut). By AI agents, Wed Nov 11 2026. No macro, syntax, notation, axiom, sorry.
-/
import Derived.Test.YtkolhcoeifghpaaGreatChecked
import GoSem.Claim
import GoSem.ClaimJoined
import GoSem.ClaimMapViews
import Derived.JoinedTies
import Derived.KernelRfl
namespace Go.Proofs.YtkolhcoeifghpaaGreat
/- THE CELL 'sum', in the pinned program and in every row, IS THE sha256 OF THE DUMP (.gsa) THAT YtkolhcoeifghpaaGreatProg.lean LOADS. Nothing in Lean hashes anything: it is a label: what it is worth is what the hold of that sum in a sandbox is worth. -/
noncomputable def Tryz.pinned : Pinned := { name := "ytkolhcoeifghpaagreat", sum := "da5140b3ae47a6205b1b3f979a41d88668afedd9834c09a237ad662a36fc6ab3", checked := Tryz.checked }
namespace Rows
def none {H : Type} : Left H := { results := [], args := [] }

/-- 'laws.FnExactParseBehind': WHATEVER THE INPUT: true; the input reads as it did. -/
def fnExactParseBehindSpec : ChangeSpec := { name := "fnExactParseBehind", fn := fun _ => fun
  | [d1, d2] => { results := [.lit (.bool true)], args := [d1, d2] }
  | _ => none }
def fnExactParseBehindRow : OpenClaim := { program := "ytkolhcoeifghpaagreat", sum := "da5140b3ae47a6205b1b3f979a41d88668afedd9834c09a237ad662a36fc6ab3", func := "loop.example/g00758/laws.FnExactParseBehind", spec := "fnExactParseBehind", unfollowed := true, recurses := true, apart := false }
def FnExactParseBehindSaid : Prop := fnExactParseBehindRow.holds Tryz.pinned (OpenSpec.ofChange fnExactParseBehindSpec)

/-- ITS FALSE NEIGHBOUR: 'it returns false'. Refute it at one input. -/
def fnExactParseBehindWrong : ChangeSpec := { name := "fnExactParseBehind", fn := fun _ => fun
  | [d1, d2] => { results := [.lit (.bool false)], args := [d1, d2] }
  | _ => none }
def FnExactParseBehindWrongFalsely : Prop := fnExactParseBehindRow.holds Tryz.pinned (OpenSpec.ofChange fnExactParseBehindWrong)

/-- 'laws.FnExactShiftsIn': WHATEVER THE INPUT: true; the input reads as it did. -/
def fnExactShiftsInSpec : ChangeSpec := { name := "fnExactShiftsIn", fn := fun _ => fun
  | [d1, d2, d3] => { results := [.lit (.bool true)], args := [d1, d2, d3] }
  | _ => none }
def fnExactShiftsInRow : OpenClaim := { program := "ytkolhcoeifghpaagreat", sum := "da5140b3ae47a6205b1b3f979a41d88668afedd9834c09a237ad662a36fc6ab3", func := "loop.example/g00758/laws.FnExactShiftsIn", spec := "fnExactShiftsIn", unfollowed := true, recurses := true, apart := false }
def FnExactShiftsInSaid : Prop := fnExactShiftsInRow.holds Tryz.pinned (OpenSpec.ofChange fnExactShiftsInSpec)

/-- ITS FALSE NEIGHBOUR: 'it returns false'. Refute it at one input. -/
def fnExactShiftsInWrong : ChangeSpec := { name := "fnExactShiftsIn", fn := fun _ => fun
  | [d1, d2, d3] => { results := [.lit (.bool false)], args := [d1, d2, d3] }
  | _ => none }
def FnExactShiftsInWrongFalsely : Prop := fnExactShiftsInRow.holds Tryz.pinned (OpenSpec.ofChange fnExactShiftsInWrong)

/-- 'laws.FnExactEndsIn': WHATEVER THE INPUT: true; the input reads as it did. -/
def fnExactEndsInSpec : ChangeSpec := { name := "fnExactEndsIn", fn := fun _ => fun
  | [d1, d2, d3] => { results := [.lit (.bool true)], args := [d1, d2, d3] }
  | _ => none }
def fnExactEndsInRow : OpenClaim := { program := "ytkolhcoeifghpaagreat", sum := "da5140b3ae47a6205b1b3f979a41d88668afedd9834c09a237ad662a36fc6ab3", func := "loop.example/g00758/laws.FnExactEndsIn", spec := "fnExactEndsIn", unfollowed := true, recurses := true, apart := false }
def FnExactEndsInSaid : Prop := fnExactEndsInRow.holds Tryz.pinned (OpenSpec.ofChange fnExactEndsInSpec)

/-- ITS FALSE NEIGHBOUR: 'it returns false'. Refute it at one input. -/
def fnExactEndsInWrong : ChangeSpec := { name := "fnExactEndsIn", fn := fun _ => fun
  | [d1, d2, d3] => { results := [.lit (.bool false)], args := [d1, d2, d3] }
  | _ => none }
def FnExactEndsInWrongFalsely : Prop := fnExactEndsInRow.holds Tryz.pinned (OpenSpec.ofChange fnExactEndsInWrong)

/-- 'laws.FnExactIsBehind': WHATEVER THE INPUT: true; the input reads as it did. -/
def fnExactIsBehindSpec : ChangeSpec := { name := "fnExactIsBehind", fn := fun _ => fun
  | [d] => { results := [.lit (.bool true)], args := [d] }
  | _ => none }
def fnExactIsBehindRow : OpenClaim := { program := "ytkolhcoeifghpaagreat", sum := "da5140b3ae47a6205b1b3f979a41d88668afedd9834c09a237ad662a36fc6ab3", func := "loop.example/g00758/laws.FnExactIsBehind", spec := "fnExactIsBehind", unfollowed := true, recurses := true, apart := false }
def FnExactIsBehindSaid : Prop := fnExactIsBehindRow.holds Tryz.pinned (OpenSpec.ofChange fnExactIsBehindSpec)

/-- ITS FALSE NEIGHBOUR: 'it returns false'. Refute it at one input. -/
def fnExactIsBehindWrong : ChangeSpec := { name := "fnExactIsBehind", fn := fun _ => fun
  | [d] => { results := [.lit (.bool false)], args := [d] }
  | _ => none }
def FnExactIsBehindWrongFalsely : Prop := fnExactIsBehindRow.holds Tryz.pinned (OpenSpec.ofChange fnExactIsBehindWrong)

/-- 'laws.FnExactLrClashes': WHATEVER THE INPUT: true; the input reads as it did. -/
def fnExactLrClashesSpec : ChangeSpec := { name := "fnExactLrClashes", fn := fun _ => fun
  | [d] => { results := [.lit (.bool true)], args := [d] }
  | _ => none }
def fnExactLrClashesRow : OpenClaim := { program := "ytkolhcoeifghpaagreat", sum := "da5140b3ae47a6205b1b3f979a41d88668afedd9834c09a237ad662a36fc6ab3", func := "loop.example/g00758/laws.FnExactLrClashes", spec := "fnExactLrClashes", unfollowed := true, recurses := true, apart := false }
def FnExactLrClashesSaid : Prop := fnExactLrClashesRow.holds Tryz.pinned (OpenSpec.ofChange fnExactLrClashesSpec)

/-- ITS FALSE NEIGHBOUR: 'it returns false'. Refute it at one input. -/
def fnExactLrClashesWrong : ChangeSpec := { name := "fnExactLrClashes", fn := fun _ => fun
  | [d] => { results := [.lit (.bool false)], args := [d] }
  | _ => none }
def FnExactLrClashesWrongFalsely : Prop := fnExactLrClashesRow.holds Tryz.pinned (OpenSpec.ofChange fnExactLrClashesWrong)

/- THE SECOND FORM. 'bulk': how many values and letters a reading holds, each counted each time it is reached (what is shared counts as often as it is met; a slice's spare places count too). A statement '..UptoSaid' is the law's where the arguments, and the package variables that the reading takes, are together of bulk at most 1048576: NARROWER than '..Said'. Prove '..Said' where nothing that the law and all that it calls make is longer than what came in: it says more and counts as full. Else prove '..UptoSaid'. A law counts once. -/
mutual
def uptoBulk {H : Type} : DataW H → Nat
  | .lit (.string bytes) => bytes.length + 1
  | .lit _ => 1
  | .nil => 1
  | .ptr d => uptoBulk d + 1
  | .slice elems spare => uptoBulkAll elems + uptoBulkAll spare + 1
  | .agg parts => uptoBulkAll parts + 1
  | .iface _ d => uptoBulk d + 1
  | .map entries => uptoBulkEntries entries + 1
  | .held _ => 1
def uptoBulkAll {H : Type} : List (DataW H) → Nat
  | [] => 0
  | d :: r => uptoBulk d + uptoBulkAll r
def uptoBulkEntries {H : Type} : List (Lit × DataW H) → Nat
  | [] => 0
  | x :: r => uptoBulkEntry x + uptoBulkEntries r
def uptoBulkEntry {H : Type} : Lit × DataW H → Nat
  | (.string bytes, d) => bytes.length + uptoBulk d + 1
  | (_, d) => uptoBulk d + 1
 end
def uptoSmall : (H : Type) → List (DataW H) → Bool := fun _ ds => decide (uptoBulkAll ds ≤ 1048576)
def OpenSpec.upto (s : _root_.Go.ChangeSpec) : _root_.Go.OpenSpec := { _root_.Go.OpenSpec.ofChange s with cond := some uptoSmall }

/-- 'laws.FnExactParseBehind', WHERE WHAT IT READS IS OF BULK AT MOST 1048576: true; the input reads as it did. -/
def fnExactParseBehindUptoRow : OpenClaim := { program := "ytkolhcoeifghpaagreat", sum := "da5140b3ae47a6205b1b3f979a41d88668afedd9834c09a237ad662a36fc6ab3", func := "loop.example/g00758/laws.FnExactParseBehind", spec := "fnExactParseBehind", unfollowed := true, recurses := true, apart := false, narrowed := true }
def FnExactParseBehindUptoSaid : Prop := fnExactParseBehindUptoRow.holds Tryz.pinned (OpenSpec.upto fnExactParseBehindSpec)

/-- 'laws.FnExactShiftsIn', WHERE WHAT IT READS IS OF BULK AT MOST 1048576: true; the input reads as it did. -/
def fnExactShiftsInUptoRow : OpenClaim := { program := "ytkolhcoeifghpaagreat", sum := "da5140b3ae47a6205b1b3f979a41d88668afedd9834c09a237ad662a36fc6ab3", func := "loop.example/g00758/laws.FnExactShiftsIn", spec := "fnExactShiftsIn", unfollowed := true, recurses := true, apart := false, narrowed := true }
def FnExactShiftsInUptoSaid : Prop := fnExactShiftsInUptoRow.holds Tryz.pinned (OpenSpec.upto fnExactShiftsInSpec)

/-- 'laws.FnExactEndsIn', WHERE WHAT IT READS IS OF BULK AT MOST 1048576: true; the input reads as it did. -/
def fnExactEndsInUptoRow : OpenClaim := { program := "ytkolhcoeifghpaagreat", sum := "da5140b3ae47a6205b1b3f979a41d88668afedd9834c09a237ad662a36fc6ab3", func := "loop.example/g00758/laws.FnExactEndsIn", spec := "fnExactEndsIn", unfollowed := true, recurses := true, apart := false, narrowed := true }
def FnExactEndsInUptoSaid : Prop := fnExactEndsInUptoRow.holds Tryz.pinned (OpenSpec.upto fnExactEndsInSpec)

/-- 'laws.FnExactIsBehind', WHERE WHAT IT READS IS OF BULK AT MOST 1048576: true; the input reads as it did. -/
def fnExactIsBehindUptoRow : OpenClaim := { program := "ytkolhcoeifghpaagreat", sum := "da5140b3ae47a6205b1b3f979a41d88668afedd9834c09a237ad662a36fc6ab3", func := "loop.example/g00758/laws.FnExactIsBehind", spec := "fnExactIsBehind", unfollowed := true, recurses := true, apart := false, narrowed := true }
def FnExactIsBehindUptoSaid : Prop := fnExactIsBehindUptoRow.holds Tryz.pinned (OpenSpec.upto fnExactIsBehindSpec)

/-- 'laws.FnExactLrClashes', WHERE WHAT IT READS IS OF BULK AT MOST 1048576: true; the input reads as it did. -/
def fnExactLrClashesUptoRow : OpenClaim := { program := "ytkolhcoeifghpaagreat", sum := "da5140b3ae47a6205b1b3f979a41d88668afedd9834c09a237ad662a36fc6ab3", func := "loop.example/g00758/laws.FnExactLrClashes", spec := "fnExactLrClashes", unfollowed := true, recurses := true, apart := false, narrowed := true }
def FnExactLrClashesUptoSaid : Prop := fnExactLrClashesUptoRow.holds Tryz.pinned (OpenSpec.upto fnExactLrClashesSpec)

end Rows
end Go.Proofs.YtkolhcoeifghpaaGreat
