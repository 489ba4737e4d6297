/- Walks of IsWave: the specification's steps. -/
import Derived.Test.YtaiefncpgkoniaaWp
namespace Go.Proofs.Ytaiefncpgkoniaa.En
open Go.RowKit
set_option linter.unusedSimpArgs false
set_option linter.unusedVariables false
set_option maxHeartbeats 4000000
def stepS (n long : Nat) (hs : List (Nat × Bool)) (k : Nat) : DoneT × List (Nat × Bool) :=
  let h := hs.getD k (0, false)
  if k + h.1 * hs.length + long ≤ n then ((k, 1, (k : Int) + h.1 * hs.length, (k : Int) + h.1 * hs.length + long), hs.set k (h.1 + 1, h.2))
  else ((k, 2, 0, long), hs.set k (h.1, true))
/-- All wait: all go on. -/
def goLong (long : Nat) (hs : List (Nat × Bool)) : Nat := if hs.all (·.2) then long + 1 else long
def goHs (hs : List (Nat × Bool)) : List (Nat × Bool) := if hs.all (·.2) then hs.map fun _ => (0, false) else hs
end Go.Proofs.Ytaiefncpgkoniaa.En
