/- Walks of the laws' helpers: forests, whole; their size. -/
import Derived.Test.YtaiefncpgkoniaaWc
namespace Go.Proofs.Ytaiefncpgkoniaa.En
open Go.RowKit
set_option linter.unusedSimpArgs false
set_option linter.unusedVariables false
set_option maxHeartbeats 4000000
def forest (ns : List Node3) (es : List Edge3) : AV := .ag [.im 3 (nodes ns), .im 3 (edges es)]

theorem less_in {n : Int} {k : Nat} (h1 : n ≤ 1048576) : -1 ≤ less n k ∧ less n k ≤ 1048576 := by
  unfold less; split <;> omega
theorem less_of {n : Int} {k : Nat} (h : 0 ≤ less n k) : (k : Int) ≤ n ∧ less n k = n - k := by
  unfold less at h ⊢; split at h
  · omega
  · rename_i h'; rw [if_neg h']; omega
def szEs (n : Int) : List Edge3 → Int
  | [] => n
  | e :: es => if less n e.2.2.length < 0 then -1 else szEs (less n e.2.2.length) es
def szEsAll (n : Int) (es : List Edge3) : Int := if n - es.length < 0 then -1 else szEs (n - es.length) es
def szF (n : Int) (ns : List Node3) (es : List Edge3) : Int := if less n ns.length < 0 then -1 else szEsAll (less n ns.length) es
theorem szEs_in (es : List Edge3) : ∀ n : Int, -1 ≤ n → n ≤ 1048576 → -1 ≤ szEs n es ∧ szEs n es ≤ 1048576 := by
  induction es with
  | nil => intro n h0 h1; exact ⟨h0, h1⟩
  | cons e es ih =>
    intro n h0 h1
    unfold szEs
    split
    · omega
    · exact ih _ (less_in h1).1 (less_in h1).2
theorem szEsAll_in (es : List Edge3) {n : Int} (h0 : -1 ≤ n) (h1 : n ≤ 1048576) : -1 ≤ szEsAll n es ∧ szEsAll n es ≤ 1048576 := by
  unfold szEsAll
  split
  · omega
  · exact szEs_in es _ (by omega) (by omega)
theorem szF_in (ns : List Node3) (es : List Edge3) {n : Int} (h1 : n ≤ 1048576) : -1 ≤ szF n ns es ∧ szF n ns es ≤ 1048576 := by
  unfold szF
  split
  · omega
  · exact szEsAll_in es (less_in h1).1 (less_in h1).2
end Go.Proofs.Ytaiefncpgkoniaa.En
