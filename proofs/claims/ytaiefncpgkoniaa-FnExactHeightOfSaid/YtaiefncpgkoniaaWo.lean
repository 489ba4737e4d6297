/- Walks of IsWave: the specification's parts. -/
import Derived.Test.YtaiefncpgkoniaaWn
import Derived.Test.YtaiefncpgkoniaaWi
namespace Go.Proofs.Ytaiefncpgkoniaa.En
open Go.RowKit
set_option linter.unusedSimpArgs false
set_option linter.unusedVariables false
set_option maxHeartbeats 4000000
/-- Is one of the numbers n? -/
def hasN (xs : List Int) (n : Int) : Bool := xs.contains n
theorem not_has_take {xs : List Int} {n : Int} (h : ∀ (i : Nat) (x : Int), xs[i]? = some x → x ≠ n) : hasN xs n = false := by
  rw [hasN, List.contains_eq_any_beq, List.any_eq_false]
  intro x hx
  obtain ⟨i, hi⟩ := List.mem_iff_getElem?.1 hx
  have := h i x hi
  simp; exact fun e => this e.symm
theorem has_at {xs : List Int} {n : Int} {i : Nat} (h : xs[i]? = some n) : hasN xs n = true := by
  rw [hasN, List.contains_eq_any_beq, List.any_eq_true]
  exact ⟨n, List.mem_of_getElem? h, by simp⟩
/-- A hand's part for a length: how many, which. -/
def cntP (n H h long : Nat) : Nat := if h + long ≤ n then (n - long - h) / H + 1 else 0
theorem cntP_lt {n H h long : Nat} (hH : 0 < H) (i : Nat) : i < cntP n H h long ↔ h + i * H + long ≤ n := by
  unfold cntP
  split
  · rw [Nat.lt_succ_iff, Nat.le_div_iff_mul_le hH]
    omega
  · constructor
    · intro h; omega
    · intro h; have := Nat.zero_le (i * H); omega
theorem cntP_le {n H h long : Nat} (hH : 0 < H) : cntP n H h long ≤ n + 1 := by
  rcases Nat.lt_or_ge (n + 1) (cntP n H h long) with g | g
  · have := (cntP_lt hH (n + 1)).1 g
    have h2 : n + 1 ≤ (n + 1) * H := Nat.le_mul_of_pos_right _ hH
    omega
  · exact g
def partF (H h : Nat) : Nat → Int := fun i => (h : Int) + (i : Int) * (H : Int)
def partP (n H h long : Nat) : List Int := upTo (partF H h) (cntP n H h long)
end Go.Proofs.Ytaiefncpgkoniaa.En
