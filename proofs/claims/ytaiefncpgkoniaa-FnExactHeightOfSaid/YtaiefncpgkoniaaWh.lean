/- Walks of the laws' helpers: rows of rows of numbers. -/
import Derived.Test.YtaiefncpgkoniaaWf
namespace Go.Proofs.Ytaiefncpgkoniaa.En
open Go.RowKit
set_option linter.unusedSimpArgs false
set_option linter.unusedVariables false
set_option maxHeartbeats 4000000
def intsC (xs : List Int) : List AV := [.im 1 (ints xs)]
def intss (xs : List (List Int)) : List (List AV) := xs.map intsC
@[simp] theorem intss_len (xs : List (List Int)) : (intss xs).length = xs.length := by simp [intss]
@[simp] theorem intss_get (xs : List (List Int)) (i : Nat) : (intss xs)[i]? = (xs[i]?).map intsC := by simp [intss]
@[simp] theorem intss_gE (xs : List (List Int)) (i : Nat) (h : i < (intss xs).length) : (intss xs)[i] = intsC (xs[i]'(by simpa using h)) := by simp [intss]
theorem intss_ok (ns : List (List Int)) : rowsOk (intss ns) := by
  intro row hr x hx
  simp only [intss, List.mem_map] at hr
  obtain ⟨n, _, rfl⟩ := hr
  simp only [intsC, List.mem_cons, List.not_mem_nil, or_false] at hx
  subst hx; rfl
def szSs (n : Int) : List (List Int) → Int
  | [] => n
  | e :: es => if less n e.length < 0 then -1 else szSs (less n e.length) es
def szSsAll (n : Int) (es : List (List Int)) : Int := if n - es.length < 0 then -1 else szSs (n - es.length) es
theorem szSs_in (es : List (List Int)) : ∀ n : Int, -1 ≤ n → n ≤ 1048576 → -1 ≤ szSs n es ∧ szSs n es ≤ 1048576 := by
  induction es with
  | nil => intro n h0 h1; exact ⟨h0, h1⟩
  | cons e es ih =>
    intro n h0 h1
    unfold szSs
    split
    · omega
    · exact ih _ (less_in h1).1 (less_in h1).2
theorem szSsAll_in (es : List (List Int)) {n : Int} (h0 : -1 ≤ n) (h1 : n ≤ 1048576) : -1 ≤ szSsAll n es ∧ szSsAll n es ≤ 1048576 := by
  unfold szSsAll
  split
  · omega
  · exact szSs_in es _ (by omega) (by omega)
/-- The machines. -/
def machine (m : Int × Int × List (List Int) × List Int) : AV := .ag [.v (.int .i64 m.1), .v (.int .i64 m.2.1), .im 1 (intss m.2.2.1), .im 1 (ints m.2.2.2)]
def szM (m : Int × Int × List (List Int) × List Int) : Int := if szSsAll 1048576 m.2.2.1 < 0 then -1 else less (szSsAll 1048576 m.2.2.1) m.2.2.2.length
end Go.Proofs.Ytaiefncpgkoniaa.En
