/- What is left of the laws' allowance behind rows whose elements take up more. -/
import Derived.Test.YtaiefncpgkoniaaWh
namespace Go.Proofs.Ytaiefncpgkoniaa.En
open Go.RowKit
def szL {α : Type} (f : Int → α → Int) : Int → List α → Int
  | n, [] => n
  | n, e :: es => if f n e < 0 then -1 else szL f (f n e) es
def szLA {α : Type} (f : Int → α → Int) (n : Int) (es : List α) : Int := if n - es.length < 0 then -1 else szL f (n - es.length) es
theorem szL_in {α : Type} {f : Int → α → Int} (hf : ∀ n e, n ≤ 1048576 → -1 ≤ f n e ∧ f n e ≤ 1048576) (es : List α) : ∀ n : Int, -1 ≤ n → n ≤ 1048576 → -1 ≤ szL f n es ∧ szL f n es ≤ 1048576 := by
  induction es with
  | nil => intro n h0 h1; exact ⟨h0, h1⟩
  | cons e es ih =>
    intro n h0 h1
    unfold szL
    split
    · omega
    · exact ih _ (hf n e h1).1 (hf n e h1).2
theorem szLA_in {α : Type} {f : Int → α → Int} (hf : ∀ n e, n ≤ 1048576 → -1 ≤ f n e ∧ f n e ≤ 1048576) {es : List α} {n : Int} (h1 : n ≤ 1048576) : -1 ≤ szLA f n es ∧ szLA f n es ≤ 1048576 := by
  unfold szLA
  split
  · omega
  · exact szL_in hf es _ (by omega) (by omega)
@[simp] theorem nfr_ints (xs : List Int) : nfr (ints xs) := ints_nf xs
@[simp] theorem nfr_intss (xs : List (List Int)) : nfr (intss xs) := nfr_of_ok (intss_ok xs)
@[simp] theorem nfr_half {xs : List (List AV)} {z : List AV} {i : Nat} (h : nfr xs) (hz : ∀ x ∈ z, nf x = true) : nfr (half xs z i) := by
  unfold half
  rw [nfr_append]
  exact ⟨h.take _, .rep hz⟩
/-- The places (from k on) of the elements of which p holds. -/
def idxs {α : Type} (p : α → Bool) : Nat → List α → List Int
  | _, [] => []
  | k, x :: xs => if p x then (k : Int) :: idxs p (k + 1) xs else idxs p (k + 1) xs
theorem idxs_snoc {α : Type} (p : α → Bool) (x : α) : ∀ (xs : List α) (k : Nat), idxs p k (xs ++ [x]) = idxs p k xs ++ if p x then [((k + xs.length : Nat) : Int)] else []
  | [], k => by simp [idxs]
  | y :: ys, k => by
    simp only [List.cons_append, idxs, idxs_snoc p x ys, List.length_cons, show k + 1 + ys.length = k + (ys.length + 1) by omega]
    split <;> rfl
theorem idxs_next {α : Type} (p : α → Bool) {xs : List α} {i : Nat} {x : α} (hx : xs[i]? = some x) : idxs p 0 (xs.take (i + 1)) = idxs p 0 (xs.take i) ++ if p x then [(i : Int)] else [] := by
  have hi : i < xs.length := (List.getElem?_eq_some_iff.1 hx).1
  rw [List.take_add_one, hx, Option.toList_some, idxs_snoc]
  simp [Nat.min_eq_left (Nat.le_of_lt hi)]
theorem idxs_len {α : Type} (p : α → Bool) : ∀ (xs : List α) (k : Nat), (idxs p k xs).length ≤ xs.length
  | [], k => by simp [idxs]
  | y :: ys, k => by
    have := idxs_len p ys (k + 1)
    unfold idxs
    split <;> simp <;> omega
/-- f of the numbers below i. -/
def upTo (f : Nat → Int) (i : Nat) : List Int := (List.range i).map f
@[simp] theorem upTo_len (f : Nat → Int) (i : Nat) : (upTo f i).length = i := by simp [upTo]
@[simp] theorem upTo_zero (f : Nat → Int) : upTo f 0 = [] := rfl
theorem upTo_succ (f : Nat → Int) (i : Nat) : upTo f (i + 1) = upTo f i ++ [f i] := by simp [upTo, List.range_succ]
theorem upTo_snoc (f : Nat → Int) (i : Nat) : ints (upTo f i) ++ [[.v (.int .i64 (f i))]] = ints (upTo f (i + 1)) := by rw [upTo_succ]; simp [ints]
theorem upTo_get (f : Nat → Int) {i n : Nat} (h : i < n) : (upTo f n)[i]? = some (f i) := by simp [upTo, h]
@[simp] theorem ints_nil : ints [] = [] := rfl
theorem ints_append (xs ys : List Int) : ints xs ++ ints ys = ints (xs ++ ys) := by simp [ints]
theorem ints_snoc (xs : List Int) (n : Int) : ints xs ++ [[.v (.int .i64 n)]] = ints (xs ++ [n]) := by simp [ints]
end Go.Proofs.Ytaiefncpgkoniaa.En
