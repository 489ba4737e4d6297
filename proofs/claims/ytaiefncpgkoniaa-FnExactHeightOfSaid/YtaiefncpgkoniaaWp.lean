/- Walks of IsWave: the specification's hands. -/
import Derived.Test.YtaiefncpgkoniaaWo
namespace Go.Proofs.Ytaiefncpgkoniaa.En
open Go.RowKit
set_option linter.unusedSimpArgs false
set_option linter.unusedVariables false
set_option maxHeartbeats 4000000
def handC (long : Nat) (h : Nat × Bool) : List AV := [.v (.int .i64 long), .v (.int .i64 h.1), .v (.bool h.2)]
def hands (long : Nat) (hs : List (Nat × Bool)) : List (List AV) := hs.map (handC long)
@[simp] theorem hands_len (long : Nat) (hs : List (Nat × Bool)) : (hands long hs).length = hs.length := by simp [hands]
@[simp] theorem hands_get (long : Nat) (hs : List (Nat × Bool)) (i : Nat) : (hands long hs)[i]? = (hs[i]?).map (handC long) := by simp [hands]
@[simp] theorem hands_gE (long : Nat) (hs : List (Nat × Bool)) (i : Nat) (h : i < (hands long hs).length) : (hands long hs)[i] = handC long (hs[i]'(by simpa using h)) := by simp [hands]
@[simp] theorem nfr_hands (long : Nat) (hs : List (Nat × Bool)) : nfr (hands long hs) := by
  intro row hr x hx
  simp only [hands, List.mem_map] at hr
  obtain ⟨n, _, rfl⟩ := hr
  simp only [handC, List.mem_cons, List.not_mem_nil, or_false] at hx
  rcases hx with rfl | rfl | rfl <;> rfl
theorem hands_set (long : Nat) (hs : List (Nat × Bool)) (i : Nat) (h : Nat × Bool) : (hands long hs).set i (handC long h) = hands long (hs.set i h) := by simp [hands, List.map_set]
/-- The first i of xs, the others of ys. -/
def mix {α : Type} (xs ys : List α) (i : Nat) : List α := xs.take i ++ ys.drop i
@[simp] theorem mix_zero {α : Type} (xs ys : List α) : mix xs ys 0 = ys := by simp [mix]
theorem mix_all {α : Type} (xs ys : List α) (h : xs.length = ys.length) : mix xs ys ys.length = xs := by simp [mix, List.take_of_length_le, h]
theorem mix_len {α : Type} (xs ys : List α) (h : xs.length = ys.length) (i : Nat) (hi : i ≤ ys.length) : (mix xs ys i).length = ys.length := by simp [mix]; omega
theorem mix_get {α : Type} (xs ys : List α) (h : xs.length = ys.length) (i : Nat) (hi : i ≤ ys.length) : (mix xs ys i)[i]? = ys[i]? := by
  unfold mix
  rw [List.getElem?_append_right (by simp; omega)]
  simp only [List.length_take, List.getElem?_drop]
  congr 1; omega
theorem mix_set {α : Type} (xs ys : List α) (h : xs.length = ys.length) (i : Nat) (hi : i < ys.length) (x : α) (hx : xs[i]? = some x) : (mix xs ys i).set i x = mix xs ys (i + 1) := by
  unfold mix
  rw [List.set_append_right _ _ (by simp; omega), List.take_add_one, hx]
  have e2 : i - (xs.take i).length = 0 := by simp; omega
  rw [e2, List.drop_eq_getElem_cons hi, List.set_cons_zero]
  simp
@[simp] theorem nfr.mix {xs ys : List (List AV)} (h : nfr xs) (h' : nfr ys) (i : Nat) : nfr (En.mix xs ys i) := by
  unfold En.mix
  rw [nfr_append]
  exact ⟨h.take i, h'.drop i⟩
@[simp] theorem nfr_mixHands (a b : Nat) (xs ys : List (Nat × Bool)) (i : Nat) : nfr (mix (hands a xs) (hands b ys) i) := (nfr_hands a xs).mix (nfr_hands b ys) i

def readyP (n long : Nat) (h : Nat × Bool) : Bool := decide (long ≤ n) && !h.2
def readyL (n long : Nat) (hs : List (Nat × Bool)) : List Int := idxs (readyP n long) 0 hs
end Go.Proofs.Ytaiefncpgkoniaa.En
