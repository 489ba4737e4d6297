/- Own words and walks of this claim, part 3: what the program's functions compute, for all the arguments that are named; no further conditions. -/
import Derived.Test.YtkolhcoeifghpaaM2
section
namespace Go.Proofs.Ytkolhcoeifghpaa.En
open Go.RowKit
set_option linter.unusedSimpArgs false
set_option linter.unusedVariables false
set_option maxHeartbeats 4000000
def ints (xs : List Int) : List (List AV) := xs.map fun n => [.v (.int .i64 n)]
@[simp] theorem ints_len (xs : List Int) : (ints xs).length = xs.length := by simp [ints]
@[simp] theorem ints_get (xs : List Int) (i : Nat) : (ints xs)[i]? = (xs[i]?).map fun n => [.v (.int .i64 n)] := by simp [ints]
@[simp] theorem ints_gE (xs : List Int) (i : Nat) (h : i < (ints xs).length) : (ints xs)[i] = [.v (.int .i64 (xs[i]'(by simpa using h)))] := by simp [ints]
@[simp] theorem ints_set (xs : List Int) (i : Nat) (n : Int) : (ints xs).set i [.v (.int .i64 n)] = ints (xs.set i n) := by simp [ints]
@[simp] theorem ints_rep (n : Nat) (x : Int) : List.replicate n [AV.v (.int .i64 x)] = ints (List.replicate n x) := by simp [ints]
theorem ints_nf (xs : List Int) : ∀ row ∈ ints xs, ∀ x ∈ row, nf x = true := by
  intro row hr x hx
  simp only [ints, List.mem_map] at hr
  obtain ⟨n, _, rfl⟩ := hr
  simp at hx; subst hx; rfl
theorem ints_cl (xs : List Int) : ∀ row ∈ ints xs, ∀ x ∈ row, cl1 x = true := by
  intro row hr x hx
  simp only [ints, List.mem_map] at hr
  obtain ⟨n, _, rfl⟩ := hr
  simp at hx; subst hx; rfl

def half {α : Type} (xs : List α) (z : α) (i : Nat) : List α := xs.take i ++ List.replicate (xs.length - i) z
theorem half_all {α : Type} (xs : List α) (z : α) : half xs z xs.length = xs := by simp [half]
theorem half_get {α : Type} (xs : List α) (z : α) (i : Nat) (h : i < xs.length) : (half xs z i)[i]? = some z := by
  unfold half
  rw [List.getElem?_append_right (by simp; omega), List.getElem?_replicate]
  simp; omega
theorem half_set {α : Type} (xs : List α) (z : α) (i : Nat) (h : i < xs.length) (x : α) (hx : xs[i]? = some x) : (half xs z i).set i x = half xs z (i + 1) := by
  unfold half
  rw [List.set_append_right _ _ (by simp; omega), List.take_add_one, hx]
  have e : xs.length - i = (xs.length - (i + 1)) + 1 := by omega
  have e2 : i - (xs.take i).length = 0 := by simp; omega
  rw [e2, e, List.replicate_succ, List.set_cons_zero]
  simp

theorem toIntS (xs : List Int) (hx : xs.length < 35184372088832) : Pure Try.prog 10 [.im 1 (ints xs)] (.im 1 (ints xs)) := by
  refine Pure.mk (rs := [.tmp 2]) (nt := 22) Try.func10 rfl rfl rfl rfl (by simp) ?_
  simp only [sl]
  refine wk (And.intro ((show (0:Int) ≤ (xs.length : Int) by omega)) (And.intro ((show (8:Int) * xs.length ≤ 281474976710656 by omega)) ((show (xs.length : Int) ≤ 281474976710656 by omega)))) _ ?_
  refine Holds.loop (ι := Nat) (fun i => ⟨[(0, .im 1 (ints xs)), (3, .own 0 1 0 xs.length), (4, .v (.int .i64 i))], [(0, ⟨3, 1, ints (half xs 0 i)⟩)], 1⟩) (fun i => i ≤ xs.length) (fun i => xs.length - i) 0 (Nat.zero_le _) ?_ ?_
  · exact Cov.of id (by simp [ChkT, okr, okr1, lk, ren, ren1]) (by simp [ChkB, lb, BlkC, half, ints_nf]; exact .inl (ints_nf _))
  intro i hi
  refine wk0 _ ?_
  refine Holds.cond rfl (fun hl => ?_) (fun hl => ?_)
  · have hlt : i < xs.length := by simpa using hl
    have hxi : xs[i]? = some xs[i] := List.getElem?_eq_getElem hlt
    have hhi := half_get xs 0 i hlt
    have hhs := half_set xs 0 i hlt _ hxi
    refine wk (And.intro @hxi (And.intro @hlt (And.intro @hhi (@hhs)))) _ ?_
    refine ⟨i + 1, by omega, by omega, ?_⟩
    rw [wr64_id (by omega) (by omega)]
    exact Cov.of id (by simp [ChkT, okr, okr1, lk, ren, ren1]) (by simp [ChkB, lb, BlkC]; exact .inl (ints_nf _))
  · have hle : i = xs.length := by
      have : ¬ i < xs.length := by simpa using hl
      omega
    subst hle
    rw [half_all]
    refine wk0 _ ?_
    refine Out.mk (xs := ?_) ?_ ?_ (by first | exact .inr rfl | exact .inl rfl)
    rotate_left
    · simp [go_sem, List.take_of_length_le] <;> with_reducible rfl
    exact Fz.all rfl rfl (by simp) rfl (ints_cl xs)

theorem take_next {α : Type} {xs ys : List α} {i : Nat} {x y : α} (hx : xs[i]? = some x) (hy : ys[i]? = some y) (ht : xs.take i = ys.take i) : (xs.take (i + 1) = ys.take (i + 1)) ↔ x = y := by
  rw [show xs.take (i + 1) = xs.take i ++ [x] by rw [List.take_add_one, hx]; rfl, show ys.take (i + 1) = ys.take i ++ [y] by rw [List.take_add_one, hy]; rfl, ht]
  exact ⟨fun h => by simpa using List.append_cancel_left h, fun h => by rw [h]⟩
theorem ne_at {α : Type} {xs ys : List α} {i : Nat} {x y : α} (hx : xs[i]? = some x) (hy : ys[i]? = some y) (h : x ≠ y) : ¬ xs = ys := by
  rintro rfl
  rw [hx] at hy
  exact h (Option.some.inj hy)

theorem eqIntS (xs ys : List Int) (hx : xs.length < 4611686018427387904) : Pure Try.prog 12 [.im 1 (ints xs), .im 1 (ints ys)] (.v (.bool (decide (xs = ys)))) := by
  refine Pure.mk (rs := [.tmp 4]) (nt := 26) Try.func12 rfl rfl rfl rfl (by simp) ?_
  simp only [sl]
  refine wkd0 _ ?_
  refine Holds.cond rfl (fun hl => ?_) (fun hl => ?_)
  · have : ¬ xs = ys := by rintro rfl; simp at hl
    simp only [this, decide_false]
    refine wkd0 _ ?_
    refine Out.mk (xs := ?_) ?_ ?_ (by first | exact .inr rfl | exact .inl rfl)
    rotate_left
    · simp [go_sem, List.take_of_length_le] <;> with_reducible rfl
    exact .v _
  · have hlen : xs.length = ys.length := by
      have : (xs.length : Int) = ys.length := by simpa using hl
      omega
    refine wkd0 _ ?_
    refine Holds.loop (ι := Nat) (fun i => ⟨[(0, .im 1 (ints xs)), (1, .im 1 (ints ys)), (5, .v (.int .i64 i))], [], 0⟩) (fun i => i ≤ xs.length ∧ xs.take i = ys.take i) (fun i => xs.length - i) 0 ⟨Nat.zero_le _, rfl⟩ ?_ ?_
    · exact Cov.of id (by simp [ChkT, okr, okr1, lk, ren, ren1]) (by simp [ChkB])
    rintro i ⟨hi, htk⟩
    refine wkd0 _ ?_
    refine Holds.cond rfl (fun hl => ?_) (fun hl => ?_)
    · have hlt : i < xs.length := by simpa using hl
      have hxi : xs[i]? = some xs[i] := List.getElem?_eq_getElem hlt
      have hyi : ys[i]? = some ys[i] := List.getElem?_eq_getElem (by omega)
      refine wkd (And.intro @hxi (@hyi)) _ ?_
      refine Holds.cond rfl (fun hl => ?_) (fun hl => ?_)
      · have hne : ¬ xs = ys := ne_at hxi hyi (by simpa using hl)
        simp only [hne, decide_false]
        refine wkd0 _ ?_
        refine Out.mk (xs := ?_) ?_ ?_ (by first | exact .inr rfl | exact .inl rfl)
        rotate_left
        · simp [go_sem, List.take_of_length_le] <;> with_reducible rfl
        exact .v _
      · have he : xs[i] = ys[i] := by simpa using hl
        refine wkd0 _ ?_
        refine ⟨i + 1, ⟨by omega, (take_next hxi hyi htk).2 he⟩, by omega, ?_⟩
        rw [wr64_id (by omega) (by omega)]
        exact Cov.of id (by simp [ChkT, okr, okr1, lk, ren, ren1]) (by simp [ChkB])
    · have hle : i = xs.length := by
        have : ¬ i < xs.length := by simpa using hl
        omega
      have he : xs = ys := by
        subst hle
        rw [List.take_length, hlen, List.take_length] at htk
        exact htk
      simp only [he, decide_true]
      refine wkd0 _ ?_
      refine Out.mk (xs := ?_) ?_ ?_ (by first | exact .inr rfl | exact .inl rfl)
      rotate_left
      · simp [go_sem, List.take_of_length_le] <;> with_reducible rfl
      exact .v _

def less (n : Int) (k : Nat) : Int := if n - k < 0 then -1 else n - k
theorem szIntS (xs : List Int) (n : Int) (h0 : -1 ≤ n) (h1 : n ≤ 1048576) (hx : xs.length < 4611686018427387904) : Pure Try.prog 92 [.im 1 (ints xs), .v (.int .i64 n)] (.v (.int .i64 (less n xs.length))) := by
  refine Pure.mk (rs := [.tmp 4]) (nt := 12) Try.func92 rfl rfl rfl rfl (by simp) ?_
  simp only [sl]
  have hw : wr64 (n - xs.length) = n - xs.length := wr64_id (by omega) (by omega)
  refine wk (@hw) _ ?_
  refine Holds.cond (by simp [go_sem, hw]; with_reducible rfl) (fun hl => ?_) (fun hl => ?_)
  · have : n - xs.length < 0 := by simpa using hl
    simp only [less, if_pos this]
    refine wk0 _ ?_
    refine Out.mk (xs := ?_) ?_ ?_ (by first | exact .inr rfl | exact .inl rfl)
    rotate_left
    · simp [go_sem, List.take_of_length_le] <;> with_reducible rfl
    exact .v _
  · have : ¬ n - xs.length < 0 := by simpa using hl
    simp only [less, if_neg this]
    refine wk0 _ ?_
    refine Out.mk (xs := ?_) ?_ ?_ (by first | exact .inr rfl | exact .inl rfl)
    rotate_left
    · simp [go_sem, List.take_of_length_le] <;> with_reducible rfl
    exact .v _
end Go.Proofs.Ytkolhcoeifghpaa.En
end
section
namespace Go.Proofs.Ytkolhcoeifghpaa.En
open Go.RowKit
set_option linter.unusedSimpArgs false
set_option linter.unusedVariables false
set_option maxHeartbeats 4000000
abbrev Node3 := Int × Int × Int
abbrev Edge3 := Int × Int × List Int
def nodeC (n : Node3) : List AV := [.v (.int .i64 n.1), .v (.int .i64 n.2.1), .v (.int .i64 n.2.2)]
def edgeC (e : Edge3) : List AV := [.v (.int .i64 e.1), .v (.int .i64 e.2.1), .im 1 (ints e.2.2)]
def nodes (ns : List Node3) : List (List AV) := ns.map nodeC
def edges (es : List Edge3) : List (List AV) := es.map edgeC
@[simp] theorem nodes_len (xs : List Node3) : (nodes xs).length = xs.length := by simp [nodes]
@[simp] theorem nodes_get (xs : List Node3) (i : Nat) : (nodes xs)[i]? = (xs[i]?).map nodeC := by simp [nodes]
@[simp] theorem nodes_gE (xs : List Node3) (i : Nat) (h : i < (nodes xs).length) : (nodes xs)[i] = nodeC (xs[i]'(by simpa using h)) := by simp [nodes]
@[simp] theorem edges_len (xs : List Edge3) : (edges xs).length = xs.length := by simp [edges]
@[simp] theorem edges_get (xs : List Edge3) (i : Nat) : (edges xs)[i]? = (xs[i]?).map edgeC := by simp [edges]
@[simp] theorem edges_gE (xs : List Edge3) (i : Nat) (h : i < (edges xs).length) : (edges xs)[i] = edgeC (xs[i]'(by simpa using h)) := by simp [edges]
def rowsOk (xs : List (List AV)) : Prop := ∀ row ∈ xs, ∀ x ∈ row, cl1 x = true
theorem cl1_nf {x : AV} (h : cl1 x = true) : nf x = true := by cases x <;> simp_all [cl1, nf]
theorem rowsOk.nf {xs : List (List AV)} (h : rowsOk xs) : ∀ row ∈ xs, ∀ x ∈ row, En.nf x = true := fun row hr x hx => cl1_nf (h row hr x hx)
theorem half_ok {xs : List (List AV)} {z : List AV} {i : Nat} (h : rowsOk xs) (hz : ∀ x ∈ z, cl1 x = true) : rowsOk (half xs z i) := by
  intro row hr x hx
  simp only [half, List.mem_append, List.mem_replicate] at hr
  rcases hr with hr | ⟨_, rfl⟩
  · exact h row (List.mem_of_mem_take hr) x hx
  · exact hz x hx

end Go.Proofs.Ytkolhcoeifghpaa.En
end
section
namespace Go.Proofs.Ytkolhcoeifghpaa.En
open Go.RowKit
set_option linter.unusedSimpArgs false
set_option linter.unusedVariables false
set_option maxHeartbeats 4000000

end Go.Proofs.Ytkolhcoeifghpaa.En
end
section
namespace Go.Proofs.Ytkolhcoeifghpaa.En
open Go.RowKit
set_option linter.unusedSimpArgs false
set_option linter.unusedVariables false
set_option maxHeartbeats 4000000
theorem less_in {n : Int} {k : Nat} (h1 : n ≤ 1048576) : -1 ≤ less n k ∧ less n k ≤ 1048576 := by
  unfold less; split <;> omega
end Go.Proofs.Ytkolhcoeifghpaa.En
end
section
namespace Go.Proofs.Ytkolhcoeifghpaa.En
open Go.RowKit
set_option linter.unusedSimpArgs false
set_option linter.unusedVariables false
set_option maxHeartbeats 4000000
theorem l1Same (xs ys : List Int) (hx : xs.length < 4611686018427387904) : Pure Try.prog 86 [.im 1 (ints xs), .im 1 (ints ys)] (.v (.bool (decide (xs = ys)))) := by
  refine Pure.mk (rs := [.tmp 4]) (nt := 26) Try.func86 (by kernel_rfl) rfl rfl rfl (by simp) ?_
  simp only [sl]
  refine wkd0 _ ?_
  refine Holds.cond rfl (fun hl => ?_) (fun hl => ?_)
  · have : ¬ xs = ys := by rintro rfl; simp at hl
    simp only [this, decide_false]
    refine wkd0 _ ?_
    refine Out.mk (xs := ?_) ?_ ?_ (by first | exact .inr rfl | exact .inl rfl)
    rotate_left
    · simp [go_sem, List.take_of_length_le] <;> with_reducible rfl
    exact .v _
  · have hlen : xs.length = ys.length := by
      have : (xs.length : Int) = ys.length := by simpa using hl
      omega
    refine wkd0 _ ?_
    refine Holds.loop (ι := Nat) (fun i => ⟨[(0, .im 1 (ints xs)), (1, .im 1 (ints ys)), (12, .v (.int .i64 xs.length)), (13, .v (.int .i64 i))], [], 0⟩) (fun i => i ≤ xs.length ∧ xs.take i = ys.take i) (fun i => xs.length - i) 0 ⟨Nat.zero_le _, rfl⟩ ?_ ?_
    · exact Cov.of id (by simp [ChkT, okr, okr1, lk, ren, ren1]) (by simp [ChkB])
    rintro i ⟨hi, htk⟩
    refine wkd0 _ ?_
    refine Holds.cond rfl (fun hl => ?_) (fun hl => ?_)
    · have hlt : i < xs.length := by simpa using hl
      have hxi : xs[i]? = some xs[i] := List.getElem?_eq_getElem hlt
      have hyi : ys[i]? = some ys[i] := List.getElem?_eq_getElem (by omega)
      refine wkd (And.intro @hxi (@hyi)) _ ?_
      refine Holds.cond rfl (fun hl => ?_) (fun hl => ?_)
      · have hne : ¬ xs = ys := ne_at hxi hyi (by simpa using hl)
        simp only [hne, decide_false]
        refine wkd0 _ ?_
        refine Out.mk (xs := ?_) ?_ ?_ (by first | exact .inr rfl | exact .inl rfl)
        rotate_left
        · simp [go_sem, List.take_of_length_le] <;> with_reducible rfl
        exact .v _
      · have he : xs[i] = ys[i] := by simpa using hl
        refine wkd0 _ ?_
        refine ⟨i + 1, ⟨by omega, (take_next hxi hyi htk).2 he⟩, by omega, ?_⟩
        rw [wr64_id (by omega) (by omega)]
        exact Cov.of id (by simp [ChkT, okr, okr1, lk, ren, ren1]) (by simp [ChkB])
    · have hle : i = xs.length := by
        have : ¬ i < xs.length := by simpa using hl
        omega
      have he : xs = ys := by
        subst hle
        rw [List.take_length, hlen, List.take_length] at htk
        exact htk
      simp only [he, decide_true]
      refine wkd0 _ ?_
      refine Out.mk (xs := ?_) ?_ ?_ (by first | exact .inr rfl | exact .inl rfl)
      rotate_left
      · simp [go_sem, List.take_of_length_le] <;> with_reducible rfl
      exact .v _

theorem equalInts (xs ys : List Int) (hx : xs.length < 4611686018427387904) : Pure Try.prog 96 [.im 1 (ints xs), .im 1 (ints ys)] (.v (.bool (decide (xs = ys)))) := by
  refine Pure.mk (rs := [.tmp 4]) (nt := 26) Try.func96 (by kernel_rfl) rfl rfl rfl (by simp) ?_
  simp only [sl]
  refine wkd0 _ ?_
  refine Holds.cond rfl (fun hl => ?_) (fun hl => ?_)
  · have : ¬ xs = ys := by rintro rfl; simp at hl
    simp only [this, decide_false]
    refine wkd0 _ ?_
    refine Out.mk (xs := ?_) ?_ ?_ (by first | exact .inr rfl | exact .inl rfl)
    rotate_left
    · simp [go_sem, List.take_of_length_le] <;> with_reducible rfl
    exact .v _
  · have hlen : xs.length = ys.length := by
      have : (xs.length : Int) = ys.length := by simpa using hl
      omega
    refine wkd0 _ ?_
    refine Holds.loop (ι := Nat) (fun i => ⟨[(0, .im 1 (ints xs)), (1, .im 1 (ints ys)), (12, .v (.int .i64 xs.length)), (13, .v (.int .i64 i))], [], 0⟩) (fun i => i ≤ xs.length ∧ xs.take i = ys.take i) (fun i => xs.length - i) 0 ⟨Nat.zero_le _, rfl⟩ ?_ ?_
    · exact Cov.of id (by simp [ChkT, okr, okr1, lk, ren, ren1]) (by simp [ChkB])
    rintro i ⟨hi, htk⟩
    refine wkd0 _ ?_
    refine Holds.cond rfl (fun hl => ?_) (fun hl => ?_)
    · have hlt : i < xs.length := by simpa using hl
      have hxi : xs[i]? = some xs[i] := List.getElem?_eq_getElem hlt
      have hyi : ys[i]? = some ys[i] := List.getElem?_eq_getElem (by omega)
      refine wkd (And.intro @hxi (@hyi)) _ ?_
      refine Holds.cond rfl (fun hl => ?_) (fun hl => ?_)
      · have hne : ¬ xs = ys := ne_at hxi hyi (by simpa using hl)
        simp only [hne, decide_false]
        refine wkd0 _ ?_
        refine Out.mk (xs := ?_) ?_ ?_ (by first | exact .inr rfl | exact .inl rfl)
        rotate_left
        · simp [go_sem, List.take_of_length_le] <;> with_reducible rfl
        exact .v _
      · have he : xs[i] = ys[i] := by simpa using hl
        refine wkd0 _ ?_
        refine ⟨i + 1, ⟨by omega, (take_next hxi hyi htk).2 he⟩, by omega, ?_⟩
        rw [wr64_id (by omega) (by omega)]
        exact Cov.of id (by simp [ChkT, okr, okr1, lk, ren, ren1]) (by simp [ChkB])
    · have hle : i = xs.length := by
        have : ¬ i < xs.length := by simpa using hl
        omega
      have he : xs = ys := by
        subst hle
        rw [List.take_length, hlen, List.take_length] at htk
        exact htk
      simp only [he, decide_true]
      refine wkd0 _ ?_
      refine Out.mk (xs := ?_) ?_ ?_ (by first | exact .inr rfl | exact .inl rfl)
      rotate_left
      · simp [go_sem, List.take_of_length_le] <;> with_reducible rfl
      exact .v _

end Go.Proofs.Ytkolhcoeifghpaa.En
end
section
namespace Go.Proofs.Ytkolhcoeifghpaa.En
open Go.RowKit
set_option linter.unusedSimpArgs false
set_option linter.unusedVariables false
set_option maxHeartbeats 4000000
def intsC (xs : List Int) : List AV := [.im 1 (ints xs)]
def intss (xs : List (List Int)) : List (List AV) := xs.map intsC
@[simp] theorem intss_len (xs : List (List Int)) : (intss xs).length = xs.length := by simp [intss]
@[simp] theorem intss_get (xs : List (List Int)) (i : Nat) : (intss xs)[i]? = (xs[i]?).map intsC := by simp [intss]
@[simp] theorem intss_gE (xs : List (List Int)) (i : Nat) (h : i < (intss xs).length) : (intss xs)[i] = intsC (xs[i]'(by simpa using h)) := by simp [intss]
theorem intss_ok (ns : List (List Int)) : rowsOk (intss ns) := by
  intro row hr x hx
  simp only [intss, List.mem_map] at hr
  obtain ⟨n, _, rfl⟩ := hr
  simp only [intsC, List.mem_cons, List.not_mem_nil, or_false] at hx
  subst hx; rfl
def machine (m : Int × Int × List (List Int) × List Int) : AV := .ag [.v (.int .i64 m.1), .v (.int .i64 m.2.1), .im 1 (intss m.2.2.1), .im 1 (ints m.2.2.2)]
end Go.Proofs.Ytkolhcoeifghpaa.En
end
section
namespace Go.Proofs.Ytkolhcoeifghpaa.En
open Go.RowKit
def szL {α : Type} (f : Int → α → Int) : Int → List α → Int
  | n, [] => n
  | n, e :: es => if f n e < 0 then -1 else szL f (f n e) es
def szLA {α : Type} (f : Int → α → Int) (n : Int) (es : List α) : Int := if n - es.length < 0 then -1 else szL f (n - es.length) es
theorem szL_in {α : Type} {f : Int → α → Int} (hf : ∀ n e, n ≤ 1048576 → -1 ≤ f n e ∧ f n e ≤ 1048576) (es : List α) : ∀ n : Int, -1 ≤ n → n ≤ 1048576 → -1 ≤ szL f n es ∧ szL f n es ≤ 1048576 := by
  induction es with
  | nil => intro n h0 h1; exact ⟨h0, h1⟩
  | cons e es ih =>
    intro n h0 h1
    unfold szL
    split
    · omega
    · exact ih _ (hf n e h1).1 (hf n e h1).2
theorem szLA_in {α : Type} {f : Int → α → Int} (hf : ∀ n e, n ≤ 1048576 → -1 ≤ f n e ∧ f n e ≤ 1048576) {es : List α} {n : Int} (h1 : n ≤ 1048576) : -1 ≤ szLA f n es ∧ szLA f n es ≤ 1048576 := by
  unfold szLA
  split
  · omega
  · exact szL_in hf es _ (by omega) (by omega)
@[simp] theorem nfr_ints (xs : List Int) : nfr (ints xs) := ints_nf xs
@[simp] theorem nfr_intss (xs : List (List Int)) : nfr (intss xs) := nfr_of_ok (intss_ok xs)
@[simp] theorem nfr_half {xs : List (List AV)} {z : List AV} {i : Nat} (h : nfr xs) (hz : ∀ x ∈ z, nf x = true) : nfr (half xs z i) := by
  unfold half
  rw [nfr_append]
  exact ⟨h.take _, .rep hz⟩
def upTo (f : Nat → Int) (i : Nat) : List Int := (List.range i).map f
@[simp] theorem upTo_len (f : Nat → Int) (i : Nat) : (upTo f i).length = i := by simp [upTo]
@[simp] theorem upTo_zero (f : Nat → Int) : upTo f 0 = [] := rfl
@[simp] theorem ints_nil : ints [] = [] := rfl
theorem ints_snoc (xs : List Int) (n : Int) : ints xs ++ [[.v (.int .i64 n)]] = ints (xs ++ [n]) := by simp [ints]
end Go.Proofs.Ytkolhcoeifghpaa.En
end
section
namespace Go.Proofs.Ytkolhcoeifghpaa.En
open Go.RowKit
set_option linter.unusedSimpArgs false
set_option linter.unusedVariables false
set_option maxHeartbeats 4000000
abbrev DoneT := Int × Int × Int × Int
def doneC (x : DoneT) : List AV := [.v (.int .i64 x.1), .v (.int .i64 x.2.1), .v (.int .i64 x.2.2.1), .v (.int .i64 x.2.2.2)]
def dones (l : List DoneT) : List (List AV) := l.map doneC
@[simp] theorem dones_len (l : List DoneT) : (dones l).length = l.length := by simp [dones]
@[simp] theorem dones_get (l : List DoneT) (i : Nat) : (dones l)[i]? = (l[i]?).map doneC := by simp [dones]
@[simp] theorem dones_gE (l : List DoneT) (i : Nat) (h : i < (dones l).length) : (dones l)[i] = doneC (l[i]'(by simpa using h)) := by simp [dones]
theorem dones_ok (l : List DoneT) : rowsOk (dones l) := by
  intro row hr x hx
  simp only [dones, List.mem_map] at hr
  obtain ⟨n, _, rfl⟩ := hr
  simp only [doneC, List.mem_cons, List.not_mem_nil, or_false] at hx
  rcases hx with rfl | rfl | rfl | rfl <;> rfl
@[simp] theorem nfr_dones (l : List DoneT) : nfr (dones l) := nfr_of_ok (dones_ok l)
abbrev RuleT := Int × List Int
def ruleC (x : RuleT) : List AV := [.v (.int .i64 x.1), .im 1 (ints x.2)]
theorem toRule (x : RuleT) (h0 : (x.2).length < 35184372088832) : Pure Try.prog 61 [.ag (ruleC x)] (.ag (ruleC x)) := by
  refine Pure.mk (rs := [.cell 2 60]) (nt := 12) Try.func61 (by kernel_rfl) rfl rfl rfl (by simp) ?_
  simp only [sl, ruleC]
  refine wk0 _ ?_
  refine GS.cc (toIntS x.2 h0) rfl rfl rfl rfl (by simp [go_sem, List.take_of_length_le] <;> with_reducible rfl) rfl (by simp [go_sem, List.take_of_length_le]) ?_
  refine wk0 _ ?_
  refine Out.mk (xs := ?_) ?_ ?_ (by first | exact .inr rfl | exact .inl rfl)
  rotate_left
  · simp [go_sem, List.take_of_length_le] <;> with_reducible rfl
  exact Fz.cl rfl
theorem eqRule (a b : RuleT) (h0 : (a.2).length < 35184372088832) : Pure Try.prog 67 [.ag (ruleC a), .ag (ruleC b)] (.v (.bool (decide (a = b)))) := by
  refine Pure.mk (rs := [.tmp 4]) (nt := 16) Try.func67 (by kernel_rfl) rfl rfl rfl (by simp) ?_
  simp only [sl, ruleC]
  refine wk0 _ ?_
  refine Holds.cond rfl (fun hl => ?_) (fun g0 => ?_)
  · have : ¬ a = b := by rintro rfl; simp at hl
    simp only [this, decide_false]
    refine wk0 _ ?_
    refine Out.mk (xs := ?_) ?_ ?_ (by first | exact .inr rfl | exact .inl rfl)
    rotate_left
    · simp [go_sem, List.take_of_length_le] <;> with_reducible rfl
    exact .v _
  refine wk0 _ ?_
  refine GS.cc (eqIntS a.2 b.2 (by omega)) rfl rfl rfl rfl (by simp [go_sem, List.take_of_length_le] <;> with_reducible rfl) rfl (by simp [go_sem, List.take_of_length_le]) ?_
  refine wk0 _ ?_
  refine Holds.cond rfl (fun hl => ?_) (fun g1 => ?_)
  · have : ¬ a = b := by rintro rfl; simp at hl
    simp only [this, decide_false]
    refine wk0 _ ?_
    refine Out.mk (xs := ?_) ?_ ?_ (by first | exact .inr rfl | exact .inl rfl)
    rotate_left
    · simp [go_sem, List.take_of_length_le] <;> with_reducible rfl
    exact .v _
  have : a = b := by
    obtain ⟨a0, a1⟩ := a
    obtain ⟨b0, b1⟩ := b
    simp at g0 g1
    simp [g0, g1]
  simp only [this, decide_true]
  refine wk0 _ ?_
  refine Out.mk (xs := ?_) ?_ ?_ (by first | exact .inr rfl | exact .inl rfl)
  rotate_left
  · simp [go_sem, List.take_of_length_le] <;> with_reducible rfl
  exact .v _
def szRuleF (n : Int) (x : RuleT) : Int := less n x.2.length
theorem szRuleF_in {n : Int} {x : RuleT} (h1 : n ≤ 1048576) : -1 ≤ szRuleF n x ∧ szRuleF n x ≤ 1048576 := less_in h1
theorem szRule (x : RuleT) (n : Int) (h0 : -1 ≤ n) (h1 : n ≤ 1048576) (k0 : (x.2).length < 35184372088832) : Pure Try.prog 57 [.ag (ruleC x), .v (.int .i64 n)] (.v (.int .i64 (szRuleF n x))) := by
  refine Pure.mk (rs := [.tmp 4]) (nt := 12) Try.func57 (by kernel_rfl) rfl rfl rfl (by simp) ?_
  simp only [sl, ruleC]
  have hin := szRuleF_in (x := x) h1
  refine wk0 _ ?_
  refine GS.cc (szIntS x.2 n h0 h1 (by omega)) rfl rfl rfl rfl (by simp [go_sem, List.take_of_length_le] <;> with_reducible rfl) rfl (by simp [go_sem, List.take_of_length_le]) ?_
  refine wk0 _ ?_
  refine Holds.cond rfl (fun hl => ?_) (fun hl => ?_)
  · have h : szRuleF n x < 0 := by simpa [szRuleF] using hl
    rw [show szRuleF n x = -1 by omega]
    refine wk0 _ ?_
    refine Out.mk (xs := ?_) ?_ ?_ (by first | exact .inr rfl | exact .inl rfl)
    rotate_left
    · simp [go_sem, List.take_of_length_le] <;> with_reducible rfl
    exact .v _
  · refine wk0 _ ?_
    refine Out.mk (xs := ?_) ?_ ?_ (by first | exact .inr rfl | exact .inl rfl)
    rotate_left
    · simp [go_sem, List.take_of_length_le] <;> with_reducible rfl
    exact .v _
def rules (l : List RuleT) : List (List AV) := l.map ruleC
@[simp] theorem rules_len (l : List RuleT) : (rules l).length = l.length := by simp [rules]
@[simp] theorem rules_get (l : List RuleT) (i : Nat) : (rules l)[i]? = (l[i]?).map ruleC := by simp [rules]
@[simp] theorem rules_gE (l : List RuleT) (i : Nat) (h : i < (rules l).length) : (rules l)[i] = ruleC (l[i]'(by simpa using h)) := by simp [rules]
theorem rules_ok (l : List RuleT) : rowsOk (rules l) := by
  intro row hr x hx
  simp only [rules, List.mem_map] at hr
  obtain ⟨n, _, rfl⟩ := hr
  simp only [ruleC, List.mem_cons, List.not_mem_nil, or_false] at hx
  rcases hx with rfl | rfl <;> rfl
@[simp] theorem nfr_rules (l : List RuleT) : nfr (rules l) := nfr_of_ok (rules_ok l)
theorem toRuleS (l : List RuleT) (hx : l.length < 8796093022208) (hs : ∀ e ∈ l, (e.2).length < 35184372088832) : Pure Try.prog 32 [.im 2 (rules l)] (.im 2 (rules l)) := by
  refine Pure.mk (rs := [.tmp 2]) (nt := 23) Try.func32 (by kernel_rfl) rfl rfl rfl (by simp) ?_
  simp only [sl]
  refine wk (And.intro ((show (0:Int) ≤ (l.length : Int) by omega)) (And.intro ((show (32:Int) * l.length ≤ 281474976710656 by omega)) ((show (l.length : Int) ≤ 281474976710656 by omega)))) _ ?_
  refine Holds.loop (ι := Nat) (fun i => ⟨[(0, .im 2 (rules l)), (3, .own 0 2 0 l.length), (4, .v (.int .i64 i))], [(0, ⟨60, 2, half (rules l) [.v (.int .i64 0), .v (.slice none 0 0)] i⟩)], 1⟩) (fun i => i ≤ l.length) (fun i => l.length - i) 0 (Nat.zero_le _) ?_ ?_
  · exact Cov.of id (by simp [ChkT, okr, okr1, lk, ren, ren1]) (by simp [ChkB, lb, BlkC, half, nf])
  intro i hi
  refine wk0 _ ?_
  refine Holds.cond rfl (fun hl => ?_) (fun hl => ?_)
  · have hlt : i < l.length := by simpa using hl
    have hxi : l[i]? = some l[i] := List.getElem?_eq_getElem hlt
    have hhi := half_get (rules l) [.v (.int .i64 0), .v (.slice none 0 0)] i (by simpa using hlt)
    have hhs := half_set (rules l) [.v (.int .i64 0), .v (.slice none 0 0)] i (by simpa using hlt) (ruleC l[i]) (by simp [hxi])
    simp only [ruleC] at hhs
    refine wk (And.intro @hxi (And.intro @hlt (@ruleC.eq_1))) _ ?_
    refine GS.cc (toRule l[i] (hs _ (List.getElem_mem hlt))) rfl rfl rfl rfl (by simp [go_sem, List.take_of_length_le, ruleC] <;> with_reducible rfl) rfl (by simp [go_sem, List.take_of_length_le, ruleC]) ?_
    refine wk (And.intro @hxi (And.intro @hlt (And.intro @hhi (And.intro @hhs (@ruleC.eq_1))))) _ ?_
    refine ⟨i + 1, by omega, by omega, ?_⟩
    rw [wr64_id (by omega) (by omega)]
    exact Cov.of id (by simp [ChkT, okr, okr1, lk, ren, ren1]) (by simp [ChkB, lb, BlkC]; exact .inl (half_ok (rules_ok l) (by simp [cl1])).nf)
  · have hle : i = l.length := by
      have : ¬ i < l.length := by simpa using hl
      omega
    subst hle
    rw [show half (rules l) [.v (.int .i64 0), .v (.slice none 0 0)] l.length = rules l by have := half_all (rules l) ([.v (.int .i64 0), .v (.slice none 0 0)] : List AV); rwa [rules_len] at this]
    refine wk0 _ ?_
    refine Out.mk (xs := ?_) ?_ ?_ (by first | exact .inr rfl | exact .inl rfl)
    rotate_left
    · simp [go_sem, List.take_of_length_le] <;> with_reducible rfl
    exact Fz.all rfl rfl (by simp) rfl (rules_ok l)
theorem eqRuleS (xs ys : List RuleT) (hx : xs.length < 4611686018427387904) (hs : ∀ e ∈ xs, (e.2).length < 35184372088832) : Pure Try.prog 37 [.im 2 (rules xs), .im 2 (rules ys)] (.v (.bool (decide (xs = ys)))) := by
  refine Pure.mk (rs := [.tmp 4]) (nt := 27) Try.func37 (by kernel_rfl) rfl rfl rfl (by simp) ?_
  simp only [sl]
  refine wkd0 _ ?_
  refine Holds.cond rfl (fun hl => ?_) (fun hl => ?_)
  · have : ¬ xs = ys := by rintro rfl; simp at hl
    simp only [this, decide_false]
    refine wkd0 _ ?_
    refine Out.mk (xs := ?_) ?_ ?_ (by first | exact .inr rfl | exact .inl rfl)
    rotate_left
    · simp [go_sem, List.take_of_length_le] <;> with_reducible rfl
    exact .v _
  · have hlen : xs.length = ys.length := by
      have : (xs.length : Int) = ys.length := by simpa using hl
      omega
    refine wkd0 _ ?_
    refine Holds.loop (ι := Nat) (fun i => ⟨[(0, .im 2 (rules xs)), (1, .im 2 (rules ys)), (5, .v (.int .i64 i))], [], 0⟩) (fun i => i ≤ xs.length ∧ xs.take i = ys.take i) (fun i => xs.length - i) 0 ⟨Nat.zero_le _, rfl⟩ ?_ ?_
    · exact Cov.of id (by simp [ChkT, okr, okr1, lk, ren, ren1]) (by simp [ChkB])
    rintro i ⟨hi, htk⟩
    refine wkd0 _ ?_
    refine Holds.cond rfl (fun hl => ?_) (fun hl => ?_)
    · have hlt : i < xs.length := by simpa using hl
      have hxi : xs[i]? = some xs[i] := List.getElem?_eq_getElem hlt
      have hyi : ys[i]? = some ys[i] := List.getElem?_eq_getElem (by omega)
      refine wkd (And.intro @hxi (And.intro @hyi (@ruleC.eq_1))) _ ?_
      first | refine GS.cc (eqRule xs[i] ys[i] (hs _ (List.getElem_mem hlt))) rfl rfl rfl rfl (by simp [go_sem, List.take_of_length_le, ruleC] <;> with_reducible rfl) rfl (by simp [go_sem, List.take_of_length_le, ruleC]) ?_ | refine Gd.cc (eqRule xs[i] ys[i] (hs _ (List.getElem_mem hlt))) rfl rfl rfl rfl (by simp [go_sem, List.take_of_length_le, ruleC] <;> with_reducible rfl) rfl (by simp [go_sem, List.take_of_length_le, ruleC]) ?_
      refine wkd0 _ ?_
      refine Holds.cond rfl (fun hl => ?_) (fun hl => ?_)
      · have hne : ¬ xs = ys := ne_at hxi hyi (by simpa using hl)
        simp only [hne, decide_false]
        refine wkd0 _ ?_
        refine Out.mk (xs := ?_) ?_ ?_ (by first | exact .inr rfl | exact .inl rfl)
        rotate_left
        · simp [go_sem, List.take_of_length_le] <;> with_reducible rfl
        exact .v _
      · have he : xs[i] = ys[i] := by simpa using hl
        refine wkd0 _ ?_
        refine ⟨i + 1, ⟨by omega, (take_next hxi hyi htk).2 he⟩, by omega, ?_⟩
        rw [wr64_id (by omega) (by omega)]
        exact Cov.of id (by simp [ChkT, okr, okr1, lk, ren, ren1]) (by simp [ChkB])
    · have hle : i = xs.length := by
        have : ¬ i < xs.length := by simpa using hl
        omega
      have he : xs = ys := by
        subst hle
        rw [List.take_length, hlen, List.take_length] at htk
        exact htk
      simp only [he, decide_true]
      refine wkd0 _ ?_
      refine Out.mk (xs := ?_) ?_ ?_ (by first | exact .inr rfl | exact .inl rfl)
      rotate_left
      · simp [go_sem, List.take_of_length_le] <;> with_reducible rfl
      exact .v _
theorem szRuleS (xs : List RuleT) (n : Int) (h0 : -1 ≤ n) (h1 : n ≤ 1048576) (hx : xs.length < 4611686018427387904) (hs : ∀ e ∈ xs, (e.2).length < 35184372088832) : Pure Try.prog 29 [.im 2 (rules xs), .v (.int .i64 n)] (.v (.int .i64 (szLA szRuleF n xs))) := by
  refine Pure.mk (rs := [.tmp 4]) (nt := 27) Try.func29 (by kernel_rfl) rfl rfl rfl (by simp) ?_
  simp only [sl]
  have hw : wr64 (n - xs.length) = n - xs.length := wr64_id (by omega) (by omega)
  refine wk (@hw) _ ?_
  refine Holds.cond rfl (fun hl => ?_) (fun hl => ?_)
  · have : n - xs.length < 0 := by simpa using hl
    simp only [szLA, if_pos this]
    refine wk0 _ ?_
    refine Out.mk (xs := ?_) ?_ ?_ (by first | exact .inr rfl | exact .inl rfl)
    rotate_left
    · simp [go_sem, List.take_of_length_le] <;> with_reducible rfl
    exact .v _
  have hnn : ¬ n - xs.length < 0 := by simpa using hl
  simp only [szLA, if_neg hnn]
  refine wk0 _ ?_
  refine Holds.loop (ι := Nat × Int) (fun i => ⟨[(0, .im 2 (rules xs)), (1, .v (.int .i64 i.2)), (5, .v (.int .i64 i.1))], [], 0⟩) (fun i => i.1 ≤ xs.length ∧ 0 ≤ i.2 ∧ i.2 ≤ 1048576 ∧ szL szRuleF i.2 (xs.drop i.1) = szL szRuleF (n - xs.length) xs) (fun i => xs.length - i.1) (0, n - xs.length) ⟨Nat.zero_le _, by simpa using hnn, by show n - (xs.length : Int) ≤ 1048576; omega, rfl⟩ ?_ ?_
  · exact Cov.of id (by simp [ChkT, okr, okr1, lk, ren, ren1]) (by simp [ChkB])
  rintro ⟨i, m⟩ ⟨hi, hm0, hm1, hsz⟩
  dsimp only at hi hm0 hm1 hsz ⊢
  refine wk0 _ ?_
  refine Holds.cond rfl (fun hl => ?_) (fun hl => ?_)
  · have hlt : i < xs.length := by simpa using hl
    have hxi : xs[i]? = some xs[i] := List.getElem?_eq_getElem hlt
    rw [List.drop_eq_getElem_cons hlt, szL] at hsz
    refine wk (And.intro @hxi (@ruleC.eq_1)) _ ?_
    refine GS.cc (szRule xs[i] m (by omega) hm1 (hs _ (List.getElem_mem hlt))) rfl rfl rfl rfl (by simp [go_sem, List.take_of_length_le, ruleC] <;> with_reducible rfl) rfl (by simp [go_sem, List.take_of_length_le, ruleC]) ?_
    refine wk0 _ ?_
    refine Holds.cond rfl (fun hl => ?_) (fun hl => ?_)
    · have h : szRuleF m xs[i] < 0 := by simpa using hl
      rw [if_pos h] at hsz
      rw [← hsz]
      refine wk0 _ ?_
      refine Out.mk (xs := ?_) ?_ ?_ (by first | exact .inr rfl | exact .inl rfl)
      rotate_left
      · simp [go_sem, List.take_of_length_le] <;> with_reducible rfl
      exact .v _
    · have h : ¬ szRuleF m xs[i] < 0 := by simpa using hl
      rw [if_neg h] at hsz
      refine wk0 _ ?_
      refine ⟨(i + 1, szRuleF m xs[i]), ⟨hlt, by show (0:Int) ≤ _; omega, (szRuleF_in hm1).2, hsz⟩, by show xs.length - (i + 1) < xs.length - i; omega, ?_⟩
      rw [wr64_id (by omega) (by omega)]
      exact Cov.of id (by simp [ChkT, okr, okr1, lk, ren, ren1]) (by simp [ChkB])
  · have hle : i = xs.length := by
      have : ¬ i < xs.length := by simpa using hl
      omega
    subst hle
    rw [List.drop_length, szL] at hsz
    rw [← hsz]
    refine wk0 _ ?_
    refine Out.mk (xs := ?_) ?_ ?_ (by first | exact .inr rfl | exact .inl rfl)
    rotate_left
    · simp [go_sem, List.take_of_length_le] <;> with_reducible rfl
    exact .v _
abbrev GrammarT := Int × Int × List RuleT
def grammarC (x : GrammarT) : List AV := [.v (.int .i64 x.1), .v (.int .i64 x.2.1), .im 2 (rules x.2.2)]
theorem toGrammar (x : GrammarT) (h0 : (x.2.2).length < 8796093022208) (h1 : ∀ qg2 ∈ (x.2.2), (qg2.2).length < 35184372088832) : Pure Try.prog 9 [.ag (grammarC x)] (.ag (grammarC x)) := by
  refine Pure.mk (rs := [.cell 2 31]) (nt := 15) Try.func9 (by kernel_rfl) rfl rfl rfl (by simp) ?_
  simp only [sl, grammarC]
  refine wk0 _ ?_
  refine GS.cc (toRuleS x.2.2 h0 h1) rfl rfl rfl rfl (by simp [go_sem, List.take_of_length_le] <;> with_reducible rfl) rfl (by simp [go_sem, List.take_of_length_le]) ?_
  refine wk0 _ ?_
  refine Out.mk (xs := ?_) ?_ ?_ (by first | exact .inr rfl | exact .inl rfl)
  rotate_left
  · simp [go_sem, List.take_of_length_le] <;> with_reducible rfl
  exact Fz.cl rfl
theorem eqGrammar (a b : GrammarT) (h0 : (a.2.2).length < 8796093022208) (h1 : ∀ qg2 ∈ (a.2.2), (qg2.2).length < 35184372088832) : Pure Try.prog 13 [.ag (grammarC a), .ag (grammarC b)] (.v (.bool (decide (a = b)))) := by
  refine Pure.mk (rs := [.tmp 4]) (nt := 21) Try.func13 (by kernel_rfl) rfl rfl rfl (by simp) ?_
  simp only [sl, grammarC]
  refine wk0 _ ?_
  refine Holds.cond rfl (fun hl => ?_) (fun g0 => ?_)
  · have : ¬ a = b := by rintro rfl; simp at hl
    simp only [this, decide_false]
    refine wk0 _ ?_
    refine Out.mk (xs := ?_) ?_ ?_ (by first | exact .inr rfl | exact .inl rfl)
    rotate_left
    · simp [go_sem, List.take_of_length_le] <;> with_reducible rfl
    exact .v _
  refine wk0 _ ?_
  refine Holds.cond rfl (fun hl => ?_) (fun g1 => ?_)
  · have : ¬ a = b := by rintro rfl; simp at hl
    simp only [this, decide_false]
    refine wk0 _ ?_
    refine Out.mk (xs := ?_) ?_ ?_ (by first | exact .inr rfl | exact .inl rfl)
    rotate_left
    · simp [go_sem, List.take_of_length_le] <;> with_reducible rfl
    exact .v _
  refine wk0 _ ?_
  refine GS.cc (eqRuleS a.2.2 b.2.2 (by omega) h1) rfl rfl rfl rfl (by simp [go_sem, List.take_of_length_le] <;> with_reducible rfl) rfl (by simp [go_sem, List.take_of_length_le]) ?_
  refine wk0 _ ?_
  refine Holds.cond rfl (fun hl => ?_) (fun g2 => ?_)
  · have : ¬ a = b := by rintro rfl; simp at hl
    simp only [this, decide_false]
    refine wk0 _ ?_
    refine Out.mk (xs := ?_) ?_ ?_ (by first | exact .inr rfl | exact .inl rfl)
    rotate_left
    · simp [go_sem, List.take_of_length_le] <;> with_reducible rfl
    exact .v _
  have : a = b := by
    obtain ⟨a0, a1, a2⟩ := a
    obtain ⟨b0, b1, b2⟩ := b
    simp at g0 g1 g2
    simp [g0, g1, g2]
  simp only [this, decide_true]
  refine wk0 _ ?_
  refine Out.mk (xs := ?_) ?_ ?_ (by first | exact .inr rfl | exact .inl rfl)
  rotate_left
  · simp [go_sem, List.take_of_length_le] <;> with_reducible rfl
  exact .v _
def szGrammarF (n : Int) (x : GrammarT) : Int := szLA szRuleF n x.2.2
theorem szGrammarF_in {n : Int} {x : GrammarT} (h1 : n ≤ 1048576) : -1 ≤ szGrammarF n x ∧ szGrammarF n x ≤ 1048576 := szLA_in (fun n x h => szRuleF_in h) h1
theorem szGrammar (x : GrammarT) (n : Int) (h0 : -1 ≤ n) (h1 : n ≤ 1048576) (k0 : (x.2.2).length < 8796093022208) (k1 : ∀ qg2 ∈ (x.2.2), (qg2.2).length < 35184372088832) : Pure Try.prog 7 [.ag (grammarC x), .v (.int .i64 n)] (.v (.int .i64 (szGrammarF n x))) := by
  refine Pure.mk (rs := [.tmp 4]) (nt := 12) Try.func7 (by kernel_rfl) rfl rfl rfl (by simp) ?_
  simp only [sl, grammarC]
  have hin := szGrammarF_in (x := x) h1
  refine wk0 _ ?_
  refine GS.cc (szRuleS x.2.2 n h0 h1 (by omega) k1) rfl rfl rfl rfl (by simp [go_sem, List.take_of_length_le] <;> with_reducible rfl) rfl (by simp [go_sem, List.take_of_length_le]) ?_
  refine wk0 _ ?_
  refine Holds.cond rfl (fun hl => ?_) (fun hl => ?_)
  · have h : szGrammarF n x < 0 := by simpa [szGrammarF] using hl
    rw [show szGrammarF n x = -1 by omega]
    refine wk0 _ ?_
    refine Out.mk (xs := ?_) ?_ ?_ (by first | exact .inr rfl | exact .inl rfl)
    rotate_left
    · simp [go_sem, List.take_of_length_le] <;> with_reducible rfl
    exact .v _
  · refine wk0 _ ?_
    refine Out.mk (xs := ?_) ?_ ?_ (by first | exact .inr rfl | exact .inl rfl)
    rotate_left
    · simp [go_sem, List.take_of_length_le] <;> with_reducible rfl
    exact .v _
end Go.Proofs.Ytkolhcoeifghpaa.En
end
section
namespace Go.Proofs.Ytkolhcoeifghpaa.En
open Go.RowKit
set_option linter.unusedSimpArgs false
set_option linter.unusedVariables false
set_option maxHeartbeats 4000000
def inR (x lo hi : Int) : Bool := decide (lo ≤ x) && decide (x ≤ hi)
theorem l1In (x lo hi : Int) : Pure Try.prog 58 [.v (.int .i64 x), .v (.int .i64 lo), .v (.int .i64 hi)] (.v (.bool (inR x lo hi))) := by
  refine Pure.mk (rs := [.tmp 6]) (nt := 15) Try.func58 (by kernel_rfl) rfl rfl rfl (by simp) ?_
  simp only [sl]
  refine wk0 _ ?_
  refine GS.guard (t := 10) rfl (fun h => ?_) (fun h => ?_)
  · have h : lo ≤ x := by simpa using h
    rw [show inR x lo hi = decide (x ≤ hi) by simp [inR, h]]
    refine wk0 _ ?_
    refine Out.mk (xs := ?_) ?_ ?_ (by first | exact .inr rfl | exact .inl rfl)
    rotate_left
    · simp [go_sem, List.take_of_length_le] <;> with_reducible rfl
    exact .v _
  · have h : ¬ lo ≤ x := by simpa using h
    rw [show inR x lo hi = false by simp [inR, h]]
    refine wk0 _ ?_
    refine Out.mk (xs := ?_) ?_ ?_ (by first | exact .inr rfl | exact .inl rfl)
    rotate_left
    · simp [go_sem, List.take_of_length_le] <;> with_reducible rfl
    exact .v _
theorem implIn (x lo hi : Int) : Pure Try.prog 34 [.v (.int .i64 x), .v (.int .i64 lo), .v (.int .i64 hi)] (.v (.bool (inR x lo hi))) := by
  refine Pure.mk (rs := [.tmp 6]) (nt := 15) Try.func34 (by kernel_rfl) rfl rfl rfl (by simp) ?_
  simp only [sl]
  refine wk0 _ ?_
  refine GS.guard (t := 10) rfl (fun h => ?_) (fun h => ?_)
  · have h : lo ≤ x := by simpa using h
    rw [show inR x lo hi = decide (x ≤ hi) by simp [inR, h]]
    refine wk0 _ ?_
    refine Out.mk (xs := ?_) ?_ ?_ (by first | exact .inr rfl | exact .inl rfl)
    rotate_left
    · simp [go_sem, List.take_of_length_le] <;> with_reducible rfl
    exact .v _
  · have h : ¬ lo ≤ x := by simpa using h
    rw [show inR x lo hi = false by simp [inR, h]]
    refine wk0 _ ?_
    refine Out.mk (xs := ?_) ?_ ?_ (by first | exact .inr rfl | exact .inl rfl)
    rotate_left
    · simp [go_sem, List.take_of_length_le] <;> with_reducible rfl
    exact .v _
def allB (p : Nat → Bool) : Nat → Bool
  | 0 => true
  | n + 1 => allB p n && p n
theorem allB_no {p : Nat → Bool} {n i : Nat} (hi : i < n) (h : p i = false) : allB p n = false := by
  induction n with
  | zero => omega
  | succ n ih =>
    unfold allB
    by_cases e : i = n
    · subst e; simp [h]
    · simp [ih (by omega)]
end Go.Proofs.Ytkolhcoeifghpaa.En
end
section
namespace Go.Proofs.Ytkolhcoeifghpaa.En
open Go.RowKit
set_option linter.unusedSimpArgs false
set_option linter.unusedVariables false
set_option maxHeartbeats 4000000
def hasN (xs : List Int) (n : Int) : Bool := xs.contains n
end Go.Proofs.Ytkolhcoeifghpaa.En
end
section
namespace Go.Proofs.Ytkolhcoeifghpaa.En
open Go.RowKit
set_option linter.unusedSimpArgs false
set_option linter.unusedVariables false
set_option maxHeartbeats 4000000
def handC (long : Nat) (h : Nat × Bool) : List AV := [.v (.int .i64 long), .v (.int .i64 h.1), .v (.bool h.2)]
def hands (long : Nat) (hs : List (Nat × Bool)) : List (List AV) := hs.map (handC long)
@[simp] theorem hands_len (long : Nat) (hs : List (Nat × Bool)) : (hands long hs).length = hs.length := by simp [hands]
@[simp] theorem hands_get (long : Nat) (hs : List (Nat × Bool)) (i : Nat) : (hands long hs)[i]? = (hs[i]?).map (handC long) := by simp [hands]
@[simp] theorem hands_gE (long : Nat) (hs : List (Nat × Bool)) (i : Nat) (h : i < (hands long hs).length) : (hands long hs)[i] = handC long (hs[i]'(by simpa using h)) := by simp [hands]
@[simp] theorem nfr_hands (long : Nat) (hs : List (Nat × Bool)) : nfr (hands long hs) := by
  intro row hr x hx
  simp only [hands, List.mem_map] at hr
  obtain ⟨n, _, rfl⟩ := hr
  simp only [handC, List.mem_cons, List.not_mem_nil, or_false] at hx
  rcases hx with rfl | rfl | rfl <;> rfl
def mix {α : Type} (xs ys : List α) (i : Nat) : List α := xs.take i ++ ys.drop i
@[simp] theorem mix_zero {α : Type} (xs ys : List α) : mix xs ys 0 = ys := by simp [mix]
@[simp] theorem nfr.mix {xs ys : List (List AV)} (h : nfr xs) (h' : nfr ys) (i : Nat) : nfr (En.mix xs ys i) := by
  unfold En.mix
  rw [nfr_append]
  exact ⟨h.take i, h'.drop i⟩
@[simp] theorem nfr_mixHands (a b : Nat) (xs ys : List (Nat × Bool)) (i : Nat) : nfr (mix (hands a xs) (hands b ys) i) := (nfr_hands a xs).mix (nfr_hands b ys) i

end Go.Proofs.Ytkolhcoeifghpaa.En
end
section
namespace Go.Proofs.Ytkolhcoeifghpaa.En
open Go.RowKit
set_option linter.unusedSimpArgs false
set_option linter.unusedVariables false
set_option maxHeartbeats 4000000
end Go.Proofs.Ytkolhcoeifghpaa.En
end
section
namespace Go.Proofs.Ytkolhcoeifghpaa.En
open Go.RowKit
set_option linter.unusedSimpArgs false
set_option linter.unusedVariables false
set_option maxHeartbeats 4000000
theorem hasN_dec (xs : List Int) (n : Int) : hasN xs n = decide (n ∈ xs) := by simp [hasN, List.contains_eq_mem]
def bools (xs : List Bool) : List (List AV) := xs.map fun b => [.v (.bool b)]
@[simp] theorem bools_len (xs : List Bool) : (bools xs).length = xs.length := by simp [bools]
@[simp] theorem bools_get (xs : List Bool) (i : Nat) : (bools xs)[i]? = (xs[i]?).map fun n => [.v (.bool n)] := by simp [bools]
@[simp] theorem bools_gE (xs : List Bool) (i : Nat) (h : i < (bools xs).length) : (bools xs)[i] = [.v (.bool (xs[i]'(by simpa using h)))] := by simp [bools]
@[simp] theorem bools_set (xs : List Bool) (i : Nat) (n : Bool) : (bools xs).set i [.v (.bool n)] = bools (xs.set i n) := by simp [bools, List.map_set]
@[simp] theorem bools_rep (n : Nat) (x : Bool) : List.replicate n [AV.v (.bool x)] = bools (List.replicate n x) := by simp [bools]
theorem bools_cl (xs : List Bool) : ∀ row ∈ bools xs, ∀ x ∈ row, cl1 x = true := by
  intro row hr x hx
  simp only [bools, List.mem_map] at hr
  obtain ⟨n, _, rfl⟩ := hr
  simp at hx; subst hx; rfl
@[simp] theorem nfr_bools (xs : List Bool) : nfr (bools xs) := nfr_of_ok (bools_cl xs)
end Go.Proofs.Ytkolhcoeifghpaa.En
end
section
namespace Go.Proofs.Ytkolhcoeifghpaa.En
open Go.RowKit
set_option linter.unusedSimpArgs false
set_option linter.unusedVariables false
set_option maxHeartbeats 4000000
def fstP {α : Type} (p : α → Bool) : List α → Nat → Int
  | [], _ => -1
  | x :: xs, k => if p x then (k : Int) else fstP p xs (k + 1)
theorem fstP_at {α : Type} {p : α → Bool} : ∀ (xs : List α) (i k : Nat) {n : α}, xs[i]? = some n → p n = true → (∀ j, j < i → ∀ x, xs[j]? = some x → p x = false) → fstP p xs k = ((k + i : Nat) : Int)
  | [], i, k, n, h, _, _ => by simp at h
  | x :: xs, 0, k, n, h, hp, _ => by simp at h; subst h; simp [fstP, hp]
  | x :: xs, i + 1, k, n, h, hp, hno => by
    have h0 : p x = false := hno 0 (by omega) x (by simp)
    unfold fstP
    rw [if_neg (by simp [h0]), fstP_at xs i (k + 1) (by simpa using h) hp fun j hj y hy => hno (j + 1) (by omega) y (by simpa using hy)]
    congr 1; omega
theorem fstP_no {α : Type} {p : α → Bool} : ∀ (xs : List α) (k : Nat), (∀ (j : Nat) (x : α), xs[j]? = some x → p x = false) → fstP p xs k = -1
  | [], k, _ => rfl
  | x :: xs, k, h => by
    unfold fstP
    rw [if_neg (by simp [h 0 x (by simp)]), fstP_no xs (k + 1) fun j y hy => h (j + 1) y (by simpa using hy)]
theorem fstP_any {α : Type} (p : α → Bool) : ∀ (xs : List α) (k : Nat), decide (fstP p xs k ≥ 0) = xs.any p
  | [], k => by simp [fstP]
  | x :: xs, k => by
    unfold fstP
    cases h : p x
    · rw [if_neg (by simp), fstP_any p xs (k + 1)]; simp [h]
    · simp [h]
theorem okr1_cl {nx : Nat} {x : AV} (h : cl1 x = true) : okr1 nx x = true := by cases x <;> simp_all [cl1, okr1]
theorem ren1_cl {ρ : Nat → Nat} {x : AV} (h : cl1 x = true) : ren1 ρ x = x := by cases x <;> simp_all [cl1, ren1]
theorem all_cl1 {cap : List AV} (h : cap.all cl1 = true) : cap.all cl = true := by
  rw [List.all_eq_true] at h ⊢
  intro x hx
  have := h x hx
  cases x <;> simp_all [cl, cl1]
theorem okr1_cap {cap : List AV} (h : cap.all cl1 = true) (nx : Nat) : cap.all (okr1 nx) = true := by
  rw [List.all_eq_true] at h ⊢
  exact fun x hx => okr1_cl (h x hx)
theorem ren1_cap {cap : List AV} (h : cap.all cl1 = true) (ρ : Nat → Nat) : cap.map (ren1 ρ) = cap := by
  rw [List.all_eq_true] at h
  have : ∀ x ∈ cap, ren1 ρ x = id x := fun x hx => ren1_cl (h x hx)
  rw [List.map_congr_left this]; simp
theorem Fz.box {bl : List (Nat × Blk)} {n sz : Nat} {k : Blk} {cs : List AV} (hk : lb bl n = some k) (hx : k.xs = [cs]) (hz : k.sz = sz) (hc : cs.all En.cl1 = true) : Fz bl (.pb n sz 0 0) (.pi cs) := by
  subst hz
  refine .pb n 0 0 k cs cs hk (by rw [hx]; rfl) (by simp) (fun q x y h1 h2 => ?_)
  rw [List.drop_zero, h2] at h1
  have e := Option.some.inj h1
  subst e
  rw [List.all_eq_true] at hc
  exact .cl1 (hc _ (List.mem_of_getElem? h2))
theorem all_not_any {α : Type} (p : α → Bool) (xs : List α) : xs.all p = !xs.any (fun x => !p x) := by
  induction xs with
  | nil => rfl
  | cons x xs ih => simp only [List.all_cons, List.any_cons, ih, Bool.not_or, Bool.not_not]
theorem indexFuncInt (g : FuncId) (cap : List AV) (p : Int → Bool) (xs : List Int) (hx : xs.length < 4611686018427387904) (hcap : cap.all cl1 = true) (hg : ∀ x ∈ xs, Pure Try.prog g (.v (.int .i64 x) :: cap) (.v (.bool (p x)))) : Pure Try.prog 66 [.im 1 (ints xs), .fn g cap] (.v (.int .i64 (fstP p xs 0))) := by
  refine Pure.mk (rs := [.tmp 4]) (nt := 19) Try.func66 (by kernel_rfl) rfl rfl rfl (by simp) ?_
  simp only [sl]
  refine wk0 _ ?_
  refine Holds.loop (ι := Nat) (fun i => ⟨[(0, .im 1 (ints xs)), (1, .fn g cap), (7, .v (.int .i64 xs.length)), (8, .v (.int .i64 i))], [], 0⟩) (fun i => i ≤ xs.length ∧ ∀ j, j < i → ∀ x, xs[j]? = some x → p x = false) (fun i => xs.length - i) 0 ⟨Nat.zero_le _, fun j hj => absurd hj (Nat.not_lt_zero j)⟩ ?_ ?_
  · exact Cov.ofn id rfl (by simp [go_sem, ren, ren1, okr, okr1, ChkT, okr1_cap hcap, ren1_cap hcap]) (by simp [ChkN])
  rintro i ⟨hi, hno⟩
  refine wk0 _ ?_
  refine Holds.cond rfl (fun hl => ?_) (fun hl => ?_)
  · have hlt : i < xs.length := by simpa using hl
    have hxi : xs[i]? = some xs[i] := List.getElem?_eq_getElem hlt
    have hgi := hg _ (List.getElem_mem hlt)
    refine wk (@hxi) _ ?_
    refine GS.cc (hgi) rfl rfl rfl rfl (by simp [go_sem, List.take_of_length_le, hcap, all_cl1 hcap] <;> with_reducible rfl) rfl (by simp [go_sem, List.take_of_length_le, hcap, all_cl1 hcap]) ?_
    refine wk0 _ ?_
    refine Holds.cond rfl (fun hl => ?_) (fun hl => ?_)
    · rw [fstP_at xs i 0 hxi hl hno, Nat.zero_add]
      refine wk0 _ ?_
      refine Out.mk (xs := ?_) ?_ ?_ (by first | exact .inr rfl | exact .inl rfl)
      rotate_left
      · simp [go_sem, List.take_of_length_le] <;> with_reducible rfl
      exact .v _
    · refine wk0 _ ?_
      refine ⟨i + 1, ⟨by omega, fun j hj x hxj => ?_⟩, by omega, ?_⟩
      · by_cases e : j = i
        · subst e; rw [hxi] at hxj; cases hxj; exact hl
        · exact hno j (by omega) x hxj
      rw [wr64_id (by omega) (by omega)]
      exact Cov.ofn id rfl (by simp [go_sem, ren, ren1, okr, okr1, ChkT, okr1_cap hcap, ren1_cap hcap]) (by simp [ChkN])
  · have hle : i = xs.length := by
      have : ¬ i < xs.length := by simpa using hl
      omega
    rw [fstP_no xs 0 fun j x hj => hno j (by have := (List.getElem?_eq_some_iff.1 hj).1; omega) x hj]
    refine wk0 _ ?_
    refine Out.mk (xs := ?_) ?_ ?_ (by first | exact .inr rfl | exact .inl rfl)
    rotate_left
    · simp [go_sem, List.take_of_length_le] <;> with_reducible rfl
    exact .v _
theorem containsFuncInt (g : FuncId) (cap : List AV) (p : Int → Bool) (xs : List Int) (hx : xs.length < 4611686018427387904) (hcap : cap.all cl1 = true) (hg : ∀ x ∈ xs, Pure Try.prog g (.v (.int .i64 x) :: cap) (.v (.bool (p x)))) : Pure Try.prog 93 [.im 1 (ints xs), .fn g cap] (.v (.bool (xs.any p))) := by
  refine Pure.mk (rs := [.tmp 4]) (nt := 9) Try.func93 (by kernel_rfl) rfl rfl rfl (by simp) ?_
  simp only [sl]
  refine wk0 _ ?_
  refine GS.cc (indexFuncInt g cap p xs hx hcap hg) rfl rfl rfl rfl (by simp [go_sem, List.take_of_length_le, hcap, all_cl1 hcap] <;> with_reducible rfl) rfl (by simp [go_sem, List.take_of_length_le, hcap, all_cl1 hcap]) ?_
  rw [← fstP_any p xs 0]
  refine wk0 _ ?_
  refine Out.mk (xs := ?_) ?_ ?_ (by first | exact .inr rfl | exact .inl rfl)
  rotate_left
  · simp [go_sem, List.take_of_length_le] <;> with_reducible rfl
  exact .v _
theorem indexFuncRule (g : FuncId) (cap : List AV) (p : RuleT → Bool) (xs : List RuleT) (hx : xs.length < 4611686018427387904) (hcap : cap.all cl1 = true) (hg : ∀ x ∈ xs, Pure Try.prog g (.ag (ruleC x) :: cap) (.v (.bool (p x)))) : Pure Try.prog 71 [.im 2 (rules xs), .fn g cap] (.v (.int .i64 (fstP p xs 0))) := by
  refine Pure.mk (rs := [.tmp 4]) (nt := 19) Try.func71 (by kernel_rfl) rfl rfl rfl (by simp) ?_
  simp only [sl]
  refine wk0 _ ?_
  refine Holds.loop (ι := Nat) (fun i => ⟨[(0, .im 2 (rules xs)), (1, .fn g cap), (7, .v (.int .i64 xs.length)), (8, .v (.int .i64 i))], [], 0⟩) (fun i => i ≤ xs.length ∧ ∀ j, j < i → ∀ x, xs[j]? = some x → p x = false) (fun i => xs.length - i) 0 ⟨Nat.zero_le _, fun j hj => absurd hj (Nat.not_lt_zero j)⟩ ?_ ?_
  · exact Cov.ofn id rfl (by simp [go_sem, ren, ren1, okr, okr1, ChkT, okr1_cap hcap, ren1_cap hcap]) (by simp [ChkN])
  rintro i ⟨hi, hno⟩
  refine wk0 _ ?_
  refine Holds.cond rfl (fun hl => ?_) (fun hl => ?_)
  · have hlt : i < xs.length := by simpa using hl
    have hxi : xs[i]? = some xs[i] := List.getElem?_eq_getElem hlt
    have hgi := hg _ (List.getElem_mem hlt)
    refine wk (And.intro @hxi (@ruleC.eq_1)) _ ?_
    refine GS.cc (hgi) rfl rfl rfl rfl (by simp [go_sem, List.take_of_length_le, hcap, all_cl1 hcap , ruleC] <;> with_reducible rfl) rfl (by simp [go_sem, List.take_of_length_le, hcap, all_cl1 hcap , ruleC]) ?_
    refine wk0 _ ?_
    refine Holds.cond rfl (fun hl => ?_) (fun hl => ?_)
    · rw [fstP_at xs i 0 hxi hl hno, Nat.zero_add]
      refine wk0 _ ?_
      refine Out.mk (xs := ?_) ?_ ?_ (by first | exact .inr rfl | exact .inl rfl)
      rotate_left
      · simp [go_sem, List.take_of_length_le] <;> with_reducible rfl
      exact .v _
    · refine wk0 _ ?_
      refine ⟨i + 1, ⟨by omega, fun j hj x hxj => ?_⟩, by omega, ?_⟩
      · by_cases e : j = i
        · subst e; rw [hxi] at hxj; cases hxj; exact hl
        · exact hno j (by omega) x hxj
      rw [wr64_id (by omega) (by omega)]
      exact Cov.ofn id rfl (by simp [go_sem, ren, ren1, okr, okr1, ChkT, okr1_cap hcap, ren1_cap hcap]) (by simp [ChkN])
  · have hle : i = xs.length := by
      have : ¬ i < xs.length := by simpa using hl
      omega
    rw [fstP_no xs 0 fun j x hj => hno j (by have := (List.getElem?_eq_some_iff.1 hj).1; omega) x hj]
    refine wk0 _ ?_
    refine Out.mk (xs := ?_) ?_ ?_ (by first | exact .inr rfl | exact .inl rfl)
    rotate_left
    · simp [go_sem, List.take_of_length_le] <;> with_reducible rfl
    exact .v _
theorem containsFuncRule (g : FuncId) (cap : List AV) (p : RuleT → Bool) (xs : List RuleT) (hx : xs.length < 4611686018427387904) (hcap : cap.all cl1 = true) (hg : ∀ x ∈ xs, Pure Try.prog g (.ag (ruleC x) :: cap) (.v (.bool (p x)))) : Pure Try.prog 63 [.im 2 (rules xs), .fn g cap] (.v (.bool (xs.any p))) := by
  refine Pure.mk (rs := [.tmp 4]) (nt := 9) Try.func63 (by kernel_rfl) rfl rfl rfl (by simp) ?_
  simp only [sl]
  refine wk0 _ ?_
  refine GS.cc (indexFuncRule g cap p xs hx hcap hg) rfl rfl rfl rfl (by simp [go_sem, List.take_of_length_le, hcap, all_cl1 hcap] <;> with_reducible rfl) rfl (by simp [go_sem, List.take_of_length_le, hcap, all_cl1 hcap]) ?_
  rw [← fstP_any p xs 0]
  refine wk0 _ ?_
  refine Out.mk (xs := ?_) ?_ ?_ (by first | exact .inr rfl | exact .inl rfl)
  rotate_left
  · simp [go_sem, List.take_of_length_le] <;> with_reducible rfl
  exact .v _
def symOk (nons toks x : Int) : Bool := inR x (-toks) (nons - 1)
theorem l1Symbol (g : GrammarT) (x : Int) (h0 : 1 ≤ g.1) (h1 : g.1 ≤ 6) (h2 : 1 ≤ g.2.1) (h3 : g.2.1 ≤ 4) : Pure Try.prog 59 [.ag (grammarC g), .v (.int .i64 x)] (.v (.bool (symOk g.1 g.2.1 x))) := by
  refine Pure.mk (rs := [.tmp 4]) (nt := 13) Try.func59 (by kernel_rfl) rfl rfl rfl (by simp) ?_
  simp only [sl, grammarC]
  have hw : wr64 (g.1 - 1) = g.1 - 1 := wr64_id (by omega) (by omega)
  have hw2 : wr64 (-g.2.1) = -g.2.1 := wr64_id (by omega) (by omega)
  have hw3 : wr64 (0 - g.2.1) = -g.2.1 := by rw [wr64_id (by omega) (by omega)]; omega
  refine wk (And.intro @hw (And.intro @hw2 (@hw3))) _ ?_
  refine GS.cc (l1In x (-g.2.1) (g.1 - 1)) rfl rfl rfl rfl (by simp [go_sem, List.take_of_length_le] <;> with_reducible rfl) rfl (by simp [go_sem, List.take_of_length_le]) ?_
  refine wk0 _ ?_
  refine Out.mk (xs := ?_) ?_ ?_ (by first | exact .inr rfl | exact .inl rfl)
  rotate_left
  · simp [go_sem, List.take_of_length_le] <;> with_reducible rfl
  exact .v _
theorem isSymbol (n t x : Int) (h0 : 1 ≤ n) (h1 : n ≤ 6) (h2 : 1 ≤ t) (h3 : t ≤ 4) : Pure Try.prog 95 [.v (.int .i64 x), .v (.int .i64 n), .v (.int .i64 t)] (.v (.bool (symOk n t x))) := by
  refine Pure.mk (rs := [.tmp 6]) (nt := 13) Try.func95 (by kernel_rfl) rfl rfl rfl (by simp) ?_
  simp only [sl]
  have hw : wr64 (n - 1) = n - 1 := wr64_id (by omega) (by omega)
  have hw2 : wr64 (-t) = -t := wr64_id (by omega) (by omega)
  have hw3 : wr64 (0 - t) = -t := by rw [wr64_id (by omega) (by omega)]; omega
  refine wk (And.intro @hw (And.intro @hw2 (@hw3))) _ ?_
  refine GS.cc (implIn x (-t) (n - 1)) rfl rfl rfl rfl (by simp [go_sem, List.take_of_length_le] <;> with_reducible rfl) rfl (by simp [go_sem, List.take_of_length_le]) ?_
  refine wk0 _ ?_
  refine Out.mk (xs := ?_) ?_ ?_ (by first | exact .inr rfl | exact .inl rfl)
  rotate_left
  · simp [go_sem, List.take_of_length_le] <;> with_reducible rfl
  exact .v _
theorem areSymbols1 (n t x : Int) (h0 : 1 ≤ n) (h1 : n ≤ 6) (h2 : 1 ≤ t) (h3 : t ≤ 4) : Pure Try.prog 94 [.v (.int .i64 x), .pi [.v (.int .i64 n)], .pi [.v (.int .i64 t)]] (.v (.bool (!symOk n t x))) := by
  refine Pure.mk (rs := [.tmp 4]) (nt := 10) Try.func94 (by kernel_rfl) rfl rfl rfl (by simp) ?_
  simp only [sl]
  refine wk0 _ ?_
  refine GS.cc (isSymbol n t x h0 h1 h2 h3) rfl rfl rfl rfl (by simp [go_sem, List.take_of_length_le] <;> with_reducible rfl) rfl (by simp [go_sem, List.take_of_length_le]) ?_
  refine wk0 _ ?_
  refine Out.mk (xs := ?_) ?_ ?_ (by first | exact .inr rfl | exact .inl rfl)
  rotate_left
  · simp [go_sem, List.take_of_length_le] <;> with_reducible rfl
  exact .v _
theorem areSymbols (xs : List Int) (n t : Int) (h0 : 1 ≤ n) (h1 : n ≤ 6) (h2 : 1 ≤ t) (h3 : t ≤ 4) (hx : xs.length < 4611686018427387904) : Pure Try.prog 62 [.im 1 (ints xs), .v (.int .i64 n), .v (.int .i64 t)] (.v (.bool (xs.all (symOk n t)))) := by
  refine Pure.mk (rs := [.tmp 6]) (nt := 11) Try.func62 (by kernel_rfl) rfl rfl rfl (by simp) ?_
  simp only [sl]
  have hc := containsFuncInt 94 [.pi [.v (.int .i64 n)], .pi [.v (.int .i64 t)]] (fun x => !symOk n t x) xs hx rfl (fun x _ => areSymbols1 n t x h0 h1 h2 h3)
  rw [all_not_any (symOk n t) xs]
  refine wk0 _ ?_
  refine GS.cd (hc) rfl rfl rfl rfl (by simp [go_sem, List.take_of_length_le] <;> with_reducible rfl) rfl (by exact .cons (.im _ _) (.cons (Fz.fnL (.cons (Fz.box rfl rfl rfl rfl) (.cons (Fz.box rfl rfl rfl rfl) .nil))) .nil)) rfl ?_
  refine wk0 _ ?_
  refine Out.mk (xs := ?_) ?_ ?_ (by first | exact .inr rfl | exact .inl rfl)
  rotate_left
  · simp [go_sem, List.take_of_length_le] <;> with_reducible rfl
  exact .v _
theorem l1SameRule (a b : RuleT) (hx : a.2.length < 4611686018427387904) : Pure Try.prog 60 [.ag (ruleC a), .ag (ruleC b)] (.v (.bool (decide (a = b)))) := by
  refine Pure.mk (rs := [.tmp 4]) (nt := 17) Try.func60 (by kernel_rfl) rfl rfl rfl (by simp) ?_
  simp only [sl, ruleC]
  refine wk0 _ ?_
  refine GS.guard (t := 10) rfl (fun h1 => ?_) (fun h1 => ?_)
  · refine wk0 _ ?_
    refine GS.cc (l1Same a.2 b.2 hx) rfl rfl rfl rfl (by simp [go_sem, List.take_of_length_le] <;> with_reducible rfl) rfl (by simp [go_sem, List.take_of_length_le]) ?_
    refine wk0 _ ?_
    have : decide (a.2 = b.2) = decide (a = b) := by
      obtain ⟨a1, a2⟩ := a
      obtain ⟨b1, b2⟩ := b
      simp at h1
      simp [h1]
    simp only [this]
    refine Out.mk (xs := ?_) ?_ ?_ (by first | exact .inr rfl | exact .inl rfl)
    rotate_left
    · simp [go_sem, List.take_of_length_le] <;> with_reducible rfl
    exact .v _
  · have : ¬ a = b := by rintro rfl; simp at h1
    simp only [this, decide_false]
    refine wk0 _ ?_
    refine Out.mk (xs := ?_) ?_ ?_ (by first | exact .inr rfl | exact .inl rfl)
    rotate_left
    · simp [go_sem, List.take_of_length_le] <;> with_reducible rfl
    exact .v _
theorem sameRule (a b : RuleT) (hx : a.2.length < 4611686018427387904) : Pure Try.prog 65 [.ag (ruleC a), .ag (ruleC b)] (.v (.bool (decide (a = b)))) := by
  refine Pure.mk (rs := [.tmp 4]) (nt := 17) Try.func65 (by kernel_rfl) rfl rfl rfl (by simp) ?_
  simp only [sl, ruleC]
  refine wk0 _ ?_
  refine GS.guard (t := 10) rfl (fun h1 => ?_) (fun h1 => ?_)
  · refine wk0 _ ?_
    refine GS.cc (equalInts a.2 b.2 hx) rfl rfl rfl rfl (by simp [go_sem, List.take_of_length_le] <;> with_reducible rfl) rfl (by simp [go_sem, List.take_of_length_le]) ?_
    refine wk0 _ ?_
    have : decide (a.2 = b.2) = decide (a = b) := by
      obtain ⟨a1, a2⟩ := a
      obtain ⟨b1, b2⟩ := b
      simp at h1
      simp [h1]
    simp only [this]
    refine Out.mk (xs := ?_) ?_ ?_ (by first | exact .inr rfl | exact .inl rfl)
    rotate_left
    · simp [go_sem, List.take_of_length_le] <;> with_reducible rfl
    exact .v _
  · have : ¬ a = b := by rintro rfl; simp at h1
    simp only [this, decide_false]
    refine wk0 _ ?_
    refine Out.mk (xs := ?_) ?_ ?_ (by first | exact .inr rfl | exact .inl rfl)
    rotate_left
    · simp [go_sem, List.take_of_length_le] <;> with_reducible rfl
    exact .v _
theorem isGrammar1 (a b : RuleT) (hx : a.2.length < 4611686018427387904) : Pure Try.prog 64 [.ag (ruleC a), .pi (ruleC b)] (.v (.bool (decide (a = b)))) := by
  refine Pure.mk (rs := [.tmp 3]) (nt := 7) Try.func64 (by kernel_rfl) rfl rfl rfl (by simp) ?_
  simp only [sl, ruleC]
  refine wk0 _ ?_
  refine GS.cc (sameRule a b hx) rfl rfl rfl rfl (by simp [go_sem, List.take_of_length_le, ruleC] <;> with_reducible rfl) rfl (by simp [go_sem, List.take_of_length_le, ruleC]) ?_
  refine wk0 _ ?_
  refine Out.mk (xs := ?_) ?_ ?_ (by first | exact .inr rfl | exact .inl rfl)
  rotate_left
  · simp [go_sem, List.take_of_length_le] <;> with_reducible rfl
  exact .v _
end Go.Proofs.Ytkolhcoeifghpaa.En
end
section
namespace Go.Proofs.Ytkolhcoeifghpaa.En
open Go.RowKit
set_option linter.unusedSimpArgs false
set_option linter.unusedVariables false
set_option maxHeartbeats 8000000
def goodAtG (g : GrammarT) (i : Nat) : Bool :=
  inR (g.2.2.getD i (0, [])).1 0 (g.1 - 1) && decide ((g.2.2.getD i (0, [])).2.length ≤ 4) && (g.2.2.getD i (0, [])).2.all (symOk g.1 g.2.1) && !(g.2.2.take i).any (fun s => decide (s = g.2.2.getD i (0, [])))
def goodG (g : GrammarT) : Bool := inR g.1 1 6 && inR g.2.1 1 4 && decide (g.2.2.length ≤ 16) && allB (goodAtG g) g.2.2.length
theorem any_at {α : Type} {p : α → Bool} {xs : List α} {i : Nat} {x : α} (h : xs[i]? = some x) (hp : p x = true) : xs.any p = true := List.any_eq_true.2 ⟨x, List.mem_of_getElem? h, hp⟩
theorem all_at {α : Type} {p : α → Bool} {xs : List α} {i : Nat} {x : α} (h : xs[i]? = some x) (hp : p x = false) : xs.all p = false := List.all_eq_false.2 ⟨x, List.mem_of_getElem? h, by simp [hp]⟩
theorem implGoodG (g : GrammarT) (hx : g.2.2.length < 4611686018427387904) (hs : ∀ e ∈ g.2.2, e.2.length < 4611686018427387904) : Pure Try.prog 33 [.ag (grammarC g)] (.v (.bool (goodG g))) := by
  refine Pure.mk (rs := [.tmp 2]) (nt := 59) Try.func33 (by kernel_rfl) rfl rfl rfl (by simp) ?_
  simp only [sl, grammarC]
  refine wk0 _ ?_
  refine GS.cc (implIn g.1 1 6) rfl rfl rfl rfl (by simp [go_sem, List.take_of_length_le] <;> with_reducible rfl) rfl (by simp [go_sem, List.take_of_length_le]) ?_
  generalize hg1 : inR g.1 1 6 = b1
  refine wk0 _ ?_
  refine GS.guard (t := 9) rfl (fun h => ?_) (fun h => ?_)
  · have h : b1 = false := by simpa using h
    subst h
    rw [show goodG g = false by rw [goodG, hg1]; rfl]
    refine wk0 _ ?_
    refine Holds.cond rfl (fun h => ?_) (fun h => ?_)
    · refine wk0 _ ?_
      refine Out.mk (xs := ?_) ?_ ?_ (by first | exact .inr rfl | exact .inl rfl)
      rotate_left
      · simp [go_sem, List.take_of_length_le] <;> with_reducible rfl
      exact .v _
    · cases h
  have hA : inR g.1 1 6 = true := by rw [hg1]; simpa using h
  have hA' : 1 ≤ g.1 ∧ g.1 ≤ 6 := by simpa [inR] using hA
  have hw : wr64 (g.1 - 1) = g.1 - 1 := wr64_id (by omega) (by omega)
  clear hg1 h
  refine wk0 _ ?_
  refine GS.cc (implIn g.2.1 1 4) rfl rfl rfl rfl (by simp [go_sem, List.take_of_length_le] <;> with_reducible rfl) rfl (by simp [go_sem, List.take_of_length_le]) ?_
  generalize hg1 : inR g.2.1 1 4 = b1
  refine wk0 _ ?_
  refine GS.guard (t := 15) rfl (fun h => ?_) (fun h => ?_)
  · have h : b1 = false := by simpa using h
    subst h
    rw [show goodG g = false by rw [goodG, hA, hg1]; rfl]
    refine wk0 _ ?_
    refine Holds.cond rfl (fun h => ?_) (fun h => ?_)
    · refine wk0 _ ?_
      refine Out.mk (xs := ?_) ?_ ?_ (by first | exact .inr rfl | exact .inl rfl)
      rotate_left
      · simp [go_sem, List.take_of_length_le] <;> with_reducible rfl
      exact .v _
    · cases h
  have hB : inR g.2.1 1 4 = true := by rw [hg1]; simpa using h
  have hB' : 1 ≤ g.2.1 ∧ g.2.1 ≤ 4 := by simpa [inR] using hB
  clear hg1 h
  refine wk0 _ ?_
  refine Holds.cond rfl (fun h => ?_) (fun h => ?_)
  · rw [show goodG g = false by have h : ¬ g.2.2.length ≤ 16 := (by simp at h; omega); rw [goodG, hA, hB, decide_eq_false h]; rfl]
    refine wk0 _ ?_
    refine Out.mk (xs := ?_) ?_ ?_ (by first | exact .inr rfl | exact .inl rfl)
    rotate_left
    · simp [go_sem, List.take_of_length_le] <;> with_reducible rfl
    exact .v _
  have hC : g.2.2.length ≤ 16 := by simp at h; omega
  have hG : goodG g = allB (goodAtG g) g.2.2.length := by rw [goodG, hA, hB, decide_eq_true hC]; rfl
  rw [hG]
  clear h
  refine wk0 _ ?_
  refine Holds.loop (ι := Nat) (fun i => ⟨[(1, .pb 0 3 0 0), (22, .im 2 (rules g.2.2)), (23, .v (.int .i64 g.2.2.length)), (24, .v (.int .i64 i))], [(0, ⟨31, 3, [[.v (.int .i64 g.1), .v (.int .i64 g.2.1), .im 2 (rules g.2.2)]]⟩)], 1⟩) (fun i => i ≤ g.2.2.length ∧ allB (goodAtG g) i = true) (fun i => g.2.2.length - i) 0 ⟨Nat.zero_le _, rfl⟩ ?_ ?_
  · exact Cov.ofn (id) rfl (by simp [go_sem, List.take_of_length_le, ren, ren1, ren2, okr, okr1, okr2, ChkT, ChkN, BlkN, nf]) (by simp [go_sem, List.take_of_length_le, ren, ren1, ren2, okr, okr1, okr2, ChkT, ChkN, BlkN, nf])
  rintro i ⟨hi, hall⟩
  refine wk0 _ ?_
  refine Holds.cond rfl (fun hl => ?_) (fun hl => ?_)
  · have hlt : i < g.2.2.length := by simpa using hl
    have hxi : g.2.2[i]? = some g.2.2[i] := List.getElem?_eq_getElem hlt
    have hd : g.2.2.getD i (0, []) = g.2.2[i] := by simp [hlt]
    have no : goodAtG g i = false → Out Try.prog [.tmp 2] (.v (.bool (allB (goodAtG g) g.2.2.length))) = Out Try.prog [.tmp 2] (.v (.bool false)) := fun h => by rw [allB_no hlt h]
    have hlen := hs _ (List.getElem_mem hlt)
    have hgA : goodAtG g i = (inR g.2.2[i].1 0 (g.1 - 1) && decide (g.2.2[i].2.length ≤ 4) && g.2.2[i].2.all (symOk g.1 g.2.1) && !(g.2.2.take i).any (fun s => decide (s = g.2.2[i]))) := by simp only [goodAtG, hd]
    refine wk (And.intro @hxi (And.intro @ruleC.eq_1 (@hw))) _ ?_
    refine GS.cc (implIn g.2.2[i].1 0 (g.1 - 1)) rfl rfl rfl rfl (by simp [go_sem, List.take_of_length_le] <;> with_reducible rfl) rfl (by simp [go_sem, List.take_of_length_le]) ?_
    generalize hg1 : inR g.2.2[i].1 0 (g.1 - 1) = b1
    rw [hg1] at hgA
    refine wk0 _ ?_
    refine GS.guard (t := 36) rfl (fun h => ?_) (fun h => ?_)
    · have h : b1 = false := by simpa using h
      subst h
      rw [no (by rw [hgA]; rfl)]
      refine wk0 _ ?_
      refine Holds.cond rfl (fun h => ?_) (fun h => ?_)
      · refine wk0 _ ?_
        refine Out.mk (xs := ?_) ?_ ?_ (by first | exact .inr rfl | exact .inl rfl)
        rotate_left
        · simp [go_sem, List.take_of_length_le] <;> with_reducible rfl
        exact .v _
      · cases h
    have h : b1 = true := by simpa using h
    subst h
    refine wk0 _ ?_
    refine GS.guard (t := 42) rfl (fun h => ?_) (fun h => ?_)
    · have h : ¬ g.2.2[i].2.length ≤ 4 := by simp at h; omega
      rw [no (by rw [hgA, decide_eq_false h]; rfl)]
      refine wk0 _ ?_
      refine Holds.cond rfl (fun h => ?_) (fun h => ?_)
      · refine wk0 _ ?_
        refine Out.mk (xs := ?_) ?_ ?_ (by first | exact .inr rfl | exact .inl rfl)
        rotate_left
        · simp [go_sem, List.take_of_length_le] <;> with_reducible rfl
        exact .v _
      · cases h
    have h4 : g.2.2[i].2.length ≤ 4 := by simp at h; omega
    rw [decide_eq_true h4] at hgA
    refine wk0 _ ?_
    refine GS.cc (areSymbols g.2.2[i].2 g.1 g.2.1 hA'.1 hA'.2 hB'.1 hB'.2 hlen) rfl rfl rfl rfl (by simp [go_sem, List.take_of_length_le] <;> with_reducible rfl) rfl (by simp [go_sem, List.take_of_length_le]) ?_
    generalize hg2 : g.2.2[i].2.all (symOk g.1 g.2.1) = b2
    rw [hg2] at hgA
    refine wk0 _ ?_
    refine Holds.cond rfl (fun h => ?_) (fun h => ?_)
    · have h : b2 = false := by simpa using h
      subst h
      rw [no (by rw [hgA]; rfl)]
      refine wk0 _ ?_
      refine Out.mk (xs := ?_) ?_ ?_ (by first | exact .inr rfl | exact .inl rfl)
      rotate_left
      · simp [go_sem, List.take_of_length_le] <;> with_reducible rfl
      exact .v _
    have h : b2 = true := by simpa using h
    subst h
    have htk : (rules g.2.2).take i = rules (g.2.2.take i) := by simp [rules, List.map_take]
    have hil : (g.2.2.take i).length < 4611686018427387904 := by rw [List.length_take]; omega
    have hcf := containsFuncRule 64 [.pi (ruleC g.2.2[i])] (fun s => decide (s = g.2.2[i])) (g.2.2.take i) hil rfl (fun x hx => isGrammar1 x g.2.2[i] (hs _ (List.mem_of_mem_take hx)))
    generalize hg3 : (g.2.2.take i).any (fun s => decide (s = g.2.2[i])) = b3 at hgA hcf
    refine wk (And.intro @htk (show i ≤ g.2.2.length by omega)) _ ?_
    refine GS.cd (hcf) rfl rfl rfl rfl (by simp [go_sem, List.take_of_length_le] <;> with_reducible rfl) rfl (by exact .cons (.im _ _) (.cons (Fz.fnL (.cons (Fz.box rfl rfl rfl rfl) .nil)) .nil)) rfl ?_
    refine wk0 _ ?_
    refine Holds.cond rfl (fun h => ?_) (fun h => ?_)
    · have h : b3 = true := by simpa using h
      subst h
      rw [no (by rw [hgA]; rfl)]
      refine wk0 _ ?_
      refine Out.mk (xs := ?_) ?_ ?_ (by first | exact .inr rfl | exact .inl rfl)
      rotate_left
      · simp [go_sem, List.take_of_length_le] <;> with_reducible rfl
      exact .v _
    · have h : b3 = false := by simpa using h
      subst h
      have hgood : goodAtG g i = true := by rw [hgA]; rfl
      refine wk0 _ ?_
      refine ⟨i + 1, ⟨by omega, by unfold allB; rw [hall, hgood]; rfl⟩, by omega, ?_⟩
      rw [wr64_id (by omega) (by omega)]
      exact Cov.ofn (id) rfl (by simp [go_sem, List.take_of_length_le, ren, ren1, ren2, okr, okr1, okr2, ChkT, ChkN, BlkN, nf]) (by simp [go_sem, List.take_of_length_le, ren, ren1, ren2, okr, okr1, okr2, ChkT, ChkN, BlkN, nf])
  · have hle : i = g.2.2.length := by
      have : ¬ i < g.2.2.length := by simpa using hl
      omega
    subst hle
    rw [hall]
    refine wk0 _ ?_
    refine Out.mk (xs := ?_) ?_ ?_ (by first | exact .inr rfl | exact .inl rfl)
    rotate_left
    · simp [go_sem, List.take_of_length_le] <;> with_reducible rfl
    exact .v _
end Go.Proofs.Ytkolhcoeifghpaa.En
end
section
namespace Go.Proofs.Ytkolhcoeifghpaa.En
open Go.RowKit
set_option linter.unusedSimpArgs false
set_option linter.unusedVariables false
set_option maxHeartbeats 8000000
theorem specGoodG (g : GrammarT) (hx : g.2.2.length < 4611686018427387904) (hs : ∀ e ∈ g.2.2, e.2.length < 4611686018427387904) : Pure Try.prog 30 [.ag (grammarC g)] (.v (.bool (goodG g))) := by
  refine Pure.mk (rs := [.tmp 2]) (nt := 72) Try.func30 (by kernel_rfl) rfl rfl rfl (by simp) ?_
  simp only [sl, grammarC]
  refine wk0 _ ?_
  refine GS.cc (l1In g.1 1 6) rfl rfl rfl rfl (by simp [go_sem, List.take_of_length_le] <;> with_reducible rfl) rfl (by simp [go_sem, List.take_of_length_le]) ?_
  generalize hg1 : inR g.1 1 6 = b1
  refine wk0 _ ?_
  refine GS.guard (t := 13) rfl (fun h => ?_) (fun h => ?_)
  · have h : b1 = false := by simpa using h
    subst h
    rw [show goodG g = false by rw [goodG, hg1]; rfl]
    refine wk0 _ ?_
    refine Holds.cond rfl (fun h => ?_) (fun h => ?_)
    · refine wk0 _ ?_
      refine Out.mk (xs := ?_) ?_ ?_ (by first | exact .inr rfl | exact .inl rfl)
      rotate_left
      · simp [go_sem, List.take_of_length_le] <;> with_reducible rfl
      exact .v _
    · cases h
  have hA : inR g.1 1 6 = true := by rw [hg1]; simpa using h
  have hA' : 1 ≤ g.1 ∧ g.1 ≤ 6 := by simpa [inR] using hA
  have hw : wr64 (g.1 - 1) = g.1 - 1 := wr64_id (by omega) (by omega)
  clear hg1 h
  refine wk0 _ ?_
  refine GS.cc (l1In g.2.1 1 4) rfl rfl rfl rfl (by simp [go_sem, List.take_of_length_le] <;> with_reducible rfl) rfl (by simp [go_sem, List.take_of_length_le]) ?_
  generalize hg1 : inR g.2.1 1 4 = b1
  refine wk0 _ ?_
  refine GS.guard (t := 19) rfl (fun h => ?_) (fun h => ?_)
  · have h : b1 = false := by simpa using h
    subst h
    rw [show goodG g = false by rw [goodG, hA, hg1]; rfl]
    refine wk0 _ ?_
    refine Holds.cond rfl (fun h => ?_) (fun h => ?_)
    · refine wk0 _ ?_
      refine Out.mk (xs := ?_) ?_ ?_ (by first | exact .inr rfl | exact .inl rfl)
      rotate_left
      · simp [go_sem, List.take_of_length_le] <;> with_reducible rfl
      exact .v _
    · cases h
  have hB : inR g.2.1 1 4 = true := by rw [hg1]; simpa using h
  have hB' : 1 ≤ g.2.1 ∧ g.2.1 ≤ 4 := by simpa [inR] using hB
  clear hg1 h
  refine wk0 _ ?_
  refine Holds.cond rfl (fun h => ?_) (fun h => ?_)
  · rw [show goodG g = false by have h : ¬ g.2.2.length ≤ 16 := (by simp at h; omega); rw [goodG, hA, hB, decide_eq_false h]; rfl]
    refine wk0 _ ?_
    refine Out.mk (xs := ?_) ?_ ?_ (by first | exact .inr rfl | exact .inl rfl)
    rotate_left
    · simp [go_sem, List.take_of_length_le] <;> with_reducible rfl
    exact .v _
  have hC : g.2.2.length ≤ 16 := by simp at h; omega
  have hG : goodG g = allB (goodAtG g) g.2.2.length := by rw [goodG, hA, hB, decide_eq_true hC]; rfl
  rw [hG]
  clear h
  refine wk0 _ ?_
  refine Holds.loop (ι := Nat) (fun i => ⟨[(1, .pb 0 3 0 0), (26, .im 2 (rules g.2.2)), (27, .v (.int .i64 g.2.2.length)), (28, .v (.int .i64 i))], [(0, ⟨31, 3, [[.v (.int .i64 g.1), .v (.int .i64 g.2.1), .im 2 (rules g.2.2)]]⟩)], 1⟩) (fun i => i ≤ g.2.2.length ∧ allB (goodAtG g) i = true) (fun i => g.2.2.length - i) 0 ⟨Nat.zero_le _, rfl⟩ ?_ ?_
  · exact Cov.ofn (id) rfl (by simp [go_sem, List.take_of_length_le, ren, ren1, ren2, okr, okr1, okr2, ChkT, ChkN, BlkN, nf]) (by simp [go_sem, List.take_of_length_le, ren, ren1, ren2, okr, okr1, okr2, ChkT, ChkN, BlkN, nf])
  rintro i ⟨hi, hall⟩
  refine wk0 _ ?_
  refine Holds.cond rfl (fun hl => ?_) (fun hl => ?_)
  · have hlt : i < g.2.2.length := by simpa using hl
    have hxi : g.2.2[i]? = some g.2.2[i] := List.getElem?_eq_getElem hlt
    have hd : g.2.2.getD i (0, []) = g.2.2[i] := by simp [hlt]
    have no : goodAtG g i = false → Out Try.prog [.tmp 2] (.v (.bool (allB (goodAtG g) g.2.2.length))) = Out Try.prog [.tmp 2] (.v (.bool false)) := fun h => by rw [allB_no hlt h]
    have hlen := hs _ (List.getElem_mem hlt)
    have hgA : goodAtG g i = (inR g.2.2[i].1 0 (g.1 - 1) && decide (g.2.2[i].2.length ≤ 4) && g.2.2[i].2.all (symOk g.1 g.2.1) && !(g.2.2.take i).any (fun s => decide (s = g.2.2[i]))) := by simp only [goodAtG, hd]
    refine wk (And.intro @hxi (And.intro @ruleC.eq_1 (@hw))) _ ?_
    refine GS.cc (l1In g.2.2[i].1 0 (g.1 - 1)) rfl rfl rfl rfl (by simp [go_sem, List.take_of_length_le] <;> with_reducible rfl) rfl (by simp [go_sem, List.take_of_length_le]) ?_
    generalize hg1 : inR g.2.2[i].1 0 (g.1 - 1) = b1
    rw [hg1] at hgA
    refine wk0 _ ?_
    refine GS.guard (t := 40) rfl (fun h => ?_) (fun h => ?_)
    · have h : b1 = false := by simpa using h
      subst h
      rw [no (by rw [hgA]; rfl)]
      refine wk0 _ ?_
      refine Holds.cond rfl (fun h => ?_) (fun h => ?_)
      · refine wk0 _ ?_
        refine Out.mk (xs := ?_) ?_ ?_ (by first | exact .inr rfl | exact .inl rfl)
        rotate_left
        · simp [go_sem, List.take_of_length_le] <;> with_reducible rfl
        exact .v _
      · cases h
    have h : b1 = true := by simpa using h
    subst h
    refine wk0 _ ?_
    refine Holds.cond rfl (fun h => ?_) (fun h => ?_)
    · have h : ¬ g.2.2[i].2.length ≤ 4 := by simp at h; omega
      rw [no (by rw [hgA, decide_eq_false h]; rfl)]
      refine wk0 _ ?_
      refine Out.mk (xs := ?_) ?_ ?_ (by first | exact .inr rfl | exact .inl rfl)
      rotate_left
      · simp [go_sem, List.take_of_length_le] <;> with_reducible rfl
      exact .v _
    have h4 : g.2.2[i].2.length ≤ 4 := by simp at h; omega
    rw [decide_eq_true h4] at hgA
    refine wk0 _ ?_
    refine Holds.loop (ι := Nat) (fun j => ⟨[(1, .pb 0 3 0 0), (26, .im 2 (rules g.2.2)), (27, .v (.int .i64 g.2.2.length)), (28, .v (.int .i64 i)), (3, .v (.int .i64 i)), (4, .pb 1 2 0 0), (47, .im 1 (ints g.2.2[i].2)), (48, .v (.int .i64 g.2.2[i].2.length)), (49, .v (.int .i64 j))], [(0, ⟨31, 3, [[.v (.int .i64 g.1), .v (.int .i64 g.2.1), .im 2 (rules g.2.2)]]⟩), (1, ⟨60, 2, [[.v (.int .i64 g.2.2[i].1), .im 1 (ints g.2.2[i].2)]]⟩)], 2⟩) (fun j => j ≤ g.2.2[i].2.length ∧ (g.2.2[i].2.take j).all (symOk g.1 g.2.1) = true) (fun j => g.2.2[i].2.length - j) 0 ⟨Nat.zero_le _, rfl⟩ ?_ ?_
    · exact Cov.ofn (id) rfl (by simp [go_sem, List.take_of_length_le, ren, ren1, ren2, okr, okr1, okr2, ChkT, ChkN, BlkN, nf]) (by simp [go_sem, List.take_of_length_le, ren, ren1, ren2, okr, okr1, okr2, ChkT, ChkN, BlkN, nf])
    rintro j ⟨hj, hsy⟩
    refine wk0 _ ?_
    refine Holds.cond rfl (fun hl2 => ?_) (fun hl2 => ?_)
    · have hjt : j < g.2.2[i].2.length := by simpa using hl2
      have hxj : g.2.2[i].2[j]? = some g.2.2[i].2[j] := List.getElem?_eq_getElem hjt
      refine wk (@hxj) _ ?_
      refine GS.cc (l1Symbol g g.2.2[i].2[j] hA'.1 hA'.2 hB'.1 hB'.2) rfl rfl rfl rfl (by simp [go_sem, List.take_of_length_le, grammarC] <;> with_reducible rfl) rfl (by simp [go_sem, List.take_of_length_le, grammarC]) ?_
      generalize hg2 : symOk g.1 g.2.1 g.2.2[i].2[j] = b2
      refine wk0 _ ?_
      refine Holds.cond rfl (fun h => ?_) (fun h => ?_)
      · have h : b2 = false := by simpa using h
        subst h
        rw [no (by rw [hgA, all_at hxj hg2]; rfl)]
        refine wk0 _ ?_
        refine Out.mk (xs := ?_) ?_ ?_ (by first | exact .inr rfl | exact .inl rfl)
        rotate_left
        · simp [go_sem, List.take_of_length_le] <;> with_reducible rfl
        exact .v _
      · have h : b2 = true := by simpa using h
        subst h
        refine wk0 _ ?_
        refine ⟨j + 1, ⟨by omega, ?_⟩, by omega, ?_⟩
        · rw [List.take_add_one, hxj, List.all_append, hsy]; simp [hg2]
        rw [wr64_id (by omega) (by omega)]
        exact Cov.ofn (id) rfl (by simp [go_sem, List.take_of_length_le, ren, ren1, ren2, okr, okr1, okr2, ChkT, ChkN, BlkN, nf]) (by simp [go_sem, List.take_of_length_le, ren, ren1, ren2, okr, okr1, okr2, ChkT, ChkN, BlkN, nf])
    have hje : j = g.2.2[i].2.length := by
      have : ¬ j < g.2.2[i].2.length := by simpa using hl2
      omega
    subst hje
    rw [List.take_length] at hsy
    rw [hsy] at hgA
    have htk : (rules g.2.2).take i = rules (g.2.2.take i) := by simp [rules, List.map_take]
    have hil : (g.2.2.take i).length = i := by rw [List.length_take]; omega
    clear hl2 hj
    refine wk (And.intro @htk (show i ≤ g.2.2.length by omega)) _ ?_
    refine Holds.loop (ι := Nat) (fun j => ⟨[(1, .pb 0 3 0 0), (26, .im 2 (rules g.2.2)), (27, .v (.int .i64 g.2.2.length)), (28, .v (.int .i64 i)), (4, .pb 1 2 0 0), (61, .im 2 (rules (g.2.2.take i))), (62, .v (.int .i64 i)), (63, .v (.int .i64 j))], [(0, ⟨31, 3, [[.v (.int .i64 g.1), .v (.int .i64 g.2.1), .im 2 (rules g.2.2)]]⟩), (1, ⟨60, 2, [[.v (.int .i64 g.2.2[i].1), .im 1 (ints g.2.2[i].2)]]⟩)], 2⟩) (fun j => j ≤ i ∧ ((g.2.2.take i).take j).any (fun s => decide (s = g.2.2[i])) = false) (fun j => i - j) 0 ⟨Nat.zero_le _, rfl⟩ ?_ ?_
    · exact Cov.ofn (id) rfl (by simp [go_sem, List.take_of_length_le, ren, ren1, ren2, okr, okr1, okr2, ChkT, ChkN, BlkN, nf, htk, hil, Nat.min_eq_left hi]) (by simp [go_sem, List.take_of_length_le, ren, ren1, ren2, okr, okr1, okr2, ChkT, ChkN, BlkN, nf, htk, hil, Nat.min_eq_left hi])
    rintro j ⟨hj, hsy⟩
    refine wk0 _ ?_
    refine Holds.cond rfl (fun hl2 => ?_) (fun hl2 => ?_)
    · have hjt : j < i := by simpa using hl2
      have hjl : j < (g.2.2.take i).length := by omega
      have hxj : (g.2.2.take i)[j]? = some (g.2.2.take i)[j] := List.getElem?_eq_getElem hjl
      generalize (g.2.2.take i)[j] = q at hxj
      have hsr := l1SameRule g.2.2[i] q hlen
      rw [show decide (g.2.2[i] = q) = decide (q = g.2.2[i]) by simp [eq_comm]] at hsr
      generalize hg3 : decide (q = g.2.2[i]) = b3 at hsr
      refine wk (And.intro @hxj (@ruleC.eq_1)) _ ?_
      refine GS.cc (hsr) rfl rfl rfl rfl (by simp [go_sem, List.take_of_length_le, ruleC] <;> with_reducible rfl) rfl (by simp [go_sem, List.take_of_length_le, ruleC]) ?_
      refine wk0 _ ?_
      refine Holds.cond rfl (fun h => ?_) (fun h => ?_)
      · have h : b3 = true := by simpa using h
        subst h
        rw [no (by rw [hgA, any_at hxj hg3]; rfl)]
        refine wk0 _ ?_
        refine Out.mk (xs := ?_) ?_ ?_ (by first | exact .inr rfl | exact .inl rfl)
        rotate_left
        · simp [go_sem, List.take_of_length_le] <;> with_reducible rfl
        exact .v _
      · have h : b3 = false := by simpa using h
        subst h
        refine wk0 _ ?_
        refine ⟨j + 1, ⟨by omega, ?_⟩, by omega, ?_⟩
        · rw [List.take_add_one, hxj, List.any_append, hsy]; simp [hg3]
        rw [wr64_id (by omega) (by omega)]
        exact Cov.ofn (id) rfl (by simp [go_sem, List.take_of_length_le, ren, ren1, ren2, okr, okr1, okr2, ChkT, ChkN, BlkN, nf]) (by simp [go_sem, List.take_of_length_le, ren, ren1, ren2, okr, okr1, okr2, ChkT, ChkN, BlkN, nf])
    have hje : j = i := by
      have : ¬ j < i := by simpa using hl2
      omega
    subst hje
    rw [List.take_of_length_le (by omega)] at hsy
    have hgood : goodAtG g j = true := by rw [hgA, hsy]; rfl
    refine wk0 _ ?_
    refine ⟨j + 1, ⟨by omega, by unfold allB; rw [hall, hgood]; rfl⟩, by omega, ?_⟩
    rw [wr64_id (by omega) (by omega)]
    exact Cov.ofn (id) rfl (by simp [go_sem, List.take_of_length_le, ren, ren1, ren2, okr, okr1, okr2, ChkT, ChkN, BlkN, nf]) (by simp [go_sem, List.take_of_length_le, ren, ren1, ren2, okr, okr1, okr2, ChkT, ChkN, BlkN, nf])
  · have hle : i = g.2.2.length := by
      have : ¬ i < g.2.2.length := by simpa using hl
      omega
    subst hle
    rw [hall]
    refine wk0 _ ?_
    refine Out.mk (xs := ?_) ?_ ?_ (by first | exact .inr rfl | exact .inl rfl)
    rotate_left
    · simp [go_sem, List.take_of_length_le] <;> with_reducible rfl
    exact .v _
end Go.Proofs.Ytkolhcoeifghpaa.En
end
section
namespace Go.Proofs.Ytkolhcoeifghpaa.En
open Go.RowKit
set_option linter.unusedSimpArgs false
set_option linter.unusedVariables false
def intc (xs : List Int) : List AV := xs.map fun n => .v (.int .i64 n)
@[simp] theorem intc_len (xs : List Int) : (intc xs).length = xs.length := by simp [intc]
@[simp] theorem intc_get (xs : List Int) (i : Nat) : (intc xs)[i]? = (xs[i]?).map fun n => .v (.int .i64 n) := by simp [intc]
@[simp] theorem intc_gE (xs : List Int) (i : Nat) (h : i < (intc xs).length) : (intc xs)[i] = .v (.int .i64 (xs[i]'(by simpa using h))) := by simp [intc]
@[simp] theorem intc_set (xs : List Int) (i : Nat) (n : Int) : (intc xs).set i (.v (.int .i64 n)) = intc (xs.set i n) := by simp [intc, List.map_set]
@[simp] theorem nfc_intc (xs : List Int) : nfc (intc xs) := fun x hx => by
  simp only [intc, List.mem_map] at hx
  obtain ⟨n, _, rfl⟩ := hx
  rfl
def gB (B : List Int) (x : Int) : Int := B.getD x.toNat 0
def stI (B : List Int) (n x : Int) : Int := if x < 0 ∨ n = 0 then n else if gB B x = 0 then 0 else n + gB B x
def stS (B : List Int) (n x : Int) : Int := if 0 ≤ x ∧ gB B x = 0 then -1000000 else if 0 ≤ x then n + gB B x else n
def sumB (B : List Int) (c : Int) (right : List Int) : Int := right.foldl (stI B) c
def sumS (B : List Int) (c : Int) (right : List Int) : Int := right.foldl (stS B) c
theorem gB_in {B : List Int} {V : Int} (h : ∀ b ∈ B, 0 ≤ b ∧ b ≤ V) (hV : 0 ≤ V) (x : Int) : 0 ≤ gB B x ∧ gB B x ≤ V := by
  unfold gB
  by_cases hx : x.toNat < B.length
  · rw [List.getD_eq_getElem?_getD, List.getElem?_eq_getElem hx]
    exact h _ (List.getElem_mem hx)
  · rw [List.getD_eq_getElem?_getD, List.getElem?_eq_none (by omega)]
    exact ⟨Int.le_refl 0, hV⟩
theorem sums (B : List Int) (V c : Int) (h : ∀ b ∈ B, 0 ≤ b ∧ b ≤ V) (hV : 0 ≤ V) (hV1 : V ≤ 136500) : ∀ (r : List Int) (t : Nat) (n s : Int), t + r.length ≤ 4 → n ≤ c + V * t → ((0 < n ∧ s = n) ∨ (n = 0 ∧ s ≤ -1000000 + V * t)) →
    r.foldl (stI B) n ≤ c + V * (t + r.length : Nat) ∧ ((0 < r.foldl (stI B) n ∧ r.foldl (stS B) s = r.foldl (stI B) n) ∨ (r.foldl (stI B) n = 0 ∧ r.foldl (stS B) s ≤ -1000000 + V * 4)) := by
  intro r
  induction r with
  | nil =>
    intro t n s ht hn hr
    refine ⟨by simpa using hn, ?_⟩
    rcases hr with hr | ⟨h1, h2⟩
    · exact .inl hr
    · refine .inr ⟨h1, ?_⟩
      have : V * t ≤ V * 4 := Int.mul_le_mul_of_nonneg_left (by simp at ht; omega) hV
      simp only [List.foldl_nil]; omega
  | cons x r ih =>
    intro t n s ht hn hr
    obtain ⟨g0, g1⟩ := gB_in h hV x
    simp only [List.length_cons] at ht
    have e : V * ((t + 1 : Nat) : Int) = V * t + V := by rw [Int.natCast_add, Int.mul_add]; simp
    have key := ih (t + 1) (stI B n x) (stS B s x) (by omega) (by rw [e]; unfold stI; split; · omega
                                                                  · split <;> omega) (by
      rw [e]
      have e4 : V * (t : Int) ≤ 136500 * 4 := by
        have h1 : V * (t : Int) ≤ 136500 * (t : Int) := Int.mul_le_mul_of_nonneg_right hV1 (by omega)
        omega
      have e5 : 0 ≤ V * (t : Int) := Int.mul_nonneg hV (by omega)
      unfold stI stS
      rcases hr with ⟨h1, rfl⟩ | ⟨rfl, h2⟩
      · by_cases hx : x < 0
        · rw [if_pos (.inl hx), if_neg (by omega), if_neg (by omega)]; exact .inl ⟨h1, rfl⟩
        · rw [if_neg (by omega)]
          by_cases hg : gB B x = 0
          · rw [if_pos hg, if_pos ⟨by omega, hg⟩]; right; omega
          · rw [if_neg hg, if_neg (by omega), if_pos (by omega)]; left; omega
      · rw [if_pos (.inr rfl)]
        by_cases hx : 0 ≤ x
        · by_cases hg : gB B x = 0
          · rw [if_pos ⟨hx, hg⟩]; right; omega
          · rw [if_neg (by omega), if_pos hx]; right; omega
        · rw [if_neg (by omega), if_neg hx]; right; omega)
    rw [List.foldl_cons, List.foldl_cons, List.length_cons, show t + (r.length + 1) = t + 1 + r.length by omega]
    exact key
def VV : Nat → Int
  | 0 => 0
  | m + 1 => 100 + 4 * VV m
theorem VV_nonneg : ∀ m, 0 ≤ VV m
  | 0 => Int.le_refl 0
  | m + 1 => by have := VV_nonneg m; unfold VV; omega
theorem VV_le : ∀ m, VV m ≤ VV (m + 1) := fun m => by have := VV_nonneg m; show VV m ≤ 100 + 4 * VV m; omega
theorem VV_mono {a b : Nat} (h : a ≤ b) : VV a ≤ VV b := by
  induction h with
  | refl => exact Int.le_refl _
  | step _ ih => exact Int.le_trans ih (VV_le _)
theorem VV_six {m : Nat} (h : m ≤ 6) : VV m ≤ 136500 := Int.le_trans (VV_mono h) (by decide)
def nz (B : List Int) : Nat := B.countP (fun b => decide (b ≠ 0))
def tot : List Int → Int
  | [] => 0
  | x :: xs => x + tot xs
theorem tot_set : ∀ (B : List Int) (k : Nat) (s : Int) (h : k < B.length), tot (B.set k s) = tot B - B[k] + s
  | [], k, s, h => by simp at h
  | x :: xs, 0, s, h => by simp [tot]; omega
  | x :: xs, k + 1, s, h => by
    have := tot_set xs k s (by simpa using h)
    simp only [List.set_cons_succ, tot, List.getElem_cons_succ, this]; omega
theorem tot_in (V : Int) : ∀ (B : List Int), (∀ b ∈ B, 0 ≤ b ∧ b ≤ V) → 0 ≤ tot B ∧ tot B ≤ V * B.length
  | [], _ => by simp [tot]
  | x :: xs, h => by
    have h1 := h x (.head _)
    have h2 := tot_in V xs fun b hb => h b (.tail _ hb)
    rw [List.length_cons, Int.natCast_add, Int.mul_add]
    simp only [tot]
    omega
theorem nz_le (B : List Int) : nz B ≤ B.length := List.countP_le_length
theorem nz_set (B : List Int) (k : Nat) (s : Int) (h : k < B.length) (hs : s ≠ 0) : nz (B.set k s) = nz B + if B[k] = 0 then 1 else 0 := by
  unfold nz
  rw [List.countP_set h]
  by_cases hk : B[k] = 0
  · simp [hk, hs]
  · have hp : 0 < List.countP (fun b => decide (b ≠ 0)) B := List.countP_pos_iff.2 ⟨_, List.getElem_mem h, by simpa using hk⟩
    have e1 : decide (B[k] ≠ 0) = true := by simpa using hk
    have e2 : decide (s ≠ 0) = true := by simpa using hs
    rw [e1, e2, if_neg hk]
    simp only [if_true]
    omega
structure InvB (nons : Nat) (B : List Int) : Prop where
  len : B.length = 6
  low : ∀ b ∈ B, 0 ≤ b
  up : ∀ b ∈ B, b ≤ VV (nz B)
  out : ∀ k, nons ≤ k → B.getD k 0 = 0
theorem InvB.all {nons : Nat} {B : List Int} (h : InvB nons B) : ∀ b ∈ B, 0 ≤ b ∧ b ≤ VV (nz B) := fun b hb => ⟨h.low b hb, h.up b hb⟩
theorem InvB.nz6 {nons : Nat} {B : List Int} (h : InvB nons B) : nz B ≤ 6 := by have := nz_le B; rw [h.len] at this; exact this
def muB (B : List Int) : Nat := (6 - nz B) * 10000000 + (tot B).toNat
theorem InvB.set {nons : Nat} {B : List Int} (h : InvB nons B) {k : Nat} (hk : k < nons) (hn : nons ≤ 6) {s : Int} (hs0 : 0 < s) (hs : s ≤ 100 + 4 * VV (nz B)) (hb : B.getD k 0 = 0 ∨ s < B.getD k 0) : InvB nons (B.set k s) ∧ muB (B.set k s) < muB B := by
  have hkl : k < B.length := by rw [h.len]; omega
  have hg : B.getD k 0 = B[k] := by simp [hkl]
  rw [hg] at hb
  have hk0 := h.low _ (List.getElem_mem hkl)
  have hk1 := h.up _ (List.getElem_mem hkl)
  have hnz := nz_set B k s hkl (by omega)
  have ht := tot_set B k s hkl
  have hnn := VV_nonneg (nz B)
  have h6 := h.nz6
  have htl := tot_in (VV (nz B)) B h.all
  have hinv : InvB nons (B.set k s) := by
    refine ⟨by simpa using h.len, fun b hbm => ?_, fun b hbm => ?_, fun j hj => ?_⟩
    · rcases List.mem_or_eq_of_mem_set hbm with g | g
      · exact h.low b g
      · rw [g]; omega
    · rcases List.mem_or_eq_of_mem_set hbm with g | g
      · exact Int.le_trans (h.up b g) (VV_mono (by rw [hnz]; omega))
      · rw [hnz, g]
        split
        · exact hs
        · rename_i g
          have : s < B[k] := hb.resolve_left g
          simp only [Nat.add_zero]; omega
    · have := h.out j hj
      rw [List.getD_eq_getElem?_getD, List.getElem?_set_ne (by omega), ← List.getD_eq_getElem?_getD]
      exact this
  refine ⟨hinv, ?_⟩
  have h62 := hinv.nz6
  have hnew := (tot_in _ _ hinv.all).1
  rw [ht] at hnew
  unfold muB
  rw [hnz, ht]
  rw [hnz] at h62
  have hv6 := VV_six h6
  have hs2 : s ≤ 1000000 := by omega
  split
  · rename_i g
    rw [if_pos g] at h62
    rw [g]
    have : (6 - nz B) = (6 - (nz B + 1)) + 1 := by omega
    rw [this, Nat.add_mul]
    omega
  · rename_i g
    have : s < B[k] := hb.resolve_left g
    simp only [Nat.add_zero]
    omega
def stepB (p : List Int × Bool) (rc : RuleT × Int) : List Int × Bool :=
  if 0 < sumB p.1 rc.2 rc.1.2 ∧ (gB p.1 rc.1.1 = 0 ∨ sumB p.1 rc.2 rc.1.2 < gB p.1 rc.1.1) then (p.1.set rc.1.1.toNat (sumB p.1 rc.2 rc.1.2), true) else p
def roundB (rs : List (RuleT × Int)) (B : List Int) : List Int × Bool := rs.foldl stepB (B, false)
def iterB (rs : List (RuleT × Int)) : Nat → List Int → List Int
  | 0, B => B
  | n + 1, B => if (roundB rs B).2 then iterB rs n (roundB rs B).1 else (roundB rs B).1
def zeroB : List Int := [0, 0, 0, 0, 0, 0]
def fuelB : Nat := muB zeroB + 1
def bestB (rs : List (RuleT × Int)) : List Int := iterB rs fuelB zeroB
theorem InvB.zero (nons : Nat) : InvB nons zeroB := ⟨rfl, fun b hb => by simp [zeroB] at hb; omega, fun b hb => by simp [zeroB] at hb; have := VV_nonneg (nz zeroB); omega, fun k _ => by
  unfold zeroB
  match k with
  | 0 | 1 | 2 | 3 | 4 | 5 => rfl
  | k + 6 => rfl⟩
def okRC (nons : Nat) (rc : RuleT × Int) : Prop := 0 ≤ rc.1.1 ∧ rc.1.1 < nons ∧ rc.1.2.length ≤ 4 ∧ (∀ x ∈ rc.1.2, x < nons) ∧ 1 ≤ rc.2 ∧ rc.2 ≤ 100
theorem sum_facts {nons : Nat} {B : List Int} (h : InvB nons B) {rc : RuleT × Int} (hr : okRC nons rc) : sumB B rc.2 rc.1.2 ≤ 100 + 4 * VV (nz B) ∧ ((0 < sumB B rc.2 rc.1.2 ∧ sumS B rc.2 rc.1.2 = sumB B rc.2 rc.1.2) ∨ (sumB B rc.2 rc.1.2 = 0 ∧ sumS B rc.2 rc.1.2 ≤ 0)) := by
  obtain ⟨_, _, h3, _, h5, h6⟩ := hr
  have hv6 := VV_six h.nz6
  have hnn := VV_nonneg (nz B)
  have := sums B (VV (nz B)) rc.2 h.all hnn hv6 rc.1.2 0 rc.2 rc.2 (by omega) (by simp) (.inl ⟨by omega, rfl⟩)
  have e : VV (nz B) * ((0 + rc.1.2.length : Nat) : Int) ≤ VV (nz B) * 4 := Int.mul_le_mul_of_nonneg_left (by omega) hnn
  refine ⟨by unfold sumB; omega, ?_⟩
  rcases this.2 with g | ⟨g1, g2⟩
  · exact .inl g
  · refine .inr ⟨g1, ?_⟩
    unfold sumS
    omega
theorem InvB.stepB {nons : Nat} (hn : nons ≤ 6) {p : List Int × Bool} (h : InvB nons p.1) {rc : RuleT × Int} (hr : okRC nons rc) : InvB nons (En.stepB p rc).1 ∧ muB (En.stepB p rc).1 ≤ muB p.1 ∧ ((En.stepB p rc).2 = true → p.2 = true ∨ muB (En.stepB p rc).1 < muB p.1) := by
  unfold En.stepB
  split
  · rename_i hc
    have := h.set (k := rc.1.1.toNat) (by have := hr.1; have := hr.2.1; omega) hn hc.1 (sum_facts h hr).1 hc.2
    exact ⟨this.1, Nat.le_of_lt this.2, fun _ => .inr this.2⟩
  · exact ⟨h, Nat.le_refl _, fun h => .inl h⟩
attribute [irreducible] fuelB bestB iterB roundB
end Go.Proofs.Ytkolhcoeifghpaa.En
end
section
namespace Go.Proofs.Ytkolhcoeifghpaa.En
open Go.RowKit
set_option linter.unusedSimpArgs false
set_option linter.unusedVariables false
set_option maxHeartbeats 8000000
theorem allB_at {p : Nat → Bool} {n i : Nat} (h : allB p n = true) (hi : i < n) : p i = true := by
  cases g : p i with
  | true => rfl
  | false => rw [allB_no hi g] at h; cases h
structure OkG (g : GrammarT) : Prop where
  n0 : 1 ≤ g.1
  n1 : g.1 ≤ 6
  t0 : 1 ≤ g.2.1
  t1 : g.2.1 ≤ 4
  len : g.2.2.length ≤ 16
  l0 : ∀ r ∈ g.2.2, 0 ≤ r.1
  l1 : ∀ r ∈ g.2.2, r.1 < g.1
  r4 : ∀ r ∈ g.2.2, r.2.length ≤ 4
  s0 : ∀ r ∈ g.2.2, ∀ x ∈ r.2, -g.2.1 ≤ x
  s1 : ∀ r ∈ g.2.2, ∀ x ∈ r.2, x < g.1
theorem goodG_ok {g : GrammarT} (h : goodG g = true) : OkG g := by
  unfold goodG at h
  simp only [Bool.and_eq_true, decide_eq_true_eq] at h
  obtain ⟨⟨⟨h1, h2⟩, h3⟩, h4⟩ := h
  simp [inR] at h1 h2
  have key : ∀ r ∈ g.2.2, 0 ≤ r.1 ∧ r.1 ≤ g.1 - 1 ∧ r.2.length ≤ 4 ∧ ∀ x ∈ r.2, -g.2.1 ≤ x ∧ x ≤ g.1 - 1 := fun r hr => by
    obtain ⟨i, hi⟩ := List.mem_iff_getElem?.1 hr
    have hlt : i < g.2.2.length := (List.getElem?_eq_some_iff.1 hi).1
    have ha := allB_at h4 hlt
    have hd : g.2.2.getD i (0, []) = r := by rw [List.getD_eq_getElem?_getD, hi]; rfl
    unfold goodAtG at ha
    rw [hd] at ha
    simp only [Bool.and_eq_true, decide_eq_true_eq, List.all_eq_true] at ha
    obtain ⟨⟨⟨a1, a2⟩, a3⟩, _⟩ := ha
    simp [inR] at a1
    refine ⟨a1.1, a1.2, a2, fun x hx => ?_⟩
    have := a3 x hx
    simpa [symOk, inR] using this
  exact ⟨h1.1, h1.2, h2.1, h2.2, h3, fun r hr => (key r hr).1, fun r hr => by have := (key r hr).2.1; omega, fun r hr => (key r hr).2.2.1, fun r hr x hx => ((key r hr).2.2.2 x hx).1, fun r hr x hx => by have := ((key r hr).2.2.2 x hx).2; omega⟩
theorem l1All (xs : List Int) (lo top : Int) (hx : xs.length < 4611686018427387904) : Pure Try.prog 31 [.im 1 (ints xs), .v (.int .i64 lo), .v (.int .i64 top)] (.v (.bool (xs.all fun n => inR n lo top))) := by
  refine Pure.mk (rs := [.tmp 6]) (nt := 21) Try.func31 (by kernel_rfl) rfl rfl rfl (by simp) ?_
  simp only [sl]
  refine wk0 _ ?_
  refine Holds.loop (ι := Nat) (fun i => ⟨[(1, .v (.int .i64 lo)), (2, .v (.int .i64 top)), (9, .im 1 (ints xs)), (10, .v (.int .i64 xs.length)), (11, .v (.int .i64 i))], [], 0⟩) (fun i => i ≤ xs.length ∧ (xs.take i).all (fun n => inR n lo top) = true) (fun i => xs.length - i) 0 ⟨Nat.zero_le _, rfl⟩ ?_ ?_
  · exact Cov.ofn (id) rfl (by simp [go_sem, List.take_of_length_le, ren, ren1, ren2, okr, okr1, okr2, ChkT, ChkN, BlkN, nf]) (by simp [go_sem, List.take_of_length_le, ren, ren1, ren2, okr, okr1, okr2, ChkT, ChkN, BlkN, nf])
  rintro i ⟨hi, hall⟩
  refine wk0 _ ?_
  refine Holds.cond rfl (fun hl => ?_) (fun hl => ?_)
  · have hlt : i < xs.length := by simpa using hl
    have hxi : xs[i]? = some xs[i] := List.getElem?_eq_getElem hlt
    refine wk (@hxi) _ ?_
    refine GS.cc (l1In xs[i] lo top) rfl rfl rfl rfl (by simp [go_sem, List.take_of_length_le] <;> with_reducible rfl) rfl (by simp [go_sem, List.take_of_length_le]) ?_
    generalize hg : inR xs[i] lo top = b
    refine wk0 _ ?_
    refine Holds.cond rfl (fun h => ?_) (fun h => ?_)
    · have h : b = false := by simpa using h
      subst h
      rw [all_at hxi hg]
      refine wk0 _ ?_
      refine Out.mk (xs := ?_) ?_ ?_ (by first | exact .inr rfl | exact .inl rfl)
      rotate_left
      · simp [go_sem, List.take_of_length_le] <;> with_reducible rfl
      exact .v _
    · have h : b = true := by simpa using h
      subst h
      refine wk0 _ ?_
      refine ⟨i + 1, ⟨by omega, ?_⟩, by omega, ?_⟩
      · rw [List.take_add_one, hxi, List.all_append, hall]; simp [hg]
      rw [wr64_id (by omega) (by omega)]
      exact Cov.ofn (id) rfl (by simp [go_sem, List.take_of_length_le, ren, ren1, ren2, okr, okr1, okr2, ChkT, ChkN, BlkN, nf]) (by simp [go_sem, List.take_of_length_le, ren, ren1, ren2, okr, okr1, okr2, ChkT, ChkN, BlkN, nf])
  · have hle : i = xs.length := by
      have : ¬ i < xs.length := by simpa using hl
      omega
    subst hle
    rw [List.take_length] at hall
    rw [hall]
    refine wk0 _ ?_
    refine Out.mk (xs := ?_) ?_ ?_ (by first | exact .inr rfl | exact .inl rfl)
    rotate_left
    · simp [go_sem, List.take_of_length_le] <;> with_reducible rfl
    exact .v _
end Go.Proofs.Ytkolhcoeifghpaa.En
end
section
namespace Go.Proofs.Ytkolhcoeifghpaa.En
set_option linter.unusedSimpArgs false
set_option linter.unusedVariables false
def ruleR (g : GrammarT) (r : Int) : RuleT := g.2.2.getD r.toNat (0, [])
def kidsN (R : List Int) : List Int := R.filter fun x => decide (0 ≤ x)
def leftT (g : GrammarT) (t : List Int) : Int := (ruleR g (t.headD 0)).1
def okK (g : GrammarT) : List Int → List (List Int) → Bool
  | x :: ks, t :: ts => decide (leftT g t = x) && okK g ks ts
  | _, _ => true
abbrev TreeR := List Int × Bool
def resT (g : GrammarT) : List (List Int) → TreeR
  | [t] => if leftT g t = 0 then (t, true) else ([], false)
  | _ => ([], false)
def inRule (g : GrammarT) (r : Int) : Bool := decide (0 ≤ r) && decide (r ≤ (g.2.2.length : Int) - 1)
def runTR (g : GrammarT) : List Int → List (List Int) → TreeR
  | [], P => resT g P
  | r :: rs, P =>
    if inRule g r = true then
      if P.length < (kidsN (ruleR g r).2).length then ([], false)
      else if okK g (kidsN (ruleR g r).2) (P.drop (P.length - (kidsN (ruleR g r).2).length)) = true then runTR g rs (P.take (P.length - (kidsN (ruleR g r).2).length) ++ [r :: (P.drop (P.length - (kidsN (ruleR g r).2).length)).flatten])
      else ([], false)
    else ([], false)
theorem runTR_bad (g : GrammarT) : ∀ (rs : List Int) (P : List (List Int)), (∃ r ∈ rs, inRule g r = false) → runTR g rs P = ([], false)
  | [], P, ⟨r, h, _⟩ => by cases h
  | r :: rs, P, h => by
    unfold runTR
    by_cases hr : inRule g r = true
    · rw [if_pos hr]
      have h2 : ∃ q ∈ rs, inRule g q = false := by
        obtain ⟨q, hq, hb⟩ := h
        rcases List.mem_cons.1 hq with rfl | hq
        · rw [hr] at hb; cases hb
        · exact ⟨q, hq, hb⟩
      split
      · rfl
      · split
        · exact runTR_bad g rs _ h2
        · rfl
    · rw [if_neg hr]
structure GoodP (g : GrammarT) (n : Nat) (P : List (List Int)) : Prop where
  hd : ∀ t ∈ P, ∃ (r : Nat) (s : List Int), t = (r : Int) :: s ∧ r < g.2.2.length
  sum : (P.map List.length).sum = n
theorem GoodP.nil (g : GrammarT) : GoodP g 0 [] := ⟨fun t h => (by cases h), rfl⟩
theorem GoodP.len {g : GrammarT} {n : Nat} {P : List (List Int)} (h : GoodP g n P) : P.length ≤ n := by
  have key : ∀ Q : List (List Int), (∀ t ∈ Q, ∃ (r : Nat) (s : List Int), t = (r : Int) :: s ∧ r < g.2.2.length) → Q.length ≤ (Q.map List.length).sum := by
    intro Q
    induction Q with
    | nil => intro _; simp
    | cons t Q ih =>
      intro hq
      obtain ⟨r, s, e, _⟩ := hq t (.head _)
      have := ih fun t ht => hq t (.tail _ ht)
      rw [e]
      simp only [List.map_cons, List.sum_cons, List.length_cons]
      omega
  rw [← h.sum]; exact key P h.hd
theorem GoodP.mem {g : GrammarT} {n : Nat} {P : List (List Int)} (h : GoodP g n P) {t : List Int} (ht : t ∈ P) : t.length ≤ n := by
  rw [← h.sum]
  have h1 := h.hd
  clear h h1
  induction P with
  | nil => cases ht
  | cons u P ih =>
    simp only [List.map_cons, List.sum_cons]
    rcases List.mem_cons.1 ht with rfl | ht
    · omega
    · have := ih ht; omega
theorem GoodP.step {g : GrammarT} {n : Nat} {P : List (List Int)} (h : GoodP g n P) {r : Nat} (hr : r < g.2.2.length) (m : Nat) : GoodP g (n + 1) (P.take m ++ [(r : Int) :: (P.drop m).flatten]) := by
  refine ⟨fun t ht => ?_, ?_⟩
  · rcases List.mem_append.1 ht with ht | ht
    · exact h.hd t (List.mem_of_mem_take ht)
    · rw [List.mem_singleton] at ht
      exact ⟨r, _, ht, hr⟩
  · have e := h.sum
    rw [← List.take_append_drop m P, List.map_append, List.sum_append] at e
    rw [List.map_append, List.sum_append]
    simp only [List.map_cons, List.map_nil, List.sum_cons, List.sum_nil, List.length_cons, List.length_flatten]
    omega
theorem GoodP.flat {g : GrammarT} {n : Nat} {P : List (List Int)} (h : GoodP g n P) (m k : Nat) : ((P.drop m).take k).flatten.length ≤ n := by
  have e := h.sum
  rw [← List.take_append_drop m P, List.map_append, List.sum_append] at e
  rw [← List.take_append_drop k (P.drop m), List.map_append, List.sum_append] at e
  rw [List.length_flatten]
  omega
theorem flat_snoc {D : List (List Int)} {k : Nat} {t : List Int} (h : D[k]? = some t) : (D.take (k + 1)).flatten = (D.take k).flatten ++ t := by
  rw [List.take_add_one, h]; simp
def flK (D : List (List Int)) (k : Nat) : List Int := (D.take k).flatten
theorem flK_snoc {D : List (List Int)} {k : Nat} {t : List Int} (h : D[k]? = some t) : flK D (k + 1) = flK D k ++ t := flat_snoc h
theorem flK_zero (D : List (List Int)) : flK D 0 = [] := rfl
theorem flK_all {D : List (List Int)} {k : Nat} (h : D.length = k) : flK D k = D.flatten := by rw [flK, ← h, List.take_length]
theorem GoodP.flK {g : GrammarT} {n : Nat} {P : List (List Int)} (h : GoodP g n P) (m k : Nat) : (flK (P.drop m) k).length ≤ n := h.flat m k
theorem okK_at {g : GrammarT} {ks : List Int} {D : List (List Int)} {k : Nat} {x : Int} {t : List Int} (h1 : ks[k]? = some x) (h2 : D[k]? = some t) : okK g (ks.drop k) (D.drop k) = (decide (leftT g t = x) && okK g (ks.drop (k + 1)) (D.drop (k + 1))) := by
  obtain ⟨a1, a2⟩ := List.getElem?_eq_some_iff.1 h1
  obtain ⟨b1, b2⟩ := List.getElem?_eq_some_iff.1 h2
  rw [List.drop_eq_getElem_cons a1, List.drop_eq_getElem_cons b1, a2, b2]
  rfl
theorem kidsN_snoc {R : List Int} {k : Nat} {x : Int} (h : R[k]? = some x) : kidsN (R.take (k + 1)) = kidsN (R.take k) ++ if 0 ≤ x then [x] else [] := by
  rw [List.take_add_one, h]
  simp only [kidsN, List.filter_append, Option.toList_some]
  by_cases hx : 0 ≤ x
  · simp [hx]
  · simp [hx]
theorem kidsN_len (R : List Int) : (kidsN R).length ≤ R.length := List.length_filter_le _ _
def treeRV (g : GrammarT) (rules : List Int) : TreeR := if (goodG g && decide (rules.length ≤ 60)) = true then runTR g rules [] else ([], false)
theorem runTR_len (g : GrammarT) : ∀ (rs : List Int) (P : List (List Int)) (n : Nat), GoodP g n P → (runTR g rs P).1.length ≤ n + rs.length
  | [], P, n, h => by
    unfold runTR resT
    split
    · rename_i t
      split
      · have := h.mem (List.mem_singleton.2 rfl); simpa using this
      · simp
    · simp
  | r :: rs, P, n, h => by
    unfold runTR
    by_cases hr : inRule g r = true
    · rw [if_pos hr]
      split
      · simp
      · split
        · have hr' : 0 ≤ r ∧ r ≤ (g.2.2.length : Int) - 1 := by simpa [inRule] using hr
          obtain ⟨q, rfl⟩ : ∃ q : Nat, r = (q : Int) := ⟨r.toNat, by omega⟩
          have := runTR_len g rs _ (n + 1) (h.step (r := q) (by omega) (P.length - (kidsN (ruleR g q).2).length))
          simp only [List.length_cons]
          omega
        · simp
    · rw [if_neg hr]; simp
theorem treeRV_len (g : GrammarT) (rules : List Int) : (treeRV g rules).1.length ≤ 60 := by
  unfold treeRV
  split
  · rename_i h
    have h2 : rules.length ≤ 60 := by simp only [Bool.and_eq_true, decide_eq_true_eq] at h; exact h.2
    have := runTR_len g rules [] 0 (.nil g)
    omega
  · simp
end Go.Proofs.Ytkolhcoeifghpaa.En
end
section
namespace Go.Proofs.Ytkolhcoeifghpaa.En
open Go.RowKit
set_option linter.unusedSimpArgs false
set_option linter.unusedVariables false
section
attribute [local semireducible] G Gq Holds GS thenA
variable {P : Program} {nt : NT} {s : AS} {K : AS → Prop} {ops : Array Oper} {o : Oper} {l : List Oper} {i : Nat}
end
end Go.Proofs.Ytkolhcoeifghpaa.En
end
section
namespace Go.Proofs.Ytkolhcoeifghpaa.En
open Go.RowKit
set_option linter.unusedSimpArgs false
set_option linter.unusedVariables false
section
attribute [local semireducible] G Gq Holds GS thenA
variable {P : Program} {nt : NT} {s s' : AS} {K : AS → Prop} {ops : Array Oper} {l : List Oper}
theorem Cov.short {q : Nat} (n m : Nat) {b : Blk} (hb : lb s.bl n = some b) : Cov q { s with bl := st s.bl n { b with xs := b.xs.take m } } s :=
  fun _ _ _ S _ _ _ h => ⟨S, _, _, h.short hb⟩
theorem GS.short (n m : Nat) {b : Blk} (hb : lb s.bl n = some b) (hs : ({ s with bl := st s.bl n { b with xs := b.xs.take m } } : AS) = s') {p : Nat} (h : GS P nt ops K l p s') : GS P nt ops K l p s :=
  GS.cov (Cov.short n m hb) (by rw [hs]; exact h)
theorem Holds.short {c : Code} {Q : Exit → AS → Prop} (n m : Nat) {b : Blk} (hb : lb s.bl n = some b) (hs : ({ s with bl := st s.bl n { b with xs := b.xs.take m } } : AS) = s') (h : Holds P nt c Q s') : Holds P nt c Q s :=
  Holds.cov (Cov.short n m hb) (by rw [hs]; exact h)
end
end Go.Proofs.Ytkolhcoeifghpaa.En
end
section
namespace Go.Proofs.Ytkolhcoeifghpaa.En
open Go.RowKit
set_option linter.unusedSimpArgs false
set_option linter.unusedVariables false
set_option maxHeartbeats 4000000
def mid {α : Type} (ys xs : List α) (i : Nat) : List α := ys.take i ++ xs.drop i
@[simp] theorem mid_zero {α : Type} (ys xs : List α) : mid ys xs 0 = xs := by simp [mid]
theorem mid_all {α : Type} {ys xs : List α} {n : Nat} (h1 : ys.length = n) (h2 : xs.length = n) : mid ys xs n = ys := by
  unfold mid; rw [List.take_of_length_le (by omega), List.drop_eq_nil_of_le (by omega), List.append_nil]
theorem mid_len {α : Type} {ys xs : List α} {i : Nat} (h : ys.length = xs.length) : (mid ys xs i).length = xs.length := by
  simp only [mid, List.length_append, List.length_take, List.length_drop]; omega
theorem mid_get {α : Type} {ys xs : List α} {i : Nat} (h : ys.length = xs.length) (hi : i < xs.length) : (mid ys xs i)[i]? = xs[i]? := by
  unfold mid
  rw [List.getElem?_append_right (by simp; omega), List.getElem?_drop]
  congr 1; simp; omega
theorem mid_set {α : Type} {ys xs : List α} {i : Nat} (h : ys.length = xs.length) (hi : i < xs.length) {y : α} (hy : ys[i]? = some y) : (mid ys xs i).set i y = mid ys xs (i + 1) := by
  unfold mid
  rw [List.set_append_right _ _ (by simp; omega), List.take_add_one, hy, List.drop_eq_getElem_cons hi]
  have e2 : i - (ys.take i).length = 0 := by simp; omega
  rw [e2, List.set_cons_zero]
  simp
def wtL {α : Type} (w : α → Nat) : List α → Nat
  | [] => 0
  | x :: xs => w x + wtL w xs
def mkL {α : Type} (w : α → Nat) (f : Int → α → α) : Int → List α → List α
  | _, [] => []
  | k, x :: xs => f k x :: mkL w f (k + w x) xs
@[simp] theorem mkL_len {α : Type} (w : α → Nat) (f : Int → α → α) : ∀ (xs : List α) (k : Int), (mkL w f k xs).length = xs.length
  | [], _ => rfl
  | x :: xs, k => by simp [mkL, mkL_len w f xs]
theorem mkL_get {α : Type} (w : α → Nat) (f : Int → α → α) : ∀ (xs : List α) (k : Int) (i : Nat), (mkL w f k xs)[i]? = (xs[i]?).map (f (k + wtL w (xs.take i)))
  | [], _, i => by simp [mkL]
  | x :: xs, k, 0 => by simp [mkL, wtL]
  | x :: xs, k, i + 1 => by
    simp only [mkL, List.getElem?_cons_succ, mkL_get w f xs, List.take_succ_cons, wtL]
    congr 2; omega
theorem wtL_next {α : Type} (w : α → Nat) : ∀ {xs : List α} {i : Nat} {x : α}, xs[i]? = some x → wtL w (xs.take (i + 1)) = wtL w (xs.take i) + w x
  | [], i, x, h => by simp at h
  | y :: ys, 0, x, h => by simp at h; subst h; simp [wtL]
  | y :: ys, i + 1, x, h => by
    simp only [List.getElem?_cons_succ] at h
    simp only [List.take_succ_cons, wtL, wtL_next w h]; omega
theorem wtL_le {α : Type} (w : α → Nat) : ∀ (xs : List α) (i : Nat), wtL w (xs.take i) ≤ wtL w xs
  | [], i => by simp
  | y :: ys, 0 => by simp [wtL]
  | y :: ys, i + 1 => by have := wtL_le w ys i; simp only [List.take_succ_cons, wtL]; omega
def w1 (_ : Int) : Nat := 1
def m1 (k : Int) (_ : Int) : Int := k
@[simp] theorem wtL_w1 : ∀ xs : List Int, wtL w1 xs = xs.length
  | [] => rfl
  | x :: xs => by simp [wtL, w1, wtL_w1 xs]; omega
def cnt (k : Int) (xs : List Int) : List Int := mkL w1 m1 k xs
@[simp] theorem cnt_len (k : Int) (xs : List Int) : (cnt k xs).length = xs.length := mkL_len _ _ _ _
theorem cnt_get (k : Int) (xs : List Int) {i : Nat} (h : i < xs.length) : (cnt k xs)[i]? = some (k + i) := by
  unfold cnt
  rw [mkL_get, List.getElem?_eq_getElem h, wtL_w1, List.length_take]
  simp [m1]; omega
@[simp] theorem cnt_gE (k : Int) (xs : List Int) (i : Nat) (h : i < (cnt k xs).length) : (cnt k xs)[i] = k + i := by
  have := cnt_get k xs (i := i) (by simpa using h)
  rw [List.getElem?_eq_getElem h] at this
  exact Option.some.inj this
@[simp] theorem onyR_ints (xs : List Int) : onyR (ints xs) := fun row hr x hx => by
  simp only [ints, List.mem_map] at hr
  obtain ⟨n, _, rfl⟩ := hr
  simp at hx; subst hx; exact .v _
theorem get_E {α : Type} {l : List α} {i : Nat} {a : α} (h : l[i]? = some a) : ∀ g : i < l.length, l[i] = a := fun g => by
  rw [List.getElem?_eq_getElem g] at h; exact Option.some.inj h
theorem set_get {α : Type} {l : List α} {i : Nat} {a b : α} (h : l[i]? = some b) : (l.set i a)[i]? = some a := by
  have := (List.getElem?_eq_some_iff.1 h).1
  simp [this]
theorem nfr_mid {ys xs : List (List AV)} {i : Nat} (h1 : nfr ys) (h2 : nfr xs) : nfr (mid ys xs i) := by
  unfold mid; rw [nfr_append]; exact ⟨h1.take i, h2.drop i⟩
theorem Fz.owI {bl : List (Nat × Blk)} {e : TypeId} {sz : Nat} {xs : List (List AV)} (h : ∀ row ∈ xs, ∀ x ∈ row, En.cl1 x = true) : Fz bl (.ow e sz xs) (.im sz xs) :=
  .ow e sz xs xs rfl (fun j r r' h1 h2 => by rw [h1] at h2; cases h2; rfl) fun j r r' i x y h1 h2 h3 h4 => by
    rw [h1] at h2; cases h2
    rw [h3] at h4; cases h4
    exact .cl1 (h r (List.mem_of_getElem? h1) x (List.mem_of_getElem? h3))
theorem map_both {α β γ : Type} {xs : List α} {f : α → β} {g : α → γ} {j : Nat} {b : β} {c : γ} (h1 : (xs.map f)[j]? = some b) (h2 : (xs.map g)[j]? = some c) : ∃ x ∈ xs, b = f x ∧ c = g x := by
  simp only [List.getElem?_map, Option.map_eq_some_iff] at h1 h2
  obtain ⟨x, hx, rfl⟩ := h1
  obtain ⟨y, hy, rfl⟩ := h2
  rw [hx] at hy; cases hy
  exact ⟨x, List.mem_of_getElem? hx, rfl, rfl⟩
theorem Fz.rowsO {bl : List (Nat × Blk)} {α : Type} {n sz len : Nat} {k : Blk} (l : List α) (fO fI : α → List AV) (hk : lb bl n = some k) (hx : k.xs = l.map fO) (hs : k.sz = sz) (hz : ∀ x ∈ l, FzL bl (fO x) (fI x)) (hl : len = l.length) : Fz bl (.own n sz 0 len) (.im sz (l.map fI)) := by
  subst hs hl
  refine .own n 0 l.length k (l.map fI) _ hk (by simp [hx]) (fun j r r' h1 h2 => ?_) (fun j r r' i x y h1 h2 h3 h4 => ?_) (by simp) (by simp [List.take_of_length_le])
  · rw [hx] at h1
    obtain ⟨x, hx, rfl, rfl⟩ := map_both h1 h2
    exact (hz x hx).len
  · rw [hx] at h1
    obtain ⟨x, hx, rfl, rfl⟩ := map_both h1 h2
    exact (hz x hx).get i _ _ h3 h4
theorem toIntSO (xs : List Int) (hx : xs.length < 35184372088832) : Fn Try.prog 10 0 [.im 1 (ints xs)] [] (.own 0 1 0 xs.length) 1 [(0, ⟨3, 1, ints xs⟩)] := by
  refine Fn.mk (rs := [.tmp 2]) (nt := 22) Try.func10 (by kernel_rfl) rfl rfl rfl (by simp) ?_
  simp only [sl]
  refine wk (And.intro ((show (0:Int) ≤ (xs.length : Int) by omega)) (And.intro ((show (8:Int) * xs.length ≤ 281474976710656 by omega)) ((show (xs.length : Int) ≤ 281474976710656 by omega)))) _ ?_
  refine Holds.loop (ι := Nat) (fun i => ⟨[(0, .im 1 (ints xs)), (3, .own 0 1 0 xs.length), (4, .v (.int .i64 i))], [(0, ⟨3, 1, ints (half xs 0 i)⟩)], 1⟩) (fun i => i ≤ xs.length) (fun i => xs.length - i) 0 (Nat.zero_le _) ?_ ?_
  · exact Cov.ofn (id) rfl (by simp [go_sem, List.take_of_length_le, ren, ren1, ren2, okr, okr1, okr2, ChkT, ChkN, BlkN, nf, half]) (by simp [go_sem, List.take_of_length_le, ren, ren1, ren2, okr, okr1, okr2, ChkT, ChkN, BlkN, nf, half])
  intro i hi
  refine wk0 _ ?_
  refine Holds.cond rfl (fun hl => ?_) (fun hl => ?_)
  · have hlt : i < xs.length := by simpa using hl
    have hxi : xs[i]? = some xs[i] := List.getElem?_eq_getElem hlt
    have hhi := half_get xs 0 i hlt
    have hhs := half_set xs 0 i hlt _ hxi
    refine wk (And.intro @hxi (And.intro @hlt (And.intro @hhi (@hhs)))) _ ?_
    refine ⟨i + 1, by omega, by omega, ?_⟩
    rw [wr64_id (by omega) (by omega)]
    exact Cov.ofn (id) rfl (by simp [go_sem, List.take_of_length_le, ren, ren1, ren2, okr, okr1, okr2, ChkT, ChkN, BlkN, nf]) (by simp [go_sem, List.take_of_length_le, ren, ren1, ren2, okr, okr1, okr2, ChkT, ChkN, BlkN, nf])
  · have hle : i = xs.length := by
      have : ¬ i < xs.length := by simpa using hl
      omega
    subst hle
    rw [half_all]
    refine wk0 _ ?_
    refine OutF.mkn (xs := ?_) (nm [0]) ?_ ?_ ?_ ?_ ?_ (by first | exact .inr rfl | exact .inl rfl)
    rotate_left
    · simp [go_sem, List.take_of_length_le] <;> with_reducible rfl
    · simp [go_sem, List.take_of_length_le, ren, ren1, ren2, okr, okr1, okr2, ChkN, BlkN, List.range_succ, nf]
    · simp [go_sem, List.take_of_length_le, ren, ren1, ren2, okr, okr1, okr2, ChkN, BlkN, List.range_succ, nf]
    · simp [go_sem, List.take_of_length_le, ren, ren1, ren2, okr, okr1, okr2, ChkN, BlkN, List.range_succ, nf]
    · rfl
theorem markIntS (xs : List Int) (k : Int) (h0 : 0 ≤ k) (h1 : k + wtL w1 xs ≤ 4611686018427387904) : Fn Try.prog 15 1 [.own 0 1 0 xs.length, .v (.int .i64 k)] [(0, ⟨3, 1, ints xs⟩)] (.v (.int .i64 (k + wtL w1 xs))) 1 [(0, ⟨3, 1, ints (cnt k xs)⟩)] := by
  rw [wtL_w1] at h1 ⊢
  have hl0 : (cnt k xs).length = xs.length := cnt_len k xs
  refine Fn.mk (rs := [.tmp 4]) (nt := 19) Try.func15 (by kernel_rfl) rfl rfl rfl (by simp) ?_
  simp only [sl]
  refine wk0 _ ?_
  refine Holds.loop (ι := Nat) (fun i => ⟨[(0, .own 0 1 0 xs.length), (1, .v (.int .i64 (k + i))), (5, .v (.int .i64 i))], [(0, ⟨3, 1, ints (mid (cnt k xs) xs i)⟩)], 1⟩) (fun i => i ≤ xs.length) (fun i => xs.length - i) 0 (Nat.zero_le _) ?_ ?_
  · exact Cov.ofn (id) rfl (by simp [go_sem, List.take_of_length_le, ren, ren1, ren2, okr, okr1, okr2, ChkT, ChkN, BlkN, nf]) (by simp [go_sem, List.take_of_length_le, ren, ren1, ren2, okr, okr1, okr2, ChkT, ChkN, BlkN, nf])
  intro i hi
  have hml := mid_len (i := i) hl0
  refine wk (@hml) _ ?_
  refine Holds.cond rfl (fun hl => ?_) (fun hl => ?_)
  · have hlt : i < xs.length := by simpa using hl
    have hxi : xs[i]? = some xs[i] := List.getElem?_eq_getElem hlt
    have hhi := (mid_get hl0 hlt).trans hxi
    have hhs := mid_set hl0 hlt (cnt_get k xs hlt)
    refine wk (And.intro @hml (And.intro @hxi (And.intro @hlt (And.intro @hhi (@hhs))))) _ ?_
    refine ⟨i + 1, by omega, by omega, ?_⟩
    rw [wr64_id (by omega) (by omega), wr64_id (by omega) (by omega), show k + (i : Int) + 1 = k + ((i + 1 : Nat) : Int) by omega]
    exact Cov.ofn (id) rfl (by simp [go_sem, List.take_of_length_le, ren, ren1, ren2, okr, okr1, okr2, ChkT, ChkN, BlkN, nf]) (by simp [go_sem, List.take_of_length_le, ren, ren1, ren2, okr, okr1, okr2, ChkT, ChkN, BlkN, nf])
  · have hle : i = xs.length := by
      have : ¬ i < xs.length := by simpa using hl
      omega
    subst hle
    rw [mid_all hl0 rfl]
    refine wk0 _ ?_
    refine OutF.mkn (xs := ?_) (nm [0]) ?_ ?_ ?_ ?_ ?_ (by first | exact .inr rfl | exact .inl rfl)
    rotate_left
    · simp [go_sem, List.take_of_length_le] <;> with_reducible rfl
    · simp [go_sem, List.take_of_length_le, ren, ren1, ren2, okr, okr1, okr2, ChkN, BlkN, List.range_succ, nf]
    · simp [go_sem, List.take_of_length_le, ren, ren1, ren2, okr, okr1, okr2, ChkN, BlkN, List.range_succ, nf]
    · simp [go_sem, List.take_of_length_le, ren, ren1, ren2, okr, okr1, okr2, ChkN, BlkN, List.range_succ, nf]
    · rfl
theorem heldIntS (xs : List Int) (k : Int) (h0 : 0 ≤ k) (h1 : k + wtL w1 xs ≤ 4611686018427387904) : Pure Try.prog 16 [.im 1 (ints (cnt k xs)), .v (.int .i64 k)] (.v (.int .i64 (k + wtL w1 xs))) := by
  rw [wtL_w1] at h1 ⊢
  refine Pure.mk (rs := [.tmp 4]) (nt := 21) Try.func16 (by kernel_rfl) rfl rfl rfl (by simp) ?_
  simp only [sl]
  refine wk0 _ ?_
  refine Holds.loop (ι := Nat) (fun i => ⟨[(0, .im 1 (ints (cnt k xs))), (1, .v (.int .i64 (k + i))), (5, .v (.int .i64 i))], [], 0⟩) (fun i => i ≤ xs.length) (fun i => xs.length - i) 0 (Nat.zero_le _) ?_ ?_
  · exact Cov.ofn (id) rfl (by simp [go_sem, List.take_of_length_le, ren, ren1, ren2, okr, okr1, okr2, ChkT, ChkN, BlkN, nf]) (by simp [go_sem, List.take_of_length_le, ren, ren1, ren2, okr, okr1, okr2, ChkT, ChkN, BlkN, nf])
  intro i hi
  refine wk0 _ ?_
  refine Holds.cond rfl (fun hl => ?_) (fun hl => ?_)
  · have hlt : i < xs.length := by simpa using hl
    have hxi := cnt_get k xs hlt
    refine wk (And.intro @hxi (@hlt)) _ ?_
    refine Holds.cond rfl (fun hl => absurd hl (by simp)) (fun hl => ?_)
    refine wk0 _ ?_
    refine ⟨i + 1, by omega, by omega, ?_⟩
    rw [wr64_id (by omega) (by omega), wr64_id (by omega) (by omega), show k + (i : Int) + 1 = k + ((i + 1 : Nat) : Int) by omega]
    exact Cov.ofn (id) rfl (by simp [go_sem, List.take_of_length_le, ren, ren1, ren2, okr, okr1, okr2, ChkT, ChkN, BlkN, nf]) (by simp [go_sem, List.take_of_length_le, ren, ren1, ren2, okr, okr1, okr2, ChkT, ChkN, BlkN, nf])
  · have hle : i = xs.length := by
      have : ¬ i < xs.length := by simpa using hl
      omega
    subst hle
    refine wk0 _ ?_
    refine Out.mk (xs := ?_) ?_ ?_ (by first | exact .inr rfl | exact .inl rfl)
    rotate_left
    · simp [go_sem, List.take_of_length_le] <;> with_reducible rfl
    exact .v _
end Go.Proofs.Ytkolhcoeifghpaa.En
end
section
namespace Go.Proofs.Ytkolhcoeifghpaa.En
open Go.RowKit
set_option linter.unusedSimpArgs false
set_option linter.unusedVariables false
set_option maxHeartbeats 4000000
theorem intss_allT (l : List (List Int)) (P : List AV → Prop) : (∀ x, x ∈ intss l → P x) ↔ ∀ n, n ∈ l → P [.im 1 (ints n)] := by
  simp only [intss, List.mem_map]
  exact ⟨fun h n hn => h _ ⟨n, hn, rfl⟩, fun h x ⟨n, hn, e⟩ => e ▸ h n hn⟩
theorem ints_allT (l : List Int) (P : List AV → Prop) : (∀ x, x ∈ ints l → P x) ↔ ∀ n, n ∈ l → P [.v (.int .i64 n)] := by simp [ints]
theorem intss_takeT (l : List (List Int)) (n : Nat) : (intss l).take n = intss (l.take n) := by simp [intss, List.map_take]
theorem intss_clT (l : List (List Int)) : ∀ row ∈ intss l, ∀ x ∈ row, cl1 x = true := fun row hr x hx => by
  simp only [intss, List.mem_map] at hr
  obtain ⟨t, _, rfl⟩ := hr
  simp only [intsC, List.mem_singleton] at hx
  subst hx; rfl
theorem ruleR_at {g : GrammarT} {r : Nat} (h : r < g.2.2.length) : g.2.2[r]? = some (ruleR g r) := by
  rw [ruleR, Int.toNat_natCast, List.getD_eq_getElem?_getD, List.getElem?_eq_getElem h]; rfl
theorem specTR (g : GrammarT) (rules : List Int) (hx : g.2.2.length < 4611686018427387904) (hs : ∀ e ∈ g.2.2, e.2.length < 4611686018427387904) (hw : rules.length < 4611686018427387904) : Pure Try.prog 8 [.ag (grammarC g), .im 1 (ints rules)] (.tu [.im 1 (ints (treeRV g rules).1), .v (.bool (treeRV g rules).2)]) := by
  have cg := specGoodG g hx hs
  unfold treeRV
  have hwl : wr64 ((g.2.2.length : Int) - 1) = (g.2.2.length : Int) - 1 := wr64_id (by omega) (by omega)
  have ca := l1All rules 0 ((g.2.2.length : Int) - 1) hw
  refine Pure.mk (rs := [.tmp 4, .tmp 5]) (nt := 125) Try.func8 (by kernel_rfl) rfl rfl rfl (by simp) ?_
  simp only [sl, grammarC]
  refine wkdc (@grammarC.eq_1) _ ?_
  cases hg : goodG g with
  | false =>
    rw [hg] at cg
    simp only [Bool.false_and, Bool.false_eq_true, if_false]
    first | refine GS.cc (cg) rfl rfl rfl rfl (by simp [go_sem, List.take_of_length_le, grammarC] <;> with_reducible rfl) rfl (by simp [go_sem, List.take_of_length_le, grammarC]) ?_ | refine Gd.cc (cg) rfl rfl rfl rfl (by simp [go_sem, List.take_of_length_le, grammarC] <;> with_reducible rfl) rfl (by simp [go_sem, List.take_of_length_le, grammarC]) ?_
    refine wkdc0 _ ?_
    refine Out.mk (xs := ?_) ?_ ?_ (by first | exact .inr rfl | exact .inl rfl)
    rotate_left
    · simp [go_sem, List.take_of_length_le] <;> with_reducible rfl
    exact Fz.tuL (.cons (Fz.nl _) (.cons (.v _) .nil))
  | true =>
    rw [hg] at cg
    have hG := goodG_ok hg
    have hlen := hG.len
    rw [Bool.true_and]
    first | refine GS.cc (cg) rfl rfl rfl rfl (by simp [go_sem, List.take_of_length_le, grammarC] <;> with_reducible rfl) rfl (by simp [go_sem, List.take_of_length_le, grammarC]) ?_ | refine Gd.cc (cg) rfl rfl rfl rfl (by simp [go_sem, List.take_of_length_le, grammarC] <;> with_reducible rfl) rfl (by simp [go_sem, List.take_of_length_le, grammarC]) ?_
    by_cases hl6 : rules.length ≤ 60
    case neg =>
      have h6 : (60 : Int) < (rules.length : Int) := by omega
      have h6n : 60 < rules.length := by omega
      rw [decide_eq_false hl6]
      simp only [Bool.false_eq_true, if_false]
      refine wkdc (And.intro @h6 (@h6n)) _ ?_
      refine Out.mk (xs := ?_) ?_ ?_ (by first | exact .inr rfl | exact .inl rfl)
      rotate_left
      · simp [go_sem, List.take_of_length_le] <;> with_reducible rfl
      exact Fz.tuL (.cons (Fz.nl _) (.cons (.v _) .nil))
    have h6 : ¬ (60 : Int) < (rules.length : Int) := by omega
    have h6n : ¬ 60 < rules.length := by omega
    rw [decide_eq_true hl6]
    simp only [if_true]
    refine wkdc (And.intro @grammarC.eq_1 (And.intro @h6 (And.intro @h6n (@hwl)))) _ ?_
    cases hall : rules.all fun n => inR n 0 ((g.2.2.length : Int) - 1) with
    | false =>
      rw [hall] at ca
      rw [runTR_bad g rules [] (by
        rw [List.all_eq_false] at hall
        obtain ⟨r, h1, h2⟩ := hall
        exact ⟨r, h1, (show inR r 0 ((g.2.2.length : Int) - 1) = false by simpa using h2)⟩)]
      first | refine GS.cc (ca) rfl rfl rfl rfl (by simp [go_sem, List.take_of_length_le, grammarC] <;> with_reducible rfl) rfl (by simp [go_sem, List.take_of_length_le, grammarC]) ?_ | refine Gd.cc (ca) rfl rfl rfl rfl (by simp [go_sem, List.take_of_length_le, grammarC] <;> with_reducible rfl) rfl (by simp [go_sem, List.take_of_length_le, grammarC]) ?_
      refine wkdc0 _ ?_
      refine Out.mk (xs := ?_) ?_ ?_ (by first | exact .inr rfl | exact .inl rfl)
      rotate_left
      · simp [go_sem, List.take_of_length_le] <;> with_reducible rfl
      exact Fz.tuL (.cons (Fz.nl _) (.cons (.v _) .nil))
    | true =>
      rw [hall] at ca
      rw [List.all_eq_true] at hall
      first | refine GS.cc (ca) rfl rfl rfl rfl (by simp [go_sem, List.take_of_length_le, grammarC] <;> with_reducible rfl) rfl (by simp [go_sem, List.take_of_length_le, grammarC]) ?_ | refine Gd.cc (ca) rfl rfl rfl rfl (by simp [go_sem, List.take_of_length_le, grammarC] <;> with_reducible rfl) rfl (by simp [go_sem, List.take_of_length_le, grammarC]) ?_
      refine wkdc0 _ ?_
      have hst := GoodP.nil g
      obtain ⟨V, hV⟩ : ∃ V, V = runTR g (rules.drop 0) [] := ⟨_, rfl⟩
      rw [show runTR g rules [] = V by rw [hV, List.drop_zero]]
      refine Holds.nim 6 1 rfl ?_
      refine Holds.loop (ι := Nat × List (List Int)) (fun x => ⟨[(1, .im 1 (ints rules)), (2, .pb 0 3 0 0), (6, .im 1 (intss x.2)), (33, .im 1 (ints rules)), (34, .v (.int .i64 rules.length)), (35, .v (.int .i64 x.1))], [(0, ⟨31, 3, [grammarC g]⟩)], 1⟩)
        (fun x => x.1 ≤ rules.length ∧ GoodP g x.1 x.2 ∧ V = runTR g (rules.drop x.1) x.2) (fun x => rules.length - x.1) (0, []) ⟨Nat.zero_le _, hst, hV⟩ ?_ ?_
      · exact Cov.ofn (id) rfl (by simp [go_sem, List.take_of_length_le, ren, ren1, ren2, okr, okr1, okr2, ChkT, ChkN, BlkN, nf, again, grammarC, show intss [] = [] from rfl]) (by simp [go_sem, List.take_of_length_le, ren, ren1, ren2, okr, okr1, okr2, ChkT, ChkN, BlkN, nf, again, grammarC, show intss [] = [] from rfl])
      clear hst hV
      rintro ⟨i, P⟩ ⟨hi, hP, hV⟩
      dsimp only at hi hP hV ⊢
      have stepi : wr64 ((i : Int) + 1) = ((i + 1 : Nat) : Int) := wr64_id (by omega) (by omega)
      have hPl := hP.len
      refine wkdc0 _ ?_
      refine Holds.cond rfl (fun h => ?_) (fun h => ?_)
      · have hil : i < rules.length := by simpa using h
        have hri : rules[i]? = some rules[i] := List.getElem?_eq_getElem hil
        have hin := hall _ (List.getElem_mem hil)
        rw [List.drop_eq_getElem_cons hil] at hV
        generalize rules[i] = r at hri hin hV
        unfold runTR at hV
        rw [if_pos (show inRule g r = true from hin)] at hV
        obtain ⟨rn, rfl, hrl⟩ : ∃ q : Nat, r = (q : Int) ∧ q < g.2.2.length := by
          have hin' : 0 ≤ r ∧ r ≤ (g.2.2.length : Int) - 1 := by simpa [inR] using hin
          exact ⟨r.toNat, by omega, by omega⟩
        have hrr := ruleR_at hrl
        have hR4 := hG.r4 _ (List.mem_of_getElem? hrr)
        generalize ruleR g rn = R at hrr hR4 hV
        obtain ⟨l, R⟩ := R
        dsimp only at hR4 hV
        refine wkdc (And.intro @hil (And.intro @hri (And.intro (@get_E _ _ _ _ hri) (And.intro @hrl (And.intro @hrr (And.intro (@get_E _ _ _ _ hrr) (And.intro @ruleC.eq_1 (@grammarC.eq_1)))))))) _ ?_
        refine Holds.niw 9 3 1 rfl ?_
        refine Holds.loop (ι := Nat) (fun j => ⟨[(1, .im 1 (ints rules)), (2, .pb 0 3 0 0), (6, .im 1 (intss P)), (8, .v (.int .i64 rn)), (9, .own 1 1 0 (kidsN (R.take j)).length), (33, .im 1 (ints rules)), (34, .v (.int .i64 rules.length)), (35, .v (.int .i64 i)), (44, .im 1 (ints R)), (45, .v (.int .i64 R.length)), (46, .v (.int .i64 j))], [(1, ⟨3, 1, ints (kidsN (R.take j))⟩), (0, ⟨31, 3, [grammarC g]⟩)], 2⟩)
          (fun j => j ≤ R.length) (fun j => R.length - j) 0 (Nat.zero_le _) ?_ ?_
        · exact Cov.ofn (id) rfl (by simp [go_sem, List.take_of_length_le, ren, ren1, ren2, okr, okr1, okr2, ChkT, ChkN, BlkN, nf, niw, grammarC, ruleC, show kidsN [] = [] from rfl, show ints [] = [] from rfl]) (by simp [go_sem, List.take_of_length_le, ren, ren1, ren2, okr, okr1, okr2, ChkT, ChkN, BlkN, nf, niw, grammarC, ruleC, show kidsN [] = [] from rfl, show ints [] = [] from rfl])
        · intro j hj
          have stepj : wr64 ((j : Int) + 1) = ((j + 1 : Nat) : Int) := wr64_id (by omega) (by omega)
          refine wkdc0 _ ?_
          refine Holds.cond rfl (fun h => ?_) (fun h => ?_)
          · have hjl : j < R.length := by simpa using h
            have hxj : R[j]? = some R[j] := List.getElem?_eq_getElem hjl
            have hnx := kidsN_snoc hxj
            have hkl : (kidsN (R.take j)).length ≤ 4 := by
              have := kidsN_len (R.take j)
              rw [List.length_take] at this
              omega
            generalize R[j] = y at hxj hnx
            generalize kidsN (R.take j) = K at hnx hkl ⊢
            have hbb : (K.length + 1) * 8 ≤ 140737488355328 := by omega
            by_cases hy : 0 ≤ y
            · rw [if_pos hy] at hnx
              refine wkdc (And.intro @hjl (And.intro @hxj (And.intro (@get_E _ _ _ _ hxj) (And.intro @hy (@hbb))))) _ ?_
              refine ⟨j + 1, by omega, by omega, ?_⟩
              rw [stepj, hnx]
              exact Cov.ofn (nm [0, 4]) rfl (by simp [go_sem, List.take_of_length_le, ren, ren1, ren2, okr, okr1, okr2, ChkT, ChkN, BlkN, nf, grammarC, ints_snoc]) (by simp [go_sem, List.take_of_length_le, ren, ren1, ren2, okr, okr1, okr2, ChkT, ChkN, BlkN, nf, grammarC, ints_snoc])
            · rw [if_neg hy, List.append_nil] at hnx
              refine wkdc (And.intro @hjl (And.intro @hxj (And.intro (@get_E _ _ _ _ hxj) (@hy)))) _ ?_
              refine ⟨j + 1, by omega, by omega, ?_⟩
              rw [stepj, hnx]
              exact Cov.ofn (id) rfl (by simp [go_sem, List.take_of_length_le, ren, ren1, ren2, okr, okr1, okr2, ChkT, ChkN, BlkN, nf, grammarC]) (by simp [go_sem, List.take_of_length_le, ren, ren1, ren2, okr, okr1, okr2, ChkT, ChkN, BlkN, nf, grammarC])
          · have hje : j = R.length := by simp at h; omega
            subst hje
            rw [List.take_length]
            have hkl : (kidsN R).length ≤ 4 := Nat.le_trans (kidsN_len R) hR4
            generalize kidsN R = K at hkl hV ⊢
            refine Holds.frz [1] [(9, .im 1 (ints K))] (.cons rfl (Fz.all rfl rfl (by simp) rfl (ints_cl _)) .nil) ?_
            refine wkdc (@frz.eq_1) _ ?_
            have hneg : (wr64 ((P.length : Int) - (K.length : Int)) < 0) ↔ P.length < K.length := by rw [wr64_id (by omega) (by omega)]; omega
            by_cases hlt : P.length < K.length
            · rw [if_pos hlt] at hV
              subst hV
              have hn1 := hneg.2 hlt
              refine wkdc (@hn1) _ ?_
              refine Out.mk (xs := ?_) ?_ ?_ (by first | exact .inr rfl | exact .inl rfl)
              rotate_left
              · simp [go_sem, List.take_of_length_le] <;> with_reducible rfl
              exact Fz.tuL (.cons (Fz.nl _) (.cons (.v _) .nil))
            · rw [if_neg hlt] at hV
              obtain ⟨m, hm⟩ : ∃ m, m = P.length - K.length := ⟨_, rfl⟩
              have hwm : wr64 ((P.length : Int) - (K.length : Int)) = (m : Int) := by rw [wr64_id (by omega) (by omega)]; omega
              rw [← hm] at hV
              have hmn : ¬ (m : Int) < 0 := by omega
              have hstep := hP.step hrl m
              have hflat := hP.flK m
              have hDl : (P.drop m).length = K.length := by rw [List.length_drop]; omega
              have hDg : ∀ k, (P.drop m)[k]? = P[m + k]? := fun k => by rw [List.getElem?_drop]
              have hhd : ∀ t ∈ P.drop m, ∃ (r : Nat) (s : List Int), t = (r : Int) :: s ∧ r < g.2.2.length := fun t ht => hP.hd t (List.mem_of_mem_drop ht)
              obtain ⟨D, hD⟩ : ∃ D, D = P.drop m := ⟨_, rfl⟩
              rw [← hD] at hV hstep hDl hhd
              refine wkdc (And.intro @hwm (@hmn)) _ ?_
              refine Holds.loop (ι := Nat) (fun k => ⟨[(1, .im 1 (ints rules)), (2, .pb 0 3 0 0), (6, .im 1 (intss P)), (8, .v (.int .i64 rn)), (9, .im 1 (ints K)), (12, .v (.int .i64 m)), (13, .own 1 1 0 ((flK D k).length + 1)), (33, .im 1 (ints rules)), (34, .v (.int .i64 rules.length)), (35, .v (.int .i64 i)), (66, .im 1 (ints K)), (67, .v (.int .i64 K.length)), (68, .v (.int .i64 k))], [(1, ⟨3, 1, ints ((rn : Int) :: flK D k)⟩), (0, ⟨31, 3, [grammarC g]⟩)], 2⟩)
                (fun k => k ≤ K.length ∧ V = if okK g (K.drop k) (D.drop k) = true then runTR g (rules.drop (i + 1)) (P.take m ++ [(rn : Int) :: D.flatten]) else ([], false)) (fun k => K.length - k) 0 ⟨Nat.zero_le _, by rw [List.drop_zero, List.drop_zero]; exact hV⟩ ?_ ?_
              · exact Cov.ofn (nm [0, 2]) rfl (by simp [go_sem, List.take_of_length_le, ren, ren1, ren2, okr, okr1, okr2, ChkT, ChkN, BlkN, nf, grammarC, flK_zero, show ints [(rn : Int)] = [[.v (.int .i64 rn)]] from rfl]) (by simp [go_sem, List.take_of_length_le, ren, ren1, ren2, okr, okr1, okr2, ChkT, ChkN, BlkN, nf, grammarC, flK_zero, show ints [(rn : Int)] = [[.v (.int .i64 rn)]] from rfl])
              · rintro k ⟨hk, hVk⟩
                clear hV
                have stepk : wr64 ((k : Int) + 1) = ((k + 1 : Nat) : Int) := wr64_id (by omega) (by omega)
                refine wkdc0 _ ?_
                refine Holds.cond rfl (fun h => ?_) (fun h => ?_)
                · have hkl2 : k < K.length := by simpa using h
                  have hxk : K[k]? = some K[k] := List.getElem?_eq_getElem hkl2
                  have htk : D[k]? = some D[k] := List.getElem?_eq_getElem (by omega)
                  obtain ⟨q, s, hts, hql⟩ := hhd _ (List.getElem_mem (show k < D.length by omega))
                  rw [okK_at hxk htk] at hVk
                  have hfs := flK_snoc htk
                  have hfl := hflat k
                  have hfl2 := hflat (k + 1)
                  rw [← hD] at hfl hfl2
                  generalize K[k] = y at hxk hVk
                  rw [hts] at htk hVk hfs
                  have hPk : P[m + k]? = some ((q : Int) :: s) := by rw [← hDg, ← hD]; exact htk
                  have hmk : m + k < P.length := (List.getElem?_eq_some_iff.1 hPk).1
                  have hwk : wr64 ((m : Int) + (k : Int)) = ((m + k : Nat) : Int) := by rw [wr64_id (by omega) (by omega)]; omega
                  have hqq := ruleR_at hql
                  have hlt2 : leftT g ((q : Int) :: s) = (ruleR g q).1 := rfl
                  rw [hlt2] at hVk
                  rw [hfs] at hfl2
                  generalize ruleR g q = Q at hqq hVk
                  obtain ⟨lq, Q⟩ := Q
                  dsimp only at hVk
                  obtain ⟨F, hF⟩ : ∃ F, F = flK D k := ⟨_, rfl⟩
                  rw [← hF] at hfs hfl hfl2 ⊢
                  rw [List.length_append, List.length_cons] at hfl2
                  generalize hwmk : m + k = mk at hPk hmk hwk
                  have hit : intsC ((q : Int) :: s) = [.im 1 ([.v (.int .i64 q)] :: ints s)] := rfl
                  refine wkdsc (And.intro @hkl2 (And.intro @hxk (@get_E _ _ _ _ hxk))) _ ?_
                  (refine Holds.any mixed ?_ ?_; (· kernel_rfl))
                  refine wkdsc (And.intro @hkl2 (And.intro @hxk (And.intro (@get_E _ _ _ _ hxk) (And.intro @hwk (And.intro @hPk (And.intro @hmk (And.intro (@get_E _ _ _ _ hPk) (And.intro @hit (And.intro @hql (And.intro @hqq (And.intro (@get_E _ _ _ _ hqq) (And.intro @ruleC.eq_1 (@grammarC.eq_1))))))))))))) _ ?_
                  by_cases hly : lq = y
                  · rw [decide_eq_true hly, Bool.true_and] at hVk
                    have hbb : (F.length + 1 + (s.length + 1)) * 8 ≤ 140737488355328 := by omega
                    have hne : (lq != y) = false := by simp [hly]
                    refine wkdc (And.intro @hne (@hly)) _ ?_
                    refine wkdc (And.intro @hwk (And.intro @hPk (And.intro @hmk (And.intro (@get_E _ _ _ _ hPk) (And.intro @hit (And.intro @hbb (@ints_allT))))))) _ ?_
                    refine ⟨k + 1, ⟨by omega, hVk⟩, by omega, ?_⟩
                    rw [stepk, hfs]
                    exact Cov.ofn (nm [0, 3]) rfl (by simp [go_sem, List.take_of_length_le, ren, ren1, ren2, okr, okr1, okr2, ChkT, ChkN, BlkN, nf, grammarC, show ints ((rn : Int) :: (F ++ (q : Int) :: s)) = ints ((rn : Int) :: F) ++ [.v (.int .i64 q)] :: ints s by simp [ints], show F.length + 1 + (s.length + 1) = F.length + (s.length + 1) + 1 by omega]) (by simp [go_sem, List.take_of_length_le, ren, ren1, ren2, okr, okr1, okr2, ChkT, ChkN, BlkN, nf, grammarC, show ints ((rn : Int) :: (F ++ (q : Int) :: s)) = ints ((rn : Int) :: F) ++ [.v (.int .i64 q)] :: ints s by simp [ints], show F.length + 1 + (s.length + 1) = F.length + (s.length + 1) + 1 by omega])
                  · rw [decide_eq_false hly] at hVk
                    simp only [Bool.false_and, Bool.false_eq_true, if_false] at hVk
                    subst hVk
                    have hne : (lq != y) = true := by simp [hly]
                    refine wkdc (And.intro @hne (@hly)) _ ?_
                    refine Out.mk (xs := ?_) ?_ ?_ (by first | exact .inr rfl | exact .inl rfl)
                    rotate_left
                    · simp [go_sem, List.take_of_length_le] <;> with_reducible rfl
                    exact Fz.tuL (.cons (Fz.nl _) (.cons (.v _) .nil))
                · have hke : k = K.length := by simp at h; omega
                  subst hke
                  rw [List.drop_length, show okK g [] (D.drop K.length) = true by simp [okK], if_pos rfl] at hVk
                  have hfl := hflat K.length
                  rw [← hD, flK_all hDl] at hfl
                  rw [flK_all hDl]
                  generalize D.flatten = T at hfl hVk hstep ⊢
                  have hml : m ≤ P.length := by omega
                  have hbb : (m + 1) * 24 ≤ 140737488355328 := by omega
                  have hbm : m * 24 ≤ 140737488355328 := by omega
                  have htl : ((intss P).take m).length = m := by rw [List.length_take, intss_len]; omega
                  refine Holds.frz [1] [(13, .im 1 (ints ((rn : Int) :: T)))] (.cons rfl (Fz.all rfl rfl (by simp) rfl (ints_cl _)) .nil) ?_
                  refine wkdc (And.intro @frz.eq_1 (And.intro @hml (And.intro @hbb (And.intro @hbm (And.intro @intss_takeT (@intss_allT)))))) _ ?_
                  refine ⟨(i + 1, P.take m ++ [(rn : Int) :: T]), ⟨by dsimp only; omega, hstep, hVk⟩, by dsimp only; omega, ?_⟩
                  rw [stepi]
                  refine Cov.trans ?_ (Cov.freeze [7] (ts := [(6, .im 1 (intss (P.take m ++ [(rn : Int) :: T])))]) (.cons rfl (Fz.all rfl rfl (by simp; omega) (by simp [intss, intsC]) (intss_clT _)) .nil))
                  exact Cov.ofn (id) rfl (by simp [go_sem, List.take_of_length_le, ren, ren1, ren2, okr, okr1, okr2, ChkT, ChkN, BlkN, nf, frz, grammarC]) (by simp [go_sem, List.take_of_length_le, ren, ren1, ren2, okr, okr1, okr2, ChkT, ChkN, BlkN, nf, frz, grammarC])
      · have hie : i = rules.length := by simp at h; omega
        subst hie
        rw [List.drop_length] at hV
        unfold runTR at hV
        match P, hP, hV with
        | [], hP, hV =>
          simp only [resT] at hV
          subst hV
          refine wkdsc0 _ ?_
          (refine Holds.any mixed ?_ ?_; (· kernel_rfl))
          refine wkdc (show intss [] = [] from rfl) _ ?_
          refine Out.mk (xs := ?_) ?_ ?_ (by first | exact .inr rfl | exact .inl rfl)
          rotate_left
          · simp [go_sem, List.take_of_length_le] <;> with_reducible rfl
          exact Fz.tuL (.cons (Fz.nl _) (.cons (.v _) .nil))
        | [t], hP, hV =>
          obtain ⟨q, s, hts, hql⟩ := hP.hd t (.head _)
          have hqq := ruleR_at hql
          subst hts
          have hlt2 : leftT g ((q : Int) :: s) = (ruleR g q).1 := rfl
          simp only [resT] at hV
          rw [hlt2] at hV
          generalize ruleR g q = Q at hqq hV
          obtain ⟨lq, Q⟩ := Q
          dsimp only at hV
          have hit : intss [(q : Int) :: s] = [[.im 1 ([.v (.int .i64 q)] :: ints s)]] := rfl
          by_cases hl0 : lq = 0
          · rw [if_pos hl0] at hV
            subst hV
            have hne : (lq != 0) = false := by simp [hl0]
            refine wkdsc0 _ ?_
            (refine Holds.any mixed ?_ ?_; (· kernel_rfl))
            refine wkdc (And.intro @hit (And.intro @hql (And.intro @hqq (And.intro (@get_E _ _ _ _ hqq) (And.intro @ruleC.eq_1 (And.intro @grammarC.eq_1 (And.intro @hne (@hl0)))))))) _ ?_
            refine Out.mk (xs := ?_) ?_ ?_ (by first | exact .inr rfl | exact .inl rfl)
            rotate_left
            · simp [go_sem, List.take_of_length_le] <;> with_reducible rfl
            exact Fz.tuL (.cons (.im _ _) (.cons (.v _) .nil))
          · rw [if_neg hl0] at hV
            subst hV
            have hne : (lq != 0) = true := by simp [hl0]
            refine wkdsc0 _ ?_
            (refine Holds.any mixed ?_ ?_; (· kernel_rfl))
            refine wkdc (And.intro @hit (And.intro @hql (And.intro @hqq (And.intro (@get_E _ _ _ _ hqq) (And.intro @ruleC.eq_1 (And.intro @grammarC.eq_1 (And.intro @hne (@hl0)))))))) _ ?_
            refine Out.mk (xs := ?_) ?_ ?_ (by first | exact .inr rfl | exact .inl rfl)
            rotate_left
            · simp [go_sem, List.take_of_length_le] <;> with_reducible rfl
            exact Fz.tuL (.cons (Fz.nl _) (.cons (.v _) .nil))
        | t :: t2 :: P2, hP, hV =>
          simp only [resT] at hV
          subst hV
          have h1 : ((P2.length : Int) + 1 + 1 != 1) = true := by simp [bne]; omega
          have h2 : ¬ (P2.length : Int) + 1 + 1 = 1 := by omega
          have h3 : ((P2.length : Int) + 1 + 1 == 1) = false := by rw [beq_eq_false_iff_ne]; omega
          refine wkdsc0 _ ?_
          (refine Holds.any mixed ?_ ?_; (· kernel_rfl))
          refine wkdc (And.intro @h1 (And.intro @h2 (@h3))) _ ?_
          refine Out.mk (xs := ?_) ?_ ?_ (by first | exact .inr rfl | exact .inl rfl)
          rotate_left
          · simp [go_sem, List.take_of_length_le] <;> with_reducible rfl
          exact Fz.tuL (.cons (Fz.nl _) (.cons (.v _) .nil))
end Go.Proofs.Ytkolhcoeifghpaa.En
end
section
namespace Go.Proofs.Ytkolhcoeifghpaa.En
open Go.RowKit
set_option linter.unusedSimpArgs false
set_option linter.unusedVariables false
set_option linter.unusedSectionVars false
section
variable {ε : Type} [DecidableEq ε]
abbrev Imp (ε : Type) := ((ε → Bool) → Bool) × ε
def CloL (L : List (Imp ε)) (T : ε → Bool) : Prop := ∀ p ∈ L, p.1 T = true → T p.2 = true
def MonI (p : Imp ε) : Prop := ∀ S T : ε → Bool, (∀ x, S x = true → T x = true) → p.1 S = true → p.1 T = true
def LowI (L : List (Imp ε)) (S : ε → Bool) : Prop := ∀ T, CloL L T → ∀ x, S x = true → T x = true
noncomputable def lfpI (L : List (Imp ε)) : ε → Bool := fun x => @decide (∀ T, CloL L T → T x = true) (Classical.propDecidable _)
theorem lfpI_iff {L : List (Imp ε)} {x : ε} : lfpI L x = true ↔ ∀ T, CloL L T → T x = true := by
  unfold lfpI
  exact ⟨fun h => @of_decide_eq_true _ (Classical.propDecidable _) h, fun h => @decide_eq_true _ (Classical.propDecidable _) h⟩
theorem lfpI_eq {L : List (Imp ε)} {S : ε → Bool} (h1 : LowI L S) (h2 : CloL L S) : S = lfpI L := by
  funext x
  rw [Bool.eq_iff_iff, lfpI_iff]
  exact ⟨fun h T hT => h1 T hT x h, fun h => h S h2⟩
def insI (S : ε → Bool) (a : ε) : ε → Bool := fun x => S x || decide (x = a)
theorem insI_self (S : ε → Bool) (a : ε) : insI S a a = true := by simp [insI]
theorem insI_le (S : ε → Bool) (a x : ε) (h : S x = true) : insI S a x = true := by simp [insI, h]
omit [DecidableEq ε] in
theorem filt_le {S T : ε → Bool} (h : ∀ x, S x = true → T x = true) : ∀ U : List ε, (U.filter S).length ≤ (U.filter T).length
  | [] => Nat.le_refl _
  | u :: U => by
    have ih := filt_le h U
    by_cases hu : S u = true
    · rw [List.filter_cons_of_pos hu, List.filter_cons_of_pos (h u hu)]; simpa using ih
    · rw [List.filter_cons_of_neg hu]
      by_cases ht : T u = true
      · rw [List.filter_cons_of_pos ht]; simp only [List.length_cons]; omega
      · rw [List.filter_cons_of_neg ht]; exact ih
omit [DecidableEq ε] in
theorem filt_lt {S T : ε → Bool} (h : ∀ x, S x = true → T x = true) {a : ε} (h1 : S a = false) (h2 : T a = true) : ∀ U : List ε, a ∈ U → (U.filter S).length < (U.filter T).length
  | [], ha => by cases ha
  | u :: U, ha => by
    have hle := filt_le h U
    rcases List.mem_cons.1 ha with e | e
    · subst e
      rw [List.filter_cons_of_neg (by simp [h1]), List.filter_cons_of_pos h2]; simp only [List.length_cons]; omega
    · have ih := filt_lt h h1 h2 U e
      by_cases hu : S u = true
      · rw [List.filter_cons_of_pos hu, List.filter_cons_of_pos (h u hu)]; simp only [List.length_cons]; omega
      · rw [List.filter_cons_of_neg hu]
        by_cases ht : T u = true
        · rw [List.filter_cons_of_pos ht]; simp only [List.length_cons]; omega
        · rw [List.filter_cons_of_neg ht]; exact ih
structure ClI (L : List (Imp ε)) (U : List ε) (S0 S : ε → Bool) (more : Bool) (M : List (Imp ε)) : Prop where
  low : LowI L S
  le : ∀ x, S0 x = true → S x = true
  yes : more = true → (U.filter S0).length < (U.filter S).length
  no : more = false → S = S0 ∧ CloL M S0
theorem ClI.add {L M : List (Imp ε)} {U : List ε} {S0 S : ε → Bool} {more : Bool} (h : ClI L U S0 S more M) {p : Imp ε} (hp : p ∈ L) (hm : MonI p) (h1 : p.1 S = true) (h2 : S p.2 = false) (hU : p.2 ∈ U) (M' : List (Imp ε)) : ClI L U S0 (insI S p.2) true M' := by
  refine ⟨fun T hT x hx => ?_, fun x hx => insI_le _ _ _ (h.le x hx), fun _ => ?_, fun e => (by cases e)⟩
  · simp only [insI, Bool.or_eq_true, decide_eq_true_eq] at hx
    rcases hx with hx | hx
    · exact h.low T hT x hx
    · subst hx; exact hT p hp (hm _ _ (h.low T hT) h1)
  · exact Nat.lt_of_le_of_lt (filt_le h.le U) (filt_lt (insI_le S p.2) h2 (insI_self S p.2) U hU)
theorem ClI.skip {L M : List (Imp ε)} {U : List ε} {S0 S : ε → Bool} {more : Bool} (h : ClI L U S0 S more M) {p : Imp ε} (h1 : p.1 S = true → S p.2 = true) : ClI L U S0 S more (M ++ [p]) := by
  refine ⟨h.low, h.le, h.yes, fun e => ⟨(h.no e).1, fun q hq hq1 => ?_⟩⟩
  obtain ⟨e1, e2⟩ := h.no e
  rcases List.mem_append.1 hq with g | g
  · exact e2 q g hq1
  · rw [List.mem_singleton] at g
    subst g
    rw [← e1] at hq1 ⊢
    exact h1 hq1
theorem ClI.done {L : List (Imp ε)} {U : List ε} {S0 S : ε → Bool} (h : ClI L U S0 S false L) : S = lfpI L := lfpI_eq h.low (by rw [(h.no rfl).1]; exact (h.no rfl).2)
end
/-! ### nonterminals -/
def univN : List Int := (List.range 6).map fun k : Nat => (k : Int)
theorem mem_univN {x : Int} : x ∈ univN ↔ 0 ≤ x ∧ x ≤ 5 := by
  simp only [univN, List.mem_map, List.mem_range]
  constructor
  · rintro ⟨k, h, rfl⟩; omega
  · rintro ⟨h1, h2⟩; exact ⟨x.toNat, by omega, by omega⟩
theorem univN_incr : univN.Pairwise (· < ·) := by decide
def lstN (S : Int → Bool) : List Int := univN.filter S
theorem lstN_mem {S : Int → Bool} (h : ∀ x, S x = true → 0 ≤ x ∧ x ≤ 5) (x : Int) : x ∈ lstN S ↔ S x = true := by
  rw [lstN, List.mem_filter, mem_univN]
  exact ⟨fun h => h.2, fun g => ⟨h x g, g⟩⟩
def arrN (S : Int → Bool) : List Bool := univN.map S
@[simp] theorem arrN_len (S : Int → Bool) : (arrN S).length = 6 := rfl
end Go.Proofs.Ytkolhcoeifghpaa.En
end
section
namespace Go.Proofs.Ytkolhcoeifghpaa.En
open Go.RowKit
set_option linter.unusedSimpArgs false
set_option linter.unusedVariables false
set_option maxHeartbeats 4000000
end Go.Proofs.Ytkolhcoeifghpaa.En
end
section
namespace Go.Proofs.Ytkolhcoeifghpaa.En
open Go.RowKit
set_option linter.unusedSimpArgs false
set_option linter.unusedVariables false
set_option maxHeartbeats 8000000
end Go.Proofs.Ytkolhcoeifghpaa.En
end
section
namespace Go.Proofs.Ytkolhcoeifghpaa.En
open Go.RowKit
set_option linter.unusedSimpArgs false
set_option linter.unusedVariables false
set_option maxHeartbeats 8000000
end Go.Proofs.Ytkolhcoeifghpaa.En
end
section
namespace Go.Proofs.Ytkolhcoeifghpaa.En
open Go.RowKit
set_option linter.unusedSimpArgs false
set_option linter.unusedVariables false
set_option maxHeartbeats 4000000
def wRule (x : RuleT) : Nat := 1 + wtL w1 x.2
def mRule (k : Int) (x : RuleT) : RuleT := ((k), cnt (k + 1) x.2)
def ruleO (x : RuleT) : List AV := [.v (.int .i64 x.1), .ow 3 1 (ints x.2)]
def rulesO (l : List RuleT) : List (List AV) := l.map ruleO
@[simp] theorem rulesO_len (l : List (RuleT)) : (rulesO l).length = l.length := by simp [rulesO]
@[simp] theorem rulesO_get (l : List (RuleT)) (i : Nat) : (rulesO l)[i]? = (l[i]?).map ruleO := by simp [rulesO]
@[simp] theorem rulesO_gE (l : List (RuleT)) (i : Nat) (h : i < (rulesO l).length) : (rulesO l)[i] = ruleO (l[i]'(by simpa using h)) := by simp [rulesO]
theorem rulesO_all (p : AV → Prop) (l : List (RuleT)) (h : ∀ x ∈ l, ∀ y ∈ ruleO x, p y) : ∀ row ∈ rulesO l, ∀ y ∈ row, p y := by
  intro row hr y hy
  simp only [rulesO, List.mem_map] at hr
  obtain ⟨n, hn, rfl⟩ := hr
  exact h n hn y hy
@[simp] theorem nfr_rulesO (l : List (RuleT)) : nfr (rulesO l) := rulesO_all _ l fun x _ y hy => by simp only [ruleO, List.mem_cons, List.not_mem_nil, or_false] at hy; rcases hy with rfl | rfl <;> rfl
@[simp] theorem onyR_rulesO (l : List (RuleT)) : onyR (rulesO l) := rulesO_all _ l fun x _ y hy => by simp only [ruleO, List.mem_cons, List.not_mem_nil, or_false] at hy; rcases hy with rfl | rfl <;> simp
theorem fz_rulesO {bl : List (Nat × Blk)} {n len : Nat} {e : TypeId} (l : List (RuleT)) (hk : lb bl n = some ⟨e, 2, rulesO l⟩) (hl : len = l.length) : Fz bl (.own n 2 0 len) (.im 2 (rules l)) := Fz.rowsO l ruleO ruleC hk rfl rfl (fun x _ => show FzL bl (ruleO x) (ruleC x) from by simp only [ruleO, ruleC]; exact .cons (.v _) (.cons (Fz.owI (ints_cl _)) (.nil))) hl
theorem toRuleO (x : RuleT) (h0 : (x.2).length < 35184372088832) : Fn Try.prog 61 0 [.ag (ruleC x)] [] (.ag [.v (.int .i64 x.1), .own 0 1 0 (x.2).length]) 1 [(0, ⟨3, 1, ints x.2⟩)] := by
  refine Fn.mk (rs := [.cell 2 60]) (nt := 12) Try.func61 (by kernel_rfl) rfl rfl rfl (by simp) ?_
  simp only [sl, ruleC]
  refine wk0 _ ?_
  refine GS.fnn [] (toIntSO x.2 h0) rfl rfl rfl rfl (by simp [go_sem, List.take_of_length_le, ren, ren1, ren2, okr, okr1, okr2, ChkN, BlkN, List.range_succ, nf, ruleC] <;> with_reducible rfl) (by simp [go_sem, List.take_of_length_le, ren, ren1, ren2, okr, okr1, okr2, ChkN, BlkN, List.range_succ, nf, ruleC]) (by simp [go_sem, List.take_of_length_le, ren, ren1, ren2, okr, okr1, okr2, ChkN, BlkN, List.range_succ, nf, ruleC]) (by simp [List.range_succ, lb]) (ChkN.toB (by simp [go_sem, List.take_of_length_le, ren, ren1, ren2, okr, okr1, okr2, ChkN, BlkN, List.range_succ, nf, ruleC])) (by decide) (by simp) rfl (.nfr (by simp) .nil) (by simp [go_sem, List.take_of_length_le, ren, ren1, ren2, okr, okr1, okr2, ChkN, BlkN, List.range_succ, nf, ruleC] <;> with_reducible rfl) ?_
  refine wk0 _ ?_
  refine OutF.mkn (xs := ?_) (nm [3]) ?_ ?_ ?_ ?_ ?_ (by first | exact .inr rfl | exact .inl rfl)
  rotate_left
  · simp [go_sem, List.take_of_length_le, ruleC] <;> with_reducible rfl
  · simp [go_sem, List.take_of_length_le, ren, ren1, ren2, okr, okr1, okr2, ChkN, BlkN, List.range_succ, nf, ruleC]
  · simp [go_sem, List.take_of_length_le, ren, ren1, ren2, okr, okr1, okr2, ChkN, BlkN, List.range_succ, nf, ruleC]
  · simp [go_sem, List.take_of_length_le, ren, ren1, ren2, okr, okr1, okr2, ChkN, BlkN, List.range_succ, nf, ruleC]
  · rfl
theorem toRuleSO (l : List (RuleT)) (h0 : l.length < 8796093022208) (h1 : ∀ q ∈ l, (q.2).length < 35184372088832) : Fn Try.prog 32 0 [.im 2 (rules l)] [] (.own 0 2 0 l.length) 1 [(0, ⟨60, 2, rulesO l⟩)] := by
  refine Fn.mk (rs := [.tmp 2]) (nt := 23) Try.func32 (by kernel_rfl) rfl rfl rfl (by simp) ?_
  simp only [sl]
  refine wk (And.intro ((show (0:Int) ≤ (l.length : Int) by omega)) (And.intro ((show (32:Int) * l.length ≤ 281474976710656 by omega)) ((show (l.length : Int) ≤ 281474976710656 by omega)))) _ ?_
  refine Holds.loop (ι := Nat) (fun i => ⟨[(0, .im 2 (rules l)), (3, .own 0 2 0 l.length), (4, .v (.int .i64 i))], [(0, ⟨60, 2, half (rulesO l) [.v (.int .i64 0), .v (.slice none 0 0)] i⟩)], 1⟩) (fun i => i ≤ l.length) (fun i => l.length - i) 0 (Nat.zero_le _) ?_ ?_
  · have hnf0 : nfr (List.replicate l.length ([.v (.int .i64 0), .v (.slice none 0 0)] : List AV)) := .rep (by simp [nf])
    exact Cov.ofn (id) rfl (by simp [go_sem, List.take_of_length_le, ren, ren1, ren2, okr, okr1, okr2, ChkT, ChkN, BlkN, nf, half, hnf0]) (by simp [go_sem, List.take_of_length_le, ren, ren1, ren2, okr, okr1, okr2, ChkT, ChkN, BlkN, nf, half, hnf0])
  intro i hi
  refine wk0 _ ?_
  refine Holds.cond rfl (fun hl => ?_) (fun hl => ?_)
  · have hlt : i < l.length := by simpa using hl
    have hxi : l[i]? = some l[i] := List.getElem?_eq_getElem hlt
    have hhi := half_get (rulesO l) [.v (.int .i64 0), .v (.slice none 0 0)] i (by simpa using hlt)
    have hhs := half_set (rulesO l) [.v (.int .i64 0), .v (.slice none 0 0)] i (by simpa using hlt) (ruleO l[i]) (by simp [hxi])
    have hnf : nfr (half (rulesO l) [.v (.int .i64 0), .v (.slice none 0 0)] i) := nfr_half (by simp) (by simp [nf])
    have hnf1 : nfr (half (rulesO l) [.v (.int .i64 0), .v (.slice none 0 0)] (i + 1)) := nfr_half (by simp) (by simp [nf])
    simp only [ruleO] at hhs
    refine wk (And.intro @hxi (And.intro @hlt (@ruleC.eq_1))) _ ?_
    refine GS.fnn [] (toRuleO l[i] (h1 _ (List.getElem_mem hlt))) rfl rfl rfl rfl (by simp [go_sem, List.take_of_length_le, ren, ren1, ren2, okr, okr1, okr2, ChkN, BlkN, List.range_succ, nf, ruleC] <;> with_reducible rfl) (by simp [go_sem, List.take_of_length_le, ren, ren1, ren2, okr, okr1, okr2, ChkN, BlkN, List.range_succ, nf, ruleC]) (by simp [go_sem, List.take_of_length_le, ren, ren1, ren2, okr, okr1, okr2, ChkN, BlkN, List.range_succ, nf, ruleC]) (by simp [List.range_succ, lb]) (ChkN.toB (by simp [go_sem, List.take_of_length_le, ren, ren1, ren2, okr, okr1, okr2, ChkN, BlkN, List.range_succ, nf, ruleC])) (by decide) (by simp) rfl (.nfr (by simp) .nil) (by simp [go_sem, List.take_of_length_le, ren, ren1, ren2, okr, okr1, okr2, ChkN, BlkN, List.range_succ, nf, ruleC] <;> with_reducible rfl) ?_
    refine wk (And.intro @hxi (And.intro @hlt (And.intro @hhi (And.intro @hhs (@ruleC.eq_1))))) _ ?_
    refine ⟨i + 1, by omega, by omega, ?_⟩
    rw [wr64_id (by omega) (by omega)]
    refine Cov.trans ?_ (Cov.close 0 i 1 rfl (set_get hhi) rfl rfl rfl rfl (by first | rfl | simp) (by simp))
    simp only [rm, st, List.set_set, List.set_cons_zero, List.set_cons_succ, hhs]
    exact Cov.ofn (id) rfl (by simp [go_sem, List.take_of_length_le, ren, ren1, ren2, okr, okr1, okr2, ChkT, ChkN, BlkN, nf, hnf, hnf1]) (by simp [go_sem, List.take_of_length_le, ren, ren1, ren2, okr, okr1, okr2, ChkT, ChkN, BlkN, nf, hnf, hnf1])
  · have hle : i = l.length := by
      have : ¬ i < l.length := by simpa using hl
      omega
    subst hle
    rw [show half (rulesO l) [.v (.int .i64 0), .v (.slice none 0 0)] l.length = rulesO l by have := half_all (rulesO l) ([.v (.int .i64 0), .v (.slice none 0 0)] : List AV); rwa [show (rulesO l).length = l.length by simp] at this]
    refine wk0 _ ?_
    refine OutF.mkn (xs := ?_) (nm [0]) ?_ ?_ ?_ ?_ ?_ (by first | exact .inr rfl | exact .inl rfl)
    rotate_left
    · simp [go_sem, List.take_of_length_le] <;> with_reducible rfl
    · simp [go_sem, List.take_of_length_le, ren, ren1, ren2, okr, okr1, okr2, ChkN, BlkN, List.range_succ, nf]
    · simp [go_sem, List.take_of_length_le, ren, ren1, ren2, okr, okr1, okr2, ChkN, BlkN, List.range_succ, nf]
    · simp [go_sem, List.take_of_length_le, ren, ren1, ren2, okr, okr1, okr2, ChkN, BlkN, List.range_succ, nf]
    · rfl
theorem markRuleS (l : List (RuleT)) (k : Int) (h0 : 0 ≤ k) (h1 : k + wtL wRule l ≤ 4611686018427387904) (h2 : l.length ≤ 4611686018427387904) : Fn Try.prog 38 1 [.own 0 2 0 l.length, .v (.int .i64 k)] [(0, ⟨60, 2, rulesO l⟩)] (.v (.int .i64 (k + wtL wRule l))) 1 [(0, ⟨60, 2, rulesO (mkL wRule mRule k l)⟩)] := by
  have hl0 : (rulesO (mkL wRule mRule k l)).length = (rulesO l).length := by simp
  have hl1 : (rulesO l).length = l.length := by simp
  refine Fn.mk (rs := [.tmp 4]) (nt := 27) Try.func38 (by kernel_rfl) rfl rfl rfl (by simp) ?_
  simp only [sl]
  refine wk0 _ ?_
  refine Holds.loop (ι := Nat) (fun i => ⟨[(0, .own 0 2 0 l.length), (1, .v (.int .i64 (k + wtL wRule (l.take i)))), (5, .v (.int .i64 i))], [(0, ⟨60, 2, mid (rulesO (mkL wRule mRule k l)) (rulesO l) i⟩)], 1⟩) (fun i => i ≤ l.length) (fun i => l.length - i) 0 (Nat.zero_le _) ?_ ?_
  · exact Cov.ofn (id) rfl (by simp [go_sem, List.take_of_length_le, ren, ren1, ren2, okr, okr1, okr2, ChkT, ChkN, BlkN, nf, wtL]) (by simp [go_sem, List.take_of_length_le, ren, ren1, ren2, okr, okr1, okr2, ChkT, ChkN, BlkN, nf, wtL])
  intro i hi
  have hml := (mid_len (i := i) hl0).trans hl1
  refine wk (@hml) _ ?_
  refine Holds.cond rfl (fun hl => ?_) (fun hl => ?_)
  · have hlt : i < l.length := by simpa using hl
    have hxi : l[i]? = some l[i] := List.getElem?_eq_getElem hlt
    have hwn := wtL_next wRule hxi
    have hwl := wtL_le wRule l (i + 1)
    have hmk : (mkL wRule mRule k l)[i]? = some (mRule (k + wtL wRule (l.take i)) l[i]) := by rw [mkL_get, hxi]; rfl
    have hhi := (mid_get hl0 (i := i) (by simpa using hlt)).trans (show (rulesO l)[i]? = some (ruleO l[i]) by simp [hxi])
    have hhs := mid_set hl0 (i := i) (by simpa using hlt) (show (rulesO (mkL wRule mRule k l))[i]? = some (ruleO (mRule (k + wtL wRule (l.take i)) l[i])) by simp [hmk])
    have hnf : nfr (mid (rulesO (mkL wRule mRule k l)) (rulesO l) i) := nfr_mid (by simp) (by simp)
    have hnf1 : nfr (mid (rulesO (mkL wRule mRule k l)) (rulesO l) (i + 1)) := nfr_mid (by simp) (by simp)
    have hW0 : (0 : Int) ≤ (wtL wRule (l.take i) : Int) := Int.natCast_nonneg _
    generalize wtL wRule (l.take i) = W at hwn hmk hhs hW0 ⊢
    generalize hX : l[i] = x at hxi hwn hmk hhi hhs
    simp only [wRule] at hwn
    simp only [ruleO, mRule] at hhs
    simp only [ruleO] at hhi
    have hhe := get_E hhi
    have hw0 : wr64 ((k + W : Int) + 1) = (k + W : Int) + 1 := wr64_id (by omega) (by omega)
    refine wk (And.intro @hml (And.intro @hhi (And.intro @hhe (And.intro @hlt (And.intro @hl0 (@hw0)))))) _ ?_
    refine GS.fnn [1] (markIntS x.2 ((k + W : Int) + 1) (by omega) (by omega)) rfl rfl rfl rfl (by simp [go_sem, List.take_of_length_le, ren, ren1, ren2, okr, okr1, okr2, ChkN, BlkN, List.range_succ, nf, hml, hhi, hhe, hlt, hl0, hw0] <;> with_reducible rfl) (by simp [go_sem, List.take_of_length_le, ren, ren1, ren2, okr, okr1, okr2, ChkN, BlkN, List.range_succ, nf, hml, hhi, hhe, hlt, hl0, hw0]) (by simp [go_sem, List.take_of_length_le, ren, ren1, ren2, okr, okr1, okr2, ChkN, BlkN, List.range_succ, nf, hml, hhi, hhe, hlt, hl0, hw0]) (by simp [List.range_succ, lb]) (ChkN.toB (by simp [go_sem, List.take_of_length_le, ren, ren1, ren2, okr, okr1, okr2, ChkN, BlkN, List.range_succ, nf, hml, hhi, hhe, hlt, hl0, hw0])) (by decide) (by simp) rfl (.nfr (by simp) .nil) (by simp [go_sem, List.take_of_length_le, ren, ren1, ren2, okr, okr1, okr2, ChkN, BlkN, List.range_succ, nf, hml, hhi, hhe, hlt, hl0, hw0] <;> with_reducible rfl) ?_
    refine wk (And.intro @hml (And.intro @hhi (And.intro @hhe (And.intro @hlt (And.intro @hl0 (@hw0)))))) _ ?_
    refine ⟨i + 1, by omega, by omega, ?_⟩
    rw [show wr64 ((i : Int) + 1) = ((i + 1 : Nat) : Int) from wr64_id (by omega) (by omega), hwn]
    refine Cov.trans ?_ (Cov.close 0 i 1 rfl (set_get hhi) rfl rfl rfl rfl (by first | rfl | simp) (by simp))
    simp only [rm, st, List.set_set, List.set_cons_zero, List.set_cons_succ]
    exact Cov.ofn (id) rfl (by simp [go_sem, List.take_of_length_le, ren, ren1, ren2, okr, okr1, okr2, ChkT, ChkN, BlkN, nf, hhs, hnf, hnf1, Int.add_assoc]) (by simp [go_sem, List.take_of_length_le, ren, ren1, ren2, okr, okr1, okr2, ChkT, ChkN, BlkN, nf, hhs, hnf, hnf1])
  · have hle : i = l.length := by
      have : ¬ i < l.length := by simpa using hl
      omega
    subst hle
    rw [mid_all (by simp) (by simp), List.take_length]
    refine wk0 _ ?_
    refine OutF.mkn (xs := ?_) (nm [0]) ?_ ?_ ?_ ?_ ?_ (by first | exact .inr rfl | exact .inl rfl)
    rotate_left
    · simp [go_sem, List.take_of_length_le] <;> with_reducible rfl
    · simp [go_sem, List.take_of_length_le, ren, ren1, ren2, okr, okr1, okr2, ChkN, BlkN, List.range_succ, nf]
    · simp [go_sem, List.take_of_length_le, ren, ren1, ren2, okr, okr1, okr2, ChkN, BlkN, List.range_succ, nf]
    · simp [go_sem, List.take_of_length_le, ren, ren1, ren2, okr, okr1, okr2, ChkN, BlkN, List.range_succ, nf]
    · rfl
theorem toGrammarO (x : GrammarT) (h0 : (x.2.2).length < 8796093022208) (h1 : ∀ q ∈ (x.2.2), (q.2).length < 35184372088832) : Fn Try.prog 9 0 [.ag (grammarC x)] [] (.ag [.v (.int .i64 x.1), .v (.int .i64 x.2.1), .own 0 2 0 (x.2.2).length]) 1 [(0, ⟨60, 2, rulesO x.2.2⟩)] := by
  refine Fn.mk (rs := [.cell 2 31]) (nt := 15) Try.func9 (by kernel_rfl) rfl rfl rfl (by simp) ?_
  simp only [sl, grammarC]
  refine wk0 _ ?_
  refine GS.fnn [] (toRuleSO x.2.2 h0 h1) rfl rfl rfl rfl (by simp [go_sem, List.take_of_length_le, ren, ren1, ren2, okr, okr1, okr2, ChkN, BlkN, List.range_succ, nf, grammarC] <;> with_reducible rfl) (by simp [go_sem, List.take_of_length_le, ren, ren1, ren2, okr, okr1, okr2, ChkN, BlkN, List.range_succ, nf, grammarC]) (by simp [go_sem, List.take_of_length_le, ren, ren1, ren2, okr, okr1, okr2, ChkN, BlkN, List.range_succ, nf, grammarC]) (by simp [List.range_succ, lb]) (ChkN.toB (by simp [go_sem, List.take_of_length_le, ren, ren1, ren2, okr, okr1, okr2, ChkN, BlkN, List.range_succ, nf, grammarC])) (by decide) (by simp) rfl (.nfr (by simp) .nil) (by simp [go_sem, List.take_of_length_le, ren, ren1, ren2, okr, okr1, okr2, ChkN, BlkN, List.range_succ, nf, grammarC] <;> with_reducible rfl) ?_
  refine wk0 _ ?_
  refine OutF.mkn (xs := ?_) (nm [3]) ?_ ?_ ?_ ?_ ?_ (by first | exact .inr rfl | exact .inl rfl)
  rotate_left
  · simp [go_sem, List.take_of_length_le, grammarC] <;> with_reducible rfl
  · simp [go_sem, List.take_of_length_le, ren, ren1, ren2, okr, okr1, okr2, ChkN, BlkN, List.range_succ, nf, grammarC]
  · simp [go_sem, List.take_of_length_le, ren, ren1, ren2, okr, okr1, okr2, ChkN, BlkN, List.range_succ, nf, grammarC]
  · simp [go_sem, List.take_of_length_le, ren, ren1, ren2, okr, okr1, okr2, ChkN, BlkN, List.range_succ, nf, grammarC]
  · rfl
def wGrammar (x : GrammarT) : Nat := wtL wRule x.2.2
def mGrammar (k : Int) (x : GrammarT) : GrammarT := (x.1, x.2.1, mkL wRule mRule (k) x.2.2)
theorem markGrammar (x : GrammarT) (k : Int) (h0 : 0 ≤ k) (h1 : k + wGrammar x ≤ 4611686018427387904) (g20 : x.2.2.length ≤ 4611686018427387904) : Fn Try.prog 14 1 [.ag [.v (.int .i64 x.1), .v (.int .i64 x.2.1), .own 0 2 0 (x.2.2).length], .v (.int .i64 k)] [(0, ⟨60, 2, rulesO x.2.2⟩)] (.v (.int .i64 (k + wGrammar x))) 1 [(0, ⟨60, 2, rulesO (mGrammar k x).2.2⟩)] := by
  simp only [wGrammar] at h1
  simp only [wGrammar, mGrammar]
  refine Fn.mk (rs := [.tmp 4]) (nt := 10) Try.func14 (by kernel_rfl) rfl rfl rfl (by simp) ?_
  simp only [sl]
  refine wk0 _ ?_
  refine GS.fnn [0] (markRuleS x.2.2 (k) (by omega) (by omega) g20) rfl rfl rfl rfl (by simp [go_sem, List.take_of_length_le, ren, ren1, ren2, okr, okr1, okr2, ChkN, BlkN, List.range_succ, nf] <;> with_reducible rfl) (by simp [go_sem, List.take_of_length_le, ren, ren1, ren2, okr, okr1, okr2, ChkN, BlkN, List.range_succ, nf]) (by simp [go_sem, List.take_of_length_le, ren, ren1, ren2, okr, okr1, okr2, ChkN, BlkN, List.range_succ, nf]) (by simp [List.range_succ, lb]) (ChkN.toB (by simp [go_sem, List.take_of_length_le, ren, ren1, ren2, okr, okr1, okr2, ChkN, BlkN, List.range_succ, nf])) (by decide) (by simp) rfl (.nfr (by simp) .nil) (by simp [go_sem, List.take_of_length_le, ren, ren1, ren2, okr, okr1, okr2, ChkN, BlkN, List.range_succ, nf] <;> with_reducible rfl) ?_
  refine wk0 _ ?_
  refine OutF.mkn (xs := ?_) (nm [0]) ?_ ?_ ?_ ?_ ?_ (by first | exact .inr rfl | exact .inl rfl)
  rotate_left
  · simp [go_sem, List.take_of_length_le, Int.add_assoc, cnt] <;> with_reducible rfl
  · simp [go_sem, List.take_of_length_le, ren, ren1, ren2, okr, okr1, okr2, ChkN, BlkN, List.range_succ, nf, Int.add_assoc, cnt]
  · simp [go_sem, List.take_of_length_le, ren, ren1, ren2, okr, okr1, okr2, ChkN, BlkN, List.range_succ, nf, Int.add_assoc, cnt]
  · simp [go_sem, List.take_of_length_le, ren, ren1, ren2, okr, okr1, okr2, ChkN, BlkN, List.range_succ, nf, Int.add_assoc, cnt]
  · rfl
end Go.Proofs.Ytkolhcoeifghpaa.En
end
section
namespace Go.Proofs.Ytkolhcoeifghpaa.En
open Go.RowKit
set_option linter.unusedSimpArgs false
set_option linter.unusedVariables false
theorem less_wt {n : Int} {k : Nat} (h : 0 ≤ less n k) : less n k + (k : Int) ≤ n := by
  unfold less at h ⊢
  split at h
  · omega
  · rename_i g; rw [if_neg g]; omega
theorem szL_wt {α : Type} {f : Int → α → Int} {w : α → Nat} (hf : ∀ n x, 0 ≤ f n x → f n x + (w x : Int) ≤ n) : ∀ (es : List α) (n : Int), 0 ≤ szL f n es → szL f n es + (wtL w es : Int) ≤ n
  | [], n, h => by simp [szL, wtL]
  | e :: es, n, h => by
    unfold szL at h ⊢
    split at h
    · omega
    · rename_i g
      rw [if_neg g]
      have h1 := hf n e (by omega)
      have h2 := szL_wt hf es _ h
      simp only [wtL]; omega
theorem szLA_wt {α : Type} {f : Int → α → Int} {w : α → Nat} (hf : ∀ n x, 0 ≤ f n x → f n x + (w x : Int) ≤ n) {es : List α} {n : Int} (h : 0 ≤ szLA f n es) : szLA f n es + (es.length : Int) + (wtL w es : Int) ≤ n := by
  unfold szLA at h ⊢
  split at h
  · omega
  · rename_i g
    rw [if_neg g]
    have := szL_wt hf es _ h
    omega
theorem wtL_add {α : Type} (u v : α → Nat) : ∀ es : List α, wtL (fun x => u x + v x) es = wtL u es + wtL v es
  | [] => rfl
  | e :: es => by simp only [wtL, wtL_add u v es]; omega
theorem wtL_const {α : Type} (c : Nat) : ∀ es : List α, wtL (fun _ => c) es = c * es.length
  | [] => rfl
  | e :: es => by simp only [wtL, wtL_const c es, List.length_cons, Nat.mul_succ]; omega
theorem szGrammar_wt {n : Int} {g : GrammarT} (h : 0 ≤ szGrammarF n g) : (wGrammar g : Int) ≤ n := by
  unfold szGrammarF at h
  have := szLA_wt (f := szRuleF) (w := fun x => x.2.length) (fun n x hx => less_wt hx) h
  have e : wGrammar g = g.2.2.length + wtL (fun x : RuleT => x.2.length) g.2.2 := by
    unfold wGrammar
    rw [show wRule = fun x : RuleT => (fun _ => 1) x + (fun y : RuleT => y.2.length) x from funext fun x => by simp [wRule], wtL_add, wtL_const]; simp
  omega
end Go.Proofs.Ytkolhcoeifghpaa.En
end
section
namespace Go.Proofs.Ytkolhcoeifghpaa.En
open Go.RowKit
set_option linter.unusedSimpArgs false
set_option linter.unusedVariables false
set_option maxHeartbeats 4000000
def intsO1 (x : List Int) : List AV := [.ow 3 1 (ints x)]
def intssO (l : List (List Int)) : List (List AV) := l.map intsO1
@[simp] theorem intssO_len (l : List (List Int)) : (intssO l).length = l.length := by simp [intssO]
@[simp] theorem intssO_get (l : List (List Int)) (i : Nat) : (intssO l)[i]? = (l[i]?).map intsO1 := by simp [intssO]
@[simp] theorem intssO_gE (l : List (List Int)) (i : Nat) (h : i < (intssO l).length) : (intssO l)[i] = intsO1 (l[i]'(by simpa using h)) := by simp [intssO]
theorem intssO_all (p : AV → Prop) (l : List (List Int)) (h : ∀ x ∈ l, ∀ y ∈ intsO1 x, p y) : ∀ row ∈ intssO l, ∀ y ∈ row, p y := by
  intro row hr y hy
  simp only [intssO, List.mem_map] at hr
  obtain ⟨n, hn, rfl⟩ := hr
  exact h n hn y hy
@[simp] theorem nfr_intssO (l : List (List Int)) : nfr (intssO l) := intssO_all _ l fun x _ y hy => by simp only [intsO1, List.mem_cons, List.not_mem_nil, or_false] at hy; rcases hy with rfl <;> rfl
@[simp] theorem onyR_intssO (l : List (List Int)) : onyR (intssO l) := intssO_all _ l fun x _ y hy => by simp only [intsO1, List.mem_cons, List.not_mem_nil, or_false] at hy; rcases hy with rfl <;> simp
end Go.Proofs.Ytkolhcoeifghpaa.En
end
section
namespace Go.Proofs.Ytkolhcoeifghpaa.En
open Go.RowKit
set_option linter.unusedSimpArgs false
set_option linter.unusedVariables false
set_option maxHeartbeats 4000000
end Go.Proofs.Ytkolhcoeifghpaa.En
end
