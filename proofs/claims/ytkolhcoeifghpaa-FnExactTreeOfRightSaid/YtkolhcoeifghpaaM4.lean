/- Own words and walks of this claim, part 4: what the program's functions compute, for all the arguments that are named; no further conditions. -/
import Derived.Shelf.Sort.Plain
import Derived.Shelf.Slices.In.SortNone
import Derived.Test.YtkolhcoeifghpaaProg
import Derived.Test.YtkolhcoeifghpaaM3
import Derived.Test.YtkolhcoeifghpaaM2
import Derived.Shelf.Slices.CompactI
section
namespace Go.Proofs.Ytkolhcoeifghpaa.En
open Go.RowKit Go.Shelf
set_option linter.unusedVariables false
end Go.Proofs.Ytkolhcoeifghpaa.En
end
section
namespace Go.Proofs.Ytkolhcoeifghpaa.En
open Go.RowKit Go.Shelf Go.Sort
set_option linter.unusedSimpArgs false
set_option linter.unusedVariables false
def sorted (xs : List Int) : List Int := xs.mergeSort fun x y => decide (x ≤ y)
@[simp] theorem sorted_len (xs : List Int) : (sorted xs).length = xs.length := by simp [sorted]
end Go.Proofs.Ytkolhcoeifghpaa.En
end
section
namespace Go.Proofs.Ytkolhcoeifghpaa.En
open Go.RowKit Go.Shelf
set_option linter.unusedVariables false
end Go.Proofs.Ytkolhcoeifghpaa.En
end
section
namespace Go.Proofs.Ytkolhcoeifghpaa.En
open Go.RowKit Go.Shelf Go.Sort
set_option linter.unusedSimpArgs false
set_option linter.unusedVariables false
def compacted (xs : List Int) : List Int := Go.Lib.compact xs
set_option maxHeartbeats 1000000
end Go.Proofs.Ytkolhcoeifghpaa.En
end
section
namespace Go.Proofs.Ytkolhcoeifghpaa.En
open Go.RowKit
set_option linter.unusedSimpArgs false
set_option linter.unusedVariables false
def putL : List Int → Int → List Int
  | [], n => [n]
  | x :: xs, n => if x < n then x :: putL xs n else if x = n then x :: xs else n :: x :: xs
theorem putL_mem (n z : Int) : ∀ l : List Int, z ∈ putL l n ↔ z = n ∨ z ∈ l
  | [] => by simp [putL]
  | x :: xs => by
    have ih := putL_mem n z xs
    unfold putL
    split
    · simp only [List.mem_cons, ih]
      constructor
      · rintro (h | h | h) <;> simp [h]
      · rintro (h | h | h) <;> simp [h]
    · split
      · rename_i h; subst h
        simp only [List.mem_cons]
        constructor
        · intro h; exact .inr h
        · rintro (h | h)
          · exact .inl h
          · exact h
      · simp only [List.mem_cons]
theorem putL_incr (n : Int) : ∀ l : List Int, l.Pairwise (· < ·) → (putL l n).Pairwise (· < ·)
  | [], _ => by simp [putL]
  | x :: xs, h => by
    have ih := putL_incr n xs (List.pairwise_cons.1 h).2
    have hx := (List.pairwise_cons.1 h).1
    unfold putL
    split
    · rename_i hl
      refine List.pairwise_cons.2 ⟨fun z hz => ?_, ih⟩
      rcases (putL_mem n z xs).1 hz with e | e
      · omega
      · exact hx z e
    · split
      · exact h
      · rename_i h1 h2
        refine List.pairwise_cons.2 ⟨fun z hz => ?_, h⟩
        rcases List.mem_cons.1 hz with e | e
        · omega
        · have := hx z e; omega
theorem incr_ext : ∀ {a b : List Int}, a.Pairwise (· < ·) → b.Pairwise (· < ·) → (∀ z, z ∈ a ↔ z ∈ b) → a = b
  | [], [], _, _, _ => rfl
  | [], y :: b, _, _, h => by have := (h y).2 (by simp); cases this
  | x :: a, [], _, _, h => by have := (h x).1 (by simp); cases this
  | x :: a, y :: b, ha, hb, h => by
    have ha1 := (List.pairwise_cons.1 ha).1
    have hb1 := (List.pairwise_cons.1 hb).1
    have hxy : x = y := by
      rcases List.mem_cons.1 ((h x).1 (by simp)) with e | e
      · exact e
      · have h1 := hb1 x e
        rcases List.mem_cons.1 ((h y).2 (by simp)) with e2 | e2
        · exact e2.symm
        · have h2 := ha1 y e2; omega
    subst hxy
    rw [incr_ext (List.pairwise_cons.1 ha).2 (List.pairwise_cons.1 hb).2 fun z => ?_]
    constructor
    · intro hz
      rcases List.mem_cons.1 ((h z).1 (List.mem_cons_of_mem _ hz)) with e | e
      · have := ha1 z hz; omega
      · exact e
    · intro hz
      rcases List.mem_cons.1 ((h z).2 (List.mem_cons_of_mem _ hz)) with e | e
      · have := hb1 z hz; omega
      · exact e
end Go.Proofs.Ytkolhcoeifghpaa.En
end
section
namespace Go.Proofs.Ytkolhcoeifghpaa.En
open Go.RowKit
set_option linter.unusedSimpArgs false
set_option linter.unusedVariables false
set_option maxHeartbeats 8000000
end Go.Proofs.Ytkolhcoeifghpaa.En
end
section
namespace Go.Proofs.Ytkolhcoeifghpaa.En
open Go.RowKit
set_option linter.unusedSimpArgs false
set_option linter.unusedVariables false
set_option maxHeartbeats 4000000
structure LstN (L : List Int) : Prop where
  inc : L.Pairwise (· < ·)
  rng : ∀ x ∈ L, 0 ≤ x ∧ x ≤ 5
theorem LstN.eq {L : List Int} (h : LstN L) : L = lstN fun x => hasN L x := by
  refine incr_ext h.inc (List.Pairwise.filter _ univN_incr) fun z => ?_
  rw [lstN_mem fun x hx => h.rng x (by rw [hasN_dec] at hx; exact of_decide_eq_true hx), hasN_dec, decide_eq_true_eq]
theorem LstN.len {L : List Int} (h : LstN L) : L.length ≤ 6 := by
  rw [h.eq, lstN]
  exact Nat.le_trans (List.length_filter_le _ _) (by decide)
theorem LstN.put {L : List Int} (h : LstN L) {a : Int} (ha : 0 ≤ a ∧ a ≤ 5) : LstN (putL L a) := ⟨putL_incr a L h.inc, fun x hx => by
  rcases (putL_mem a x L).1 hx with e | e
  · subst e; exact ha
  · exact h.rng x e⟩
end Go.Proofs.Ytkolhcoeifghpaa.En
end
section
namespace Go.Proofs.Ytkolhcoeifghpaa.En
open Go.RowKit
set_option linter.unusedSimpArgs false
set_option linter.unusedVariables false
set_option maxHeartbeats 4000000
def cellsN (S : Int → Bool) : List AV := [.v (.bool (S 0)), .v (.bool (S 1)), .v (.bool (S 2)), .v (.bool (S 3)), .v (.bool (S 4)), .v (.bool (S 5))]
theorem cellsN_map (S : Int → Bool) : cellsN S = (arrN S).map fun b => .v (.bool b) := rfl
@[simp] theorem cellsN_len (S : Int → Bool) : (cellsN S).length = 6 := rfl
@[simp] theorem nfc_cellsN (S : Int → Bool) : nfc (cellsN S) := fun x hx => by
  simp only [cellsN_map, List.mem_map] at hx
  obtain ⟨b, _, rfl⟩ := hx
  rfl
@[simp] theorem cellsN_flat (S : Int → Bool) : ∀ x ∈ cellsN S, flat x = true := fun x hx => by
  simp only [cellsN_map, List.mem_map] at hx
  obtain ⟨b, _, rfl⟩ := hx
  rfl
@[simp] theorem cellsN_all (S : Int → Bool) : (cellsN S).all flat = true := List.all_eq_true.2 (cellsN_flat S)
@[simp] theorem cellsN_take (S : Int → Bool) : (cellsN S).take 6 = cellsN S := rfl
@[simp] theorem cellsN_drop (S : Int → Bool) : (cellsN S).drop 6 = [] := rfl
/-! the two closures -/
end Go.Proofs.Ytkolhcoeifghpaa.En
end
section
namespace Go.Proofs.Ytkolhcoeifghpaa.En
open Go.RowKit
set_option linter.unusedSimpArgs false
set_option linter.unusedVariables false
set_option maxHeartbeats 4000000
end Go.Proofs.Ytkolhcoeifghpaa.En
end
section
namespace Go.Proofs.Ytkolhcoeifghpaa.En
open Go.RowKit
set_option linter.unusedSimpArgs false
set_option linter.unusedVariables false
set_option maxHeartbeats 4000000
structure DelI {α : Type} (p : α → Bool) (xs L : List α) (i j : Nat) : Prop where
  ln : L.length = xs.length
  ij : i < j
  jl : j ≤ xs.length
  tk : L.take i = (xs.take j).filter fun x => !p x
  dr : L.drop j = xs.drop j
theorem take_all {α : Type} {p : α → Bool} {xs : List α} (h : ∀ (j : Nat) (x : α), xs[j]? = some x → p x = false) : (xs.filter fun x => !p x) = xs := by
  rw [List.filter_eq_self]
  intro x hx
  obtain ⟨j, hj⟩ := List.mem_iff_getElem?.1 hx
  simp [h j x hj]
theorem fstP_cases {α : Type} (p : α → Bool) (xs : List α) : (fstP p xs 0 = -1 ∧ (xs.filter fun x => !p x) = xs) ∨ ∃ k : Nat, fstP p xs 0 = (k : Int) ∧ DelI p xs xs k (k + 1) := by
  by_cases h : ∀ (j : Nat) (x : α), xs[j]? = some x → p x = false
  · exact .inl ⟨fstP_no xs 0 h, take_all h⟩
  · right
    have : ∃ (j : Nat) (x : α), xs[j]? = some x ∧ p x = true := by
      refine Classical.byContradiction fun hn => h fun j x hj => ?_
      cases hp : p x with
      | false => rfl
      | true => exact absurd ⟨j, x, hj, hp⟩ hn
    obtain ⟨j0, x0, hj0, hp0⟩ := this
    have hleast : ∃ k : Nat, (∃ x : α, xs[k]? = some x ∧ p x = true) ∧ ∀ j : Nat, j < k → ¬ ∃ x : α, xs[j]? = some x ∧ p x = true := by
      have : ∀ n : Nat, (∃ x : α, xs[n]? = some x ∧ p x = true) → ∃ k : Nat, (∃ x : α, xs[k]? = some x ∧ p x = true) ∧ ∀ j : Nat, j < k → ¬ ∃ x : α, xs[j]? = some x ∧ p x = true := by
        intro n
        induction n using Nat.strongRecOn with
        | _ n ih =>
          intro hn
          by_cases hl : ∃ j : Nat, j < n ∧ ∃ x : α, xs[j]? = some x ∧ p x = true
          · obtain ⟨j, hj, hx⟩ := hl; exact ih j hj hx
          · exact ⟨n, hn, fun j hj hx => hl ⟨j, hj, hx⟩⟩
      exact this j0 ⟨x0, hj0, hp0⟩
    obtain ⟨k, ⟨x, hk, hp⟩, hno⟩ := hleast
    have hno' : ∀ j, j < k → ∀ y, xs[j]? = some y → p y = false := fun j hj y hy => by
      cases hq : p y with
      | false => rfl
      | true => exact absurd ⟨y, hy, hq⟩ (hno j hj)
    have hlt := (List.getElem?_eq_some_iff.1 hk).1
    refine ⟨k, by rw [fstP_at xs k 0 hk hp hno', Nat.zero_add], rfl, by omega, by omega, ?_, rfl⟩
    rw [List.take_add_one, hk, List.filter_append]
    have h1 : ((xs.take k).filter fun x => !p x) = xs.take k := take_all fun j y hy => by
      rw [List.getElem?_take] at hy
      split at hy
      · exact hno' j (by assumption) y hy
      · cases hy
    rw [h1]
    simp [hp]
theorem DelI.at_ {α : Type} {p : α → Bool} {xs L : List α} {i j : Nat} (h : DelI p xs L i j) : L[j]? = xs[j]? := by
  have := congrArg (fun l => l[0]?) h.dr
  simpa [List.getElem?_drop] using this
theorem drop_more {α : Type} {xs L : List α} {j : Nat} (h : L.drop j = xs.drop j) : L.drop (j + 1) = xs.drop (j + 1) := by
  rw [← List.drop_drop, ← List.drop_drop, h]
theorem DelI.skip {α : Type} {p : α → Bool} {xs L : List α} {i j : Nat} (h : DelI p xs L i j) {x : α} (hx : xs[j]? = some x) (hp : p x = true) : DelI p xs L i (j + 1) :=
  ⟨h.ln, by have := h.ij; omega, (List.getElem?_eq_some_iff.1 hx).1, by rw [List.take_add_one, hx, List.filter_append, ← h.tk]; simp [hp], drop_more h.dr⟩
theorem DelI.keep {α : Type} {p : α → Bool} {xs L : List α} {i j : Nat} (h : DelI p xs L i j) {x : α} (hx : xs[j]? = some x) (hp : p x = false) : DelI p xs (L.set i x) (i + 1) (j + 1) := by
  have hj := (List.getElem?_eq_some_iff.1 hx).1
  have hi : i < L.length := by have := h.ij; have := h.ln; omega
  refine ⟨by rw [List.length_set]; exact h.ln, by have := h.ij; omega, hj, ?_, ?_⟩
  · rw [List.take_add_one, List.getElem?_set_self hi, List.take_set_of_le (Nat.le_refl i), h.tk, List.take_add_one, hx, List.filter_append]
    simp [hp]
  · rw [List.drop_set_of_lt (by have := h.ij; omega), drop_more h.dr]
theorem DelI.fin {α : Type} {p : α → Bool} {xs L : List α} {i : Nat} (h : DelI p xs L i xs.length) : L.take i = xs.filter fun x => !p x := by
  rw [h.tk, List.take_length]
end Go.Proofs.Ytkolhcoeifghpaa.En
end
section
namespace Go.Proofs.Ytkolhcoeifghpaa.En
open Go.RowKit
set_option linter.unusedSimpArgs false
set_option linter.unusedVariables false
set_option maxHeartbeats 4000000
theorem ints_takeD (l : List Int) (n : Nat) : (ints l).take n = ints (l.take n) := by simp [ints, List.map_take]
theorem ints_setD (l : List Int) (n : Nat) (r : Int) : (ints l).set n [.v (.int .i64 r)] = ints (l.set n r) := by simp [ints, List.map_set]
theorem deleteInts (f : FuncId) (cap : List AV) (p : Int → Bool) (xs : List Int) (hx : xs.length < 1000000) (hcap : cap.all cl1 = true) (hg : ∀ x ∈ xs, Pure Try.prog f (.v (.int .i64 x) :: cap) (.v (.bool (p x)))) : Fn Try.prog 35 1 [.own 0 1 0 xs.length, .fn f cap] [(0, ⟨3, 1, ints xs⟩)] (.own 0 1 0 (xs.filter fun x => !p x).length) 1 [(0, ⟨3, 1, ints (xs.filter fun x => !p x)⟩)] := by
  have ci := indexFuncInt f cap p xs (by omega) hcap hg
  refine Fn.mk (rs := [.tmp 4]) (nt := 42) Try.func35 (by kernel_rfl) rfl rfl rfl (by simp) ?_
  simp only [sl]
  refine wkc0 _ ?_
  refine GS.cd (ci) rfl rfl rfl rfl (by simp [go_sem, List.take_of_length_le, hcap, all_cl1 hcap] <;> with_reducible rfl) rfl (by exact .cons (Fz.all rfl rfl (by simp) rfl (ints_cl _)) (.cons (Fz.cl (by simpa [cl] using hcap)) .nil)) rfl ?_
  refine wkc0 _ ?_
  rcases fstP_cases p xs with ⟨h1, h2⟩ | ⟨k, h1, hD⟩
  · rw [h1, h2]
    refine wkc0 _ ?_
    refine OutF.mkn (xs := ?_) (nm [0]) ?_ ?_ ?_ ?_ ?_ (by first | exact .inr rfl | exact .inl rfl)
    rotate_left
    · simp [go_sem, List.take_of_length_le] <;> with_reducible rfl
    · simp [go_sem, List.take_of_length_le, ren, ren1, ren2, okr, okr1, okr2, ChkN, BlkN, List.range_succ, nf]
    · simp [go_sem, List.take_of_length_le, ren, ren1, ren2, okr, okr1, okr2, ChkN, BlkN, List.range_succ, nf]
    · simp [go_sem, List.take_of_length_le, ren, ren1, ren2, okr, okr1, okr2, ChkN, BlkN, List.range_succ, nf]
    · rfl
  · rw [h1]
    have hk1 : ((k : Int) == -1) = false := by rw [beq_eq_false_iff_ne]; omega
    have hk2 : ¬ (k : Int) = -1 := by omega
    have stepk : wr64 ((k : Int) + 1) = ((k + 1 : Nat) : Int) := wr64_id (by have := hD.jl; omega) (by have := hD.jl; omega)
    refine wkc (And.intro @hk1 (And.intro @hk2 (@stepk))) _ ?_
    refine Holds.loop (ι := Nat × Nat × List Int) (fun i => ⟨[(0, .own 0 1 0 xs.length), (1, .fn f cap), (5, .v (.int .i64 i.1)), (6, .v (.int .i64 i.2.1))], [(0, ⟨3, 1, ints i.2.2⟩)], 1⟩)
      (fun i => DelI p xs i.2.2 i.1 i.2.1) (fun i => xs.length - i.2.1) (k, k + 1, xs) hD ?_ ?_
    · exact Cov.ofn (id) rfl (by simp [go_sem, List.take_of_length_le, ren, ren1, ren2, okr, okr1, okr2, ChkT, ChkN, BlkN, nf, okr1_cap hcap, ren1_cap hcap]) (by simp [go_sem, List.take_of_length_le, ren, ren1, ren2, okr, okr1, okr2, ChkT, ChkN, BlkN, nf, okr1_cap hcap, ren1_cap hcap])
    clear hD h1 hk1 hk2 stepk
    rintro ⟨i, j, L⟩ hD
    dsimp only at hD ⊢
    have hij := hD.ij
    have hjl := hD.jl
    have hln := hD.ln
    have stepi : wr64 ((i : Int) + 1) = ((i + 1 : Nat) : Int) := wr64_id (by omega) (by omega)
    have stepj : wr64 ((j : Int) + 1) = ((j + 1 : Nat) : Int) := wr64_id (by omega) (by omega)
    refine wkc0 _ ?_
    refine Holds.cond rfl (fun h => ?_) (fun h => ?_)
    · have hlt : j < xs.length := by simpa using h
      have hxj : xs[j]? = some xs[j] := List.getElem?_eq_getElem hlt
      have hgj := hg _ (List.getElem_mem hlt)
      generalize xs[j] = x at hxj hgj
      have hLj : L[j]? = some x := hD.at_.trans hxj
      have hlL : j < L.length := by omega
      have hiL : i < L.length := by omega
      have hix : i < xs.length := by omega
      refine wkc (And.intro (@get_E _ _ _ _ hLj) (And.intro @hLj (And.intro @hlt (@hlL)))) _ ?_
      refine GS.cc (hgj) rfl rfl rfl rfl (by simp [go_sem, List.take_of_length_le, hcap, all_cl1 hcap] <;> with_reducible rfl) rfl (by simp [go_sem, List.take_of_length_le, hcap, all_cl1 hcap]) ?_
      refine wkc0 _ ?_
      cases hp : p x with
      | false =>
        refine wkc (And.intro @hiL (And.intro @hix (And.intro @ints_setD (@stepi)))) _ ?_
        refine ⟨(i + 1, j + 1, L.set i x), hD.keep hxj hp, by dsimp only; omega, ?_⟩
        rw [stepj]
        exact Cov.ofn (id) rfl (by simp [go_sem, List.take_of_length_le, ren, ren1, ren2, okr, okr1, okr2, ChkT, ChkN, BlkN, nf, ints_setD, okr1_cap hcap, ren1_cap hcap]) (by simp [go_sem, List.take_of_length_le, ren, ren1, ren2, okr, okr1, okr2, ChkT, ChkN, BlkN, nf, ints_setD, okr1_cap hcap, ren1_cap hcap])
      | true =>
        refine wkc0 _ ?_
        refine ⟨(i, j + 1, L), hD.skip hxj hp, by dsimp only; omega, ?_⟩
        rw [stepj]
        exact Cov.ofn (id) rfl (by simp [go_sem, List.take_of_length_le, ren, ren1, ren2, okr, okr1, okr2, ChkT, ChkN, BlkN, nf, okr1_cap hcap, ren1_cap hcap]) (by simp [go_sem, List.take_of_length_le, ren, ren1, ren2, okr, okr1, okr2, ChkT, ChkN, BlkN, nf, okr1_cap hcap, ren1_cap hcap])
    · have hje : j = xs.length := by simp at h; omega
      subst hje
      have hfin := hD.fin
      have hi2 : i ≤ xs.length := by omega
      have hiL : i ≤ L.length := by omega
      have hfl : (xs.filter fun x => !p x).length = i := by rw [← hfin, List.length_take]; omega
      rw [hfl, ← hfin]
      refine wkc (And.intro @hi2 (@hiL)) _ ?_
      refine GS.clr (e := 3) (s1 := ?_) rfl rfl rfl rfl (by simp [go_sem]) zc3 ti3 rfl rfl rfl (by simp; omega) ?_ ?_
      rotate_left
      · simp [go_sem, ints_takeD] <;> with_reducible rfl
      refine wkc (@hi2) _ ?_
      refine OutF.mkn (xs := ?_) (nm [0]) ?_ ?_ ?_ ?_ ?_ (by first | exact .inr rfl | exact .inl rfl)
      rotate_left
      · simp [go_sem, List.take_of_length_le] <;> with_reducible rfl
      · simp [go_sem, List.take_of_length_le, ren, ren1, ren2, okr, okr1, okr2, ChkN, BlkN, List.range_succ, nf]
      · simp [go_sem, List.take_of_length_le, ren, ren1, ren2, okr, okr1, okr2, ChkN, BlkN, List.range_succ, nf]
      · simp [go_sem, List.take_of_length_le, ren, ren1, ren2, okr, okr1, okr2, ChkN, BlkN, List.range_succ, nf]
      · rfl
end Go.Proofs.Ytkolhcoeifghpaa.En
end
section
namespace Go.Proofs.Ytkolhcoeifghpaa.En
open Go.RowKit
set_option linter.unusedSimpArgs false
set_option linter.unusedVariables false
set_option maxHeartbeats 4000000
theorem oAt (xs : List (List Int)) (r : List AV) : (intssO xs ++ [r])[xs.length]? = some r := by simp
theorem oSnoc (xs : List (List Int)) (r : List AV) (q : List Int) : (intssO xs ++ [r]).set xs.length [.ow 3 1 (ints q)] = intssO (xs ++ [q]) := by
  have h : (intssO xs).length = xs.length := intssO_len xs
  rw [List.set_append_right _ _ (by omega), h, Nat.sub_self]; simp [intssO, intsO1]
theorem oApp (xs : List (List Int)) (q : List Int) : intssO xs ++ [[.ow 3 1 (ints q)]] = intssO (xs ++ [q]) := by simp [intssO, intsO1]
theorem oSet (xs : List (List Int)) {i : Nat} {q : List Int} (h : xs[i]? = some q) : (intssO xs).set i [.ow 3 1 (ints q)] = intssO xs := by
  obtain ⟨hi, e⟩ := List.getElem?_eq_some_iff.1 h
  subst e
  refine List.ext_getElem? fun k => ?_
  by_cases hk : i = k
  · subst hk; simp [List.getElem?_set, hi, intsO1]
  · simp [List.getElem?_set, hk]
theorem oGet {xs : List (List Int)} {i : Nat} {q : List Int} (h : xs[i]? = some q) : (intssO xs)[i]? = some [.ow 3 1 (ints q)] := by simp [h, intsO1]
end Go.Proofs.Ytkolhcoeifghpaa.En
end
section

namespace Go.Proofs.Ytkolhcoeifghpaa.En
open Go.RowKit
set_option linter.unusedSimpArgs false
set_option linter.unusedVariables false
set_option maxHeartbeats 4000000
theorem intssO_takeT (l : List (List Int)) (n : Nat) : (intssO l).take n = intssO (l.take n) := by simp [intssO, List.map_take]
theorem treeNeg (x : Int) : Pure Try.prog 36 [.v (.int .i64 x)] (.v (.bool (decide (x < 0)))) := by
  refine Pure.mk (rs := [.tmp 2]) (nt := 5) Try.func36 (by kernel_rfl) rfl rfl rfl (by simp) ?_
  simp only [sl]
  refine wkc0 _ ?_
  refine Out.mk (xs := ?_) ?_ ?_ (by first | exact .inr rfl | exact .inl rfl)
  rotate_left
  · simp [go_sem, List.take_of_length_le] <;> with_reducible rfl
  exact .v _
theorem kidsN_del (R : List Int) : (R.filter fun x => !decide (x < 0)) = kidsN R := by
  unfold kidsN
  congr 1
  funext x
  by_cases h : x < 0
  · simp [h, show ¬ 0 ≤ x by omega]
  · simp [h, show 0 ≤ x by omega]
theorem implTR (g : GrammarT) (rules : List Int) (hx : g.2.2.length < 4611686018427387904) (hs : ∀ e ∈ g.2.2, e.2.length < 4611686018427387904) (hw : rules.length < 4611686018427387904) : Fn Try.prog 11 0 [.ag (grammarC g), .im 1 (ints rules)] [] (.tu [.own 0 1 0 (treeRV g rules).1.length, .v (.bool (treeRV g rules).2)]) 1 [(0, ⟨3, 1, ints (treeRV g rules).1⟩)] := by
  have cg := implGoodG g hx hs
  unfold treeRV
  have hwl : wr64 ((g.2.2.length : Int) - 1) = (g.2.2.length : Int) - 1 := wr64_id (by omega) (by omega)
  refine Fn.mk (rs := [.tmp 4, .tmp 5]) (nt := 111) Try.func11 (by kernel_rfl) rfl rfl rfl (by simp) ?_
  simp only [sl, grammarC]
  refine wkdc (@grammarC.eq_1) _ ?_
  cases hg : goodG g with
  | false =>
    rw [hg] at cg
    simp only [Bool.false_and, Bool.false_eq_true, if_false]
    first | refine GS.cc (cg) rfl rfl rfl rfl (by simp [go_sem, List.take_of_length_le, grammarC] <;> with_reducible rfl) rfl (by simp [go_sem, List.take_of_length_le, grammarC]) ?_ | refine Gd.cc (cg) rfl rfl rfl rfl (by simp [go_sem, List.take_of_length_le, grammarC] <;> with_reducible rfl) rfl (by simp [go_sem, List.take_of_length_le, grammarC]) ?_
    refine wkdc0 _ ?_
    refine OutF.cov (Cov.niw (t := 4) 3 1 rfl) ?_
    refine OutF.mkn (xs := ?_) (nm [1]) ?_ ?_ ?_ ?_ ?_ (by first | exact .inr rfl | exact .inl rfl)
    rotate_left
    · simp [go_sem, List.take_of_length_le, niw, ints] <;> with_reducible rfl
    · simp [go_sem, List.take_of_length_le, ren, ren1, ren2, okr, okr1, okr2, ChkN, BlkN, List.range_succ, nf, niw, ints]
    · simp [go_sem, List.take_of_length_le, ren, ren1, ren2, okr, okr1, okr2, ChkN, BlkN, List.range_succ, nf, niw, ints]
    · simp [go_sem, List.take_of_length_le, ren, ren1, ren2, okr, okr1, okr2, ChkN, BlkN, List.range_succ, nf, niw, ints]
    · rfl
  | true =>
    rw [hg] at cg
    have hG := goodG_ok hg
    have hlen := hG.len
    rw [Bool.true_and]
    first | refine GS.cc (cg) rfl rfl rfl rfl (by simp [go_sem, List.take_of_length_le, grammarC] <;> with_reducible rfl) rfl (by simp [go_sem, List.take_of_length_le, grammarC]) ?_ | refine Gd.cc (cg) rfl rfl rfl rfl (by simp [go_sem, List.take_of_length_le, grammarC] <;> with_reducible rfl) rfl (by simp [go_sem, List.take_of_length_le, grammarC]) ?_
    by_cases hl6 : rules.length ≤ 60
    case neg =>
      have h6 : (60 : Int) < (rules.length : Int) := by omega
      have h6n : 60 < rules.length := by omega
      rw [decide_eq_false hl6]
      simp only [Bool.false_eq_true, if_false]
      refine wkdc (And.intro @h6 (@h6n)) _ ?_
      refine OutF.cov (Cov.niw (t := 4) 3 1 rfl) ?_
      refine OutF.mkn (xs := ?_) (nm [1]) ?_ ?_ ?_ ?_ ?_ (by first | exact .inr rfl | exact .inl rfl)
      rotate_left
      · simp [go_sem, List.take_of_length_le, niw, ints] <;> with_reducible rfl
      · simp [go_sem, List.take_of_length_le, ren, ren1, ren2, okr, okr1, okr2, ChkN, BlkN, List.range_succ, nf, niw, ints]
      · simp [go_sem, List.take_of_length_le, ren, ren1, ren2, okr, okr1, okr2, ChkN, BlkN, List.range_succ, nf, niw, ints]
      · simp [go_sem, List.take_of_length_le, ren, ren1, ren2, okr, okr1, okr2, ChkN, BlkN, List.range_succ, nf, niw, ints]
      · rfl
    have h6 : ¬ (60 : Int) < (rules.length : Int) := by omega
    have h6n : ¬ 60 < rules.length := by omega
    rw [decide_eq_true hl6]
    simp only [if_true]
    have hst := GoodP.nil g
    obtain ⟨V, hV⟩ : ∃ V, V = runTR g (rules.drop 0) [] := ⟨_, rfl⟩
    rw [show runTR g rules [] = V by rw [hV, List.drop_zero]]
    refine wkdc (And.intro @grammarC.eq_1 (And.intro @h6 (@h6n))) _ ?_
    refine Holds.loop (ι := Nat × List (List Int)) (fun x => ⟨[(1, .im 1 (ints rules)), (2, .pb 0 3 0 0), (4, .v (.slice none 0 0)), (6, .own 1 1 0 x.2.length), (23, .im 1 (ints rules)), (24, .v (.int .i64 rules.length)), (25, .v (.int .i64 x.1))], [(1, ⟨25, 1, intssO x.2⟩), (0, ⟨31, 3, [grammarC g]⟩)], 2⟩)
      (fun x => x.1 ≤ rules.length ∧ GoodP g x.1 x.2 ∧ V = runTR g (rules.drop x.1) x.2) (fun x => rules.length - x.1) (0, []) ⟨Nat.zero_le _, hst, hV⟩ ?_ ?_
    · exact Cov.ofn (id) rfl (by simp [go_sem, List.take_of_length_le, ren, ren1, ren2, okr, okr1, okr2, ChkT, ChkN, BlkN, nf, grammarC, show intssO [] = [] from rfl]) (by simp [go_sem, List.take_of_length_le, ren, ren1, ren2, okr, okr1, okr2, ChkT, ChkN, BlkN, nf, grammarC, show intssO [] = [] from rfl])
    clear hst hV
    rintro ⟨i, P⟩ ⟨hi, hP, hV⟩
    dsimp only at hi hP hV ⊢
    have stepi : wr64 ((i : Int) + 1) = ((i + 1 : Nat) : Int) := wr64_id (by omega) (by omega)
    have hPl := hP.len
    refine wkdc0 _ ?_
    refine Holds.cond rfl (fun h => ?_) (fun h => ?_)
    · have hil : i < rules.length := by simpa using h
      have hri : rules[i]? = some rules[i] := List.getElem?_eq_getElem hil
      rw [List.drop_eq_getElem_cons hil] at hV
      generalize rules[i] = r at hri hV
      have ci := implIn r 0 ((g.2.2.length : Int) - 1)
      unfold runTR at hV
      refine wkdc (And.intro @hil (And.intro @hri (And.intro (@get_E _ _ _ _ hri) (And.intro @hwl (@grammarC.eq_1))))) _ ?_
      cases hin : inR r 0 ((g.2.2.length : Int) - 1) with
      | false =>
        rw [hin] at ci
        rw [if_neg (by rw [show inRule g r = false from hin]; simp)] at hV
        subst hV
        first | refine GS.cc (ci) rfl rfl rfl rfl (by simp [go_sem, List.take_of_length_le] <;> with_reducible rfl) rfl (by simp [go_sem, List.take_of_length_le]) ?_ | refine Gd.cc (ci) rfl rfl rfl rfl (by simp [go_sem, List.take_of_length_le] <;> with_reducible rfl) rfl (by simp [go_sem, List.take_of_length_le]) ?_
        refine wkdc0 _ ?_
        refine OutF.cov (Cov.niw (t := 4) 3 1 rfl) ?_
        refine OutF.mkn (xs := ?_) (nm [2]) ?_ ?_ ?_ ?_ ?_ (by first | exact .inr rfl | exact .inl rfl)
        rotate_left
        · simp [go_sem, List.take_of_length_le, niw, ints] <;> with_reducible rfl
        · simp [go_sem, List.take_of_length_le, ren, ren1, ren2, okr, okr1, okr2, ChkN, BlkN, List.range_succ, nf, niw, ints]
        · simp [go_sem, List.take_of_length_le, ren, ren1, ren2, okr, okr1, okr2, ChkN, BlkN, List.range_succ, nf, niw, ints]
        · simp [go_sem, List.take_of_length_le, ren, ren1, ren2, okr, okr1, okr2, ChkN, BlkN, List.range_succ, nf, niw, ints]
        · rfl
      | true =>
        rw [hin] at ci
        rw [if_pos (show inRule g r = true from hin)] at hV
        obtain ⟨rn, rfl, hrl⟩ : ∃ q : Nat, r = (q : Int) ∧ q < g.2.2.length := by
          have hin' : 0 ≤ r ∧ r ≤ (g.2.2.length : Int) - 1 := by simpa [inR] using hin
          exact ⟨r.toNat, by omega, by omega⟩
        have hrr := ruleR_at hrl
        have hR4 := hG.r4 _ (List.mem_of_getElem? hrr)
        generalize ruleR g rn = R at hrr hR4 hV
        obtain ⟨l, R⟩ := R
        dsimp only at hR4 hV
        have cd := deleteInts 36 [] (fun x => decide (x < 0)) R (by omega) rfl (fun x _ => treeNeg x)
        rw [kidsN_del] at cd
        have hkl : (kidsN R).length ≤ 4 := Nat.le_trans (kidsN_len R) hR4
        generalize kidsN R = K at hkl hV cd
        have hbR : R.length * 8 ≤ 140737488355328 := by omega
        first | refine GS.cc (ci) rfl rfl rfl rfl (by simp [go_sem, List.take_of_length_le] <;> with_reducible rfl) rfl (by simp [go_sem, List.take_of_length_le]) ?_ | refine Gd.cc (ci) rfl rfl rfl rfl (by simp [go_sem, List.take_of_length_le] <;> with_reducible rfl) rfl (by simp [go_sem, List.take_of_length_le]) ?_
        refine wkdc (And.intro @hil (And.intro @hri (And.intro (@get_E _ _ _ _ hri) (And.intro @hrl (And.intro @hrr (And.intro (@get_E _ _ _ _ hrr) (And.intro @ruleC.eq_1 (And.intro @grammarC.eq_1 (And.intro @hbR (@ints_allT)))))))))) _ ?_
        refine GS.fnn [4] (cd) rfl rfl rfl rfl (by simp [go_sem, List.take_of_length_le, ren, ren1, ren2, okr, okr1, okr2, ChkN, BlkN, List.range_succ, nf] <;> with_reducible rfl) (by simp [go_sem, List.take_of_length_le, ren, ren1, ren2, okr, okr1, okr2, ChkN, BlkN, List.range_succ, nf]) (by simp [go_sem, List.take_of_length_le, ren, ren1, ren2, okr, okr1, okr2, ChkN, BlkN, List.range_succ, nf]) (by simp [List.range_succ, lb]) (ChkN.toB (by simp [go_sem, List.take_of_length_le, ren, ren1, ren2, okr, okr1, okr2, ChkN, BlkN, List.range_succ, nf])) (by decide) (by simp) rfl (.nfr (by simp) .nil) (by simp [go_sem, List.take_of_length_le, ren, ren1, ren2, okr, okr1, okr2, ChkN, BlkN, List.range_succ, nf] <;> with_reducible rfl) ?_
        repeat' first | (refine Holds.condT ?_ ?_; (· (simp [go_sem, List.take_of_length_le] <;> with_reducible rfl))) | (refine Holds.condF ?_ ?_; (· (simp [go_sem, List.take_of_length_le] <;> with_reducible rfl))) | refine Holds.seq ?_ | refine Holds.skip ?_ | refine Holds.exit ?_ | refine Holds.ret ?_ | refine thenA_normal ?_ | refine thenA_exit ?_ | refine thenA_ret ?_ | refine inB_normal ?_ | refine inB_ret ?_ | refine inB_here ?_ | (refine inB_past ?_ ?_; (· exact rfl)) | refine Holds.reg ?_ | refine Holds.block ?_ | refine GS.nil ?_ | refine Gd.nil ?_ | (refine Holds.any mixed ?_ ?_; (· kernel_rfl)) | (refine GS.stepD 45 (s' := ?_) rfl ?_ ?_ ?_; rotate_left; (· exact rfl); (· (simp [go_sem, List.take_of_length_le] <;> with_reducible rfl))) | (refine GS.skip ?_ ?_ ?_; (· exact rfl); (· exact rfl)) | (refine Gd.go (s' := ?_) ?_ ?_ ?_; rotate_left; (· exact rfl); (· (simp [go_sem, List.take_of_length_le] <;> with_reducible rfl))) | (refine Gd.skip ?_ ?_ ?_; (· exact rfl); (· exact rfl)) | fail
        refine GS.frz [4] [(9, .im 1 (ints K))] (.cons rfl (Fz.all rfl rfl (by simp) rfl (ints_cl _)) .nil) ?_
        refine wkdc (@frz.eq_1) _ ?_
        have hneg : (wr64 ((P.length : Int) - (K.length : Int)) < 0) ↔ P.length < K.length := by rw [wr64_id (by omega) (by omega)]; omega
        by_cases hlt : P.length < K.length
        · rw [if_pos hlt] at hV
          subst hV
          have hn1 := hneg.2 hlt
          refine wkdc (@hn1) _ ?_
          refine OutF.cov (Cov.niw (t := 4) 3 1 rfl) ?_
          refine OutF.mkn (xs := ?_) (nm [5]) ?_ ?_ ?_ ?_ ?_ (by first | exact .inr rfl | exact .inl rfl)
          rotate_left
          · simp [go_sem, List.take_of_length_le, niw, ints] <;> with_reducible rfl
          · simp [go_sem, List.take_of_length_le, ren, ren1, ren2, okr, okr1, okr2, ChkN, BlkN, List.range_succ, nf, niw, ints]
          · simp [go_sem, List.take_of_length_le, ren, ren1, ren2, okr, okr1, okr2, ChkN, BlkN, List.range_succ, nf, niw, ints]
          · simp [go_sem, List.take_of_length_le, ren, ren1, ren2, okr, okr1, okr2, ChkN, BlkN, List.range_succ, nf, niw, ints]
          · rfl
        · rw [if_neg hlt] at hV
          obtain ⟨m, hm⟩ : ∃ m, m = P.length - K.length := ⟨_, rfl⟩
          have hwm : wr64 ((P.length : Int) - (K.length : Int)) = (m : Int) := by rw [wr64_id (by omega) (by omega)]; omega
          rw [← hm] at hV
          have hmn : ¬ (m : Int) < 0 := by omega
          have hstep := hP.step hrl m
          have hflat := hP.flK m
          have hDl : (P.drop m).length = K.length := by rw [List.length_drop]; omega
          have hDg : ∀ k, (P.drop m)[k]? = P[m + k]? := fun k => by rw [List.getElem?_drop]
          have hhd : ∀ t ∈ P.drop m, ∃ (r : Nat) (s : List Int), t = (r : Int) :: s ∧ r < g.2.2.length := fun t ht => hP.hd t (List.mem_of_mem_drop ht)
          obtain ⟨D, hD⟩ : ∃ D, D = P.drop m := ⟨_, rfl⟩
          rw [← hD] at hV hstep hDl hhd
          refine wkdc (And.intro @hwm (@hmn)) _ ?_
          refine Holds.loop (ι := Nat) (fun k => ⟨[(1, .im 1 (ints rules)), (2, .pb 0 3 0 0), (4, .v (.slice none 0 0)), (6, .own 1 1 0 P.length), (8, .v (.int .i64 rn)), (9, .im 1 (ints K)), (10, .v (.int .i64 m)), (11, .own 2 1 0 ((flK D k).length + 1)), (23, .im 1 (ints rules)), (24, .v (.int .i64 rules.length)), (25, .v (.int .i64 i)), (54, .im 1 (ints K)), (55, .v (.int .i64 K.length)), (56, .v (.int .i64 k))], [(2, ⟨3, 1, ints ((rn : Int) :: flK D k)⟩), (1, ⟨25, 1, intssO P⟩), (0, ⟨31, 3, [grammarC g]⟩)], 3⟩)
            (fun k => k ≤ K.length ∧ V = if okK g (K.drop k) (D.drop k) = true then runTR g (rules.drop (i + 1)) (P.take m ++ [(rn : Int) :: D.flatten]) else ([], false)) (fun k => K.length - k) 0 ⟨Nat.zero_le _, by rw [List.drop_zero, List.drop_zero]; exact hV⟩ ?_ ?_
          · exact Cov.ofn (nm [0, 1, 5]) rfl (by simp [go_sem, List.take_of_length_le, ren, ren1, ren2, okr, okr1, okr2, ChkT, ChkN, BlkN, nf, grammarC, flK_zero, show ints [(rn : Int)] = [[.v (.int .i64 rn)]] from rfl]) (by simp [go_sem, List.take_of_length_le, ren, ren1, ren2, okr, okr1, okr2, ChkT, ChkN, BlkN, nf, grammarC, flK_zero, show ints [(rn : Int)] = [[.v (.int .i64 rn)]] from rfl])
          · rintro k ⟨hk, hVk⟩
            clear hV
            have stepk : wr64 ((k : Int) + 1) = ((k + 1 : Nat) : Int) := wr64_id (by omega) (by omega)
            refine wkdc0 _ ?_
            refine Holds.cond rfl (fun h => ?_) (fun h => ?_)
            · have hkl2 : k < K.length := by simpa using h
              have hxk : K[k]? = some K[k] := List.getElem?_eq_getElem hkl2
              have htk : D[k]? = some D[k] := List.getElem?_eq_getElem (by omega)
              obtain ⟨q, s, hts, hql⟩ := hhd _ (List.getElem_mem (show k < D.length by omega))
              rw [okK_at hxk htk] at hVk
              have hfs := flK_snoc htk
              have hfl := hflat k
              have hfl2 := hflat (k + 1)
              rw [← hD] at hfl hfl2
              generalize K[k] = y at hxk hVk
              rw [hts] at htk hVk hfs
              have hPk : P[m + k]? = some ((q : Int) :: s) := by rw [← hDg, ← hD]; exact htk
              have hmk : m + k < P.length := (List.getElem?_eq_some_iff.1 hPk).1
              have hwk : wr64 ((m : Int) + (k : Int)) = ((m + k : Nat) : Int) := by rw [wr64_id (by omega) (by omega)]; omega
              have hqq := ruleR_at hql
              have hlt2 : leftT g ((q : Int) :: s) = (ruleR g q).1 := rfl
              rw [hlt2] at hVk
              rw [hfs] at hfl2
              generalize ruleR g q = Q at hqq hVk
              obtain ⟨lq, Q⟩ := Q
              dsimp only at hVk
              obtain ⟨F, hF⟩ : ∃ F, F = flK D k := ⟨_, rfl⟩
              rw [← hF] at hfs hfl hfl2 ⊢
              rw [List.length_append, List.length_cons] at hfl2
              generalize hwmk : m + k = mk at hPk hmk hwk
              have hit : ints ((q : Int) :: s) = [.v (.int .i64 q)] :: ints s := rfl
              have hset : (intssO P).set mk [.ow 3 1 ([.v (.int .i64 q)] :: ints s)] = intssO P := oSet P hPk
              refine wkdsc (And.intro @hkl2 (And.intro @hxk (@get_E _ _ _ _ hxk))) _ ?_
              refine Holds.open 1 mk 0 rfl (oGet hPk) rfl rfl ?_
              have hsg := set_get (a := ([.own 3 1 0 (s.length + 1)] : List AV)) (oGet hPk)
              (refine Holds.any mixed ?_ ?_; (· kernel_rfl))
              refine wkdsc (And.intro @hkl2 (And.intro @hxk (And.intro (@get_E _ _ _ _ hxk) (And.intro @hwk (And.intro @hPk (And.intro @hmk (And.intro (@get_E _ _ _ _ hPk) (And.intro @hsg (And.intro (@get_E _ _ _ _ hsg) (And.intro @hit (And.intro @hql (And.intro @hqq (And.intro (@get_E _ _ _ _ hqq) (And.intro @ruleC.eq_1 (@grammarC.eq_1))))))))))))))) _ ?_
              by_cases hly : lq = y
              · rw [decide_eq_true hly, Bool.true_and] at hVk
                have hbb : (F.length + 1 + (s.length + 1)) * 8 ≤ 140737488355328 := by omega
                have hne : (lq != y) = false := by simp [hly]
                refine wkdc (And.intro @hne (@hly)) _ ?_
                refine wkdc (And.intro @hwk (And.intro @hPk (And.intro @hmk (And.intro (@get_E _ _ _ _ hPk) (And.intro @hsg (And.intro (@get_E _ _ _ _ hsg) (And.intro @hit (And.intro @hbb (@ints_allT))))))))) _ ?_
                refine ⟨k + 1, ⟨by omega, hVk⟩, by omega, ?_⟩
                rw [stepk, hfs]
                refine Cov.trans ?_ (Cov.close 1 mk 0 rfl (set_get (oGet hPk)) rfl rfl rfl rfl (by simp) (by simp [nf]))
                simp only [rm, st, List.set_set]
                exact Cov.ofn (nm [0, 1, 5]) rfl (by simp [go_sem, List.take_of_length_le, ren, ren1, ren2, okr, okr1, okr2, ChkT, ChkN, BlkN, nf, grammarC, hset, show ints ((rn : Int) :: (F ++ (q : Int) :: s)) = ints ((rn : Int) :: F) ++ [.v (.int .i64 q)] :: ints s by simp [ints], show F.length + 1 + (s.length + 1) = F.length + (s.length + 1) + 1 by omega]) (by simp [go_sem, List.take_of_length_le, ren, ren1, ren2, okr, okr1, okr2, ChkT, ChkN, BlkN, nf, grammarC, hset, show ints ((rn : Int) :: (F ++ (q : Int) :: s)) = ints ((rn : Int) :: F) ++ [.v (.int .i64 q)] :: ints s by simp [ints], show F.length + 1 + (s.length + 1) = F.length + (s.length + 1) + 1 by omega])
              · rw [decide_eq_false hly] at hVk
                simp only [Bool.false_and, Bool.false_eq_true, if_false] at hVk
                subst hVk
                have hne : (lq != y) = true := by simp [hly]
                refine wkdc (And.intro @hne (@hly)) _ ?_
                refine OutF.cov (Cov.niw (t := 4) 3 1 rfl) ?_
                refine OutF.mkn (xs := ?_) (nm [4]) ?_ ?_ ?_ ?_ ?_ (by first | exact .inr rfl | exact .inl rfl)
                rotate_left
                · simp [go_sem, List.take_of_length_le, niw, ints] <;> with_reducible rfl
                · simp [go_sem, List.take_of_length_le, ren, ren1, ren2, okr, okr1, okr2, ChkN, BlkN, List.range_succ, nf, niw, ints]
                · simp [go_sem, List.take_of_length_le, ren, ren1, ren2, okr, okr1, okr2, ChkN, BlkN, List.range_succ, nf, niw, ints]
                · simp [go_sem, List.take_of_length_le, ren, ren1, ren2, okr, okr1, okr2, ChkN, BlkN, List.range_succ, nf, niw, ints]
                · rfl
            · have hke : k = K.length := by simp at h; omega
              subst hke
              rw [List.drop_length, show okK g [] (D.drop K.length) = true by simp [okK], if_pos rfl] at hVk
              have hfl := hflat K.length
              rw [← hD, flK_all hDl] at hfl
              rw [flK_all hDl]
              generalize D.flatten = T at hfl hVk hstep ⊢
              have hml : m ≤ P.length := by omega
              have hbb : (m + 1) * 24 ≤ 140737488355328 := by omega
              have htl : (P.take m).length = m := by rw [List.length_take]; omega
              refine wkdsc0 _ ?_
              refine GS.short 1 m (s' := ?_) rfl ?_ ?_
              rotate_left
              · simp [st, intssO_takeT] <;> with_reducible rfl
              have hmin : min m P.length = m := by omega
              refine wkdc (And.intro @hml (And.intro @hbb (@hmin))) _ ?_
              refine ⟨(i + 1, P.take m ++ [(rn : Int) :: T]), ⟨by dsimp only; omega, hstep, hVk⟩, by dsimp only; omega, ?_⟩
              rw [stepi]
              refine Cov.trans ?_ (Cov.close 5 (P.take m).length 0 rfl (oAt (P.take m) _) rfl rfl rfl rfl (by simp) (by simp))
              simp only [rm, st, List.set_set]
              exact Cov.ofn (nm [0, 5]) rfl (by simp [go_sem, List.take_of_length_le, ren, ren1, ren2, okr, okr1, okr2, ChkT, ChkN, BlkN, nf, grammarC, oSnoc, oApp, hmin]) (by simp [go_sem, List.take_of_length_le, ren, ren1, ren2, okr, okr1, okr2, ChkT, ChkN, BlkN, nf, grammarC, oSnoc, oApp, hmin])
    · have hie : i = rules.length := by simp at h; omega
      subst hie
      rw [List.drop_length] at hV
      unfold runTR at hV
      match P, hP, hV with
      | [], hP, hV =>
        simp only [resT] at hV
        subst hV
        refine wkdsc0 _ ?_
        (refine Holds.any mixed ?_ ?_; (· kernel_rfl))
        refine wkdc (show intssO [] = [] from rfl) _ ?_
        refine OutF.cov (Cov.niw (t := 4) 3 1 rfl) ?_
        refine OutF.mkn (xs := ?_) (nm [2]) ?_ ?_ ?_ ?_ ?_ (by first | exact .inr rfl | exact .inl rfl)
        rotate_left
        · simp [go_sem, List.take_of_length_le, niw, ints] <;> with_reducible rfl
        · simp [go_sem, List.take_of_length_le, ren, ren1, ren2, okr, okr1, okr2, ChkN, BlkN, List.range_succ, nf, niw, ints]
        · simp [go_sem, List.take_of_length_le, ren, ren1, ren2, okr, okr1, okr2, ChkN, BlkN, List.range_succ, nf, niw, ints]
        · simp [go_sem, List.take_of_length_le, ren, ren1, ren2, okr, okr1, okr2, ChkN, BlkN, List.range_succ, nf, niw, ints]
        · rfl
      | [t], hP, hV =>
        obtain ⟨q, s, hts, hql⟩ := hP.hd t (.head _)
        have hqq := ruleR_at hql
        subst hts
        have hlt2 : leftT g ((q : Int) :: s) = (ruleR g q).1 := rfl
        simp only [resT] at hV
        rw [hlt2] at hV
        generalize ruleR g q = Q at hqq hV
        obtain ⟨lq, Q⟩ := Q
        dsimp only at hV
        have hit : intssO [(q : Int) :: s] = [[.ow 3 1 ([.v (.int .i64 q)] :: ints s)]] := rfl
        rw [hit]
        refine wkdsc0 _ ?_
        refine Holds.open 1 0 0 rfl rfl rfl rfl ?_
        by_cases hl0 : lq = 0
        · rw [if_pos hl0] at hV
          subst hV
          have hne : (lq != 0) = false := by simp [hl0]
          (refine Holds.any mixed ?_ ?_; (· kernel_rfl))
          refine wkdc (And.intro @hql (And.intro @hqq (And.intro (@get_E _ _ _ _ hqq) (And.intro @ruleC.eq_1 (And.intro @grammarC.eq_1 (And.intro @hne (@hl0))))))) _ ?_
          refine OutF.mkn (xs := ?_) (nm [2]) ?_ ?_ ?_ ?_ ?_ (by first | exact .inr rfl | exact .inl rfl)
          rotate_left
          · simp [go_sem, List.take_of_length_le, show ints ((q : Int) :: s) = [.v (.int .i64 q)] :: ints s from rfl] <;> with_reducible rfl
          · simp [go_sem, List.take_of_length_le, ren, ren1, ren2, okr, okr1, okr2, ChkN, BlkN, List.range_succ, nf, show ints ((q : Int) :: s) = [.v (.int .i64 q)] :: ints s from rfl]
          · simp [go_sem, List.take_of_length_le, ren, ren1, ren2, okr, okr1, okr2, ChkN, BlkN, List.range_succ, nf, show ints ((q : Int) :: s) = [.v (.int .i64 q)] :: ints s from rfl]
          · simp [go_sem, List.take_of_length_le, ren, ren1, ren2, okr, okr1, okr2, ChkN, BlkN, List.range_succ, nf, show ints ((q : Int) :: s) = [.v (.int .i64 q)] :: ints s from rfl]
          · rfl
        · rw [if_neg hl0] at hV
          subst hV
          have hne : (lq != 0) = true := by simp [hl0]
          (refine Holds.any mixed ?_ ?_; (· kernel_rfl))
          refine wkdc (And.intro @hql (And.intro @hqq (And.intro (@get_E _ _ _ _ hqq) (And.intro @ruleC.eq_1 (And.intro @grammarC.eq_1 (And.intro @hne (@hl0))))))) _ ?_
          refine OutF.cov (Cov.niw (t := 4) 3 1 rfl) ?_
          refine OutF.mkn (xs := ?_) (nm [3]) ?_ ?_ ?_ ?_ ?_ (by first | exact .inr rfl | exact .inl rfl)
          rotate_left
          · simp [go_sem, List.take_of_length_le, niw, ints] <;> with_reducible rfl
          · simp [go_sem, List.take_of_length_le, ren, ren1, ren2, okr, okr1, okr2, ChkN, BlkN, List.range_succ, nf, niw, ints]
          · simp [go_sem, List.take_of_length_le, ren, ren1, ren2, okr, okr1, okr2, ChkN, BlkN, List.range_succ, nf, niw, ints]
          · simp [go_sem, List.take_of_length_le, ren, ren1, ren2, okr, okr1, okr2, ChkN, BlkN, List.range_succ, nf, niw, ints]
          · rfl
      | t :: t2 :: P2, hP, hV =>
        simp only [resT] at hV
        subst hV
        have h1 : ((P2.length : Int) + 1 + 1 != 1) = true := by simp [bne]; omega
        have h2 : ¬ (P2.length : Int) + 1 + 1 = 1 := by omega
        have h3 : ((P2.length : Int) + 1 + 1 == 1) = false := by rw [beq_eq_false_iff_ne]; omega
        refine wkdsc0 _ ?_
        (refine Holds.any mixed ?_ ?_; (· kernel_rfl))
        refine wkdc (And.intro @h1 (And.intro @h2 (@h3))) _ ?_
        refine OutF.cov (Cov.niw (t := 4) 3 1 rfl) ?_
        refine OutF.mkn (xs := ?_) (nm [2]) ?_ ?_ ?_ ?_ ?_ (by first | exact .inr rfl | exact .inl rfl)
        rotate_left
        · simp [go_sem, List.take_of_length_le, niw, ints] <;> with_reducible rfl
        · simp [go_sem, List.take_of_length_le, ren, ren1, ren2, okr, okr1, okr2, ChkN, BlkN, List.range_succ, nf, niw, ints]
        · simp [go_sem, List.take_of_length_le, ren, ren1, ren2, okr, okr1, okr2, ChkN, BlkN, List.range_succ, nf, niw, ints]
        · simp [go_sem, List.take_of_length_le, ren, ren1, ren2, okr, okr1, okr2, ChkN, BlkN, List.range_succ, nf, niw, ints]
        · rfl
end Go.Proofs.Ytkolhcoeifghpaa.En
end
section
namespace Go.Proofs.Ytkolhcoeifghpaa.En
open Go.RowKit
set_option linter.unusedSimpArgs false
set_option linter.unusedVariables false
set_option maxHeartbeats 8000000
theorem lawTR (g : GrammarT) (rules : List Int) (hxg : g.2.2.length < 8796093022208) (hsg : ∀ e ∈ g.2.2, e.2.length < 35184372088832) (hcrules : rules.length < 35184372088832) : Pure Try.prog 3 [.ag (grammarC g), .im 1 (ints rules)] (.v (.bool true)) := by
  refine Pure.mk (rs := [.tmp 4]) (nt := 117) Try.func3 (by kernel_rfl) rfl rfl rfl (by simp) ?_
  simp only [sl, grammarC]
  have hsg' : ∀ e ∈ g.2.2, e.2.length < 4611686018427387904 := fun e he => by have := hsg e he; omega
  have ctg := toGrammar g hxg hsg
  have ceg := eqGrammar g g hxg hsg
  have cog := toGrammarO g hxg hsg
  have ctrules := toIntS rules hcrules
  have cerules := eqIntS rules rules (by omega)
  have corules := toIntSO rules hcrules
  have hig := szGrammarF_in (n := 1048576) (x := g) (by omega)
  have czg := szGrammar g 1048576 (by omega) (by omega) hxg hsg
  have p1 := specTR g rules (by omega) hsg' (by omega)
  have p2 := implTR g rules (by omega) hsg' (by omega)
  try simp only [decide_true] at ceg cerules
  have hv := treeRV_len g rules
  generalize treeRV g rules = v at p1 p2 hv
  have p3 := p2.pure (r' := .tu [.im 1 (ints v.1), .v (.bool v.2)]) (Fz.tuL (.cons (Fz.all rfl rfl (by simp) rfl (ints_cl _)) (.cons (.v _) .nil)))
  refine wkd0 _ ?_
  refine Holds.cond rfl (fun h => ?_) (fun h => ?_)
  · refine wkd0 _ ?_
    refine Out.mk (xs := ?_) ?_ ?_ (by first | exact .inr rfl | exact .inl rfl)
    rotate_left
    · simp [go_sem, List.take_of_length_le] <;> with_reducible rfl
    exact .v _
  have hqrules : rules.length ≤ 1048576 := by simp at h; omega
  refine wkd0 _ ?_
  first | refine GS.cc (czg) rfl rfl rfl rfl (by simp [go_sem, List.take_of_length_le, grammarC] <;> with_reducible rfl) rfl (by simp [go_sem, List.take_of_length_le, grammarC]) ?_ | refine Gd.cc (czg) rfl rfl rfl rfl (by simp [go_sem, List.take_of_length_le, grammarC] <;> with_reducible rfl) rfl (by simp [go_sem, List.take_of_length_le, grammarC]) ?_
  refine wkd0 _ ?_
  refine Holds.cond rfl (fun h => ?_) (fun h => ?_)
  · refine wkd0 _ ?_
    refine Out.mk (xs := ?_) ?_ ?_ (by first | exact .inr rfl | exact .inl rfl)
    rotate_left
    · simp [go_sem, List.take_of_length_le] <;> with_reducible rfl
    exact .v _
  have hqg := szGrammar_wt (show 0 ≤ szGrammarF (1048576) g by simp at h; omega)
  refine wkd (@grammarC.eq_1) _ ?_
  first | refine GS.cc (ctg) rfl rfl rfl rfl (by simp [go_sem, List.take_of_length_le, grammarC] <;> with_reducible rfl) rfl (by simp [go_sem, List.take_of_length_le, grammarC]) ?_ | refine Gd.cc (ctg) rfl rfl rfl rfl (by simp [go_sem, List.take_of_length_le, grammarC] <;> with_reducible rfl) rfl (by simp [go_sem, List.take_of_length_le, grammarC]) ?_
  refine wkd (@grammarC.eq_1) _ ?_
  first | refine GS.cc (ctrules) rfl rfl rfl rfl (by simp [go_sem, List.take_of_length_le, grammarC] <;> with_reducible rfl) rfl (by simp [go_sem, List.take_of_length_le, grammarC]) ?_ | refine Gd.cc (ctrules) rfl rfl rfl rfl (by simp [go_sem, List.take_of_length_le, grammarC] <;> with_reducible rfl) rfl (by simp [go_sem, List.take_of_length_le, grammarC]) ?_
  refine wkd (@grammarC.eq_1) _ ?_
  first | refine GS.cc (p1) rfl rfl rfl rfl (by simp [go_sem, List.take_of_length_le, grammarC] <;> with_reducible rfl) rfl (by simp [go_sem, List.take_of_length_le, grammarC]) ?_ | refine Gd.cc (p1) rfl rfl rfl rfl (by simp [go_sem, List.take_of_length_le, grammarC] <;> with_reducible rfl) rfl (by simp [go_sem, List.take_of_length_le, grammarC]) ?_
  refine wkd (@grammarC.eq_1) _ ?_
  refine GS.fnn [] (cog) rfl rfl rfl rfl (by simp [go_sem, List.take_of_length_le, ren, ren1, ren2, okr, okr1, okr2, ChkN, BlkN, List.range_succ, nf, grammarC] <;> with_reducible rfl) (by simp [go_sem, List.take_of_length_le, ren, ren1, ren2, okr, okr1, okr2, ChkN, BlkN, List.range_succ, nf, grammarC]) (by simp [go_sem, List.take_of_length_le, ren, ren1, ren2, okr, okr1, okr2, ChkN, BlkN, List.range_succ, nf, grammarC]) (by simp [List.range_succ, lb]) (ChkN.toB (by simp [go_sem, List.take_of_length_le, ren, ren1, ren2, okr, okr1, okr2, ChkN, BlkN, List.range_succ, nf, grammarC])) (by decide) (by simp) rfl (.nfr (by simp) .nil) (by simp [go_sem, List.take_of_length_le, ren, ren1, ren2, okr, okr1, okr2, ChkN, BlkN, List.range_succ, nf, grammarC] <;> with_reducible rfl) ?_
  refine wkd (@grammarC.eq_1) _ ?_
  refine GS.fnn [] (corules) rfl rfl rfl rfl (by simp [go_sem, List.take_of_length_le, ren, ren1, ren2, okr, okr1, okr2, ChkN, BlkN, List.range_succ, nf, grammarC] <;> with_reducible rfl) (by simp [go_sem, List.take_of_length_le, ren, ren1, ren2, okr, okr1, okr2, ChkN, BlkN, List.range_succ, nf, grammarC]) (by simp [go_sem, List.take_of_length_le, ren, ren1, ren2, okr, okr1, okr2, ChkN, BlkN, List.range_succ, nf, grammarC]) (by simp [List.range_succ, lb]) (ChkN.toB (by simp [go_sem, List.take_of_length_le, ren, ren1, ren2, okr, okr1, okr2, ChkN, BlkN, List.range_succ, nf, grammarC])) (by decide) (by simp) rfl (.nfr (by simp) .nil) (by simp [go_sem, List.take_of_length_le, ren, ren1, ren2, okr, okr1, okr2, ChkN, BlkN, List.range_succ, nf, grammarC] <;> with_reducible rfl) ?_
  refine wkd (@grammarC.eq_1) _ ?_
  refine GS.fnnd (p2) rfl rfl rfl rfl (by simp [go_sem, List.take_of_length_le, ren, ren1, ren2, okr, okr1, okr2, List.range_succ, nf, grammarC] <;> with_reducible rfl) (by exact (.cons (Fz.agL (.cons (.v _) (.cons (.v _) (.cons (fz_rulesO _ rfl rfl) .nil)))) (.cons (Fz.all rfl rfl (by simp) rfl (ints_cl _)) .nil))) (by simp) (by simp [go_sem, List.take_of_length_le, ren, ren1, ren2, okr, okr1, okr2, List.range_succ, nf, grammarC]) (by simp [go_sem, List.take_of_length_le, ren, ren1, ren2, okr, okr1, okr2, List.range_succ, nf, grammarC]) rfl (.nfr (by simp) (.nil)) (by simp [go_sem, List.take_of_length_le, ren, ren1, ren2, okr, okr1, okr2, List.range_succ, nf, grammarC] <;> with_reducible rfl) ?_
  have ceq := eqIntS v.1 v.1 (by omega)
  try simp only [decide_true] at ceq
  refine wkd0 _ ?_
  first | refine GS.cd (ceq) rfl rfl rfl rfl (by simp [go_sem, List.take_of_length_le] <;> with_reducible rfl) rfl (by exact (.cons (Fz.all rfl rfl (by simp) rfl (ints_cl _)) (.cons (.im _ _) .nil))) rfl ?_ | refine Gd.cd (ceq) rfl rfl rfl rfl (by simp [go_sem, List.take_of_length_le] <;> with_reducible rfl) rfl (by exact (.cons (Fz.all rfl rfl (by simp) rfl (ints_cl _)) (.cons (.im _ _) .nil))) rfl ?_
  clear ceq
  refine wkd0 _ ?_
  refine Holds.cond rfl (fun h => ?_) (fun h => ?_)
  · cases h
  refine wkd0 _ ?_
  first | refine GS.cc (ctg) rfl rfl rfl rfl (by simp [go_sem, List.take_of_length_le, grammarC] <;> with_reducible rfl) rfl (by simp [go_sem, List.take_of_length_le, grammarC]) ?_ | refine Gd.cc (ctg) rfl rfl rfl rfl (by simp [go_sem, List.take_of_length_le, grammarC] <;> with_reducible rfl) rfl (by simp [go_sem, List.take_of_length_le, grammarC]) ?_
  refine wkd (@grammarC.eq_1) _ ?_
  first | refine GS.cd (ceg) rfl rfl rfl rfl (by simp [go_sem, List.take_of_length_le, grammarC] <;> with_reducible rfl) rfl (by exact (.cons (Fz.agL (.cons (.v _) (.cons (.v _) (.cons (fz_rulesO _ rfl rfl) .nil)))) (.cons (Fz.cl rfl) .nil))) rfl ?_ | refine Gd.cd (ceg) rfl rfl rfl rfl (by simp [go_sem, List.take_of_length_le, grammarC] <;> with_reducible rfl) rfl (by exact (.cons (Fz.agL (.cons (.v _) (.cons (.v _) (.cons (fz_rulesO _ rfl rfl) .nil)))) (.cons (Fz.cl rfl) .nil))) rfl ?_
  refine wkd0 _ ?_
  refine Holds.cond rfl (fun h => ?_) (fun h => ?_)
  · cases h
  refine wkd0 _ ?_
  first | refine GS.cc (ctrules) rfl rfl rfl rfl (by simp [go_sem, List.take_of_length_le, grammarC] <;> with_reducible rfl) rfl (by simp [go_sem, List.take_of_length_le, grammarC]) ?_ | refine Gd.cc (ctrules) rfl rfl rfl rfl (by simp [go_sem, List.take_of_length_le, grammarC] <;> with_reducible rfl) rfl (by simp [go_sem, List.take_of_length_le, grammarC]) ?_
  refine wkd (@grammarC.eq_1) _ ?_
  first | refine GS.cd (cerules) rfl rfl rfl rfl (by simp [go_sem, List.take_of_length_le, grammarC] <;> with_reducible rfl) rfl (by exact (.cons (Fz.all rfl rfl (by simp) rfl (ints_cl _)) (.cons (.im _ _) .nil))) rfl ?_ | refine Gd.cd (cerules) rfl rfl rfl rfl (by simp [go_sem, List.take_of_length_le, grammarC] <;> with_reducible rfl) rfl (by exact (.cons (Fz.all rfl rfl (by simp) rfl (ints_cl _)) (.cons (.im _ _) .nil))) rfl ?_
  refine wkd0 _ ?_
  refine Holds.cond rfl (fun h => ?_) (fun h => ?_)
  · cases h
  have cmg := markGrammar g ((1 : Int)) (by omega) (by omega) (by omega)
  refine wkd0 _ ?_
  refine GS.fnn [1] (cmg) rfl rfl rfl rfl (by simp [go_sem, List.take_of_length_le, ren, ren1, ren2, okr, okr1, okr2, ChkN, BlkN, List.range_succ, nf] <;> with_reducible rfl) (by simp [go_sem, List.take_of_length_le, ren, ren1, ren2, okr, okr1, okr2, ChkN, BlkN, List.range_succ, nf]) (by simp [go_sem, List.take_of_length_le, ren, ren1, ren2, okr, okr1, okr2, ChkN, BlkN, List.range_succ, nf]) (by simp [List.range_succ, lb]) (ChkN.toB (by simp [go_sem, List.take_of_length_le, ren, ren1, ren2, okr, okr1, okr2, ChkN, BlkN, List.range_succ, nf])) (by decide) (by simp) rfl (.nfr (by simp) (.nil)) (by simp [go_sem, List.take_of_length_le, ren, ren1, ren2, okr, okr1, okr2, ChkN, BlkN, List.range_succ, nf] <;> with_reducible rfl) ?_
  have cmrules := markIntS rules ((1 : Int) + (wGrammar g : Nat)) (by omega) (by simp; omega)
  simp only [wtL_w1] at cmrules
  refine wkd0 _ ?_
  refine GS.fnn [3] (cmrules) rfl rfl rfl rfl (by simp [go_sem, List.take_of_length_le, ren, ren1, ren2, okr, okr1, okr2, ChkN, BlkN, List.range_succ, nf] <;> with_reducible rfl) (by simp [go_sem, List.take_of_length_le, ren, ren1, ren2, okr, okr1, okr2, ChkN, BlkN, List.range_succ, nf]) (by simp [go_sem, List.take_of_length_le, ren, ren1, ren2, okr, okr1, okr2, ChkN, BlkN, List.range_succ, nf]) (by simp [List.range_succ, lb]) (ChkN.toB (by simp [go_sem, List.take_of_length_le, ren, ren1, ren2, okr, okr1, okr2, ChkN, BlkN, List.range_succ, nf])) (by decide) (by simp) rfl (.nfr (by simp) (.nil)) (by simp [go_sem, List.take_of_length_le, ren, ren1, ren2, okr, okr1, okr2, ChkN, BlkN, List.range_succ, nf] <;> with_reducible rfl) ?_
  have hk0 : ¬ ((1 : Int) + (wGrammar g : Nat) + (rules.length : Nat) < 0) := by omega
  have ceq := eqIntS v.1 v.1 (by omega)
  try simp only [decide_true] at ceq
  refine wkd (@hk0) _ ?_
  first | refine GS.cd (ceq) rfl rfl rfl rfl (by simp [go_sem, List.take_of_length_le, hk0] <;> with_reducible rfl) rfl (by exact (.cons (Fz.all rfl rfl (by simp) rfl (ints_cl _)) (.cons (.im _ _) .nil))) rfl ?_ | refine Gd.cd (ceq) rfl rfl rfl rfl (by simp [go_sem, List.take_of_length_le, hk0] <;> with_reducible rfl) rfl (by exact (.cons (Fz.all rfl rfl (by simp) rfl (ints_cl _)) (.cons (.im _ _) .nil))) rfl ?_
  clear ceq
  refine wkd (@hk0) _ ?_
  refine Holds.cond rfl (fun h => ?_) (fun h => ?_)
  · cases h
  have cm := markIntS v.1 ((1 : Int)) (by omega) (by simp; omega)
  have ch4 := heldIntS v.1 ((1 : Int)) (by omega) (by simp; omega)
  try simp only [wtL_w1] at cm ch4
  refine wkd0 _ ?_
  refine GS.fnn [4] (cm) rfl rfl rfl rfl (by simp [go_sem, List.take_of_length_le, ren, ren1, ren2, okr, okr1, okr2, ChkN, BlkN, List.range_succ, nf] <;> with_reducible rfl) (by simp [go_sem, List.take_of_length_le, ren, ren1, ren2, okr, okr1, okr2, ChkN, BlkN, List.range_succ, nf]) (by simp [go_sem, List.take_of_length_le, ren, ren1, ren2, okr, okr1, okr2, ChkN, BlkN, List.range_succ, nf]) (by simp [List.range_succ, lb]) (ChkN.toB (by simp [go_sem, List.take_of_length_le, ren, ren1, ren2, okr, okr1, okr2, ChkN, BlkN, List.range_succ, nf])) (by decide) (by simp) rfl (.nfr (by simp) .nil) (by simp [go_sem, List.take_of_length_le, ren, ren1, ren2, okr, okr1, okr2, ChkN, BlkN, List.range_succ, nf] <;> with_reducible rfl) ?_
  clear cm
  refine wkd0 _ ?_
  first | refine GS.cd (ch4) rfl rfl rfl rfl (by simp [go_sem, List.take_of_length_le] <;> with_reducible rfl) rfl (by exact (.cons (Fz.all rfl rfl (by simp) rfl (ints_cl _)) (.cons (.v _) .nil))) rfl ?_ | refine Gd.cd (ch4) rfl rfl rfl rfl (by simp [go_sem, List.take_of_length_le] <;> with_reducible rfl) rfl (by exact (.cons (Fz.all rfl rfl (by simp) rfl (ints_cl _)) (.cons (.v _) .nil))) rfl ?_
  have hk4 : ¬ ((1 : Int) + (v.1.length : Nat) < 0) := by omega
  refine wkd (@hk4) _ ?_
  refine Holds.cond rfl (fun h => ?_) (fun h => ?_)
  · cases h
  refine wkd0 _ ?_
  refine Holds.cond rfl (fun h => ?_) (fun h => ?_)
  · cases h
  refine wkd (@grammarC.eq_1) _ ?_
  first | refine GS.cc (ctg) rfl rfl rfl rfl (by simp [go_sem, List.take_of_length_le, grammarC] <;> with_reducible rfl) rfl (by simp [go_sem, List.take_of_length_le, grammarC]) ?_ | refine Gd.cc (ctg) rfl rfl rfl rfl (by simp [go_sem, List.take_of_length_le, grammarC] <;> with_reducible rfl) rfl (by simp [go_sem, List.take_of_length_le, grammarC]) ?_
  refine wkd (@grammarC.eq_1) _ ?_
  first | refine GS.cc (ctrules) rfl rfl rfl rfl (by simp [go_sem, List.take_of_length_le, grammarC] <;> with_reducible rfl) rfl (by simp [go_sem, List.take_of_length_le, grammarC]) ?_ | refine Gd.cc (ctrules) rfl rfl rfl rfl (by simp [go_sem, List.take_of_length_le, grammarC] <;> with_reducible rfl) rfl (by simp [go_sem, List.take_of_length_le, grammarC]) ?_
  refine wkd (@grammarC.eq_1) _ ?_
  first | refine GS.cc (p3) rfl rfl rfl rfl (by simp [go_sem, List.take_of_length_le, grammarC] <;> with_reducible rfl) rfl (by simp [go_sem, List.take_of_length_le, grammarC]) ?_ | refine Gd.cc (p3) rfl rfl rfl rfl (by simp [go_sem, List.take_of_length_le, grammarC] <;> with_reducible rfl) rfl (by simp [go_sem, List.take_of_length_le, grammarC]) ?_
  have ceq := eqIntS v.1 v.1 (by omega)
  try simp only [decide_true] at ceq
  refine wkd0 _ ?_
  first | refine GS.cc (ceq) rfl rfl rfl rfl (by simp [go_sem, List.take_of_length_le] <;> with_reducible rfl) rfl (by simp [go_sem, List.take_of_length_le]) ?_ | refine Gd.cc (ceq) rfl rfl rfl rfl (by simp [go_sem, List.take_of_length_le] <;> with_reducible rfl) rfl (by simp [go_sem, List.take_of_length_le]) ?_
  clear ceq
  refine wkd0 _ ?_
  refine Holds.cond rfl (fun h => ?_) (fun h => ?_)
  · cases h
  refine wkd0 _ ?_
  first | refine GS.cd (ch4) rfl rfl rfl rfl (by simp [go_sem, List.take_of_length_le] <;> with_reducible rfl) rfl (by exact (.cons (Fz.all rfl rfl (by simp) rfl (ints_cl _)) (.cons (.v _) .nil))) rfl ?_ | refine Gd.cd (ch4) rfl rfl rfl rfl (by simp [go_sem, List.take_of_length_le] <;> with_reducible rfl) rfl (by exact (.cons (Fz.all rfl rfl (by simp) rfl (ints_cl _)) (.cons (.v _) .nil))) rfl ?_
  have hk4 : ¬ ((1 : Int) + (v.1.length : Nat) < 0) := by omega
  refine wkd (@hk4) _ ?_
  refine Holds.cond rfl (fun h => ?_) (fun h => ?_)
  · cases h
  refine wkd0 _ ?_
  refine Holds.cond rfl (fun h => ?_) (fun h => ?_)
  · cases h
  refine wkd0 _ ?_
  refine Out.mk (xs := ?_) ?_ ?_ (by first | exact .inr rfl | exact .inl rfl)
  rotate_left
  · simp [go_sem, List.take_of_length_le] <;> with_reducible rfl
  exact .v _
end Go.Proofs.Ytkolhcoeifghpaa.En
end
