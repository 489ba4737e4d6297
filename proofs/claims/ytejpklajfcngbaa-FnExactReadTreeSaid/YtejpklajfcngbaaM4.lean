/- Own words and walks of this claim, part 4: what the program's functions compute, for all the arguments that are named; no further conditions. -/
import Derived.Test.YtejpklajfcngbaaM2
import Derived.Shelf.Small.Strs
import Derived.Test.YtejpklajfcngbaaProg
import Derived.Test.YtejpklajfcngbaaM3
section
namespace Go.Proofs.Ytejpklajfcngbaa.En
open Go.RowKit Go.Shelf
set_option linter.unusedSimpArgs false
set_option linter.unusedVariables false
set_option maxHeartbeats 4000000
theorem bs_get (s : List UInt8) (i : Nat) : (bs s)[i]? = s[i]? := by
  have h : (bs s).size = s.length := bs_size s
  by_cases hi : i < s.length
  · rw [getElem?_pos (bs s) i (by rw [h]; exact hi), List.getElem?_eq_getElem hi]
    rfl
  · rw [getElem?_neg (bs s) i (by rw [h]; exact hi), List.getElem?_eq_none (by omega)]
def letN (k : Nat) : Int := if k = 0 then 83 else (64 : Int) + k
theorem six_get {k : Nat} (h : k < 6) : (ByteArray.mk #[83, 65, 66, 67, 68, 69])[k]? = some (UInt8.ofNat (letN k).toNat) := by
  have : k = 0 ∨ k = 1 ∨ k = 2 ∨ k = 3 ∨ k = 4 ∨ k = 5 := by omega
  rcases this with rfl | rfl | rfl | rfl | rfl | rfl <;> rfl
theorem six_val {k : Nat} (h : k < 6) : ((UInt8.ofNat (letN k).toNat).toNat : Int) = letN k := by
  have : k = 0 ∨ k = 1 ∨ k = 2 ∨ k = 3 ∨ k = 4 ∨ k = 5 := by omega
  rcases this with rfl | rfl | rfl | rfl | rfl | rfl <;> rfl
theorem four_get {k : Nat} (h : k < 4) : (ByteArray.mk #[97, 98, 99, 100])[k]? = some (UInt8.ofNat (97 + k)) := by
  have : k = 0 ∨ k = 1 ∨ k = 2 ∨ k = 3 := by omega
  rcases this with rfl | rfl | rfl | rfl <;> rfl
theorem four_val {k : Nat} (h : k < 4) : ((UInt8.ofNat (97 + k)).toNat : Int) = 97 + k := by
  have : k = 0 ∨ k = 1 ∨ k = 2 ∨ k = 3 := by omega
  rcases this with rfl | rfl | rfl | rfl <;> rfl
theorem nonOf_let {b : Int} {k : Nat} (h : k < 6) : nonOf b = (k : Int) ↔ letN k = b := by
  have : k = 0 ∨ k = 1 ∨ k = 2 ∨ k = 3 ∨ k = 4 ∨ k = 5 := by omega
  rcases this with rfl | rfl | rfl | rfl | rfl | rfl <;> (unfold nonOf letN; repeat' split) <;> omega
def optB (x : Option Int) : Int × Bool := match x with | some n => (n, true) | none => (0, false)
theorem l2SymN (g : GrammarT) (hg : OkG g) (b : Int) : Pure Try.prog 76 [.v (.int .i64 g.1), .v (.int .i64 0), .v (.int .u8 b)] (.tu [.v (.int .i64 (optB (symN g b)).1), .v (.bool (optB (symN g b)).2)]) := by
  have hn0 := hg.n0
  have hn1 := hg.n1
  obtain ⟨V, hV⟩ : ∃ V, V = optB (symN g b) := ⟨_, rfl⟩
  rw [← hV]
  refine Pure.mk (rs := [.tmp 6, .tmp 7]) (nt := 31) Try.func76 (by kernel_rfl) rfl rfl rfl (by simp) ?_
  simp only [sl]
  refine wkc0 _ ?_
  refine Holds.loop (ι := Nat) (fun k => ⟨[(0, .v (.int .i64 g.1)), (1, .v (.int .i64 0)), (2, .v (.int .u8 b)), (8, .v (.int .i64 k))], [], 0⟩) (fun k => (k : Int) ≤ g.1 ∧ ∀ j : Nat, j < k → letN j ≠ b) (fun k => g.1.toNat - k) 0 ⟨by omega, fun j hj => absurd hj (Nat.not_lt_zero j)⟩ ?_ ?_
  · exact Cov.ofn (id) rfl (by simp [go_sem, List.take_of_length_le, ren, ren1, ren2, okr, okr1, okr2, ChkT, ChkN, BlkN, nf]) (by simp [go_sem, List.take_of_length_le, ren, ren1, ren2, okr, okr1, okr2, ChkT, ChkN, BlkN, nf])
  rintro k ⟨hk, hno⟩
  have stepk : wr64 ((k : Int) + 1) = ((k + 1 : Nat) : Int) := wr64_id (by omega) (by omega)
  refine wkc0 _ ?_
  refine Holds.cond rfl (fun h => ?_) (fun h => ?_)
  · have hkl : (k : Int) < g.1 := by simpa using h
    have hk6 : k < 6 := by omega
    have h6 := six_get hk6
    have h6v := six_val hk6
    generalize UInt8.ofNat (letN k).toNat = c at h6 h6v
    refine wkc (And.intro @h6 (@h6v)) _ ?_
    by_cases e : letN k = b
    · have eb : (letN k == b) = true := by simp [e]
      have : V = ((k : Int), true) := by
        rw [hV, symN, if_pos (by rw [(nonOf_let hk6).2 e]; exact hkl), (nonOf_let hk6).2 e]; rfl
      subst this
      refine wkc (And.intro @eb (@e)) _ ?_
      refine Out.mk (xs := ?_) ?_ ?_ (by first | exact .inr rfl | exact .inl rfl)
      rotate_left
      · simp [go_sem, List.take_of_length_le] <;> with_reducible rfl
      exact Fz.tuL (.cons (.v _) (.cons (.v _) .nil))
    · have eb : (letN k == b) = false := by simp [e]
      refine wkc (And.intro @eb (@e)) _ ?_
      refine ⟨k + 1, ⟨by omega, fun j hj => ?_⟩, by omega, ?_⟩
      · by_cases ej : j = k
        · subst ej; exact e
        · exact hno j (by omega)
      rw [stepk]
      exact Cov.ofn (id) rfl (by simp [go_sem, List.take_of_length_le, ren, ren1, ren2, okr, okr1, okr2, ChkT, ChkN, BlkN, nf]) (by simp [go_sem, List.take_of_length_le, ren, ren1, ren2, okr, okr1, okr2, ChkT, ChkN, BlkN, nf])
  · have hkn : (k : Int) = g.1 := by
      have : ¬ (k : Int) < g.1 := by simpa using h
      omega
    have : V = (0, false) := by
      rw [hV, symN, if_neg (fun hlt => ?_)]
      · rfl
      · have h0 : 0 ≤ nonOf b := by unfold nonOf; repeat' split <;> omega
        have hj : (nonOf b).toNat < k := by omega
        exact hno _ hj ((nonOf_let (k := (nonOf b).toNat) (by omega)).1 (by omega))
    subst this
    refine wkc0 _ ?_
    refine Holds.loop (ι := Unit) (fun _ => ⟨[(0, .v (.int .i64 g.1)), (1, .v (.int .i64 0)), (2, .v (.int .u8 b)), (9, .v (.int .i64 0))], [], 0⟩) (fun _ => True) (fun _ => 0) () trivial ?_ ?_
    · exact Cov.ofn (id) rfl (by simp [go_sem, List.take_of_length_le, ren, ren1, ren2, okr, okr1, okr2, ChkT, ChkN, BlkN, nf]) (by simp [go_sem, List.take_of_length_le, ren, ren1, ren2, okr, okr1, okr2, ChkT, ChkN, BlkN, nf])
    intro _ _
    refine wkc0 _ ?_
    refine Out.mk (xs := ?_) ?_ ?_ (by first | exact .inr rfl | exact .inl rfl)
    rotate_left
    · simp [go_sem, List.take_of_length_le] <;> with_reducible rfl
    exact Fz.tuL (.cons (.v _) (.cons (.v _) .nil))
theorem l2SymT (g : GrammarT) (hg : OkG g) (b : Int) : Pure Try.prog 76 [.v (.int .i64 0), .v (.int .i64 g.2.1), .v (.int .u8 b)] (.tu [.v (.int .i64 (optB (symT g b)).1), .v (.bool (optB (symT g b)).2)]) := by
  have hn0 := hg.t0
  have hn1 := hg.t1
  obtain ⟨V, hV⟩ : ∃ V, V = optB (symT g b) := ⟨_, rfl⟩
  rw [← hV]
  refine Pure.mk (rs := [.tmp 6, .tmp 7]) (nt := 31) Try.func76 (by kernel_rfl) rfl rfl rfl (by simp) ?_
  simp only [sl]
  refine wkc0 _ ?_
  refine Holds.loop (ι := Unit) (fun _ => ⟨[(0, .v (.int .i64 0)), (1, .v (.int .i64 g.2.1)), (2, .v (.int .u8 b)), (8, .v (.int .i64 0))], [], 0⟩) (fun _ => True) (fun _ => 0) () trivial ?_ ?_
  · exact Cov.ofn (id) rfl (by simp [go_sem, List.take_of_length_le, ren, ren1, ren2, okr, okr1, okr2, ChkT, ChkN, BlkN, nf]) (by simp [go_sem, List.take_of_length_le, ren, ren1, ren2, okr, okr1, okr2, ChkT, ChkN, BlkN, nf])
  intro _ _
  refine wkc0 _ ?_
  refine Holds.loop (ι := Nat) (fun k => ⟨[(0, .v (.int .i64 0)), (1, .v (.int .i64 g.2.1)), (2, .v (.int .u8 b)), (9, .v (.int .i64 k))], [], 0⟩) (fun k => (k : Int) ≤ g.2.1 ∧ ∀ j : Nat, j < k → (97 : Int) + j ≠ b) (fun k => g.2.1.toNat - k) 0 ⟨by omega, fun j hj => absurd hj (Nat.not_lt_zero j)⟩ ?_ ?_
  · exact Cov.ofn (id) rfl (by simp [go_sem, List.take_of_length_le, ren, ren1, ren2, okr, okr1, okr2, ChkT, ChkN, BlkN, nf]) (by simp [go_sem, List.take_of_length_le, ren, ren1, ren2, okr, okr1, okr2, ChkT, ChkN, BlkN, nf])
  rintro k ⟨hk, hno⟩
  have stepk : wr64 ((k : Int) + 1) = ((k + 1 : Nat) : Int) := wr64_id (by omega) (by omega)
  refine wkc0 _ ?_
  refine Holds.cond rfl (fun h => ?_) (fun h => ?_)
  · have hkl : (k : Int) < g.2.1 := by simpa using h
    have hk6 : k < 4 := by omega
    have h6 := four_get hk6
    have h6v := four_val hk6
    generalize UInt8.ofNat (97 + k) = c at h6 h6v
    have hw1 : wr64 (-1 - (k : Int)) = -1 - (k : Int) := wr64_id (by omega) (by omega)
    refine wkc (And.intro @h6 (@h6v)) _ ?_
    by_cases e : (97 : Int) + k = b
    · have eb : ((97 : Int) + k == b) = true := by simp [e]
      have : V = (-1 - (k : Int), true) := by
        rw [hV, symT, if_pos ⟨by omega, by omega⟩, show 96 - b = -1 - (k : Int) by omega]; rfl
      subst this
      refine wkc (And.intro @eb (And.intro @e (@hw1))) _ ?_
      refine Out.mk (xs := ?_) ?_ ?_ (by first | exact .inr rfl | exact .inl rfl)
      rotate_left
      · simp [go_sem, List.take_of_length_le] <;> with_reducible rfl
      exact Fz.tuL (.cons (.v _) (.cons (.v _) .nil))
    · have eb : ((97 : Int) + k == b) = false := by simp [e]
      refine wkc (And.intro @eb (@e)) _ ?_
      refine ⟨k + 1, ⟨by omega, fun j hj => ?_⟩, by omega, ?_⟩
      · by_cases ej : j = k
        · subst ej; exact e
        · exact hno j (by omega)
      rw [stepk]
      exact Cov.ofn (id) rfl (by simp [go_sem, List.take_of_length_le, ren, ren1, ren2, okr, okr1, okr2, ChkT, ChkN, BlkN, nf]) (by simp [go_sem, List.take_of_length_le, ren, ren1, ren2, okr, okr1, okr2, ChkT, ChkN, BlkN, nf])
  · have hkn : (k : Int) = g.2.1 := by
      have : ¬ (k : Int) < g.2.1 := by simpa using h
      omega
    have : V = (0, false) := by
      rw [hV, symT, if_neg (fun hlt => ?_)]
      · rfl
      · exact hno (b - 97).toNat (by omega) (by omega)
    subst this
    refine wkc0 _ ?_
    refine Out.mk (xs := ?_) ?_ ?_ (by first | exact .inr rfl | exact .inl rfl)
    rotate_left
    · simp [go_sem, List.take_of_length_le] <;> with_reducible rfl
    exact Fz.tuL (.cons (.v _) (.cons (.v _) .nil))
end Go.Proofs.Ytejpklajfcngbaa.En
end
section
namespace Go.Proofs.Ytejpklajfcngbaa.En
open Go.RowKit Go.Shelf
set_option linter.unusedSimpArgs false
set_option linter.unusedVariables false
set_option maxHeartbeats 4000000
def indexByteL_ren : Go.Shelf.Ren := ⟨fun | 137 => 116 | 217 => 148 | 266 => 161 | n => n, fun | 9 => 9 | 5 => 5 | 3 => 3 | n => n, fun n => n⟩
theorem indexByteL : Go.Proofs.Lays.n137 Try.prog indexByteL_ren where
  mixed := by kernel_rfl
  f137 := Try.func116.trans (congrArg some (by kernel_rfl))
  f217 := Try.func148.trans (congrArg some (by kernel_rfl))
  f266 := Try.func161.trans (congrArg some (by kernel_rfl))
  t3 := Try.underlying3
  a3 := Try.isAgg3
  z3 := Try.sizeOf3
  v3 := Try.zeroValue3
  t5 := Try.underlying5
  a5 := Try.isAgg5
  z5 := Try.sizeOf5
  v5 := Try.zeroValue5
  t9 := Try.underlying9
  a9 := Try.isAgg9
  z9 := Try.sizeOf9
  v9 := Try.zeroValue9

theorem indexByte6 (b : UInt8) : Lib.indexByte [83, 65, 66, 67, 68, 69] b = if nonOf b.toNat = 9 then -1 else nonOf b.toNat := by
  have key : ∀ n : UInt8, Lib.indexByte [83, 65, 66, 67, 68, 69] n = if nonOf n.toNat = 9 then -1 else nonOf n.toNat := by
    intro n
    by_cases h0 : n = 83
    · subst h0; rfl
    by_cases h1 : n = 65
    · subst h1; rfl
    by_cases h2 : n = 66
    · subst h2; rfl
    by_cases h3 : n = 67
    · subst h3; rfl
    by_cases h4 : n = 68
    · subst h4; rfl
    by_cases h5 : n = 69
    · subst h5; rfl
    have f : ∀ (k : UInt8) (z : Int), (k.toNat : Int) = z → n ≠ k → ¬ ((n.toNat : Int) = z) := fun k z hk hn h => hn (UInt8.toNat_inj.1 (by omega))
    have g0 := f 83 83 rfl h0
    have g1 := f 65 65 rfl h1
    have g2 := f 66 66 rfl h2
    have g3 := f 67 67 rfl h3
    have g4 := f 68 68 rfl h4
    have g5 := f 69 69 rfl h5
    have e : nonOf n.toNat = 9 := by
      unfold nonOf
      rw [if_neg g0, if_neg g1, if_neg g2, if_neg g3, if_neg g4, if_neg g5]
    rw [e, if_pos rfl]
    have ne : ∀ k : UInt8, n ≠ k → (k == n) = false := fun k h => by simp [Ne.symm h]
    simp [Lib.indexByte, ne _ h0, ne _ h1, ne _ h2, ne _ h3, ne _ h4, ne _ h5]
  exact key b
theorem indexByteS (b : UInt8) : Pure Try.prog 116 [.v (.string ⟨#[83, 65, 66, 67, 68, 69]⟩), .v (.int .u8 b.toNat)] (.v (.int .i64 (if nonOf b.toNat = 9 then -1 else nonOf b.toNat))) := by
  unfold Pure
  refine ⟨⟨_, Try.func116, by kernel_rfl, by kernel_rfl⟩, fun W S us hS hl hrep => ?_⟩
  obtain ⟨u, v, rfl⟩ : ∃ u v, us = [u, v] := by
    match us, hl with
    | [u, v], _ => exact ⟨u, v, rfl⟩
  obtain ⟨rfl, _⟩ := (hrep 0 _ u rfl rfl).v_inv
  obtain ⟨rfl, _⟩ := (hrep 1 _ v rfl rfl).v_inv
  have h := Any.strings_IndexByte indexByteL ⟨#[83, 65, 66, 67, 68, 69]⟩ (b.toNat : Int) W
  have hb : ((b.toNat : Int)).toNat.toUInt8 = b := by rw [Int.toNat_natCast]; exact UInt8.ofNat_toNat
  rw [hb] at h
  have e6 := indexByte6 b
  refine Calls.mono h fun e w' => ?_
  rintro ⟨rfl, rfl⟩
  refine ⟨_, rfl, BelowD.refl _ _, S, fun k hk => hk, fun k hk => ⟨hS k hk, .inl hk⟩, ?_⟩
  rw [show (⟨#[83, 65, 66, 67, 68, 69]⟩ : ByteArray).data.toList = [83, 65, 66, 67, 68, 69] from rfl, e6]
  exact .v _ rfl
end Go.Proofs.Ytejpklajfcngbaa.En
end
section
namespace Go.Proofs.Ytejpklajfcngbaa.En
open Go.RowKit
set_option linter.unusedSimpArgs false
set_option linter.unusedVariables false
section
attribute [local semireducible] G Gq Holds GS thenA
variable {P : Program} {nt : NT} {s : AS} {K : AS → Prop} {ops : Array Oper} {o : Oper} {l : List Oper} {i : Nat}
end
end Go.Proofs.Ytejpklajfcngbaa.En
end
section
namespace Go.Proofs.Ytejpklajfcngbaa.En
open Go.RowKit
set_option linter.unusedSimpArgs false
set_option linter.unusedVariables false
section
attribute [local semireducible] G Gq Holds GS thenA
variable {P : Program} {nt : NT} {s s' : AS} {K : AS → Prop} {ops : Array Oper} {l : List Oper}
def ownsN (n : Nat) : Option AV → Bool
  | some (.own k _ _ _) => k == n
  | _ => false
theorem own_slot {tm : List (Nat × AV)} {n : Nat} (h : (tm.any fun p => ownsN n (lk tm p.1)) = true) : ∃ t z off len, lk tm t = some (.own n z off len) := by
  rw [List.any_eq_true] at h
  obtain ⟨p, _, hp⟩ := h
  unfold ownsN at hp
  split at hp
  · rename_i k z off len e
    have : k = n := by simpa using hp
    subst this
    exact ⟨_, _, _, _, e⟩
  · cases hp
theorem Cov.short {q : Nat} (n m : Nat) {b : Blk} (hb : lb s.bl n = some b) (ho : (s.tm.any fun p => ownsN n (lk s.tm p.1)) = true) : Cov q { s with bl := st s.bl n { b with xs := b.xs.take m } } s :=
  fun _ _ _ S _ _ _ h => by
    obtain ⟨t, z, off, len, ht⟩ := own_slot ho
    obtain ⟨u, _, hu⟩ := h.slot t _ ht
    exact ⟨S, _, _, h.short hb hu⟩
theorem GS.short (n m : Nat) {b : Blk} (hb : lb s.bl n = some b) (hs : ({ s with bl := st s.bl n { b with xs := b.xs.take m } } : AS) = s') {p : Nat} (h : GS P nt ops K l p s') (ho : (s.tm.any fun p => ownsN n (lk s.tm p.1)) = true := by rfl) : GS P nt ops K l p s :=
  GS.cov (Cov.short n m hb ho) (by rw [hs]; exact h)
theorem Holds.short {c : Code} {Q : Exit → AS → Prop} (n m : Nat) {b : Blk} (hb : lb s.bl n = some b) (hs : ({ s with bl := st s.bl n { b with xs := b.xs.take m } } : AS) = s') (h : Holds P nt c Q s') (ho : (s.tm.any fun p => ownsN n (lk s.tm p.1)) = true := by rfl) : Holds P nt c Q s :=
  Holds.cov (Cov.short n m hb ho) (by rw [hs]; exact h)
end
end Go.Proofs.Ytejpklajfcngbaa.En
end
section
namespace Go.Proofs.Ytejpklajfcngbaa.En
open Go.RowKit
set_option linter.unusedSimpArgs false
set_option linter.unusedVariables false
variable {P : Program} {s : AS}
end Go.Proofs.Ytejpklajfcngbaa.En
end
section
namespace Go.Proofs.Ytejpklajfcngbaa.En
open Go.RowKit
set_option linter.unusedSimpArgs false
set_option linter.unusedVariables false
set_option maxHeartbeats 4000000
def mid {α : Type} (ys xs : List α) (i : Nat) : List α := ys.take i ++ xs.drop i
@[simp] theorem mid_zero {α : Type} (ys xs : List α) : mid ys xs 0 = xs := by simp [mid]
theorem mid_all {α : Type} {ys xs : List α} {n : Nat} (h1 : ys.length = n) (h2 : xs.length = n) : mid ys xs n = ys := by
  unfold mid; rw [List.take_of_length_le (by omega), List.drop_eq_nil_of_le (by omega), List.append_nil]
theorem mid_len {α : Type} {ys xs : List α} {i : Nat} (h : ys.length = xs.length) : (mid ys xs i).length = xs.length := by
  simp only [mid, List.length_append, List.length_take, List.length_drop]; omega
theorem mid_get {α : Type} {ys xs : List α} {i : Nat} (h : ys.length = xs.length) (hi : i < xs.length) : (mid ys xs i)[i]? = xs[i]? := by
  unfold mid
  rw [List.getElem?_append_right (by simp; omega), List.getElem?_drop]
  congr 1; simp; omega
theorem mid_set {α : Type} {ys xs : List α} {i : Nat} (h : ys.length = xs.length) (hi : i < xs.length) {y : α} (hy : ys[i]? = some y) : (mid ys xs i).set i y = mid ys xs (i + 1) := by
  unfold mid
  rw [List.set_append_right _ _ (by simp; omega), List.take_add_one, hy, List.drop_eq_getElem_cons hi]
  have e2 : i - (ys.take i).length = 0 := by simp; omega
  rw [e2, List.set_cons_zero]
  simp
def wtL {α : Type} (w : α → Nat) : List α → Nat
  | [] => 0
  | x :: xs => w x + wtL w xs
def mkL {α : Type} (w : α → Nat) (f : Int → α → α) : Int → List α → List α
  | _, [] => []
  | k, x :: xs => f k x :: mkL w f (k + w x) xs
@[simp] theorem mkL_len {α : Type} (w : α → Nat) (f : Int → α → α) : ∀ (xs : List α) (k : Int), (mkL w f k xs).length = xs.length
  | [], _ => rfl
  | x :: xs, k => by simp [mkL, mkL_len w f xs]
theorem mkL_get {α : Type} (w : α → Nat) (f : Int → α → α) : ∀ (xs : List α) (k : Int) (i : Nat), (mkL w f k xs)[i]? = (xs[i]?).map (f (k + wtL w (xs.take i)))
  | [], _, i => by simp [mkL]
  | x :: xs, k, 0 => by simp [mkL, wtL]
  | x :: xs, k, i + 1 => by
    simp only [mkL, List.getElem?_cons_succ, mkL_get w f xs, List.take_succ_cons, wtL]
    congr 2; omega
theorem wtL_next {α : Type} (w : α → Nat) : ∀ {xs : List α} {i : Nat} {x : α}, xs[i]? = some x → wtL w (xs.take (i + 1)) = wtL w (xs.take i) + w x
  | [], i, x, h => by simp at h
  | y :: ys, 0, x, h => by simp at h; subst h; simp [wtL]
  | y :: ys, i + 1, x, h => by
    simp only [List.getElem?_cons_succ] at h
    simp only [List.take_succ_cons, wtL, wtL_next w h]; omega
theorem wtL_le {α : Type} (w : α → Nat) : ∀ (xs : List α) (i : Nat), wtL w (xs.take i) ≤ wtL w xs
  | [], i => by simp
  | y :: ys, 0 => by simp [wtL]
  | y :: ys, i + 1 => by have := wtL_le w ys i; simp only [List.take_succ_cons, wtL]; omega
def w1 (_ : Int) : Nat := 1
def m1 (k : Int) (_ : Int) : Int := k
@[simp] theorem wtL_w1 : ∀ xs : List Int, wtL w1 xs = xs.length
  | [] => rfl
  | x :: xs => by simp [wtL, w1, wtL_w1 xs]; omega
def cnt (k : Int) (xs : List Int) : List Int := mkL w1 m1 k xs
@[simp] theorem cnt_len (k : Int) (xs : List Int) : (cnt k xs).length = xs.length := mkL_len _ _ _ _
theorem cnt_get (k : Int) (xs : List Int) {i : Nat} (h : i < xs.length) : (cnt k xs)[i]? = some (k + i) := by
  unfold cnt
  rw [mkL_get, List.getElem?_eq_getElem h, wtL_w1, List.length_take]
  simp [m1]; omega
@[simp] theorem cnt_gE (k : Int) (xs : List Int) (i : Nat) (h : i < (cnt k xs).length) : (cnt k xs)[i] = k + i := by
  have := cnt_get k xs (i := i) (by simpa using h)
  rw [List.getElem?_eq_getElem h] at this
  exact Option.some.inj this
@[simp] theorem onyR_ints (xs : List Int) : onyR (ints xs) := fun row hr x hx => by
  simp only [ints, List.mem_map] at hr
  obtain ⟨n, _, rfl⟩ := hr
  simp at hx; subst hx; exact .v _
theorem get_E {α : Type} {l : List α} {i : Nat} {a : α} (h : l[i]? = some a) : ∀ g : i < l.length, l[i] = a := fun g => by
  rw [List.getElem?_eq_getElem g] at h; exact Option.some.inj h
theorem set_get {α : Type} {l : List α} {i : Nat} {a b : α} (h : l[i]? = some b) : (l.set i a)[i]? = some a := by
  have := (List.getElem?_eq_some_iff.1 h).1
  simp [this]
theorem nfr_mid {ys xs : List (List AV)} {i : Nat} (h1 : nfr ys) (h2 : nfr xs) : nfr (mid ys xs i) := by
  unfold mid; rw [nfr_append]; exact ⟨h1.take i, h2.drop i⟩
theorem Fz.owI {bl : List (Nat × Blk)} {e : TypeId} {sz : Nat} {xs : List (List AV)} (h : ∀ row ∈ xs, ∀ x ∈ row, En.cl1 x = true) : Fz bl (.ow e sz xs) (.im sz xs) :=
  .ow e sz xs xs rfl (fun j r r' h1 h2 => by rw [h1] at h2; cases h2; rfl) fun j r r' i x y h1 h2 h3 h4 => by
    rw [h1] at h2; cases h2
    rw [h3] at h4; cases h4
    exact .cl1 (h r (List.mem_of_getElem? h1) x (List.mem_of_getElem? h3))
theorem map_both {α β γ : Type} {xs : List α} {f : α → β} {g : α → γ} {j : Nat} {b : β} {c : γ} (h1 : (xs.map f)[j]? = some b) (h2 : (xs.map g)[j]? = some c) : ∃ x ∈ xs, b = f x ∧ c = g x := by
  simp only [List.getElem?_map, Option.map_eq_some_iff] at h1 h2
  obtain ⟨x, hx, rfl⟩ := h1
  obtain ⟨y, hy, rfl⟩ := h2
  rw [hx] at hy; cases hy
  exact ⟨x, List.mem_of_getElem? hx, rfl, rfl⟩
theorem Fz.rowsO {bl : List (Nat × Blk)} {α : Type} {n sz len : Nat} {k : Blk} (l : List α) (fO fI : α → List AV) (hk : lb bl n = some k) (hx : k.xs = l.map fO) (hs : k.sz = sz) (hz : ∀ x ∈ l, FzL bl (fO x) (fI x)) (hl : len = l.length) : Fz bl (.own n sz 0 len) (.im sz (l.map fI)) := by
  subst hs hl
  refine .own n 0 l.length k (l.map fI) _ hk (by simp [hx]) (fun j r r' h1 h2 => ?_) (fun j r r' i x y h1 h2 h3 h4 => ?_) (by simp) (by simp [List.take_of_length_le])
  · rw [hx] at h1
    obtain ⟨x, hx, rfl, rfl⟩ := map_both h1 h2
    exact (hz x hx).len
  · rw [hx] at h1
    obtain ⟨x, hx, rfl, rfl⟩ := map_both h1 h2
    exact (hz x hx).get i _ _ h3 h4
theorem toIntSO (xs : List Int) (hx : xs.length < 35184372088832) : Fn Try.prog 113 0 [.im 1 (ints xs)] [] (.own 0 1 0 xs.length) 1 [(0, ⟨3, 1, ints xs⟩)] := by
  refine Fn.mk (rs := [.tmp 2]) (nt := 22) Try.func113 (by kernel_rfl) rfl rfl rfl (by simp) ?_
  simp only [sl]
  refine wk (And.intro ((show (0:Int) ≤ (xs.length : Int) by omega)) (And.intro ((show (8:Int) * xs.length ≤ 281474976710656 by omega)) ((show (xs.length : Int) ≤ 281474976710656 by omega)))) _ ?_
  refine Holds.loop (ι := Nat) (fun i => ⟨[(0, .im 1 (ints xs)), (3, .own 0 1 0 xs.length), (4, .v (.int .i64 i))], [(0, ⟨3, 1, ints (half xs 0 i)⟩)], 1⟩) (fun i => i ≤ xs.length) (fun i => xs.length - i) 0 (Nat.zero_le _) ?_ ?_
  · exact Cov.ofn (id) rfl (by simp [go_sem, List.take_of_length_le, ren, ren1, ren2, okr, okr1, okr2, ChkT, ChkN, BlkN, nf, half]) (by simp [go_sem, List.take_of_length_le, ren, ren1, ren2, okr, okr1, okr2, ChkT, ChkN, BlkN, nf, half])
  intro i hi
  refine wk0 _ ?_
  refine Holds.cond rfl (fun hl => ?_) (fun hl => ?_)
  · have hlt : i < xs.length := by simpa using hl
    have hxi : xs[i]? = some xs[i] := List.getElem?_eq_getElem hlt
    have hhi := half_get xs 0 i hlt
    have hhs := half_set xs 0 i hlt _ hxi
    refine wk (And.intro @hxi (And.intro @hlt (And.intro @hhi (@hhs)))) _ ?_
    refine ⟨i + 1, by omega, by omega, ?_⟩
    rw [wr64_id (by omega) (by omega)]
    exact Cov.ofn (id) rfl (by simp [go_sem, List.take_of_length_le, ren, ren1, ren2, okr, okr1, okr2, ChkT, ChkN, BlkN, nf]) (by simp [go_sem, List.take_of_length_le, ren, ren1, ren2, okr, okr1, okr2, ChkT, ChkN, BlkN, nf])
  · have hle : i = xs.length := by
      have : ¬ i < xs.length := by simpa using hl
      omega
    subst hle
    rw [half_all]
    refine wk0 _ ?_
    refine OutF.mkn (xs := ?_) (nm [0]) ?_ ?_ ?_ ?_ ?_ (by first | exact .inr rfl | exact .inl rfl)
    rotate_left
    · simp [go_sem, List.take_of_length_le] <;> with_reducible rfl
    · simp [go_sem, List.take_of_length_le, ren, ren1, ren2, okr, okr1, okr2, ChkN, BlkN, List.range_succ, nf]
    · simp [go_sem, List.take_of_length_le, ren, ren1, ren2, okr, okr1, okr2, ChkN, BlkN, List.range_succ, nf]
    · simp [go_sem, List.take_of_length_le, ren, ren1, ren2, okr, okr1, okr2, ChkN, BlkN, List.range_succ, nf]
    · rfl
theorem markIntS (xs : List Int) (k : Int) (h0 : 0 ≤ k) (h1 : k + wtL w1 xs ≤ 4611686018427387904) : Fn Try.prog 14 1 [.own 0 1 0 xs.length, .v (.int .i64 k)] [(0, ⟨3, 1, ints xs⟩)] (.v (.int .i64 (k + wtL w1 xs))) 1 [(0, ⟨3, 1, ints (cnt k xs)⟩)] := by
  rw [wtL_w1] at h1 ⊢
  have hl0 : (cnt k xs).length = xs.length := cnt_len k xs
  refine Fn.mk (rs := [.tmp 4]) (nt := 19) Try.func14 (by kernel_rfl) rfl rfl rfl (by simp) ?_
  simp only [sl]
  refine wk0 _ ?_
  refine Holds.loop (ι := Nat) (fun i => ⟨[(0, .own 0 1 0 xs.length), (1, .v (.int .i64 (k + i))), (5, .v (.int .i64 i))], [(0, ⟨3, 1, ints (mid (cnt k xs) xs i)⟩)], 1⟩) (fun i => i ≤ xs.length) (fun i => xs.length - i) 0 (Nat.zero_le _) ?_ ?_
  · exact Cov.ofn (id) rfl (by simp [go_sem, List.take_of_length_le, ren, ren1, ren2, okr, okr1, okr2, ChkT, ChkN, BlkN, nf]) (by simp [go_sem, List.take_of_length_le, ren, ren1, ren2, okr, okr1, okr2, ChkT, ChkN, BlkN, nf])
  intro i hi
  have hml := mid_len (i := i) hl0
  refine wk (@hml) _ ?_
  refine Holds.cond rfl (fun hl => ?_) (fun hl => ?_)
  · have hlt : i < xs.length := by simpa using hl
    have hxi : xs[i]? = some xs[i] := List.getElem?_eq_getElem hlt
    have hhi := (mid_get hl0 hlt).trans hxi
    have hhs := mid_set hl0 hlt (cnt_get k xs hlt)
    refine wk (And.intro @hml (And.intro @hxi (And.intro @hlt (And.intro @hhi (@hhs))))) _ ?_
    refine ⟨i + 1, by omega, by omega, ?_⟩
    rw [wr64_id (by omega) (by omega), wr64_id (by omega) (by omega), show k + (i : Int) + 1 = k + ((i + 1 : Nat) : Int) by omega]
    exact Cov.ofn (id) rfl (by simp [go_sem, List.take_of_length_le, ren, ren1, ren2, okr, okr1, okr2, ChkT, ChkN, BlkN, nf]) (by simp [go_sem, List.take_of_length_le, ren, ren1, ren2, okr, okr1, okr2, ChkT, ChkN, BlkN, nf])
  · have hle : i = xs.length := by
      have : ¬ i < xs.length := by simpa using hl
      omega
    subst hle
    rw [mid_all hl0 rfl]
    refine wk0 _ ?_
    refine OutF.mkn (xs := ?_) (nm [0]) ?_ ?_ ?_ ?_ ?_ (by first | exact .inr rfl | exact .inl rfl)
    rotate_left
    · simp [go_sem, List.take_of_length_le] <;> with_reducible rfl
    · simp [go_sem, List.take_of_length_le, ren, ren1, ren2, okr, okr1, okr2, ChkN, BlkN, List.range_succ, nf]
    · simp [go_sem, List.take_of_length_le, ren, ren1, ren2, okr, okr1, okr2, ChkN, BlkN, List.range_succ, nf]
    · simp [go_sem, List.take_of_length_le, ren, ren1, ren2, okr, okr1, okr2, ChkN, BlkN, List.range_succ, nf]
    · rfl
theorem heldIntS (xs : List Int) (k : Int) (h0 : 0 ≤ k) (h1 : k + wtL w1 xs ≤ 4611686018427387904) : Pure Try.prog 15 [.im 1 (ints (cnt k xs)), .v (.int .i64 k)] (.v (.int .i64 (k + wtL w1 xs))) := by
  rw [wtL_w1] at h1 ⊢
  refine Pure.mk (rs := [.tmp 4]) (nt := 21) Try.func15 (by kernel_rfl) rfl rfl rfl (by simp) ?_
  simp only [sl]
  refine wk0 _ ?_
  refine Holds.loop (ι := Nat) (fun i => ⟨[(0, .im 1 (ints (cnt k xs))), (1, .v (.int .i64 (k + i))), (5, .v (.int .i64 i))], [], 0⟩) (fun i => i ≤ xs.length) (fun i => xs.length - i) 0 (Nat.zero_le _) ?_ ?_
  · exact Cov.ofn (id) rfl (by simp [go_sem, List.take_of_length_le, ren, ren1, ren2, okr, okr1, okr2, ChkT, ChkN, BlkN, nf]) (by simp [go_sem, List.take_of_length_le, ren, ren1, ren2, okr, okr1, okr2, ChkT, ChkN, BlkN, nf])
  intro i hi
  refine wk0 _ ?_
  refine Holds.cond rfl (fun hl => ?_) (fun hl => ?_)
  · have hlt : i < xs.length := by simpa using hl
    have hxi := cnt_get k xs hlt
    refine wk (And.intro @hxi (@hlt)) _ ?_
    refine Holds.cond rfl (fun hl => absurd hl (by simp)) (fun hl => ?_)
    refine wk0 _ ?_
    refine ⟨i + 1, by omega, by omega, ?_⟩
    rw [wr64_id (by omega) (by omega), wr64_id (by omega) (by omega), show k + (i : Int) + 1 = k + ((i + 1 : Nat) : Int) by omega]
    exact Cov.ofn (id) rfl (by simp [go_sem, List.take_of_length_le, ren, ren1, ren2, okr, okr1, okr2, ChkT, ChkN, BlkN, nf]) (by simp [go_sem, List.take_of_length_le, ren, ren1, ren2, okr, okr1, okr2, ChkT, ChkN, BlkN, nf])
  · have hle : i = xs.length := by
      have : ¬ i < xs.length := by simpa using hl
      omega
    subst hle
    refine wk0 _ ?_
    refine Out.mk (xs := ?_) ?_ ?_ (by first | exact .inr rfl | exact .inl rfl)
    rotate_left
    · simp [go_sem, List.take_of_length_le] <;> with_reducible rfl
    exact .v _
end Go.Proofs.Ytejpklajfcngbaa.En
end
section
namespace Go.Proofs.Ytejpklajfcngbaa.En
open Go.RowKit
set_option linter.unusedSimpArgs false
set_option linter.unusedVariables false
set_option maxHeartbeats 4000000
def rdC (g : GrammarT) (s : List UInt8) (a : Nat) (o : AV) : List AV := grammarC g ++ [.v (.string (bs s)), .v (.int .i64 a), o]
def rdIns (g : GrammarT) (s : List UInt8) (a : Nat) (out : List Int) : List (Nat × Blk) := [(0, ⟨66, 6, [rdC g s a (.own 1 1 0 out.length)]⟩), (1, ⟨3, 1, ints out⟩)]
def rdOuts (g : GrammarT) (s : List UInt8) (a : Nat) (out : List Int) : List (Nat × Blk) := [(0, ⟨66, 6, [rdC g s a (.own 2 1 0 out.length)]⟩), (2, ⟨3, 1, ints out⟩)]
theorem specTreeR (g : GrammarT) (hg : OkG g) (s : List UInt8) (hs : s.length ≤ 400) : ∀ (f a : Nat) (out : List Int), s.length < f + a → a ≤ 400 → out.length ≤ a →
    (readR g s f a = none → Fn Try.prog 38 2 [.pb 0 6 0 0] (rdIns g s a out) (.tu [.v (.int .i64 0), .v (.bool false)]) 2 []) ∧
    ∀ x rs a2, readR g s f a = some (x, rs, a2) → Fn Try.prog 38 2 [.pb 0 6 0 0] (rdIns g s a out) (.tu [.v (.int .i64 x), .v (.bool true)]) 3 (rdOuts g s a2 (out ++ rs)) := by
  intro f
  induction f with
  | zero =>
    intro a out hf ha ho
    refine ⟨fun _ => ?_, fun x rs a2 h => by cases h⟩
    have hge : (s.length : Int) ≤ (a : Int) + 1 := by omega
    have hw : wr64 ((a : Int) + 1) = (a : Int) + 1 := wr64_id (by omega) (by omega)
    refine Fn.mk (rs := [.tmp 2, .tmp 3]) (nt := 195) Try.func38 (by kernel_rfl) rfl rfl rfl (by simp) ?_
    simp only [sl, rdIns, rdC, grammarC]
    refine wkdsc (@hw) _ ?_
    (refine Holds.any mixed ?_ ?_; (· kernel_rfl))
    refine wkdsc (And.intro @hw (@hge)) _ ?_
    -- MARK1
    refine OutF.mkn (xs := ?_) (nm []) ?_ ?_ ?_ ?_ ?_ (by first | exact .inr rfl | exact .inl rfl)
    rotate_left
    · simp [go_sem, List.take_of_length_le] <;> with_reducible rfl
    · simp [go_sem, List.take_of_length_le, ren, ren1, ren2, okr, okr1, okr2, ChkN, BlkN, List.range_succ, nf]
    · simp [go_sem, List.take_of_length_le, ren, ren1, ren2, okr, okr1, okr2, ChkN, BlkN, List.range_succ, nf]
    · simp [go_sem, List.take_of_length_le, ren, ren1, ren2, okr, okr1, okr2, ChkN, BlkN, List.range_succ, nf]
    · rfl
  | succ f ih =>
    intro a out hf ha ho
    have hw : wr64 ((a : Int) + 1) = ((a + 1 : Nat) : Int) := wr64_id (by omega) (by omega)
    have hw2 : wr64 ((a : Int) + 2) = ((a + 2 : Nat) : Int) := wr64_id (by omega) (by omega)
    by_cases hA : a + 1 < s.length
    case neg =>
      have hr : readR g s (f + 1) a = none := by unfold readR; rw [if_neg (fun h => hA h.1)]
      refine ⟨fun _ => ?_, fun x rs a2 h => by rw [hr] at h; cases h⟩
      have hge : (s.length : Int) ≤ (a : Int) + 1 := by omega
      have hgn : s.length ≤ a + 1 := by omega
      refine Fn.mk (rs := [.tmp 2, .tmp 3]) (nt := 195) Try.func38 (by kernel_rfl) rfl rfl rfl (by simp) ?_
      simp only [sl, rdIns, rdC, grammarC]
      refine wkdsc (@hw) _ ?_
      (refine Holds.any mixed ?_ ?_; (· kernel_rfl))
      refine wkdsc (And.intro @hw (And.intro @hge (@hgn))) _ ?_
      refine OutF.mkn (xs := ?_) (nm []) ?_ ?_ ?_ ?_ ?_ (by first | exact .inr rfl | exact .inl rfl)
      rotate_left
      · simp [go_sem, List.take_of_length_le] <;> with_reducible rfl
      · simp [go_sem, List.take_of_length_le, ren, ren1, ren2, okr, okr1, okr2, ChkN, BlkN, List.range_succ, nf]
      · simp [go_sem, List.take_of_length_le, ren, ren1, ren2, okr, okr1, okr2, ChkN, BlkN, List.range_succ, nf]
      · simp [go_sem, List.take_of_length_le, ren, ren1, ren2, okr, okr1, okr2, ChkN, BlkN, List.range_succ, nf]
      · rfl
    have hge : ¬ (s.length : Int) ≤ (a : Int) + 1 := by omega
    have hgn : ¬ s.length ≤ a + 1 := by omega
    obtain ⟨c0, hc0⟩ : ∃ c, s[a]? = some c := ⟨_, List.getElem?_eq_getElem (by omega)⟩
    obtain ⟨c1, hc1⟩ : ∃ c, s[a + 1]? = some c := ⟨_, List.getElem?_eq_getElem hA⟩
    have hb0 := byA_at hc0
    have hb1 := byA_at hc1
    have hg0 : (bs s)[a]? = some c0 := by rw [bs_get]; exact hc0
    have hg1 : (bs s)[a + 1]? = some c1 := by rw [bs_get]; exact hc1
    have ht1 : ((a : Int) + 1).toNat = a + 1 := by omega
    have h01 : (0 : Int) ≤ (a : Int) + 1 := by omega
    by_cases h40 : byA s a = 40
    case neg =>
      have hr : readR g s (f + 1) a = none := by unfold readR; rw [if_neg (fun h => h40 h.2)]
      refine ⟨fun _ => ?_, fun x rs a2 h => by rw [hr] at h; cases h⟩
      have hne : ((c0.toNat : Int) != 40) = true := by rw [← hb0]; simpa using h40
      have hne2 : ¬ (c0.toNat : Int) = 40 := by rw [← hb0]; exact h40
      refine Fn.mk (rs := [.tmp 2, .tmp 3]) (nt := 195) Try.func38 (by kernel_rfl) rfl rfl rfl (by simp) ?_
      simp only [sl, rdIns, rdC, grammarC]
      refine wkdsc (@hw) _ ?_
      (refine Holds.any mixed ?_ ?_; (· kernel_rfl))
      refine wkdsc (And.intro @hw (And.intro @hge (And.intro @hgn (And.intro @hg0 (And.intro @hne (@hne2)))))) _ ?_
      refine OutF.mkn (xs := ?_) (nm []) ?_ ?_ ?_ ?_ ?_ (by first | exact .inr rfl | exact .inl rfl)
      rotate_left
      · simp [go_sem, List.take_of_length_le] <;> with_reducible rfl
      · simp [go_sem, List.take_of_length_le, ren, ren1, ren2, okr, okr1, okr2, ChkN, BlkN, List.range_succ, nf]
      · simp [go_sem, List.take_of_length_le, ren, ren1, ren2, okr, okr1, okr2, ChkN, BlkN, List.range_succ, nf]
      · simp [go_sem, List.take_of_length_le, ren, ren1, ren2, okr, okr1, okr2, ChkN, BlkN, List.range_succ, nf]
      · rfl
    have heq : ((c0.toNat : Int) != 40) = false := by rw [← hb0]; simpa using h40
    have heq2 : (c0.toNat : Int) = 40 := by rw [← hb0]; exact h40
    have cN := l2SymN g hg (c1.toNat : Int)
    rw [← hb1] at cN
    have hr : readR g s (f + 1) a = match symN g (byA s (a + 1)) with
      | none => none
      | some left => match loopR (readR g s f) g s (s.length + 1) (a + 2) [] [] with
        | none => none
        | some (right, rules, a2) => if a2 = s.length ∨ ruleIx g left right < 0 then none else some (left, ruleIx g left right :: rules, a2 + 1) := by
      rw [readR, if_pos ⟨hA, h40⟩]; rfl
    rw [hr]
    clear hr
    rw [hb1] at cN ⊢
    cases hsy : symN g (c1.toNat : Int) with
    | none =>
      rw [hsy] at cN
      simp only [optB] at cN
      refine ⟨fun _ => ?_, fun x rs a2 h => by cases h⟩
      refine Fn.mk (rs := [.tmp 2, .tmp 3]) (nt := 195) Try.func38 (by kernel_rfl) rfl rfl rfl (by simp) ?_
      simp only [sl, rdIns, rdC, grammarC]
      refine wkdsc (@hw) _ ?_
      (refine Holds.any mixed ?_ ?_; (· kernel_rfl))
      refine wkdsc (And.intro @hw (And.intro @hge (And.intro @hgn (And.intro @hg0 (And.intro @heq (@heq2)))))) _ ?_
      (refine Holds.any mixed ?_ ?_; (· kernel_rfl))
      refine wkdsc (And.intro @hw (And.intro @hg1 (And.intro @ht1 (And.intro @h01 (@grammarC.eq_1))))) _ ?_
      first | refine GS.cc (cN) rfl rfl rfl rfl (by simp [go_sem, List.take_of_length_le] <;> with_reducible rfl) rfl (by simp [go_sem, List.take_of_length_le]) ?_ | refine Gd.cc (cN) rfl rfl rfl rfl (by simp [go_sem, List.take_of_length_le] <;> with_reducible rfl) rfl (by simp [go_sem, List.take_of_length_le]) ?_
      refine wkdsc0 _ ?_
      -- MARK2
      refine OutF.mkn (xs := ?_) (nm []) ?_ ?_ ?_ ?_ ?_ (by first | exact .inr rfl | exact .inl rfl)
      rotate_left
      · simp [go_sem, List.take_of_length_le] <;> with_reducible rfl
      · simp [go_sem, List.take_of_length_le, ren, ren1, ren2, okr, okr1, okr2, ChkN, BlkN, List.range_succ, nf]
      · simp [go_sem, List.take_of_length_le, ren, ren1, ren2, okr, okr1, okr2, ChkN, BlkN, List.range_succ, nf]
      · simp [go_sem, List.take_of_length_le, ren, ren1, ren2, okr, okr1, okr2, ChkN, BlkN, List.range_succ, nf]
      · rfl
    | some left =>
      rw [hsy] at cN
      simp only [optB] at cN
      dsimp only
      have hrg := symN_rng hsy
      have hn1 := hg.n1
      obtain ⟨R, hR⟩ : ∃ R, R = loopR (readR g s f) g s (s.length + 1) (a + 2) [] [] := ⟨_, rfl⟩
      rw [← hR]
      have hbb : (out.length + 1) * 8 ≤ 140737488355328 := by omega
      have key : ∀ (V : AV) (m : Nat) (outs : List (Nat × Blk)), (R = none → V = .tu [.v (.int .i64 0), .v (.bool false)] ∧ m = 2 ∧ outs = []) → (∀ right rules a2, R = some (right, rules, a2) → (a2 = s.length ∨ ruleIx g left right < 0) → V = .tu [.v (.int .i64 0), .v (.bool false)] ∧ m = 2 ∧ outs = []) →
          (∀ right rules a2, R = some (right, rules, a2) → ¬ (a2 = s.length ∨ ruleIx g left right < 0) → V = .tu [.v (.int .i64 left), .v (.bool true)] ∧ m = 3 ∧ outs = rdOuts g s (a2 + 1) (out ++ ruleIx g left right :: rules)) →
          Fn Try.prog 38 2 [.pb 0 6 0 0] (rdIns g s a out) V m outs := by
        intro V m outs k1 k2 k3
        refine Fn.mk (rs := [.tmp 2, .tmp 3]) (nt := 195) Try.func38 (by kernel_rfl) rfl rfl rfl (by simp) ?_
        simp only [sl, rdIns, rdC, grammarC]
        refine wkdsc (@hw) _ ?_
        (refine Holds.any mixed ?_ ?_; (· kernel_rfl))
        refine wkdsc (And.intro @hw (And.intro @hge (And.intro @hgn (And.intro @hg0 (And.intro @heq (@heq2)))))) _ ?_
        (refine Holds.any mixed ?_ ?_; (· kernel_rfl))
        refine wkdsc (And.intro @hw (And.intro @hg1 (And.intro @ht1 (And.intro @h01 (@grammarC.eq_1))))) _ ?_
        -- MARK4
        first | refine GS.cc (cN) rfl rfl rfl rfl (by simp [go_sem, List.take_of_length_le] <;> with_reducible rfl) rfl (by simp [go_sem, List.take_of_length_le]) ?_ | refine Gd.cc (cN) rfl rfl rfl rfl (by simp [go_sem, List.take_of_length_le] <;> with_reducible rfl) rfl (by simp [go_sem, List.take_of_length_le]) ?_
        refine wkdsc (And.intro @hw2 (@hbb)) _ ?_
        refine Holds.niw 7 3 1 rfl ?_
        have hneg1 : [[AV.v (.int .i64 (-1))]] = ints [-1] := rfl
        refine Holds.loop (ι := Nat × List Int × List Int) (fun x => ⟨[(0, .pb 0 6 0 0), (4, .v (.int .i64 left)), (6, .v (.int .i64 out.length)), (7, .own 3 1 0 x.2.1.length)], [(0, ⟨66, 6, [rdC g s x.1 (.own 2 1 0 (out.length + 1 + x.2.2.length))]⟩), (2, ⟨3, 1, ints (out ++ [-1] ++ x.2.2)⟩), (3, ⟨3, 1, ints x.2.1⟩)], 4⟩)
          (fun x => (∃ n, loopR (readR g s f) g s n x.1 x.2.1 x.2.2 = R ∧ s.length < n + x.1) ∧ a + 2 ≤ x.1 ∧ x.1 ≤ s.length ∧ x.2.2.length + (a + 2) ≤ x.1 ∧ x.2.1.length + (a + 2) ≤ x.1) (fun x => s.length - x.1) (a + 2, [], []) ⟨⟨s.length + 1, hR.symm, by dsimp only; omega⟩, Nat.le_refl _, by dsimp only; omega, by simp, by simp⟩ ?_ ?_
        · exact Cov.ofn (nm [0, 1, 4, 5]) rfl (by simp [go_sem, List.take_of_length_le, ren, ren1, ren2, okr, okr1, okr2, ChkT, ChkN, BlkN, nf, niw, rdC, grammarC, ints_snoc, List.append_nil, show ints [] = [] from rfl]) (by simp [go_sem, List.take_of_length_le, ren, ren1, ren2, okr, okr1, okr2, ChkT, ChkN, BlkN, nf, niw, rdC, grammarC, ints_snoc, List.append_nil, show ints [] = [] from rfl])
        rintro ⟨b, right, rules⟩ ⟨⟨n, hl, hn⟩, hab, hbs, hrl, hril⟩
        dsimp only at hl hn hab hbs hrl hril ⊢
        obtain ⟨O, hO⟩ : ∃ O, O = out ++ [-1] ++ rules := ⟨_, rfl⟩
        have hOl : out.length + 1 + rules.length = O.length := by rw [hO]; simp; omega
        have hOl' : O.length = out.length + (rules.length + 1) := by omega
        rw [← hO, hOl]
        cases n with
        | zero => omega
        | succ n =>
        rw [loopR] at hl
        by_cases hbl : b < s.length
        case neg =>
          -- the text is at its end
          have hbe : b = s.length := by omega
          have hbli : ¬ (b : Int) < (s.length : Int) := by omega
          have hbei : ((b : Int) == (s.length : Int)) = true := by simp [hbe]
          rw [if_neg (fun h => hbl h.1)] at hl
          obtain ⟨rfl, rfl, rfl⟩ := k2 _ _ _ hl.symm (.inl hbe)
          refine wkdsc (And.intro @rdC.eq_1 (@grammarC.eq_1)) _ ?_
          (refine Holds.any mixed ?_ ?_; (· kernel_rfl))
          refine wkdsc (And.intro @rdC.eq_1 (And.intro @grammarC.eq_1 (And.intro @hbli (@hbl)))) _ ?_
          (refine Holds.any mixed ?_ ?_; (· kernel_rfl))
          refine wkdsc (And.intro @rdC.eq_1 (And.intro @grammarC.eq_1 (And.intro @hbei (@hbe)))) _ ?_
          refine OutF.mkn (xs := ?_) (nm []) ?_ ?_ ?_ ?_ ?_ (by first | exact .inr rfl | exact .inl rfl)
          rotate_left
          · simp [go_sem, List.take_of_length_le] <;> with_reducible rfl
          · simp [go_sem, List.take_of_length_le, ren, ren1, ren2, okr, okr1, okr2, ChkN, BlkN, List.range_succ, nf]
          · simp [go_sem, List.take_of_length_le, ren, ren1, ren2, okr, okr1, okr2, ChkN, BlkN, List.range_succ, nf]
          · simp [go_sem, List.take_of_length_le, ren, ren1, ren2, okr, okr1, okr2, ChkN, BlkN, List.range_succ, nf]
          · rfl
        have hbli : (b : Int) < (s.length : Int) := by omega
        have hbne : ((b : Int) == (s.length : Int)) = false := by simp; omega
        have hbnn : ¬ b = s.length := by omega
        obtain ⟨c, hc⟩ : ∃ c, s[b]? = some c := ⟨_, List.getElem?_eq_getElem hbl⟩
        have hbc := byA_at hc
        have hgc : (bs s)[b]? = some c := by rw [bs_get]; exact hc
        have hgE : ∀ h : b < (bs s).size, (bs s)[b]'h = c := fun h => by
          have e1 : (bs s)[b]? = some ((bs s)[b]'h) := getElem?_pos (bs s) b h
          exact Option.some.inj (e1.symm.trans hgc)
        rw [hbc] at hl
        have hwb : wr64 ((b : Int) + 1) = ((b + 1 : Nat) : Int) := wr64_id (by omega) (by omega)
        by_cases h41 : (c.toNat : Int) = 41
        · -- the tree's end
          have h41b : ((c.toNat : Int) != 41) = false := by simp [h41]
          rw [if_neg (fun h => h.2 h41)] at hl
          refine wkdsc (And.intro @rdC.eq_1 (@grammarC.eq_1)) _ ?_
          (refine Holds.any mixed ?_ ?_; (· kernel_rfl))
          refine wkdsc (And.intro @rdC.eq_1 (And.intro @grammarC.eq_1 (And.intro @hbli (And.intro @hbl (And.intro @hgc (And.intro @hgE (And.intro @h41b (@h41)))))))) _ ?_
          (refine Holds.any mixed ?_ ?_; (· kernel_rfl))
          refine wkdsc (And.intro @rdC.eq_1 (And.intro @grammarC.eq_1 (And.intro @hbne (And.intro @hbnn (@hwb))))) _ ?_
          have hgl := hg.len
          refine Holds.frz [3] [(7, .im 1 (ints right))] (.cons rfl (Fz.all rfl rfl (by simp) rfl (ints_cl _)) .nil) ?_
          simp only [frz, List.filter, List.contains, List.elem, List.cons_append, List.nil_append, Nat.reduceBEq, Bool.not_false, Bool.not_true]
          refine Holds.loop (ι := Nat) (fun i => ⟨[(0, .pb 0 6 0 0), (4, .v (.int .i64 left)), (6, .v (.int .i64 out.length)), (7, .im 1 (ints right)), (174, .im 2 (En.rules g.2.2)), (175, .v (.int .i64 g.2.2.length)), (176, .v (.int .i64 i))], [(0, ⟨66, 6, [rdC g s (b + 1) (.own 2 1 0 O.length)]⟩), (2, ⟨3, 1, ints O⟩)], 4⟩)
            (fun i => i ≤ g.2.2.length ∧ ∀ (j : Nat) (r : RuleT), j < i → g.2.2[j]? = some r → decide (r = (left, right)) = false) (fun i => g.2.2.length - i) 0 ⟨Nat.zero_le _, fun j r hj => absurd hj (Nat.not_lt_zero j)⟩ ?_ ?_
          · exact Cov.ofn (id) rfl (by simp [go_sem, List.take_of_length_le, ren, ren1, ren2, okr, okr1, okr2, ChkT, ChkN, BlkN, nf, rdC, grammarC]) (by simp [go_sem, List.take_of_length_le, ren, ren1, ren2, okr, okr1, okr2, ChkT, ChkN, BlkN, nf, rdC, grammarC])
          rintro i ⟨hi, hno⟩
          have stepi : wr64 ((i : Int) + 1) = ((i + 1 : Nat) : Int) := wr64_id (by omega) (by omega)
          refine wkdsc0 _ ?_
          refine Holds.cond rfl (fun h => ?_) (fun h => ?_)
          · have hil : i < g.2.2.length := by simpa using h
            obtain ⟨r, hr1⟩ : ∃ r, g.2.2[i]? = some r := ⟨_, List.getElem?_eq_getElem hil⟩
            have cs := l1SameRule r (left, right) (by have := hg.r4 r (List.mem_of_getElem? hr1); omega)
            by_cases hrq : r = (left, right)
            · rw [decide_eq_true hrq] at cs
              have hix : ruleIx g left right = (i : Int) := by
                unfold ruleIx
                rw [fstP_at g.2.2 i 0 hr1 (decide_eq_true hrq) (fun j hj x hx => hno j x hj hx), Nat.zero_add]
              obtain ⟨rfl, rfl, rfl⟩ := k3 _ _ _ hl.symm (fun h => by
                rcases h with h | h
                · exact hbnn h
                · rw [hix] at h; omega)
              rw [hix]
              have hset : (ints O).set out.length [.v (.int .i64 i)] = ints (out ++ (i : Int) :: rules) := by
                rw [hO]; simp [ints, List.set_append]
              have hol : out.length < O.length := by omega
              refine wkdsc (And.intro @hil (And.intro @hr1 (And.intro (@get_E _ _ _ _ hr1) (@ruleC.eq_1)))) _ ?_
              first | refine GS.cc (cs) rfl rfl rfl rfl (by simp [go_sem, List.take_of_length_le, ruleC] <;> with_reducible rfl) rfl (by simp [go_sem, List.take_of_length_le, ruleC]) ?_ | refine Gd.cc (cs) rfl rfl rfl rfl (by simp [go_sem, List.take_of_length_le, ruleC] <;> with_reducible rfl) rfl (by simp [go_sem, List.take_of_length_le, ruleC]) ?_
              -- MARKa
              refine wkdsc (And.intro @rdC.eq_1 (And.intro @grammarC.eq_1 (And.intro @hol (@hset)))) _ ?_
              refine OutF.mkn (xs := ?_) (nm [0, 1, 2]) ?_ ?_ ?_ ?_ ?_ (by first | exact .inr rfl | exact .inl rfl)
              rotate_left
              · simp [go_sem, List.take_of_length_le, rdC, grammarC, rdOuts, hset, hOl'] <;> with_reducible rfl
              · simp [go_sem, List.take_of_length_le, ren, ren1, ren2, okr, okr1, okr2, ChkN, BlkN, List.range_succ, nf, rdC, grammarC, rdOuts, hset, hOl']
              · simp [go_sem, List.take_of_length_le, ren, ren1, ren2, okr, okr1, okr2, ChkN, BlkN, List.range_succ, nf, rdC, grammarC, rdOuts, hset, hOl']
              · simp [go_sem, List.take_of_length_le, ren, ren1, ren2, okr, okr1, okr2, ChkN, BlkN, List.range_succ, nf, rdC, grammarC, rdOuts, hset, hOl']
              · rfl
            · rw [decide_eq_false hrq] at cs
              refine wkdsc (And.intro @hil (And.intro @hr1 (And.intro (@get_E _ _ _ _ hr1) (@ruleC.eq_1)))) _ ?_
              first | refine GS.cc (cs) rfl rfl rfl rfl (by simp [go_sem, List.take_of_length_le, ruleC] <;> with_reducible rfl) rfl (by simp [go_sem, List.take_of_length_le, ruleC]) ?_ | refine Gd.cc (cs) rfl rfl rfl rfl (by simp [go_sem, List.take_of_length_le, ruleC] <;> with_reducible rfl) rfl (by simp [go_sem, List.take_of_length_le, ruleC]) ?_
              refine wkdsc0 _ ?_
              refine ⟨i + 1, ⟨by omega, fun j r' hj hr' => ?_⟩, by omega, ?_⟩
              · by_cases e : j = i
                · subst e
                  rw [hr1] at hr'
                  cases hr'
                  exact decide_eq_false hrq
                · exact hno j r' (by omega) hr'
              rw [stepi]
              exact Cov.ofn (id) rfl (by simp [go_sem, List.take_of_length_le, ren, ren1, ren2, okr, okr1, okr2, ChkT, ChkN, BlkN, nf, rdC, grammarC]) (by simp [go_sem, List.take_of_length_le, ren, ren1, ren2, okr, okr1, okr2, ChkT, ChkN, BlkN, nf, rdC, grammarC])
          · have hie : i = g.2.2.length := by
              have : ¬ i < g.2.2.length := by simpa using h
              omega
            subst hie
            have hix : ruleIx g left right = -1 := fstP_no g.2.2 0 fun j x hx => hno j x (List.getElem?_eq_some_iff.1 hx).1 hx
            obtain ⟨rfl, rfl, rfl⟩ := k2 _ _ _ hl.symm (.inr (by rw [hix]; omega))
            refine wkdsc0 _ ?_
            refine OutF.mkn (xs := ?_) (nm []) ?_ ?_ ?_ ?_ ?_ (by first | exact .inr rfl | exact .inl rfl)
            rotate_left
            · simp [go_sem, List.take_of_length_le] <;> with_reducible rfl
            · simp [go_sem, List.take_of_length_le, ren, ren1, ren2, okr, okr1, okr2, ChkN, BlkN, List.range_succ, nf]
            · simp [go_sem, List.take_of_length_le, ren, ren1, ren2, okr, okr1, okr2, ChkN, BlkN, List.range_succ, nf]
            · simp [go_sem, List.take_of_length_le, ren, ren1, ren2, okr, okr1, okr2, ChkN, BlkN, List.range_succ, nf]
            · rfl
        have h41b : ((c.toNat : Int) != 41) = true := by simpa using h41
        rw [if_pos ⟨hbl, h41⟩] at hl
        have hrb : (right.length + 1) * 8 ≤ 140737488355328 := by omega
        by_cases hc40 : (c.toNat : Int) = 40
        · have h40b : ((c.toNat : Int) == 40) = true := by simp [hc40]
          rw [if_pos hc40] at hl
          obtain ⟨ih1, ih2⟩ := ih b O (by omega) (by omega) (by omega)
          have hok := readR_ok g s f
          cases hrd : readR g s f b with
          | none =>
            rw [hrd] at hl
            dsimp only at hl
            obtain ⟨rfl, rfl, rfl⟩ := k1 hl.symm
            have ih1 := ih1 hrd
            simp only [rdIns, rdC, grammarC] at ih1
            refine wkdsc (And.intro @rdC.eq_1 (@grammarC.eq_1)) _ ?_
            (refine Holds.any mixed ?_ ?_; (· kernel_rfl))
            refine wkdsc (And.intro @rdC.eq_1 (And.intro @grammarC.eq_1 (And.intro @hbli (And.intro @hbl (And.intro @hgc (And.intro @hgE (And.intro @h41b (@h41)))))))) _ ?_
            (refine Holds.any mixed ?_ ?_; (· kernel_rfl))
            refine wkdsc (And.intro @rdC.eq_1 (And.intro @grammarC.eq_1 (And.intro @hgc (And.intro @h40b (@hc40))))) _ ?_
            -- MARK6
            refine GS.fnn [0, 2] (ih1) rfl rfl rfl rfl (by simp [go_sem, List.take_of_length_le, ren, ren1, ren2, okr, okr1, okr2, ChkN, BlkN, List.range_succ, nf, rdC, grammarC] <;> with_reducible rfl) (by simp [go_sem, List.take_of_length_le, ren, ren1, ren2, okr, okr1, okr2, ChkN, BlkN, List.range_succ, nf, rdC, grammarC]) (by simp [go_sem, List.take_of_length_le, ren, ren1, ren2, okr, okr1, okr2, ChkN, BlkN, List.range_succ, nf, rdC, grammarC]) (by simp [List.range_succ, lb]) (ChkN.toB (by simp [go_sem, List.take_of_length_le, ren, ren1, ren2, okr, okr1, okr2, ChkN, BlkN, List.range_succ, nf, rdC, grammarC])) (by decide) (by simp) rfl (.nil) (by simp [go_sem, List.take_of_length_le, ren, ren1, ren2, okr, okr1, okr2, ChkN, BlkN, List.range_succ, nf, rdC, grammarC] <;> with_reducible rfl) ?_
            refine wkdsc0 _ ?_
            refine OutF.mkn (xs := ?_) (nm []) ?_ ?_ ?_ ?_ ?_ (by first | exact .inr rfl | exact .inl rfl)
            rotate_left
            · simp [go_sem, List.take_of_length_le] <;> with_reducible rfl
            · simp [go_sem, List.take_of_length_le, ren, ren1, ren2, okr, okr1, okr2, ChkN, BlkN, List.range_succ, nf]
            · simp [go_sem, List.take_of_length_le, ren, ren1, ren2, okr, okr1, okr2, ChkN, BlkN, List.range_succ, nf]
            · simp [go_sem, List.take_of_length_le, ren, ren1, ren2, okr, okr1, okr2, ChkN, BlkN, List.range_succ, nf]
            · rfl
          | some q =>
            obtain ⟨x, rs, a3⟩ := q
            obtain ⟨g1, g2, g3⟩ := hok _ _ _ _ hrd
            rw [hrd] at hl
            dsimp only at hl
            have ih2 := ih2 _ _ _ hrd
            simp only [rdIns, rdOuts, rdC, grammarC] at ih2
            refine wkdsc (And.intro @rdC.eq_1 (@grammarC.eq_1)) _ ?_
            (refine Holds.any mixed ?_ ?_; (· kernel_rfl))
            refine wkdsc (And.intro @rdC.eq_1 (And.intro @grammarC.eq_1 (And.intro @hbli (And.intro @hbl (And.intro @hgc (And.intro @hgE (And.intro @h41b (@h41)))))))) _ ?_
            (refine Holds.any mixed ?_ ?_; (· kernel_rfl))
            refine wkdsc (And.intro @rdC.eq_1 (And.intro @grammarC.eq_1 (And.intro @hgc (And.intro @h40b (@hc40))))) _ ?_
            refine GS.fnn [0, 2] (ih2) rfl rfl rfl rfl (by simp [go_sem, List.take_of_length_le, ren, ren1, ren2, okr, okr1, okr2, ChkN, BlkN, List.range_succ, nf, rdC, grammarC] <;> with_reducible rfl) (by simp [go_sem, List.take_of_length_le, ren, ren1, ren2, okr, okr1, okr2, ChkN, BlkN, List.range_succ, nf, rdC, grammarC]) (by simp [go_sem, List.take_of_length_le, ren, ren1, ren2, okr, okr1, okr2, ChkN, BlkN, List.range_succ, nf, rdC, grammarC]) (by simp [List.range_succ, lb]) (ChkN.toB (by simp [go_sem, List.take_of_length_le, ren, ren1, ren2, okr, okr1, okr2, ChkN, BlkN, List.range_succ, nf, rdC, grammarC])) (by decide) (by simp) rfl (.okw (by simp [okr, okr1]) (.nfr (by simp) .nil)) (by simp [go_sem, List.take_of_length_le, ren, ren1, ren2, okr, okr1, okr2, ChkN, BlkN, List.range_succ, nf, rdC, grammarC] <;> with_reducible rfl) ?_
            refine wkdsc (@hrb) _ ?_
            -- MARK7
            refine ⟨(a3, right ++ [x], rules ++ rs), ⟨⟨n, hl, by dsimp only; omega⟩, by dsimp only; omega, by dsimp only; omega, by simp; omega, by simp; omega⟩, by dsimp only; omega, ?_⟩
            dsimp only
            rw [show out ++ [-1] ++ (rules ++ rs) = O ++ rs by rw [hO]; simp, show out.length + 1 + (rules ++ rs).length = (O ++ rs).length by simp; omega]
            exact Cov.ofn (nm [0, 1, 4, 7]) rfl (by simp [go_sem, List.take_of_length_le, ren, ren1, ren2, okr, okr1, okr2, ChkT, ChkN, BlkN, nf, rdC, grammarC, ints_snoc]) (by simp [go_sem, List.take_of_length_le, ren, ren1, ren2, okr, okr1, okr2, ChkT, ChkN, BlkN, nf, rdC, grammarC, ints_snoc])
        · have h40b : ((c.toNat : Int) == 40) = false := by simpa using hc40
          rw [if_neg hc40] at hl
          have cT := l2SymT g hg (c.toNat : Int)
          cases hst : symT g (c.toNat : Int) with
          | none =>
            rw [hst] at hl cT
            dsimp only at hl
            simp only [optB] at cT
            obtain ⟨rfl, rfl, rfl⟩ := k1 hl.symm
            refine wkdsc (And.intro @rdC.eq_1 (@grammarC.eq_1)) _ ?_
            (refine Holds.any mixed ?_ ?_; (· kernel_rfl))
            refine wkdsc (And.intro @rdC.eq_1 (And.intro @grammarC.eq_1 (And.intro @hbli (And.intro @hbl (And.intro @hgc (And.intro @hgE (And.intro @h41b (@h41)))))))) _ ?_
            (refine Holds.any mixed ?_ ?_; (· kernel_rfl))
            refine wkdsc (And.intro @rdC.eq_1 (And.intro @grammarC.eq_1 (And.intro @hgc (And.intro @h40b (@hc40))))) _ ?_
            (refine Holds.any mixed ?_ ?_; (· kernel_rfl))
            refine wkdsc (And.intro @rdC.eq_1 (And.intro @grammarC.eq_1 (@hgc))) _ ?_
            first | refine GS.cc (cT) rfl rfl rfl rfl (by simp [go_sem, List.take_of_length_le] <;> with_reducible rfl) rfl (by simp [go_sem, List.take_of_length_le]) ?_ | refine Gd.cc (cT) rfl rfl rfl rfl (by simp [go_sem, List.take_of_length_le] <;> with_reducible rfl) rfl (by simp [go_sem, List.take_of_length_le]) ?_
            refine wkdsc0 _ ?_
            refine OutF.mkn (xs := ?_) (nm []) ?_ ?_ ?_ ?_ ?_ (by first | exact .inr rfl | exact .inl rfl)
            rotate_left
            · simp [go_sem, List.take_of_length_le] <;> with_reducible rfl
            · simp [go_sem, List.take_of_length_le, ren, ren1, ren2, okr, okr1, okr2, ChkN, BlkN, List.range_succ, nf]
            · simp [go_sem, List.take_of_length_le, ren, ren1, ren2, okr, okr1, okr2, ChkN, BlkN, List.range_succ, nf]
            · simp [go_sem, List.take_of_length_le, ren, ren1, ren2, okr, okr1, okr2, ChkN, BlkN, List.range_succ, nf]
            · rfl
          | some x =>
            rw [hst] at hl cT
            dsimp only at hl
            simp only [optB] at cT
            have hxr := symT_rng hst
            have ht1' := hg.t1
            refine wkdsc (And.intro @rdC.eq_1 (@grammarC.eq_1)) _ ?_
            (refine Holds.any mixed ?_ ?_; (· kernel_rfl))
            refine wkdsc (And.intro @rdC.eq_1 (And.intro @grammarC.eq_1 (And.intro @hbli (And.intro @hbl (And.intro @hgc (And.intro @hgE (And.intro @h41b (@h41)))))))) _ ?_
            (refine Holds.any mixed ?_ ?_; (· kernel_rfl))
            refine wkdsc (And.intro @rdC.eq_1 (And.intro @grammarC.eq_1 (And.intro @hgc (And.intro @h40b (@hc40))))) _ ?_
            (refine Holds.any mixed ?_ ?_; (· kernel_rfl))
            refine wkdsc (And.intro @rdC.eq_1 (And.intro @grammarC.eq_1 (@hgc))) _ ?_
            first | refine GS.cc (cT) rfl rfl rfl rfl (by simp [go_sem, List.take_of_length_le] <;> with_reducible rfl) rfl (by simp [go_sem, List.take_of_length_le]) ?_ | refine Gd.cc (cT) rfl rfl rfl rfl (by simp [go_sem, List.take_of_length_le] <;> with_reducible rfl) rfl (by simp [go_sem, List.take_of_length_le]) ?_
            refine wkdsc (And.intro @hrb (@hwb)) _ ?_
            -- MARK8
            refine ⟨(b + 1, right ++ [x], rules), ⟨⟨n, hl, by dsimp only; omega⟩, by dsimp only; omega, by dsimp only; omega, by dsimp only; omega, by simp; omega⟩, by dsimp only; omega, ?_⟩
            dsimp only
            rw [← hO, hOl]
            exact Cov.ofn (nm [0, 1, 2, 6]) rfl (by simp [go_sem, List.take_of_length_le, ren, ren1, ren2, okr, okr1, okr2, ChkT, ChkN, BlkN, nf, rdC, grammarC, ints_snoc]) (by simp [go_sem, List.take_of_length_le, ren, ren1, ren2, okr, okr1, okr2, ChkT, ChkN, BlkN, nf, rdC, grammarC, ints_snoc])
      refine ⟨fun h => key _ _ _ (fun _ => ⟨rfl, rfl, rfl⟩) (fun _ _ _ _ _ => ⟨rfl, rfl, rfl⟩) (fun right rules a2 h1 h2 => ?_), fun x rs a2 h => key _ _ _ (fun h1 => ?_) (fun right rules a3 h1 h2 => ?_) (fun right rules a3 h1 h2 => ?_)⟩
      · rw [h1] at h
        dsimp only at h
        rw [if_neg h2] at h
        cases h
      · rw [h1] at h; cases h
      · rw [h1] at h
        dsimp only at h
        rw [if_pos h2] at h
        cases h
      · rw [h1] at h
        dsimp only at h
        rw [if_neg h2] at h
        cases h
        exact ⟨rfl, rfl, rfl⟩
end Go.Proofs.Ytejpklajfcngbaa.En
end
section
namespace Go.Proofs.Ytejpklajfcngbaa.En
open Go.RowKit
set_option linter.unusedSimpArgs false
set_option linter.unusedVariables false
set_option maxHeartbeats 4000000
theorem symbolOfR (x : Int) (h0 : -1000 ≤ x) (h1 : x ≤ 1000) : Pure Try.prog 68 [.v (.int .i64 x)] (.v (.int .i64 (-1 - x))) := by
  refine Pure.mk (rs := [.tmp 2]) (nt := 5) Try.func68 (by kernel_rfl) rfl rfl rfl (by simp) ?_
  simp only [sl]
  have hw : wr64 (-1 - x) = -1 - x := wr64_id (by omega) (by omega)
  refine wkc (@hw) _ ?_
  refine Out.mk (xs := ?_) ?_ ?_ (by first | exact .inr rfl | exact .inl rfl)
  rotate_left
  · simp [go_sem, List.take_of_length_le] <;> with_reducible rfl
  exact .v _
def symAV (g : GrammarT) (b : Int) : Int × Bool := if nonOf b = 9 then (96 - b, inR (96 - b) (-g.2.1) (-1)) else (nonOf b, decide (nonOf b < g.1))
theorem isSym0 (x t : Int) (h0 : 1 ≤ t) (h1 : t ≤ 4) : Pure Try.prog 115 [.v (.int .i64 x), .v (.int .i64 0), .v (.int .i64 t)] (.v (.bool (inR x (-t) (-1)))) := by
  have c := implIn x (-t) (-1)
  have hw : wr64 (0 - t) = -t := by rw [wr64_id (by omega) (by omega)]; omega
  have hw2 : wr64 (-t) = -t := wr64_id (by omega) (by omega)
  have hw3 : wr64 (0 - 1) = -1 := rfl
  have hw4 : wr64 (-1) = -1 := rfl
  refine Pure.mk (rs := [.tmp 6]) (nt := 13) Try.func115 (by kernel_rfl) rfl rfl rfl (by simp) ?_
  simp only [sl]
  refine wkc (And.intro @hw (And.intro @hw2 (And.intro @hw3 (@hw4)))) _ ?_
  refine GS.cc (c) rfl rfl rfl rfl (by simp [go_sem, List.take_of_length_le] <;> with_reducible rfl) rfl (by simp [go_sem, List.take_of_length_le]) ?_
  refine wkc0 _ ?_
  refine Out.mk (xs := ?_) ?_ ?_ (by first | exact .inr rfl | exact .inl rfl)
  rotate_left
  · simp [go_sem, List.take_of_length_le] <;> with_reducible rfl
  exact .v _
theorem symbolAt (g : GrammarT) (hg : OkG g) (b : UInt8) : Pure Try.prog 84 [.ag (grammarC g), .v (.int .u8 b.toNat)] (.tu [.v (.int .i64 (symAV g b.toNat).1), .v (.bool (symAV g b.toNat).2)]) := by
  have hb : b.toNat < 256 := b.toNat_lt
  have ci := indexByteS b
  have hn0 : 0 ≤ nonOf (b.toNat : Int) ∧ nonOf (b.toNat : Int) ≤ 9 := by
    unfold nonOf
    repeat' split
    all_goals omega
  have ht0 := hg.t0
  have ht1 := hg.t1
  unfold symAV
  have hwc : IntKind.i64.wrap (b.toNat : Int) = (b.toNat : Int) := wr64_id (by omega) (by omega)
  have hwm : wr64 ((b.toNat : Int) - 97) = (b.toNat : Int) - 97 := wr64_id (by omega) (by omega)
  have cs := symbolOfR ((b.toNat : Int) - 97) (by omega) (by omega)
  rw [show -1 - ((b.toNat : Int) - 97) = 96 - (b.toNat : Int) by omega] at cs
  have cy := isSym0 (96 - (b.toNat : Int)) g.2.1 ht0 ht1
  generalize (b.toNat : Int) = z at *
  refine Pure.mk (rs := [.tmp 4, .tmp 5]) (nt := 26) Try.func84 (by kernel_rfl) rfl rfl rfl (by simp) ?_
  simp only [sl, grammarC]
  by_cases h9 : nonOf z = 9
  · rw [if_pos h9] at ci ⊢
    refine wkdsc0 _ ?_
    first | refine GS.cc (ci) rfl rfl rfl rfl (by simp [go_sem, List.take_of_length_le] <;> with_reducible rfl) rfl (by simp [go_sem, List.take_of_length_le]) ?_ | refine Gd.cc (ci) rfl rfl rfl rfl (by simp [go_sem, List.take_of_length_le] <;> with_reducible rfl) rfl (by simp [go_sem, List.take_of_length_le]) ?_
    refine wkdsc (And.intro @hwc (@hwm)) _ ?_
    first | refine GS.cc (cs) rfl rfl rfl rfl (by simp [go_sem, List.take_of_length_le] <;> with_reducible rfl) rfl (by simp [go_sem, List.take_of_length_le]) ?_ | refine Gd.cc (cs) rfl rfl rfl rfl (by simp [go_sem, List.take_of_length_le] <;> with_reducible rfl) rfl (by simp [go_sem, List.take_of_length_le]) ?_
    refine wkdsc (@grammarC.eq_1) _ ?_
    first | refine GS.cc (cy) rfl rfl rfl rfl (by simp [go_sem, List.take_of_length_le] <;> with_reducible rfl) rfl (by simp [go_sem, List.take_of_length_le]) ?_ | refine Gd.cc (cy) rfl rfl rfl rfl (by simp [go_sem, List.take_of_length_le] <;> with_reducible rfl) rfl (by simp [go_sem, List.take_of_length_le]) ?_
    refine wkdsc0 _ ?_
    refine Out.mk (xs := ?_) ?_ ?_ (by first | exact .inr rfl | exact .inl rfl)
    rotate_left
    · simp [go_sem, List.take_of_length_le] <;> with_reducible rfl
    exact Fz.tuL (.cons (.v _) (.cons (.v _) .nil))
  · rw [if_neg h9] at ci ⊢
    generalize nonOf z = k at *
    have hk : 0 ≤ k := hn0.1
    refine wkdsc0 _ ?_
    first | refine GS.cc (ci) rfl rfl rfl rfl (by simp [go_sem, List.take_of_length_le] <;> with_reducible rfl) rfl (by simp [go_sem, List.take_of_length_le]) ?_ | refine Gd.cc (ci) rfl rfl rfl rfl (by simp [go_sem, List.take_of_length_le] <;> with_reducible rfl) rfl (by simp [go_sem, List.take_of_length_le]) ?_
    refine wkdsc (@hk) _ ?_
    (refine Holds.any mixed ?_ ?_; (· kernel_rfl))
    refine wkdsc (@grammarC.eq_1) _ ?_
    refine Out.mk (xs := ?_) ?_ ?_ (by first | exact .inr rfl | exact .inl rfl)
    rotate_left
    · simp [go_sem, List.take_of_length_le] <;> with_reducible rfl
    exact Fz.tuL (.cons (.v _) (.cons (.v _) .nil))
theorem readT1 (r : RuleT) (left : Int) (right : List Int) (hx : r.2.length < 4611686018427387904) : Pure Try.prog 86 [.ag (ruleC r), .pi [.v (.int .i64 left)], .pi [.im 1 (ints right)]] (.v (.bool (decide (r = (left, right))))) := by
  have c := sameRule r (left, right) hx
  refine Pure.mk (rs := [.tmp 4]) (nt := 10) Try.func86 (by kernel_rfl) rfl rfl rfl (by simp) ?_
  simp only [sl, ruleC]
  refine wkc (@ruleC.eq_1) _ ?_
  refine GS.cc (c) rfl rfl rfl rfl (by simp [go_sem, List.take_of_length_le, ruleC] <;> with_reducible rfl) rfl (by simp [go_sem, List.take_of_length_le, ruleC]) ?_
  refine wkc0 _ ?_
  refine Out.mk (xs := ?_) ?_ ?_ (by first | exact .inr rfl | exact .inl rfl)
  rotate_left
  · simp [go_sem, List.take_of_length_le] <;> with_reducible rfl
  exact .v _
theorem bs_cut {s : List UInt8} {i : Nat} {c : UInt8} (h : s[i]? = some c) : (bs s).extract i (i + 1) = bs [c] := by
  refine ByteArray.ext ?_
  have hi := (List.getElem?_eq_some_iff.1 h).1
  have : ((bs s).extract i (i + 1)).data = (bs s).data.extract i (i + 1) := by simp
  rw [this]
  apply Array.ext'
  simp only [bs, Array.toList_extract, List.extract_eq_take_drop]
  rw [List.drop_eq_getElem_cons hi, (List.getElem?_eq_some_iff.1 h).2, show i + 1 - i = 0 + 1 by omega, List.take_succ_cons, List.take_zero]
theorem letter_is {c : UInt8} {k : Int} (h0 : 0 ≤ k) (h1 : k ≤ 5) : ([c] == letterB k) = decide (nonOf c.toNat = k) := by
  have hk : k = 0 ∨ k = 1 ∨ k = 2 ∨ k = 3 ∨ k = 4 ∨ k = 5 := by omega
  have hb : c.toNat < 256 := c.toNat_lt
  have key : ∀ (z : UInt8) (q : Int), letterB k = [z] → (z.toNat : Int) = q → (nonOf c.toNat = k ↔ (c.toNat : Int) = q) → ([c] == letterB k) = decide (nonOf c.toNat = k) := fun z q e1 e2 e3 => by
    rw [e1]
    by_cases e : c = z
    · subst e
      rw [decide_eq_true (e3.2 e2)]; simp
    · rw [decide_eq_false (fun h => e (UInt8.toNat_inj.1 (by have := e3.1 h; omega)))]
      simp [e]
  rcases hk with rfl | rfl | rfl | rfl | rfl | rfl
  · exact key 83 83 rfl rfl ⟨fun h => by unfold nonOf at h; repeat' split at h; all_goals omega, fun h => by rw [h]; rfl⟩
  · exact key 65 65 rfl rfl ⟨fun h => by unfold nonOf at h; repeat' split at h; all_goals omega, fun h => by rw [h]; rfl⟩
  · exact key 66 66 rfl rfl ⟨fun h => by unfold nonOf at h; repeat' split at h; all_goals omega, fun h => by rw [h]; rfl⟩
  · exact key 67 67 rfl rfl ⟨fun h => by unfold nonOf at h; repeat' split at h; all_goals omega, fun h => by rw [h]; rfl⟩
  · exact key 68 68 rfl rfl ⟨fun h => by unfold nonOf at h; repeat' split at h; all_goals omega, fun h => by rw [h]; rfl⟩
  · exact key 69 69 rfl rfl ⟨fun h => by unfold nonOf at h; repeat' split at h; all_goals omega, fun h => by rw [h]; rfl⟩
theorem symN_av (g : GrammarT) (hg : OkG g) (z : Int) : symN g z = if (symAV g z).2 = true ∧ 0 ≤ (symAV g z).1 then some (symAV g z).1 else none := by
  have hn0 : 0 ≤ nonOf z ∧ nonOf z ≤ 9 := by
    unfold nonOf
    repeat' split
    all_goals omega
  have h1 := hg.n1
  unfold symN symAV
  by_cases h9 : nonOf z = 9
  · rw [if_pos h9, if_neg (by omega)]
    refine (if_neg fun h => ?_).symm
    have := h.2
    have h2 := h.1
    simp [inR] at h2
    dsimp only at this
    omega
  · rw [if_neg h9]
    by_cases hl : nonOf z < g.1
    · rw [if_pos hl, if_pos ⟨by simpa using hl, hn0.1⟩]
    · rw [if_neg hl, if_neg (fun h => hl (by simpa using h.1))]
theorem symT_av (g : GrammarT) (hg : OkG g) (z : Int) : symT g z = if (symAV g z).2 = true ∧ (symAV g z).1 < 0 then some (symAV g z).1 else none := by
  have h1 := hg.t1
  have hn0 : 0 ≤ nonOf z := by
    unfold nonOf
    repeat' split
    all_goals omega
  unfold symT symAV
  by_cases h9 : nonOf z = 9
  · rw [if_pos h9]
    by_cases hz : 97 ≤ z ∧ z - 97 < g.2.1
    · rw [if_pos hz, if_pos ⟨by simp [inR]; omega, by dsimp only; omega⟩]
    · rw [if_neg hz, if_neg (fun h => hz (by have := h.1; simp [inR] at this; omega))]
  · rw [if_neg h9, if_neg (fun h => ?_), if_neg (fun h => by have : nonOf z < 0 := h.2; omega)]
    unfold nonOf at h9
    repeat' split at h9
    all_goals omega
theorem fstP_lt {α : Type} {p : α → Bool} : ∀ (xs : List α) (k : Nat), fstP p xs k < (k : Int) + xs.length + 1
  | [], k => by simp [fstP]; omega
  | x :: xs, k => by
    have := fstP_lt (p := p) xs (k + 1)
    unfold fstP
    split <;> simp only [List.length_cons] <;> omega
theorem ints_allR (l : List Int) (P : List AV → Prop) : (∀ x, x ∈ ints l → P x) ↔ ∀ n, n ∈ l → P [.v (.int .i64 n)] := by simp [ints]
end Go.Proofs.Ytejpklajfcngbaa.En
end
section
namespace Go.Proofs.Ytejpklajfcngbaa.En
open Go.RowKit
set_option linter.unusedSimpArgs false
set_option linter.unusedVariables false
set_option maxHeartbeats 8000000
abbrev rdArgs (g : GrammarT) (s : List UInt8) (a : Nat) (non : Int) : List AV := [.ag (grammarC g), .v (.string (bs s)), .v (.int .i64 a), .v (.int .i64 non)]
theorem bsE {s : List UInt8} {i : Nat} {c : UInt8} (h : (bs s)[i]? = some c) : ∀ g : i < (bs s).size, (bs s)[i]'g = c := fun g => by
  have e1 : (bs s)[i]? = some ((bs s)[i]'g) := getElem?_pos (bs s) i g
  exact Option.some.inj (e1.symm.trans h)
theorem implReadT (g : GrammarT) (hg : OkG g) (s : List UInt8) (hs : s.length ≤ 400) : ∀ (f a : Nat) (non : Int), s.length < f + a → a ≤ 400 → 0 ≤ non → non < g.1 →
    ((∀ rs a2, readR g s f a ≠ some (non, rs, a2)) → Fn Try.prog 41 0 (rdArgs g s a non) [] (.tu [.v (.slice none 0 0), .v (.int .i64 0), .v (.bool false)]) 0 []) ∧
    ∀ rs a2, readR g s f a = some (non, rs, a2) → Fn Try.prog 41 0 (rdArgs g s a non) [] (.tu [.own 0 1 0 rs.length, .v (.int .i64 a2), .v (.bool true)]) 1 [(0, ⟨3, 1, ints rs⟩)] := by
  intro f
  induction f with
  | zero =>
    intro a non hf ha h0 h1
    refine ⟨fun _ => ?_, fun rs a2 h => by cases h⟩
    have hge : (s.length : Int) ≤ (a : Int) + 1 := by omega
    have hgn : s.length ≤ a + 1 := by omega
    have hw : wr64 ((a : Int) + 1) = ((a + 1 : Nat) : Int) := wr64_id (by omega) (by omega)
    refine Fn.mk (rs := [.tmp 8, .tmp 9, .tmp 10]) (nt := 138) Try.func41 (by kernel_rfl) rfl rfl rfl (by simp) ?_
    simp only [sl, grammarC]
    refine wkdsc0 _ ?_
    (refine Holds.any mixed ?_ ?_; (· kernel_rfl))
    refine wkdsc (And.intro @hw (And.intro @hge (@hgn))) _ ?_
    refine OutF.mkn (xs := ?_) (nm []) ?_ ?_ ?_ ?_ ?_ (by first | exact .inr rfl | exact .inl rfl)
    rotate_left
    · simp [go_sem, List.take_of_length_le] <;> with_reducible rfl
    · simp [go_sem, List.take_of_length_le, ren, ren1, ren2, okr, okr1, okr2, ChkN, BlkN, List.range_succ, nf]
    · simp [go_sem, List.take_of_length_le, ren, ren1, ren2, okr, okr1, okr2, ChkN, BlkN, List.range_succ, nf]
    · simp [go_sem, List.take_of_length_le, ren, ren1, ren2, okr, okr1, okr2, ChkN, BlkN, List.range_succ, nf]
    · rfl
  | succ f ih =>
    intro a non hf ha h0 h1
    have hn1 := hg.n1
    have hw : wr64 ((a : Int) + 1) = ((a + 1 : Nat) : Int) := wr64_id (by omega) (by omega)
    have hw2 : wr64 ((a : Int) + 2) = ((a + 2 : Nat) : Int) := wr64_id (by omega) (by omega)
    by_cases hA : a + 1 < s.length
    case neg =>
      have hr : readR g s (f + 1) a = none := by unfold readR; rw [if_neg (fun h => hA h.1)]
      refine ⟨fun _ => ?_, fun rs a2 h => by rw [hr] at h; cases h⟩
      have hge : (s.length : Int) ≤ (a : Int) + 1 := by omega
      have hgn : s.length ≤ a + 1 := by omega
      refine Fn.mk (rs := [.tmp 8, .tmp 9, .tmp 10]) (nt := 138) Try.func41 (by kernel_rfl) rfl rfl rfl (by simp) ?_
      simp only [sl, grammarC]
      refine wkdsc0 _ ?_
      (refine Holds.any mixed ?_ ?_; (· kernel_rfl))
      refine wkdsc (And.intro @hw (And.intro @hge (@hgn))) _ ?_
      refine OutF.mkn (xs := ?_) (nm []) ?_ ?_ ?_ ?_ ?_ (by first | exact .inr rfl | exact .inl rfl)
      rotate_left
      · simp [go_sem, List.take_of_length_le] <;> with_reducible rfl
      · simp [go_sem, List.take_of_length_le, ren, ren1, ren2, okr, okr1, okr2, ChkN, BlkN, List.range_succ, nf]
      · simp [go_sem, List.take_of_length_le, ren, ren1, ren2, okr, okr1, okr2, ChkN, BlkN, List.range_succ, nf]
      · simp [go_sem, List.take_of_length_le, ren, ren1, ren2, okr, okr1, okr2, ChkN, BlkN, List.range_succ, nf]
      · rfl
    have hge : ¬ (s.length : Int) ≤ (a : Int) + 1 := by omega
    have hgn : ¬ s.length ≤ a + 1 := by omega
    obtain ⟨c0, hc0⟩ : ∃ c, s[a]? = some c := ⟨_, List.getElem?_eq_getElem (by omega)⟩
    obtain ⟨c1, hc1⟩ : ∃ c, s[a + 1]? = some c := ⟨_, List.getElem?_eq_getElem hA⟩
    have hb0 := byA_at hc0
    have hb1 := byA_at hc1
    have hg0 : (bs s)[a]? = some c0 := by rw [bs_get]; exact hc0
    have hgE0 := bsE hg0
    by_cases h40 : byA s a = 40
    case neg =>
      have hr : readR g s (f + 1) a = none := by unfold readR; rw [if_neg (fun h => h40 h.2)]
      refine ⟨fun _ => ?_, fun rs a2 h => by rw [hr] at h; cases h⟩
      have hne : ((c0.toNat : Int) != 40) = true := by rw [← hb0]; simpa using h40
      have hne2 : ¬ (c0.toNat : Int) = 40 := by rw [← hb0]; exact h40
      refine Fn.mk (rs := [.tmp 8, .tmp 9, .tmp 10]) (nt := 138) Try.func41 (by kernel_rfl) rfl rfl rfl (by simp) ?_
      simp only [sl, grammarC]
      refine wkdsc0 _ ?_
      (refine Holds.any mixed ?_ ?_; (· kernel_rfl))
      refine wkdsc (And.intro @hw (And.intro @hge (And.intro @hgn (And.intro @hg0 (And.intro @hgE0 (And.intro @hne (@hne2))))))) _ ?_
      refine OutF.mkn (xs := ?_) (nm []) ?_ ?_ ?_ ?_ ?_ (by first | exact .inr rfl | exact .inl rfl)
      rotate_left
      · simp [go_sem, List.take_of_length_le] <;> with_reducible rfl
      · simp [go_sem, List.take_of_length_le, ren, ren1, ren2, okr, okr1, okr2, ChkN, BlkN, List.range_succ, nf]
      · simp [go_sem, List.take_of_length_le, ren, ren1, ren2, okr, okr1, okr2, ChkN, BlkN, List.range_succ, nf]
      · simp [go_sem, List.take_of_length_le, ren, ren1, ren2, okr, okr1, okr2, ChkN, BlkN, List.range_succ, nf]
      · rfl
    have heq : ((c0.toNat : Int) != 40) = false := by rw [← hb0]; simpa using h40
    have heq2 : (c0.toNat : Int) = 40 := by rw [← hb0]; exact h40
    have ht1 : ((a : Int) + 1).toNat = a + 1 := by omega
    have ht2 : ((a : Int) + 2).toNat = a + 2 := by omega
    have h01 : (0 : Int) ≤ (a : Int) + 1 := by omega
    have h02 : (0 : Int) ≤ (a : Int) + 2 := by omega
    have hle2 : a + 2 ≤ s.length := by omega
    have hcut : (bs s).extract (a + 1) (a + 2) = bs [c1] := bs_cut hc1
    have cl := letterOf non (by omega) (by omega)
    have hlet := letter_is (c := c1) (k := non) h0 (by omega)
    have hr : readR g s (f + 1) a = match symN g (byA s (a + 1)) with
      | none => none
      | some left => match loopR (readR g s f) g s (s.length + 1) (a + 2) [] [] with
        | none => none
        | some (right, rules, a2) => if a2 = s.length ∨ ruleIx g left right < 0 then none else some (left, ruleIx g left right :: rules, a2 + 1) := by
      rw [readR, if_pos ⟨hA, h40⟩]; rfl
    by_cases hno : nonOf c1.toNat = non
    case neg =>
      rw [decide_eq_false hno] at hlet
      refine ⟨fun _ => ?_, fun rs a2 h => absurd (readR_left h) (fun h => ?_)⟩
      · refine Fn.mk (rs := [.tmp 8, .tmp 9, .tmp 10]) (nt := 138) Try.func41 (by kernel_rfl) rfl rfl rfl (by simp) ?_
        simp only [sl, grammarC]
        refine wkdsc0 _ ?_
        (refine Holds.any mixed ?_ ?_; (· kernel_rfl))
        refine wkdsc (And.intro @hw (And.intro @hw2 (And.intro @hge (And.intro @hgn (And.intro @hg0 (And.intro @hgE0 (And.intro @heq (And.intro @heq2 (And.intro @ht1 (And.intro @ht2 (And.intro @h01 (And.intro @h02 (And.intro @hle2 (@hcut)))))))))))))) _ ?_
        -- MARK1
        first | refine GS.cc (cl) rfl rfl rfl rfl (by simp [go_sem, List.take_of_length_le] <;> with_reducible rfl) rfl (by simp [go_sem, List.take_of_length_le]) ?_ | refine Gd.cc (cl) rfl rfl rfl rfl (by simp [go_sem, List.take_of_length_le] <;> with_reducible rfl) rfl (by simp [go_sem, List.take_of_length_le]) ?_
        refine wkdsc (And.intro @bs_toList (@hlet)) _ ?_
        refine OutF.mkn (xs := ?_) (nm []) ?_ ?_ ?_ ?_ ?_ (by first | exact .inr rfl | exact .inl rfl)
        rotate_left
        · simp [go_sem, List.take_of_length_le] <;> with_reducible rfl
        · simp [go_sem, List.take_of_length_le, ren, ren1, ren2, okr, okr1, okr2, ChkN, BlkN, List.range_succ, nf]
        · simp [go_sem, List.take_of_length_le, ren, ren1, ren2, okr, okr1, okr2, ChkN, BlkN, List.range_succ, nf]
        · simp [go_sem, List.take_of_length_le, ren, ren1, ren2, okr, okr1, okr2, ChkN, BlkN, List.range_succ, nf]
        · rfl
      · rw [hb1] at h
        unfold symN at h
        split at h
        · injection h with h; exact hno h
        · cases h
    rw [decide_eq_true hno] at hlet
    have hsy : symN g (byA s (a + 1)) = some non := by rw [hb1, symN, hno, if_pos h1]
    rw [hsy] at hr
    dsimp only at hr
    rw [hr]
    obtain ⟨R, hR⟩ : ∃ R, R = loopR (readR g s f) g s (s.length + 1) (a + 2) [] [] := ⟨_, rfl⟩
    rw [← hR]
    have key : ∀ (V : AV) (m : Nat) (outs : List (Nat × Blk)), (R = none → V = .tu [.v (.slice none 0 0), .v (.int .i64 0), .v (.bool false)] ∧ m = 0 ∧ outs = []) → (∀ right rules a2, R = some (right, rules, a2) → (a2 = s.length ∨ ruleIx g non right < 0) → V = .tu [.v (.slice none 0 0), .v (.int .i64 0), .v (.bool false)] ∧ m = 0 ∧ outs = []) →
        (∀ right rules a2, R = some (right, rules, a2) → ¬ (a2 = s.length ∨ ruleIx g non right < 0) → V = .tu [.own 0 1 0 (ruleIx g non right :: rules).length, .v (.int .i64 (a2 + 1 : Nat)), .v (.bool true)] ∧ m = 1 ∧ outs = [(0, ⟨3, 1, ints (ruleIx g non right :: rules)⟩)]) →
        Fn Try.prog 41 0 (rdArgs g s a non) [] V m outs := by
      intro V m outs k1 k2 k3
      refine Fn.mk (rs := [.tmp 8, .tmp 9, .tmp 10]) (nt := 138) Try.func41 (by kernel_rfl) rfl rfl rfl (by simp) ?_
      simp only [sl, grammarC]
      refine wkdsc0 _ ?_
      (refine Holds.any mixed ?_ ?_; (· kernel_rfl))
      refine wkdsc (And.intro @hw (And.intro @hw2 (And.intro @hge (And.intro @hgn (And.intro @hg0 (And.intro @hgE0 (And.intro @heq (And.intro @heq2 (And.intro @ht1 (And.intro @ht2 (And.intro @h01 (And.intro @h02 (And.intro @hle2 (@hcut)))))))))))))) _ ?_
      first | refine GS.cc (cl) rfl rfl rfl rfl (by simp [go_sem, List.take_of_length_le] <;> with_reducible rfl) rfl (by simp [go_sem, List.take_of_length_le]) ?_ | refine Gd.cc (cl) rfl rfl rfl rfl (by simp [go_sem, List.take_of_length_le] <;> with_reducible rfl) rfl (by simp [go_sem, List.take_of_length_le]) ?_
      refine wkdsc (And.intro @bs_toList (And.intro @hlet (@hw2))) _ ?_
      refine Holds.loop (ι := Nat × List Int × List Int) (fun x => ⟨[(1, .v (.string (bs s))), (2, .v (.int .i64 x.1)), (4, .pb 0 3 0 0), (7, .pb 1 1 0 0), (11, .pb 4 1 0 0), (12, .own 3 1 0 x.2.2.length)], [(0, ⟨31, 3, [grammarC g]⟩), (1, ⟨3, 1, [[.v (.int .i64 non)]]⟩), (2, ⟨3, 1, ints x.2.1⟩), (3, ⟨3, 1, ints x.2.2⟩), (4, ⟨26, 1, [[.own 2 1 0 x.2.1.length]]⟩)], 5⟩)
        (fun x => (∃ n, loopR (readR g s f) g s n x.1 x.2.1 x.2.2 = R ∧ s.length < n + x.1) ∧ a + 2 ≤ x.1 ∧ x.1 ≤ s.length ∧ x.2.2.length + (a + 2) ≤ x.1 ∧ x.2.1.length + (a + 2) ≤ x.1) (fun x => s.length - x.1) (a + 2, [], []) ⟨⟨s.length + 1, hR.symm, by dsimp only; omega⟩, Nat.le_refl _, by dsimp only; omega, by simp, by simp⟩ ?_ ?_
      · exact Cov.ofn (nm [0, 1, 2, 3, 4]) rfl (by simp [go_sem, List.take_of_length_le, ren, ren1, ren2, okr, okr1, okr2, ChkT, ChkN, BlkN, nf, grammarC, show ints [] = [] from rfl]) (by simp [go_sem, List.take_of_length_le, ren, ren1, ren2, okr, okr1, okr2, ChkT, ChkN, BlkN, nf, grammarC, show ints [] = [] from rfl])
      rintro ⟨b, right, rules⟩ ⟨⟨n, hl, hn⟩, hab, hbs, hrl, hril⟩
      dsimp only at hl hn hab hbs hrl hril ⊢
      cases n with
      | zero => omega
      | succ n =>
      rw [loopR] at hl
      have hfin : b = s.length ∨ byA s b = 41 → R = some (right, rules, b) := fun h => by
        rw [if_neg (fun hh => by rcases h with h | h; exact Nat.lt_irrefl _ (h ▸ hh.1); exact hh.2 h)] at hl
        exact hl.symm
      by_cases hend : b = s.length ∨ byA s b = 41
      · have hR1 := hfin hend
        have hci := indexFuncRule 86 [.pi [.v (.int .i64 non)], .pi [.im 1 (ints right)]] (fun r => decide (r = (non, right))) g.2.2 (by have := hg.len; omega) rfl (fun r hr => readT1 r non right (by have := hg.r4 r hr; omega))
        rw [show fstP (fun r => decide (r = (non, right))) g.2.2 0 = ruleIx g non right from rfl] at hci
        have hxr : ruleIx g non right < 1000 := by
          unfold ruleIx
          by_cases hex : ∃ r ∈ g.2.2, r = (non, right)
          · obtain ⟨r, hr, e⟩ := hex
            have := fstP_lt (p := fun r : RuleT => decide (r = (non, right))) g.2.2 0
            have := hg.len; omega
          · rw [fstP_no g.2.2 0 fun j x hx => decide_eq_false fun e => hex ⟨x, List.mem_of_getElem? hx, e⟩]; omega
        have hk2 := k2 _ _ _ hR1
        have hk3 := k3 _ _ _ hR1
        clear k1 k2 k3
        generalize ruleIx g non right = ix at hci hxr hk2 hk3
        rcases hend with hbe | hb41
        · subst hbe
          obtain ⟨rfl, rfl, rfl⟩ := hk2 (.inl rfl)
          refine wkdsc (@grammarC.eq_1) _ ?_
          first | refine GS.cd (hci) rfl rfl rfl rfl (by simp [go_sem, List.take_of_length_le] <;> with_reducible rfl) rfl (by exact .cons (.im _ _) (.cons (Fz.fnL (.cons (Fz.pbL rfl rfl rfl (.cons (.v _) .nil)) (.cons (Fz.pbL rfl rfl rfl (.cons (Fz.all rfl rfl (by simp) rfl (ints_cl _)) .nil)) .nil))) .nil)) rfl ?_ | refine Gd.cd (hci) rfl rfl rfl rfl (by simp [go_sem, List.take_of_length_le] <;> with_reducible rfl) rfl (by exact .cons (.im _ _) (.cons (Fz.fnL (.cons (Fz.pbL rfl rfl rfl (.cons (.v _) .nil)) (.cons (Fz.pbL rfl rfl rfl (.cons (Fz.all rfl rfl (by simp) rfl (ints_cl _)) .nil)) .nil))) .nil)) rfl ?_
          refine wkdsc0 _ ?_
          refine OutF.mkn (xs := ?_) (nm []) ?_ ?_ ?_ ?_ ?_ (by first | exact .inr rfl | exact .inl rfl)
          rotate_left
          · simp [go_sem, List.take_of_length_le] <;> with_reducible rfl
          · simp [go_sem, List.take_of_length_le, ren, ren1, ren2, okr, okr1, okr2, ChkN, BlkN, List.range_succ, nf]
          · simp [go_sem, List.take_of_length_le, ren, ren1, ren2, okr, okr1, okr2, ChkN, BlkN, List.range_succ, nf]
          · simp [go_sem, List.take_of_length_le, ren, ren1, ren2, okr, okr1, okr2, ChkN, BlkN, List.range_succ, nf]
          · rfl
        · have hbl : b < s.length := by
            rcases Nat.lt_or_ge b s.length with h | h
            · exact h
            · unfold byA at hb41; rw [List.getElem?_eq_none h] at hb41; cases hb41
          have hbli : (b : Int) < (s.length : Int) := by omega
          have hbne : ((b : Int) == (s.length : Int)) = false := by simp; omega
          have hbnn : ¬ b = s.length := by omega
          obtain ⟨c, hc⟩ : ∃ c, s[b]? = some c := ⟨_, List.getElem?_eq_getElem hbl⟩
          have hgc : (bs s)[b]? = some c := by rw [bs_get]; exact hc
          have hgE := bsE hgc
          have h41 : (c.toNat : Int) = 41 := by rw [← byA_at hc]; exact hb41
          have h41b : ((c.toNat : Int) != 41) = false := by simp [h41]
          have hwb : wr64 ((b : Int) + 1) = ((b + 1 : Nat) : Int) := wr64_id (by omega) (by omega)
          have hbb : (1 + rules.length) * 8 ≤ 140737488355328 := by omega
          by_cases hix : ix < 0
          · obtain ⟨rfl, rfl, rfl⟩ := hk2 (.inr hix)
            refine wkdsc (And.intro @grammarC.eq_1 (And.intro @hbli (And.intro @hbl (And.intro @hgc (And.intro @hgE (And.intro @h41b (@h41))))))) _ ?_
            first | refine GS.cd (hci) rfl rfl rfl rfl (by simp [go_sem, List.take_of_length_le] <;> with_reducible rfl) rfl (by exact .cons (.im _ _) (.cons (Fz.fnL (.cons (Fz.pbL rfl rfl rfl (.cons (.v _) .nil)) (.cons (Fz.pbL rfl rfl rfl (.cons (Fz.all rfl rfl (by simp) rfl (ints_cl _)) .nil)) .nil))) .nil)) rfl ?_ | refine Gd.cd (hci) rfl rfl rfl rfl (by simp [go_sem, List.take_of_length_le] <;> with_reducible rfl) rfl (by exact .cons (.im _ _) (.cons (Fz.fnL (.cons (Fz.pbL rfl rfl rfl (.cons (.v _) .nil)) (.cons (Fz.pbL rfl rfl rfl (.cons (Fz.all rfl rfl (by simp) rfl (ints_cl _)) .nil)) .nil))) .nil)) rfl ?_
            refine wkdsc (And.intro @hbne (And.intro @hbnn (@hix))) _ ?_
            refine OutF.mkn (xs := ?_) (nm []) ?_ ?_ ?_ ?_ ?_ (by first | exact .inr rfl | exact .inl rfl)
            rotate_left
            · simp [go_sem, List.take_of_length_le] <;> with_reducible rfl
            · simp [go_sem, List.take_of_length_le, ren, ren1, ren2, okr, okr1, okr2, ChkN, BlkN, List.range_succ, nf]
            · simp [go_sem, List.take_of_length_le, ren, ren1, ren2, okr, okr1, okr2, ChkN, BlkN, List.range_succ, nf]
            · simp [go_sem, List.take_of_length_le, ren, ren1, ren2, okr, okr1, okr2, ChkN, BlkN, List.range_succ, nf]
            · rfl
          · obtain ⟨rfl, rfl, rfl⟩ := hk3 (fun h => by
              rcases h with h | h
              · exact hbnn h
              · exact hix h)
            refine Holds.frz [3] [(12, .im 1 (ints rules))] (.cons rfl (Fz.all rfl rfl (by simp) rfl (ints_cl _)) .nil) ?_
            simp only [frz, List.filter, List.contains, List.elem, List.cons_append, List.nil_append, Nat.reduceBEq, Bool.not_false, Bool.not_true]
            refine wkdsc (And.intro @grammarC.eq_1 (And.intro @hbli (And.intro @hbl (And.intro @hgc (And.intro @hgE (And.intro @h41b (@h41))))))) _ ?_
            first | refine GS.cd (hci) rfl rfl rfl rfl (by simp [go_sem, List.take_of_length_le] <;> with_reducible rfl) rfl (by exact .cons (.im _ _) (.cons (Fz.fnL (.cons (Fz.pbL rfl rfl rfl (.cons (.v _) .nil)) (.cons (Fz.pbL rfl rfl rfl (.cons (Fz.all rfl rfl (by simp) rfl (ints_cl _)) .nil)) .nil))) .nil)) rfl ?_ | refine Gd.cd (hci) rfl rfl rfl rfl (by simp [go_sem, List.take_of_length_le] <;> with_reducible rfl) rfl (by exact .cons (.im _ _) (.cons (Fz.fnL (.cons (Fz.pbL rfl rfl rfl (.cons (.v _) .nil)) (.cons (Fz.pbL rfl rfl rfl (.cons (Fz.all rfl rfl (by simp) rfl (ints_cl _)) .nil)) .nil))) .nil)) rfl ?_
            refine wkdsc (And.intro @hbne (And.intro @hbnn (And.intro @hix (And.intro @hbb (And.intro @hwb (@ints_allR)))))) _ ?_
            refine OutF.mkn (xs := ?_) (nm [7]) ?_ ?_ ?_ ?_ ?_ (by first | exact .inr rfl | exact .inl rfl)
            rotate_left
            · simp [go_sem, List.take_of_length_le, Nat.add_comm 1 rules.length, show ints (ix :: rules) = [.v (.int .i64 ix)] :: ints rules from rfl] <;> with_reducible rfl
            · simp [go_sem, List.take_of_length_le, ren, ren1, ren2, okr, okr1, okr2, ChkN, BlkN, List.range_succ, nf, Nat.add_comm 1 rules.length, show ints (ix :: rules) = [.v (.int .i64 ix)] :: ints rules from rfl]
            · simp [go_sem, List.take_of_length_le, ren, ren1, ren2, okr, okr1, okr2, ChkN, BlkN, List.range_succ, nf, Nat.add_comm 1 rules.length, show ints (ix :: rules) = [.v (.int .i64 ix)] :: ints rules from rfl]
            · simp [go_sem, List.take_of_length_le, ren, ren1, ren2, okr, okr1, okr2, ChkN, BlkN, List.range_succ, nf, Nat.add_comm 1 rules.length, show ints (ix :: rules) = [.v (.int .i64 ix)] :: ints rules from rfl]
            · rfl
      have hb41 : ¬ byA s b = 41 := fun h => hend (.inr h)
      have hbl : b < s.length := by
        rcases Nat.lt_or_ge b s.length with h | h
        · exact h
        · exact absurd (.inl (by omega)) hend
      clear hfin hend
      rw [if_pos ⟨hbl, hb41⟩] at hl
      have hbli : (b : Int) < (s.length : Int) := by omega
      obtain ⟨c, hc⟩ : ∃ c, s[b]? = some c := ⟨_, List.getElem?_eq_getElem hbl⟩
      have hbc := byA_at hc
      have hgc : (bs s)[b]? = some c := by rw [bs_get]; exact hc
      have hgE := bsE hgc
      rw [hbc] at hl hb41
      have h41b : ((c.toNat : Int) != 41) = true := by simpa using hb41
      have hwb : wr64 ((b : Int) + 1) = ((b + 1 : Nat) : Int) := wr64_id (by omega) (by omega)
      have hrb : (right.length + 1) * 8 ≤ 140737488355328 := by omega
      by_cases hc40 : (c.toNat : Int) = 40
      case neg =>
        have h40b : ((c.toNat : Int) != 40) = true := by simpa using hc40
        have cA := symbolAt g hg c
        rw [if_neg hc40] at hl
        have hsT : ∀ z : Int, symT g z = (if (symAV g z).2 = true ∧ (symAV g z).1 < 0 then some (symAV g z).1 else none) := symT_av g hg
        have hav := hsT (c.toNat : Int)
        generalize symAV g (c.toNat : Int) = av at cA hav
        obtain ⟨x, o⟩ := av
        dsimp only at cA hav
        by_cases hgood : o = true ∧ x < 0
        · obtain ⟨rfl, hx0⟩ := hgood
          have hx0' : ¬ 0 ≤ x := by omega
          rw [if_pos ⟨rfl, hx0⟩] at hav
          rw [hav] at hl
          dsimp only at hl
          refine wkdsc (And.intro @hbli (And.intro @hbl (And.intro @hgc (And.intro @hgE (And.intro @h41b (And.intro @hb41 (And.intro @h40b (@hc40)))))))) _ ?_
          (refine Holds.any mixed ?_ ?_; (· kernel_rfl))
          refine wkdsc (And.intro @grammarC.eq_1 (And.intro @hbli (And.intro @hbl (And.intro @hgc (@hgE))))) _ ?_
          first | refine GS.cc (cA) rfl rfl rfl rfl (by simp [go_sem, List.take_of_length_le, grammarC] <;> with_reducible rfl) rfl (by simp [go_sem, List.take_of_length_le, grammarC]) ?_ | refine Gd.cc (cA) rfl rfl rfl rfl (by simp [go_sem, List.take_of_length_le, grammarC] <;> with_reducible rfl) rfl (by simp [go_sem, List.take_of_length_le, grammarC]) ?_
          refine wkdsc (And.intro @hx0' (And.intro @hrb (@hwb))) _ ?_
          -- MARK4
          refine ⟨(b + 1, right ++ [x], rules), ⟨⟨n, hl, by dsimp only; omega⟩, by dsimp only; omega, by dsimp only; omega, by dsimp only; omega, by simp; omega⟩, by dsimp only; omega, ?_⟩
          exact Cov.ofn (nm [0, 1, 7, 3, 4]) rfl (by simp [go_sem, List.take_of_length_le, ren, ren1, ren2, okr, okr1, okr2, ChkT, ChkN, BlkN, nf, grammarC, ints_snoc]) (by simp [go_sem, List.take_of_length_le, ren, ren1, ren2, okr, okr1, okr2, ChkT, ChkN, BlkN, nf, grammarC, ints_snoc])
        · have hnone : symT g (c.toNat : Int) = none := by rw [hav, if_neg hgood]
          rw [hnone] at hl
          dsimp only at hl
          obtain ⟨rfl, rfl, rfl⟩ := k1 hl.symm
          cases o with
          | false =>
            refine wkdsc (And.intro @hbli (And.intro @hbl (And.intro @hgc (And.intro @hgE (And.intro @h41b (And.intro @hb41 (And.intro @h40b (@hc40)))))))) _ ?_
            (refine Holds.any mixed ?_ ?_; (· kernel_rfl))
            refine wkdsc (And.intro @grammarC.eq_1 (And.intro @hbli (And.intro @hbl (And.intro @hgc (@hgE))))) _ ?_
            first | refine GS.cc (cA) rfl rfl rfl rfl (by simp [go_sem, List.take_of_length_le, grammarC] <;> with_reducible rfl) rfl (by simp [go_sem, List.take_of_length_le, grammarC]) ?_ | refine Gd.cc (cA) rfl rfl rfl rfl (by simp [go_sem, List.take_of_length_le, grammarC] <;> with_reducible rfl) rfl (by simp [go_sem, List.take_of_length_le, grammarC]) ?_
            refine wkdsc0 _ ?_
            refine OutF.mkn (xs := ?_) (nm []) ?_ ?_ ?_ ?_ ?_ (by first | exact .inr rfl | exact .inl rfl)
            rotate_left
            · simp [go_sem, List.take_of_length_le] <;> with_reducible rfl
            · simp [go_sem, List.take_of_length_le, ren, ren1, ren2, okr, okr1, okr2, ChkN, BlkN, List.range_succ, nf]
            · simp [go_sem, List.take_of_length_le, ren, ren1, ren2, okr, okr1, okr2, ChkN, BlkN, List.range_succ, nf]
            · simp [go_sem, List.take_of_length_le, ren, ren1, ren2, okr, okr1, okr2, ChkN, BlkN, List.range_succ, nf]
            · rfl
          | true =>
            have hx0 : 0 ≤ x := by
              rcases Int.lt_or_le x 0 with h | h
              · exact absurd ⟨rfl, h⟩ hgood
              · exact h
            refine wkdsc (And.intro @hbli (And.intro @hbl (And.intro @hgc (And.intro @hgE (And.intro @h41b (And.intro @hb41 (And.intro @h40b (@hc40)))))))) _ ?_
            (refine Holds.any mixed ?_ ?_; (· kernel_rfl))
            refine wkdsc (And.intro @grammarC.eq_1 (And.intro @hbli (And.intro @hbl (And.intro @hgc (@hgE))))) _ ?_
            first | refine GS.cc (cA) rfl rfl rfl rfl (by simp [go_sem, List.take_of_length_le, grammarC] <;> with_reducible rfl) rfl (by simp [go_sem, List.take_of_length_le, grammarC]) ?_ | refine Gd.cc (cA) rfl rfl rfl rfl (by simp [go_sem, List.take_of_length_le, grammarC] <;> with_reducible rfl) rfl (by simp [go_sem, List.take_of_length_le, grammarC]) ?_
            refine wkdsc (@hx0) _ ?_
            refine OutF.mkn (xs := ?_) (nm []) ?_ ?_ ?_ ?_ ?_ (by first | exact .inr rfl | exact .inl rfl)
            rotate_left
            · simp [go_sem, List.take_of_length_le] <;> with_reducible rfl
            · simp [go_sem, List.take_of_length_le, ren, ren1, ren2, okr, okr1, okr2, ChkN, BlkN, List.range_succ, nf]
            · simp [go_sem, List.take_of_length_le, ren, ren1, ren2, okr, okr1, okr2, ChkN, BlkN, List.range_succ, nf]
            · simp [go_sem, List.take_of_length_le, ren, ren1, ren2, okr, okr1, okr2, ChkN, BlkN, List.range_succ, nf]
            · rfl
      have h40b : ((c.toNat : Int) != 40) = false := by simp [hc40]
      rw [if_pos hc40] at hl
      by_cases hB : b + 1 < s.length
      case neg =>
        have hbe : ((b : Int) + 1 == (s.length : Int)) = true := by simp; omega
        have hbe2 : b + 1 = s.length := by omega
        have hbe3 : (b : Int) + 1 = (s.length : Int) := by omega
        have hnone : readR g s f b = none := by
          cases f with
          | zero => rfl
          | succ f => unfold readR; rw [if_neg (fun h => hB h.1)]
        have hws : wr64 (s.length : Int) = (s.length : Int) := wr64_id (by omega) (by omega)
        rw [hnone] at hl
        dsimp only at hl
        obtain ⟨rfl, rfl, rfl⟩ := k1 hl.symm
        refine wkdsc (And.intro @hbli (And.intro @hbl (And.intro @hgc (And.intro @hgE (And.intro @h41b (And.intro @hb41 (And.intro @h40b (And.intro @hc40 (And.intro @hwb (And.intro @hbe (And.intro @hbe3 (@hws)))))))))))) _ ?_
        refine OutF.mkn (xs := ?_) (nm []) ?_ ?_ ?_ ?_ ?_ (by first | exact .inr rfl | exact .inl rfl)
        rotate_left
        · simp [go_sem, List.take_of_length_le] <;> with_reducible rfl
        · simp [go_sem, List.take_of_length_le, ren, ren1, ren2, okr, okr1, okr2, ChkN, BlkN, List.range_succ, nf]
        · simp [go_sem, List.take_of_length_le, ren, ren1, ren2, okr, okr1, okr2, ChkN, BlkN, List.range_succ, nf]
        · simp [go_sem, List.take_of_length_le, ren, ren1, ren2, okr, okr1, okr2, ChkN, BlkN, List.range_succ, nf]
        · rfl
      have hbe : ((b : Int) + 1 == (s.length : Int)) = false := by simp; omega
      have hbe2 : ¬ b + 1 = s.length := by omega
      have hbe3 : ¬ (b : Int) + 1 = (s.length : Int) := by omega
      obtain ⟨d, hd⟩ : ∃ d, s[b + 1]? = some d := ⟨_, List.getElem?_eq_getElem hB⟩
      have hbd := byA_at hd
      have hgd : (bs s)[b + 1]? = some d := by rw [bs_get]; exact hd
      have hgEd := bsE hgd
      have htb : ((b : Int) + 1).toNat = b + 1 := by omega
      have h0b : (0 : Int) ≤ (b : Int) + 1 := by omega
      have cA := symbolAt g hg d
      have hav := symN_av g hg (d.toNat : Int)
      generalize symAV g (d.toNat : Int) = av at cA hav
      obtain ⟨x, o⟩ := av
      dsimp only at cA hav
      by_cases hgood : o = true ∧ 0 ≤ x
      case neg =>
        have hsN : symN g (byA s (b + 1)) = none := by rw [hbd, hav, if_neg hgood]
        have hnone : readR g s f b = none := by
          cases hq : readR g s f b with
          | none => rfl
          | some q =>
            obtain ⟨x', rs, a3⟩ := q
            rw [readR_left hq] at hsN
            cases hsN
        rw [hnone] at hl
        dsimp only at hl
        obtain ⟨rfl, rfl, rfl⟩ := k1 hl.symm
        cases o with
        | false =>
          refine wkdsc (And.intro @hbli (And.intro @hbl (And.intro @hgc (And.intro @hgE (And.intro @h41b (And.intro @hb41 (And.intro @h40b (And.intro @hc40 (And.intro @hwb (And.intro @hbe (@hbe2))))))))))) _ ?_
          (refine Holds.any mixed ?_ ?_; (· kernel_rfl))
          refine wkdsc (And.intro @grammarC.eq_1 (And.intro @hB (And.intro @hgd (And.intro @hgEd (And.intro @hwb (And.intro @htb (@h0b))))))) _ ?_
          first | refine GS.cc (cA) rfl rfl rfl rfl (by simp [go_sem, List.take_of_length_le, grammarC] <;> with_reducible rfl) rfl (by simp [go_sem, List.take_of_length_le, grammarC]) ?_ | refine Gd.cc (cA) rfl rfl rfl rfl (by simp [go_sem, List.take_of_length_le, grammarC] <;> with_reducible rfl) rfl (by simp [go_sem, List.take_of_length_le, grammarC]) ?_
          refine wkdsc0 _ ?_
          refine OutF.mkn (xs := ?_) (nm []) ?_ ?_ ?_ ?_ ?_ (by first | exact .inr rfl | exact .inl rfl)
          rotate_left
          · simp [go_sem, List.take_of_length_le] <;> with_reducible rfl
          · simp [go_sem, List.take_of_length_le, ren, ren1, ren2, okr, okr1, okr2, ChkN, BlkN, List.range_succ, nf]
          · simp [go_sem, List.take_of_length_le, ren, ren1, ren2, okr, okr1, okr2, ChkN, BlkN, List.range_succ, nf]
          · simp [go_sem, List.take_of_length_le, ren, ren1, ren2, okr, okr1, okr2, ChkN, BlkN, List.range_succ, nf]
          · rfl
        | true =>
          have hx0 : x < 0 := by
            rcases Int.lt_or_le x 0 with h | h
            · exact h
            · exact absurd ⟨rfl, h⟩ hgood
          refine wkdsc (And.intro @hbli (And.intro @hbl (And.intro @hgc (And.intro @hgE (And.intro @h41b (And.intro @hb41 (And.intro @h40b (And.intro @hc40 (And.intro @hwb (And.intro @hbe (@hbe2))))))))))) _ ?_
          (refine Holds.any mixed ?_ ?_; (· kernel_rfl))
          refine wkdsc (And.intro @grammarC.eq_1 (And.intro @hB (And.intro @hgd (And.intro @hgEd (And.intro @hwb (And.intro @htb (@h0b))))))) _ ?_
          first | refine GS.cc (cA) rfl rfl rfl rfl (by simp [go_sem, List.take_of_length_le, grammarC] <;> with_reducible rfl) rfl (by simp [go_sem, List.take_of_length_le, grammarC]) ?_ | refine Gd.cc (cA) rfl rfl rfl rfl (by simp [go_sem, List.take_of_length_le, grammarC] <;> with_reducible rfl) rfl (by simp [go_sem, List.take_of_length_le, grammarC]) ?_
          refine wkdsc (@hx0) _ ?_
          refine OutF.mkn (xs := ?_) (nm []) ?_ ?_ ?_ ?_ ?_ (by first | exact .inr rfl | exact .inl rfl)
          rotate_left
          · simp [go_sem, List.take_of_length_le] <;> with_reducible rfl
          · simp [go_sem, List.take_of_length_le, ren, ren1, ren2, okr, okr1, okr2, ChkN, BlkN, List.range_succ, nf]
          · simp [go_sem, List.take_of_length_le, ren, ren1, ren2, okr, okr1, okr2, ChkN, BlkN, List.range_succ, nf]
          · simp [go_sem, List.take_of_length_le, ren, ren1, ren2, okr, okr1, okr2, ChkN, BlkN, List.range_succ, nf]
          · rfl
      obtain ⟨rfl, hx0⟩ := hgood
      have hsN : symN g (byA s (b + 1)) = some x := by rw [hbd, hav, if_pos ⟨rfl, hx0⟩]
      have hxr := symN_rng hsN
      have hx0' : ¬ x < 0 := by omega
      obtain ⟨ih1, ih2⟩ := ih b x (by omega) (by omega) hx0 hxr.2
      cases hrd : readR g s f b with
      | none =>
        rw [hrd] at hl
        dsimp only at hl
        obtain ⟨rfl, rfl, rfl⟩ := k1 hl.symm
        have ih1 := ih1 (fun rs a2 h => by rw [hrd] at h; cases h)
        simp only [rdArgs, grammarC] at ih1
        refine wkdsc (And.intro @hbli (And.intro @hbl (And.intro @hgc (And.intro @hgE (And.intro @h41b (And.intro @hb41 (And.intro @h40b (And.intro @hc40 (And.intro @hwb (And.intro @hbe (@hbe2))))))))))) _ ?_
        (refine Holds.any mixed ?_ ?_; (· kernel_rfl))
        refine wkdsc (And.intro @grammarC.eq_1 (And.intro @hB (And.intro @hgd (And.intro @hgEd (And.intro @hwb (And.intro @htb (@h0b))))))) _ ?_
        first | refine GS.cc (cA) rfl rfl rfl rfl (by simp [go_sem, List.take_of_length_le, grammarC] <;> with_reducible rfl) rfl (by simp [go_sem, List.take_of_length_le, grammarC]) ?_ | refine Gd.cc (cA) rfl rfl rfl rfl (by simp [go_sem, List.take_of_length_le, grammarC] <;> with_reducible rfl) rfl (by simp [go_sem, List.take_of_length_le, grammarC]) ?_
        refine wkdsc (And.intro @hx0' (@grammarC.eq_1)) _ ?_
        refine GS.fnn [] (ih1) rfl rfl rfl rfl (by simp [go_sem, List.take_of_length_le, ren, ren1, ren2, okr, okr1, okr2, ChkN, BlkN, List.range_succ, nf, grammarC] <;> with_reducible rfl) (by simp [go_sem, List.take_of_length_le, ren, ren1, ren2, okr, okr1, okr2, ChkN, BlkN, List.range_succ, nf, grammarC]) (by simp [go_sem, List.take_of_length_le, ren, ren1, ren2, okr, okr1, okr2, ChkN, BlkN, List.range_succ, nf, grammarC]) (by simp [List.range_succ, lb]) (ChkN.toB (by simp [go_sem, List.take_of_length_le, ren, ren1, ren2, okr, okr1, okr2, ChkN, BlkN, List.range_succ, nf, grammarC])) (by decide) (by simp) rfl (.nil) (by simp [go_sem, List.take_of_length_le, ren, ren1, ren2, okr, okr1, okr2, ChkN, BlkN, List.range_succ, nf, grammarC] <;> with_reducible rfl) ?_
        refine wkdsc0 _ ?_
        refine OutF.mkn (xs := ?_) (nm []) ?_ ?_ ?_ ?_ ?_ (by first | exact .inr rfl | exact .inl rfl)
        rotate_left
        · simp [go_sem, List.take_of_length_le] <;> with_reducible rfl
        · simp [go_sem, List.take_of_length_le, ren, ren1, ren2, okr, okr1, okr2, ChkN, BlkN, List.range_succ, nf]
        · simp [go_sem, List.take_of_length_le, ren, ren1, ren2, okr, okr1, okr2, ChkN, BlkN, List.range_succ, nf]
        · simp [go_sem, List.take_of_length_le, ren, ren1, ren2, okr, okr1, okr2, ChkN, BlkN, List.range_succ, nf]
        · rfl
      | some q =>
        obtain ⟨x', rs, a3⟩ := q
        have hxx : x' = x := by
          have := readR_left hrd
          rw [hsN] at this
          exact (Option.some.inj this).symm
        subst hxx
        obtain ⟨g1, g2, g3⟩ := readR_ok g s f _ _ _ _ hrd
        rw [hrd] at hl
        dsimp only at hl
        have ih2 := ih2 _ _ hrd
        simp only [rdArgs, grammarC] at ih2
        have hkb : (rules.length + rs.length) * 8 ≤ 140737488355328 := by omega
        refine wkdsc (And.intro @hbli (And.intro @hbl (And.intro @hgc (And.intro @hgE (And.intro @h41b (And.intro @hb41 (And.intro @h40b (And.intro @hc40 (And.intro @hwb (And.intro @hbe (@hbe2))))))))))) _ ?_
        (refine Holds.any mixed ?_ ?_; (· kernel_rfl))
        refine wkdsc (And.intro @grammarC.eq_1 (And.intro @hB (And.intro @hgd (And.intro @hgEd (And.intro @hwb (And.intro @htb (@h0b))))))) _ ?_
        first | refine GS.cc (cA) rfl rfl rfl rfl (by simp [go_sem, List.take_of_length_le, grammarC] <;> with_reducible rfl) rfl (by simp [go_sem, List.take_of_length_le, grammarC]) ?_ | refine Gd.cc (cA) rfl rfl rfl rfl (by simp [go_sem, List.take_of_length_le, grammarC] <;> with_reducible rfl) rfl (by simp [go_sem, List.take_of_length_le, grammarC]) ?_
        refine wkdsc (And.intro @hx0' (@grammarC.eq_1)) _ ?_
        refine GS.fnn [] (ih2) rfl rfl rfl rfl (by simp [go_sem, List.take_of_length_le, ren, ren1, ren2, okr, okr1, okr2, ChkN, BlkN, List.range_succ, nf, grammarC] <;> with_reducible rfl) (by simp [go_sem, List.take_of_length_le, ren, ren1, ren2, okr, okr1, okr2, ChkN, BlkN, List.range_succ, nf, grammarC]) (by simp [go_sem, List.take_of_length_le, ren, ren1, ren2, okr, okr1, okr2, ChkN, BlkN, List.range_succ, nf, grammarC]) (by simp [List.range_succ, lb]) (ChkN.toB (by simp [go_sem, List.take_of_length_le, ren, ren1, ren2, okr, okr1, okr2, ChkN, BlkN, List.range_succ, nf, grammarC])) (by decide) (by simp) rfl (.nfr (by simp) .nil) (by simp [go_sem, List.take_of_length_le, ren, ren1, ren2, okr, okr1, okr2, ChkN, BlkN, List.range_succ, nf, grammarC] <;> with_reducible rfl) ?_
        repeat' first | (refine Holds.condT ?_ ?_; (· (simp [go_sem, List.take_of_length_le] <;> with_reducible rfl))) | (refine Holds.condF ?_ ?_; (· (simp [go_sem, List.take_of_length_le] <;> with_reducible rfl))) | refine Holds.seq ?_ | refine Holds.skip ?_ | refine Holds.exit ?_ | refine Holds.ret ?_ | refine thenA_normal ?_ | refine thenA_exit ?_ | refine thenA_ret ?_ | refine inB_normal ?_ | refine inB_ret ?_ | refine inB_here ?_ | (refine inB_past ?_ ?_; (· exact rfl)) | refine Holds.reg ?_ | refine Holds.block ?_ | refine GS.nil ?_ | refine Gd.nil ?_ | (refine Holds.any mixed ?_ ?_; (· kernel_rfl)) | (refine GS.stepD 110 (s' := ?_) rfl ?_ ?_ ?_; rotate_left; (· exact rfl); (· (simp [go_sem, List.take_of_length_le] <;> with_reducible rfl))) | (refine GS.skip ?_ ?_ ?_; (· exact rfl); (· exact rfl)) | (refine Gd.go (s' := ?_) ?_ ?_ ?_; rotate_left; (· exact rfl); (· (simp [go_sem, List.take_of_length_le] <;> with_reducible rfl))) | (refine Gd.skip ?_ ?_ ?_; (· exact rfl); (· exact rfl)) | fail
        refine GS.frz [5] [(17, .im 1 (ints rs))] (.cons rfl (Fz.all rfl rfl (by simp) rfl (ints_cl _)) .nil) ?_
        refine wkdsc (And.intro @frz.eq_1 (And.intro @hrb (And.intro @hkb (@ints_allR)))) _ ?_
        refine ⟨(a3, right ++ [x'], rules ++ rs), ⟨⟨n, hl, by dsimp only; omega⟩, by dsimp only; omega, by dsimp only; omega, by simp; omega, by simp; omega⟩, by dsimp only; omega, ?_⟩
        exact Cov.ofn (nm [0, 1, 8, 10, 4]) rfl (by simp [go_sem, List.take_of_length_le, ren, ren1, ren2, okr, okr1, okr2, ChkT, ChkN, BlkN, nf, grammarC, ints_snoc, show ints (rules ++ rs) = ints rules ++ ints rs by simp [ints]]) (by simp [go_sem, List.take_of_length_le, ren, ren1, ren2, okr, okr1, okr2, ChkT, ChkN, BlkN, nf, grammarC, ints_snoc, show ints (rules ++ rs) = ints rules ++ ints rs by simp [ints]])
    refine ⟨fun h => key _ _ _ (fun _ => ⟨rfl, rfl, rfl⟩) (fun _ _ _ _ _ => ⟨rfl, rfl, rfl⟩) (fun right rules a2 h1 h2 => ?_), fun rs a2 h => key _ _ _ (fun h1 => ?_) (fun right rules a3 h1 h2 => ?_) (fun right rules a3 h1 h2 => ?_)⟩
    · rw [h1] at h
      dsimp only at h
      rw [if_neg h2] at h
      exact absurd rfl (h _ _)
    · rw [h1] at h; cases h
    · rw [h1] at h
      dsimp only at h
      rw [if_pos h2] at h
      cases h
    · rw [h1] at h
      dsimp only at h
      rw [if_neg h2] at h
      cases h
      exact ⟨rfl, rfl, rfl⟩
end Go.Proofs.Ytejpklajfcngbaa.En
end
section
namespace Go.Proofs.Ytejpklajfcngbaa.En
open Go.RowKit
set_option linter.unusedSimpArgs false
set_option linter.unusedVariables false
set_option maxHeartbeats 4000000
def wRule (x : RuleT) : Nat := 1 + wtL w1 x.2
def mRule (k : Int) (x : RuleT) : RuleT := ((k), cnt (k + 1) x.2)
def ruleO (x : RuleT) : List AV := [.v (.int .i64 x.1), .ow 3 1 (ints x.2)]
def rulesO (l : List RuleT) : List (List AV) := l.map ruleO
@[simp] theorem rulesO_len (l : List (RuleT)) : (rulesO l).length = l.length := by simp [rulesO]
@[simp] theorem rulesO_get (l : List (RuleT)) (i : Nat) : (rulesO l)[i]? = (l[i]?).map ruleO := by simp [rulesO]
@[simp] theorem rulesO_gE (l : List (RuleT)) (i : Nat) (h : i < (rulesO l).length) : (rulesO l)[i] = ruleO (l[i]'(by simpa using h)) := by simp [rulesO]
theorem rulesO_all (p : AV → Prop) (l : List (RuleT)) (h : ∀ x ∈ l, ∀ y ∈ ruleO x, p y) : ∀ row ∈ rulesO l, ∀ y ∈ row, p y := by
  intro row hr y hy
  simp only [rulesO, List.mem_map] at hr
  obtain ⟨n, hn, rfl⟩ := hr
  exact h n hn y hy
@[simp] theorem nfr_rulesO (l : List (RuleT)) : nfr (rulesO l) := rulesO_all _ l fun x _ y hy => by simp only [ruleO, List.mem_cons, List.not_mem_nil, or_false] at hy; rcases hy with rfl | rfl <;> rfl
@[simp] theorem onyR_rulesO (l : List (RuleT)) : onyR (rulesO l) := rulesO_all _ l fun x _ y hy => by simp only [ruleO, List.mem_cons, List.not_mem_nil, or_false] at hy; rcases hy with rfl | rfl <;> simp
theorem fz_rulesO {bl : List (Nat × Blk)} {n len : Nat} {e : TypeId} (l : List (RuleT)) (hk : lb bl n = some ⟨e, 2, rulesO l⟩) (hl : len = l.length) : Fz bl (.own n 2 0 len) (.im 2 (rules l)) := Fz.rowsO l ruleO ruleC hk rfl rfl (fun x _ => show FzL bl (ruleO x) (ruleC x) from by simp only [ruleO, ruleC]; exact .cons (.v _) (.cons (Fz.owI (ints_cl _)) (.nil))) hl
theorem toRuleO (x : RuleT) (h0 : (x.2).length < 35184372088832) : Fn Try.prog 77 0 [.ag (ruleC x)] [] (.ag [.v (.int .i64 x.1), .own 0 1 0 (x.2).length]) 1 [(0, ⟨3, 1, ints x.2⟩)] := by
  refine Fn.mk (rs := [.cell 2 94]) (nt := 12) Try.func77 (by kernel_rfl) rfl rfl rfl (by simp) ?_
  simp only [sl, ruleC]
  refine wk0 _ ?_
  refine GS.fnn [] (toIntSO x.2 h0) rfl rfl rfl rfl (by simp [go_sem, List.take_of_length_le, ren, ren1, ren2, okr, okr1, okr2, ChkN, BlkN, List.range_succ, nf, ruleC] <;> with_reducible rfl) (by simp [go_sem, List.take_of_length_le, ren, ren1, ren2, okr, okr1, okr2, ChkN, BlkN, List.range_succ, nf, ruleC]) (by simp [go_sem, List.take_of_length_le, ren, ren1, ren2, okr, okr1, okr2, ChkN, BlkN, List.range_succ, nf, ruleC]) (by simp [List.range_succ, lb]) (ChkN.toB (by simp [go_sem, List.take_of_length_le, ren, ren1, ren2, okr, okr1, okr2, ChkN, BlkN, List.range_succ, nf, ruleC])) (by decide) (by simp) rfl (.nfr (by simp) .nil) (by simp [go_sem, List.take_of_length_le, ren, ren1, ren2, okr, okr1, okr2, ChkN, BlkN, List.range_succ, nf, ruleC] <;> with_reducible rfl) ?_
  refine wk0 _ ?_
  refine OutF.mkn (xs := ?_) (nm [3]) ?_ ?_ ?_ ?_ ?_ (by first | exact .inr rfl | exact .inl rfl)
  rotate_left
  · simp [go_sem, List.take_of_length_le, ruleC] <;> with_reducible rfl
  · simp [go_sem, List.take_of_length_le, ren, ren1, ren2, okr, okr1, okr2, ChkN, BlkN, List.range_succ, nf, ruleC]
  · simp [go_sem, List.take_of_length_le, ren, ren1, ren2, okr, okr1, okr2, ChkN, BlkN, List.range_succ, nf, ruleC]
  · simp [go_sem, List.take_of_length_le, ren, ren1, ren2, okr, okr1, okr2, ChkN, BlkN, List.range_succ, nf, ruleC]
  · rfl
theorem toRuleSO (l : List (RuleT)) (h0 : l.length < 8796093022208) (h1 : ∀ q ∈ l, (q.2).length < 35184372088832) : Fn Try.prog 39 0 [.im 2 (rules l)] [] (.own 0 2 0 l.length) 1 [(0, ⟨94, 2, rulesO l⟩)] := by
  refine Fn.mk (rs := [.tmp 2]) (nt := 23) Try.func39 (by kernel_rfl) rfl rfl rfl (by simp) ?_
  simp only [sl]
  refine wk (And.intro ((show (0:Int) ≤ (l.length : Int) by omega)) (And.intro ((show (32:Int) * l.length ≤ 281474976710656 by omega)) ((show (l.length : Int) ≤ 281474976710656 by omega)))) _ ?_
  refine Holds.loop (ι := Nat) (fun i => ⟨[(0, .im 2 (rules l)), (3, .own 0 2 0 l.length), (4, .v (.int .i64 i))], [(0, ⟨94, 2, half (rulesO l) [.v (.int .i64 0), .v (.slice none 0 0)] i⟩)], 1⟩) (fun i => i ≤ l.length) (fun i => l.length - i) 0 (Nat.zero_le _) ?_ ?_
  · have hnf0 : nfr (List.replicate l.length ([.v (.int .i64 0), .v (.slice none 0 0)] : List AV)) := .rep (by simp [nf])
    exact Cov.ofn (id) rfl (by simp [go_sem, List.take_of_length_le, ren, ren1, ren2, okr, okr1, okr2, ChkT, ChkN, BlkN, nf, half, hnf0]) (by simp [go_sem, List.take_of_length_le, ren, ren1, ren2, okr, okr1, okr2, ChkT, ChkN, BlkN, nf, half, hnf0])
  intro i hi
  refine wk0 _ ?_
  refine Holds.cond rfl (fun hl => ?_) (fun hl => ?_)
  · have hlt : i < l.length := by simpa using hl
    have hxi : l[i]? = some l[i] := List.getElem?_eq_getElem hlt
    have hhi := half_get (rulesO l) [.v (.int .i64 0), .v (.slice none 0 0)] i (by simpa using hlt)
    have hhs := half_set (rulesO l) [.v (.int .i64 0), .v (.slice none 0 0)] i (by simpa using hlt) (ruleO l[i]) (by simp [hxi])
    have hnf : nfr (half (rulesO l) [.v (.int .i64 0), .v (.slice none 0 0)] i) := nfr_half (by simp) (by simp [nf])
    have hnf1 : nfr (half (rulesO l) [.v (.int .i64 0), .v (.slice none 0 0)] (i + 1)) := nfr_half (by simp) (by simp [nf])
    simp only [ruleO] at hhs
    refine wk (And.intro @hxi (And.intro @hlt (@ruleC.eq_1))) _ ?_
    refine GS.fnn [] (toRuleO l[i] (h1 _ (List.getElem_mem hlt))) rfl rfl rfl rfl (by simp [go_sem, List.take_of_length_le, ren, ren1, ren2, okr, okr1, okr2, ChkN, BlkN, List.range_succ, nf, ruleC] <;> with_reducible rfl) (by simp [go_sem, List.take_of_length_le, ren, ren1, ren2, okr, okr1, okr2, ChkN, BlkN, List.range_succ, nf, ruleC]) (by simp [go_sem, List.take_of_length_le, ren, ren1, ren2, okr, okr1, okr2, ChkN, BlkN, List.range_succ, nf, ruleC]) (by simp [List.range_succ, lb]) (ChkN.toB (by simp [go_sem, List.take_of_length_le, ren, ren1, ren2, okr, okr1, okr2, ChkN, BlkN, List.range_succ, nf, ruleC])) (by decide) (by simp) rfl (.nfr (by simp) .nil) (by simp [go_sem, List.take_of_length_le, ren, ren1, ren2, okr, okr1, okr2, ChkN, BlkN, List.range_succ, nf, ruleC] <;> with_reducible rfl) ?_
    refine wk (And.intro @hxi (And.intro @hlt (And.intro @hhi (And.intro @hhs (@ruleC.eq_1))))) _ ?_
    refine ⟨i + 1, by omega, by omega, ?_⟩
    rw [wr64_id (by omega) (by omega)]
    refine Cov.trans ?_ (Cov.close 0 i 1 rfl (set_get hhi) rfl rfl rfl rfl (by first | rfl | simp) (by simp))
    simp only [rm, st, List.set_set, List.set_cons_zero, List.set_cons_succ, hhs]
    exact Cov.ofn (id) rfl (by simp [go_sem, List.take_of_length_le, ren, ren1, ren2, okr, okr1, okr2, ChkT, ChkN, BlkN, nf, hnf, hnf1]) (by simp [go_sem, List.take_of_length_le, ren, ren1, ren2, okr, okr1, okr2, ChkT, ChkN, BlkN, nf, hnf, hnf1])
  · have hle : i = l.length := by
      have : ¬ i < l.length := by simpa using hl
      omega
    subst hle
    rw [show half (rulesO l) [.v (.int .i64 0), .v (.slice none 0 0)] l.length = rulesO l by have := half_all (rulesO l) ([.v (.int .i64 0), .v (.slice none 0 0)] : List AV); rwa [show (rulesO l).length = l.length by simp] at this]
    refine wk0 _ ?_
    refine OutF.mkn (xs := ?_) (nm [0]) ?_ ?_ ?_ ?_ ?_ (by first | exact .inr rfl | exact .inl rfl)
    rotate_left
    · simp [go_sem, List.take_of_length_le] <;> with_reducible rfl
    · simp [go_sem, List.take_of_length_le, ren, ren1, ren2, okr, okr1, okr2, ChkN, BlkN, List.range_succ, nf]
    · simp [go_sem, List.take_of_length_le, ren, ren1, ren2, okr, okr1, okr2, ChkN, BlkN, List.range_succ, nf]
    · simp [go_sem, List.take_of_length_le, ren, ren1, ren2, okr, okr1, okr2, ChkN, BlkN, List.range_succ, nf]
    · rfl
theorem markRuleS (l : List (RuleT)) (k : Int) (h0 : 0 ≤ k) (h1 : k + wtL wRule l ≤ 4611686018427387904) (h2 : l.length ≤ 4611686018427387904) : Fn Try.prog 43 1 [.own 0 2 0 l.length, .v (.int .i64 k)] [(0, ⟨94, 2, rulesO l⟩)] (.v (.int .i64 (k + wtL wRule l))) 1 [(0, ⟨94, 2, rulesO (mkL wRule mRule k l)⟩)] := by
  have hl0 : (rulesO (mkL wRule mRule k l)).length = (rulesO l).length := by simp
  have hl1 : (rulesO l).length = l.length := by simp
  refine Fn.mk (rs := [.tmp 4]) (nt := 27) Try.func43 (by kernel_rfl) rfl rfl rfl (by simp) ?_
  simp only [sl]
  refine wk0 _ ?_
  refine Holds.loop (ι := Nat) (fun i => ⟨[(0, .own 0 2 0 l.length), (1, .v (.int .i64 (k + wtL wRule (l.take i)))), (5, .v (.int .i64 i))], [(0, ⟨94, 2, mid (rulesO (mkL wRule mRule k l)) (rulesO l) i⟩)], 1⟩) (fun i => i ≤ l.length) (fun i => l.length - i) 0 (Nat.zero_le _) ?_ ?_
  · exact Cov.ofn (id) rfl (by simp [go_sem, List.take_of_length_le, ren, ren1, ren2, okr, okr1, okr2, ChkT, ChkN, BlkN, nf, wtL]) (by simp [go_sem, List.take_of_length_le, ren, ren1, ren2, okr, okr1, okr2, ChkT, ChkN, BlkN, nf, wtL])
  intro i hi
  have hml := (mid_len (i := i) hl0).trans hl1
  refine wk (@hml) _ ?_
  refine Holds.cond rfl (fun hl => ?_) (fun hl => ?_)
  · have hlt : i < l.length := by simpa using hl
    have hxi : l[i]? = some l[i] := List.getElem?_eq_getElem hlt
    have hwn := wtL_next wRule hxi
    have hwl := wtL_le wRule l (i + 1)
    have hmk : (mkL wRule mRule k l)[i]? = some (mRule (k + wtL wRule (l.take i)) l[i]) := by rw [mkL_get, hxi]; rfl
    have hhi := (mid_get hl0 (i := i) (by simpa using hlt)).trans (show (rulesO l)[i]? = some (ruleO l[i]) by simp [hxi])
    have hhs := mid_set hl0 (i := i) (by simpa using hlt) (show (rulesO (mkL wRule mRule k l))[i]? = some (ruleO (mRule (k + wtL wRule (l.take i)) l[i])) by simp [hmk])
    have hnf : nfr (mid (rulesO (mkL wRule mRule k l)) (rulesO l) i) := nfr_mid (by simp) (by simp)
    have hnf1 : nfr (mid (rulesO (mkL wRule mRule k l)) (rulesO l) (i + 1)) := nfr_mid (by simp) (by simp)
    have hW0 : (0 : Int) ≤ (wtL wRule (l.take i) : Int) := Int.natCast_nonneg _
    generalize wtL wRule (l.take i) = W at hwn hmk hhs hW0 ⊢
    generalize hX : l[i] = x at hxi hwn hmk hhi hhs
    simp only [wRule] at hwn
    simp only [ruleO, mRule] at hhs
    simp only [ruleO] at hhi
    have hhe := get_E hhi
    have hw0 : wr64 ((k + W : Int) + 1) = (k + W : Int) + 1 := wr64_id (by omega) (by omega)
    refine wk (And.intro @hml (And.intro @hhi (And.intro @hhe (And.intro @hlt (And.intro @hl0 (@hw0)))))) _ ?_
    refine GS.fnn [1] (markIntS x.2 ((k + W : Int) + 1) (by omega) (by omega)) rfl rfl rfl rfl (by simp [go_sem, List.take_of_length_le, ren, ren1, ren2, okr, okr1, okr2, ChkN, BlkN, List.range_succ, nf, hml, hhi, hhe, hlt, hl0, hw0] <;> with_reducible rfl) (by simp [go_sem, List.take_of_length_le, ren, ren1, ren2, okr, okr1, okr2, ChkN, BlkN, List.range_succ, nf, hml, hhi, hhe, hlt, hl0, hw0]) (by simp [go_sem, List.take_of_length_le, ren, ren1, ren2, okr, okr1, okr2, ChkN, BlkN, List.range_succ, nf, hml, hhi, hhe, hlt, hl0, hw0]) (by simp [List.range_succ, lb]) (ChkN.toB (by simp [go_sem, List.take_of_length_le, ren, ren1, ren2, okr, okr1, okr2, ChkN, BlkN, List.range_succ, nf, hml, hhi, hhe, hlt, hl0, hw0])) (by decide) (by simp) rfl (.nfr (by simp) .nil) (by simp [go_sem, List.take_of_length_le, ren, ren1, ren2, okr, okr1, okr2, ChkN, BlkN, List.range_succ, nf, hml, hhi, hhe, hlt, hl0, hw0] <;> with_reducible rfl) ?_
    refine wk (And.intro @hml (And.intro @hhi (And.intro @hhe (And.intro @hlt (And.intro @hl0 (@hw0)))))) _ ?_
    refine ⟨i + 1, by omega, by omega, ?_⟩
    rw [show wr64 ((i : Int) + 1) = ((i + 1 : Nat) : Int) from wr64_id (by omega) (by omega), hwn]
    refine Cov.trans ?_ (Cov.close 0 i 1 rfl (set_get hhi) rfl rfl rfl rfl (by first | rfl | simp) (by simp))
    simp only [rm, st, List.set_set, List.set_cons_zero, List.set_cons_succ]
    exact Cov.ofn (id) rfl (by simp [go_sem, List.take_of_length_le, ren, ren1, ren2, okr, okr1, okr2, ChkT, ChkN, BlkN, nf, hhs, hnf, hnf1, Int.add_assoc]) (by simp [go_sem, List.take_of_length_le, ren, ren1, ren2, okr, okr1, okr2, ChkT, ChkN, BlkN, nf, hhs, hnf, hnf1])
  · have hle : i = l.length := by
      have : ¬ i < l.length := by simpa using hl
      omega
    subst hle
    rw [mid_all (by simp) (by simp), List.take_length]
    refine wk0 _ ?_
    refine OutF.mkn (xs := ?_) (nm [0]) ?_ ?_ ?_ ?_ ?_ (by first | exact .inr rfl | exact .inl rfl)
    rotate_left
    · simp [go_sem, List.take_of_length_le] <;> with_reducible rfl
    · simp [go_sem, List.take_of_length_le, ren, ren1, ren2, okr, okr1, okr2, ChkN, BlkN, List.range_succ, nf]
    · simp [go_sem, List.take_of_length_le, ren, ren1, ren2, okr, okr1, okr2, ChkN, BlkN, List.range_succ, nf]
    · simp [go_sem, List.take_of_length_le, ren, ren1, ren2, okr, okr1, okr2, ChkN, BlkN, List.range_succ, nf]
    · rfl
theorem toGrammarO (x : GrammarT) (h0 : (x.2.2).length < 8796093022208) (h1 : ∀ q ∈ (x.2.2), (q.2).length < 35184372088832) : Fn Try.prog 9 0 [.ag (grammarC x)] [] (.ag [.v (.int .i64 x.1), .v (.int .i64 x.2.1), .own 0 2 0 (x.2.2).length]) 1 [(0, ⟨94, 2, rulesO x.2.2⟩)] := by
  refine Fn.mk (rs := [.cell 2 31]) (nt := 15) Try.func9 (by kernel_rfl) rfl rfl rfl (by simp) ?_
  simp only [sl, grammarC]
  refine wk0 _ ?_
  refine GS.fnn [] (toRuleSO x.2.2 h0 h1) rfl rfl rfl rfl (by simp [go_sem, List.take_of_length_le, ren, ren1, ren2, okr, okr1, okr2, ChkN, BlkN, List.range_succ, nf, grammarC] <;> with_reducible rfl) (by simp [go_sem, List.take_of_length_le, ren, ren1, ren2, okr, okr1, okr2, ChkN, BlkN, List.range_succ, nf, grammarC]) (by simp [go_sem, List.take_of_length_le, ren, ren1, ren2, okr, okr1, okr2, ChkN, BlkN, List.range_succ, nf, grammarC]) (by simp [List.range_succ, lb]) (ChkN.toB (by simp [go_sem, List.take_of_length_le, ren, ren1, ren2, okr, okr1, okr2, ChkN, BlkN, List.range_succ, nf, grammarC])) (by decide) (by simp) rfl (.nfr (by simp) .nil) (by simp [go_sem, List.take_of_length_le, ren, ren1, ren2, okr, okr1, okr2, ChkN, BlkN, List.range_succ, nf, grammarC] <;> with_reducible rfl) ?_
  refine wk0 _ ?_
  refine OutF.mkn (xs := ?_) (nm [3]) ?_ ?_ ?_ ?_ ?_ (by first | exact .inr rfl | exact .inl rfl)
  rotate_left
  · simp [go_sem, List.take_of_length_le, grammarC] <;> with_reducible rfl
  · simp [go_sem, List.take_of_length_le, ren, ren1, ren2, okr, okr1, okr2, ChkN, BlkN, List.range_succ, nf, grammarC]
  · simp [go_sem, List.take_of_length_le, ren, ren1, ren2, okr, okr1, okr2, ChkN, BlkN, List.range_succ, nf, grammarC]
  · simp [go_sem, List.take_of_length_le, ren, ren1, ren2, okr, okr1, okr2, ChkN, BlkN, List.range_succ, nf, grammarC]
  · rfl
def wGrammar (x : GrammarT) : Nat := wtL wRule x.2.2
def mGrammar (k : Int) (x : GrammarT) : GrammarT := (x.1, x.2.1, mkL wRule mRule (k) x.2.2)
theorem markGrammar (x : GrammarT) (k : Int) (h0 : 0 ≤ k) (h1 : k + wGrammar x ≤ 4611686018427387904) (g20 : x.2.2.length ≤ 4611686018427387904) : Fn Try.prog 13 1 [.ag [.v (.int .i64 x.1), .v (.int .i64 x.2.1), .own 0 2 0 (x.2.2).length], .v (.int .i64 k)] [(0, ⟨94, 2, rulesO x.2.2⟩)] (.v (.int .i64 (k + wGrammar x))) 1 [(0, ⟨94, 2, rulesO (mGrammar k x).2.2⟩)] := by
  simp only [wGrammar] at h1
  simp only [wGrammar, mGrammar]
  refine Fn.mk (rs := [.tmp 4]) (nt := 10) Try.func13 (by kernel_rfl) rfl rfl rfl (by simp) ?_
  simp only [sl]
  refine wk0 _ ?_
  refine GS.fnn [0] (markRuleS x.2.2 (k) (by omega) (by omega) g20) rfl rfl rfl rfl (by simp [go_sem, List.take_of_length_le, ren, ren1, ren2, okr, okr1, okr2, ChkN, BlkN, List.range_succ, nf] <;> with_reducible rfl) (by simp [go_sem, List.take_of_length_le, ren, ren1, ren2, okr, okr1, okr2, ChkN, BlkN, List.range_succ, nf]) (by simp [go_sem, List.take_of_length_le, ren, ren1, ren2, okr, okr1, okr2, ChkN, BlkN, List.range_succ, nf]) (by simp [List.range_succ, lb]) (ChkN.toB (by simp [go_sem, List.take_of_length_le, ren, ren1, ren2, okr, okr1, okr2, ChkN, BlkN, List.range_succ, nf])) (by decide) (by simp) rfl (.nfr (by simp) .nil) (by simp [go_sem, List.take_of_length_le, ren, ren1, ren2, okr, okr1, okr2, ChkN, BlkN, List.range_succ, nf] <;> with_reducible rfl) ?_
  refine wk0 _ ?_
  refine OutF.mkn (xs := ?_) (nm [0]) ?_ ?_ ?_ ?_ ?_ (by first | exact .inr rfl | exact .inl rfl)
  rotate_left
  · simp [go_sem, List.take_of_length_le, Int.add_assoc, cnt] <;> with_reducible rfl
  · simp [go_sem, List.take_of_length_le, ren, ren1, ren2, okr, okr1, okr2, ChkN, BlkN, List.range_succ, nf, Int.add_assoc, cnt]
  · simp [go_sem, List.take_of_length_le, ren, ren1, ren2, okr, okr1, okr2, ChkN, BlkN, List.range_succ, nf, Int.add_assoc, cnt]
  · simp [go_sem, List.take_of_length_le, ren, ren1, ren2, okr, okr1, okr2, ChkN, BlkN, List.range_succ, nf, Int.add_assoc, cnt]
  · rfl
end Go.Proofs.Ytejpklajfcngbaa.En
end
section
namespace Go.Proofs.Ytejpklajfcngbaa.En
open Go.RowKit
set_option linter.unusedSimpArgs false
set_option linter.unusedVariables false
theorem less_wt {n : Int} {k : Nat} (h : 0 ≤ less n k) : less n k + (k : Int) ≤ n := by
  unfold less at h ⊢
  split at h
  · omega
  · rename_i g; rw [if_neg g]; omega
theorem szL_wt {α : Type} {f : Int → α → Int} {w : α → Nat} (hf : ∀ n x, 0 ≤ f n x → f n x + (w x : Int) ≤ n) : ∀ (es : List α) (n : Int), 0 ≤ szL f n es → szL f n es + (wtL w es : Int) ≤ n
  | [], n, h => by simp [szL, wtL]
  | e :: es, n, h => by
    unfold szL at h ⊢
    split at h
    · omega
    · rename_i g
      rw [if_neg g]
      have h1 := hf n e (by omega)
      have h2 := szL_wt hf es _ h
      simp only [wtL]; omega
theorem szLA_wt {α : Type} {f : Int → α → Int} {w : α → Nat} (hf : ∀ n x, 0 ≤ f n x → f n x + (w x : Int) ≤ n) {es : List α} {n : Int} (h : 0 ≤ szLA f n es) : szLA f n es + (es.length : Int) + (wtL w es : Int) ≤ n := by
  unfold szLA at h ⊢
  split at h
  · omega
  · rename_i g
    rw [if_neg g]
    have := szL_wt hf es _ h
    omega
theorem wtL_add {α : Type} (u v : α → Nat) : ∀ es : List α, wtL (fun x => u x + v x) es = wtL u es + wtL v es
  | [] => rfl
  | e :: es => by simp only [wtL, wtL_add u v es]; omega
theorem wtL_const {α : Type} (c : Nat) : ∀ es : List α, wtL (fun _ => c) es = c * es.length
  | [] => rfl
  | e :: es => by simp only [wtL, wtL_const c es, List.length_cons, Nat.mul_succ]; omega
theorem szGrammar_wt {n : Int} {g : GrammarT} (h : 0 ≤ szGrammarF n g) : (wGrammar g : Int) ≤ n := by
  unfold szGrammarF at h
  have := szLA_wt (f := szRuleF) (w := fun x => x.2.length) (fun n x hx => less_wt hx) h
  have e : wGrammar g = g.2.2.length + wtL (fun x : RuleT => x.2.length) g.2.2 := by
    unfold wGrammar
    rw [show wRule = fun x : RuleT => (fun _ => 1) x + (fun y : RuleT => y.2.length) x from funext fun x => by simp [wRule], wtL_add, wtL_const]; simp
  omega
end Go.Proofs.Ytejpklajfcngbaa.En
end
section
namespace Go.Proofs.Ytejpklajfcngbaa.En
open Go.RowKit
set_option linter.unusedSimpArgs false
set_option linter.unusedVariables false
@[simp] theorem nfr_nodes (l : List Node3) : nfr (nodes l) := nfr_of_ok (nodes_ok l)
@[simp] theorem nfr_edges (l : List Edge3) : nfr (edges l) := nfr_of_ok (edges_ok l)
end Go.Proofs.Ytejpklajfcngbaa.En
end
section
namespace Go.Proofs.Ytejpklajfcngbaa.En
open Go.RowKit
set_option linter.unusedSimpArgs false
set_option linter.unusedVariables false
set_option maxHeartbeats 4000000
@[simp] theorem onyR_nodes (l : List (Node3)) : onyR (nodes l) := fun row hr x hx => by
  have := nodes_ok l row hr x hx
  simp only [nodes, List.mem_map] at hr
  obtain ⟨n, _, rfl⟩ := hr
  simp only [nodeC, List.mem_cons, List.not_mem_nil, or_false] at hx
  rcases hx with rfl | rfl | rfl <;> simp
def edgeO (x : Edge3) : List AV := [.v (.int .i64 x.1), .v (.int .i64 x.2.1), .ow 3 1 (ints x.2.2)]
def edgesO (l : List Edge3) : List (List AV) := l.map edgeO
@[simp] theorem edgesO_len (l : List (Edge3)) : (edgesO l).length = l.length := by simp [edgesO]
@[simp] theorem edgesO_get (l : List (Edge3)) (i : Nat) : (edgesO l)[i]? = (l[i]?).map edgeO := by simp [edgesO]
@[simp] theorem edgesO_gE (l : List (Edge3)) (i : Nat) (h : i < (edgesO l).length) : (edgesO l)[i] = edgeO (l[i]'(by simpa using h)) := by simp [edgesO]
theorem edgesO_all (p : AV → Prop) (l : List (Edge3)) (h : ∀ x ∈ l, ∀ y ∈ edgeO x, p y) : ∀ row ∈ edgesO l, ∀ y ∈ row, p y := by
  intro row hr y hy
  simp only [edgesO, List.mem_map] at hr
  obtain ⟨n, hn, rfl⟩ := hr
  exact h n hn y hy
@[simp] theorem nfr_edgesO (l : List (Edge3)) : nfr (edgesO l) := edgesO_all _ l fun x _ y hy => by simp only [edgeO, List.mem_cons, List.not_mem_nil, or_false] at hy; rcases hy with rfl | rfl | rfl <;> rfl
@[simp] theorem onyR_edgesO (l : List (Edge3)) : onyR (edgesO l) := edgesO_all _ l fun x _ y hy => by simp only [edgeO, List.mem_cons, List.not_mem_nil, or_false] at hy; rcases hy with rfl | rfl | rfl <;> simp
end Go.Proofs.Ytejpklajfcngbaa.En
end
section
namespace Go.Proofs.Ytejpklajfcngbaa.En
open Go.RowKit
set_option linter.unusedSimpArgs false
set_option linter.unusedVariables false
set_option maxHeartbeats 4000000
@[simp] theorem onyR_dones (l : List (DoneT)) : onyR (dones l) := fun row hr x hx => by
  have := dones_ok l row hr x hx
  simp only [dones, List.mem_map] at hr
  obtain ⟨n, _, rfl⟩ := hr
  simp only [doneC, List.mem_cons, List.not_mem_nil, or_false] at hx
  rcases hx with rfl | rfl | rfl | rfl <;> simp
end Go.Proofs.Ytejpklajfcngbaa.En
end
section
namespace Go.Proofs.Ytejpklajfcngbaa.En
open Go.RowKit
set_option linter.unusedSimpArgs false
set_option linter.unusedVariables false
set_option maxHeartbeats 4000000
def intsO1 (x : List Int) : List AV := [.ow 3 1 (ints x)]
def intssO (l : List (List Int)) : List (List AV) := l.map intsO1
@[simp] theorem intssO_len (l : List (List Int)) : (intssO l).length = l.length := by simp [intssO]
@[simp] theorem intssO_get (l : List (List Int)) (i : Nat) : (intssO l)[i]? = (l[i]?).map intsO1 := by simp [intssO]
@[simp] theorem intssO_gE (l : List (List Int)) (i : Nat) (h : i < (intssO l).length) : (intssO l)[i] = intsO1 (l[i]'(by simpa using h)) := by simp [intssO]
theorem intssO_all (p : AV → Prop) (l : List (List Int)) (h : ∀ x ∈ l, ∀ y ∈ intsO1 x, p y) : ∀ row ∈ intssO l, ∀ y ∈ row, p y := by
  intro row hr y hy
  simp only [intssO, List.mem_map] at hr
  obtain ⟨n, hn, rfl⟩ := hr
  exact h n hn y hy
@[simp] theorem nfr_intssO (l : List (List Int)) : nfr (intssO l) := intssO_all _ l fun x _ y hy => by simp only [intsO1, List.mem_cons, List.not_mem_nil, or_false] at hy; rcases hy with rfl <;> rfl
@[simp] theorem onyR_intssO (l : List (List Int)) : onyR (intssO l) := intssO_all _ l fun x _ y hy => by simp only [intsO1, List.mem_cons, List.not_mem_nil, or_false] at hy; rcases hy with rfl <;> simp
end Go.Proofs.Ytejpklajfcngbaa.En
end
section
namespace Go.Proofs.Ytejpklajfcngbaa.En
open Go.RowKit
set_option linter.unusedSimpArgs false
set_option linter.unusedVariables false
end Go.Proofs.Ytejpklajfcngbaa.En
end
section
namespace Go.Proofs.Ytejpklajfcngbaa.En
open Go.RowKit
set_option linter.unusedSimpArgs false
set_option linter.unusedVariables false
set_option maxHeartbeats 4000000
section
attribute [local semireducible] G Gq Holds GS Pure Out Fn OutF
theorem GS.nir {P : Program} {nt : NT} {s s' : AS} {ops : Array Oper} {K : AS → Prop} {l : List Oper} {p : Nat} (n j i : Nat) (e : TypeId) (sz : Nat) {b : Blk} {row : List AV} (hb : lb s.bl n = some b) (hrow : b.xs[j]? = some row) (hi : row[i]? = some (.v (.slice none 0 0))) (hs : nirw s n j i e sz = s') (h : GS P nt ops K l p s') : GS P nt ops K l p s :=
  GS.cov (Cov.nir e sz hb hrow hi) (by rw [hs]; exact h)
end
theorem readTV_bad {g : GrammarT} {s : List UInt8} (h : (goodG g && decide (s.length ≤ 400)) = false) : readTV g s = ([], false) := by
  unfold readTV
  rw [if_neg (by rw [h]; exact Bool.false_ne_true)]
theorem readTV_good {g : GrammarT} {s : List UInt8} (h : goodG g = true) (hs : s.length ≤ 400) : readTV g s = match readR g s 401 0 with
    | some (x, rs, a) => if x = 0 ∧ a = s.length ∧ rs.length ≤ 60 then (rs, true) else ([], false)
    | none => ([], false) := by
  unfold readTV
  rw [if_pos (by rw [h, decide_eq_true hs]; rfl)]
  rfl
theorem specRead (g : GrammarT) (s : List UInt8) (hx : g.2.2.length < 4611686018427387904) (hs : ∀ e ∈ g.2.2, e.2.length < 4611686018427387904) : Pure Try.prog 8 [.ag (grammarC g), .v (.string (bs s))] (.tu [.im 1 (ints (readTV g s).1), .v (.bool (readTV g s).2)]) := by
  have cg := specGoodG g hx hs
  refine Pure.mk (rs := [.tmp 4, .tmp 5]) (nt := 53) Try.func8 (by kernel_rfl) rfl rfl rfl (by simp) ?_
  simp only [sl, grammarC]
  cases hg : goodG g with
  | false =>
    rw [hg] at cg
    rw [readTV_bad (by rw [hg]; rfl)]
    refine wkc (@grammarC.eq_1) _ ?_
    refine GS.cc (cg) rfl rfl rfl rfl (by simp [go_sem, List.take_of_length_le, grammarC] <;> with_reducible rfl) rfl (by simp [go_sem, List.take_of_length_le, grammarC]) ?_
    refine wkc0 _ ?_
    refine Out.mk (xs := ?_) ?_ ?_ (by first | exact .inr rfl | exact .inl rfl)
    rotate_left
    · simp [go_sem, List.take_of_length_le] <;> with_reducible rfl
    exact Fz.tuL (.cons (Fz.nl _) (.cons (.v _) .nil))
  | true =>
    rw [hg] at cg
    by_cases hl : s.length ≤ 400
    case neg =>
      have h1 : (400 : Int) < (s.length : Int) := by omega
      have h2 : 400 < s.length := by omega
      rw [readTV_bad (by rw [hg, decide_eq_false hl]; rfl)]
      refine wkc (@grammarC.eq_1) _ ?_
      refine GS.cc (cg) rfl rfl rfl rfl (by simp [go_sem, List.take_of_length_le, grammarC] <;> with_reducible rfl) rfl (by simp [go_sem, List.take_of_length_le, grammarC]) ?_
      refine wkc (And.intro @h1 (@h2)) _ ?_
      refine Out.mk (xs := ?_) ?_ ?_ (by first | exact .inr rfl | exact .inl rfl)
      rotate_left
      · simp [go_sem, List.take_of_length_le] <;> with_reducible rfl
      exact Fz.tuL (.cons (Fz.nl _) (.cons (.v _) .nil))
    have h1 : ¬ (400 : Int) < (s.length : Int) := by omega
    have h2 : ¬ 400 < s.length := by omega
    have hG := goodG_ok hg
    obtain ⟨t1, t2⟩ := specTreeR g hG s hl 401 0 [] (by omega) (by omega) (Nat.zero_le _)
    simp only [rdIns, rdOuts, rdC, grammarC] at t1 t2
    rw [readTV_good hg hl]
    refine wkc (@grammarC.eq_1) _ ?_
    refine GS.cc (cg) rfl rfl rfl rfl (by simp [go_sem, List.take_of_length_le, grammarC] <;> with_reducible rfl) rfl (by simp [go_sem, List.take_of_length_le, grammarC]) ?_
    repeat' first | (refine Holds.condT ?_ ?_; (· (simp [go_sem, List.take_of_length_le, h1, h2, grammarC] <;> with_reducible rfl))) | (refine Holds.condF ?_ ?_; (· (simp [go_sem, List.take_of_length_le, h1, h2, grammarC] <;> with_reducible rfl))) | refine Holds.seq ?_ | refine Holds.skip ?_ | refine Holds.exit ?_ | refine Holds.ret ?_ | refine thenA_normal ?_ | refine thenA_exit ?_ | refine thenA_ret ?_ | refine inB_normal ?_ | refine inB_ret ?_ | refine inB_here ?_ | (refine inB_past ?_ ?_; (· exact rfl)) | refine Holds.reg ?_ | refine Holds.block ?_ | refine GS.nil ?_ | (refine GS.stepD 22 (s' := ?_) rfl ?_ ?_ ?_; rotate_left; (· exact rfl); (· (simp [go_sem, List.take_of_length_le, h1, h2, grammarC] <;> with_reducible rfl))) | (refine GS.skip ?_ ?_ ?_; (· exact rfl); (· exact rfl)) | fail
    -- MARK1
    refine GS.nir 1 0 5 3 1 rfl rfl rfl rfl ?_
    cases hr : readR g s 401 0 with
    | none =>
      have t1 := t1 hr
      refine wkc (@grammarC.eq_1) _ ?_
      refine GS.fnn [1, 2] (t1) rfl rfl rfl rfl (by simp [go_sem, List.take_of_length_le, ren, ren1, ren2, okr, okr1, okr2, ChkN, BlkN, List.range_succ, nf, grammarC] <;> with_reducible rfl) (by simp [go_sem, List.take_of_length_le, ren, ren1, ren2, okr, okr1, okr2, ChkN, BlkN, List.range_succ, nf, grammarC]) (by simp [go_sem, List.take_of_length_le, ren, ren1, ren2, okr, okr1, okr2, ChkN, BlkN, List.range_succ, nf, grammarC]) (by simp [List.range_succ, lb]) (ChkN.toB (by simp [go_sem, List.take_of_length_le, ren, ren1, ren2, okr, okr1, okr2, ChkN, BlkN, List.range_succ, nf, grammarC])) (by decide) (by simp) rfl (.nil) (by simp [go_sem, List.take_of_length_le, ren, ren1, ren2, okr, okr1, okr2, ChkN, BlkN, List.range_succ, nf, grammarC] <;> with_reducible rfl) ?_
      refine wkc0 _ ?_
      refine Out.mk (xs := ?_) ?_ ?_ (by first | exact .inr rfl | exact .inl rfl)
      rotate_left
      · simp [go_sem, List.take_of_length_le] <;> with_reducible rfl
      exact Fz.tuL (.cons (Fz.nl _) (.cons (.v _) .nil))
    | some q =>
      obtain ⟨x, rs, a⟩ := q
      have t2 := t2 _ _ _ hr
      rw [List.nil_append] at t2
      dsimp only
      obtain ⟨_, ha, _⟩ := readR_ok g s 401 _ _ _ _ hr
      by_cases hc : x = 0 ∧ a = s.length ∧ rs.length ≤ 60
      · obtain ⟨rfl, rfl, h60⟩ := hc
        have h60i : ¬ (60 : Int) < (rs.length : Int) := by omega
        have h60n : ¬ 60 < rs.length := by omega
        rw [if_pos ⟨rfl, rfl, h60⟩]
        refine wkc (@grammarC.eq_1) _ ?_
        refine GS.fnn [1, 2] (t2) rfl rfl rfl rfl (by simp [go_sem, List.take_of_length_le, ren, ren1, ren2, okr, okr1, okr2, ChkN, BlkN, List.range_succ, nf, grammarC] <;> with_reducible rfl) (by simp [go_sem, List.take_of_length_le, ren, ren1, ren2, okr, okr1, okr2, ChkN, BlkN, List.range_succ, nf, grammarC]) (by simp [go_sem, List.take_of_length_le, ren, ren1, ren2, okr, okr1, okr2, ChkN, BlkN, List.range_succ, nf, grammarC]) (by simp [List.range_succ, lb]) (ChkN.toB (by simp [go_sem, List.take_of_length_le, ren, ren1, ren2, okr, okr1, okr2, ChkN, BlkN, List.range_succ, nf, grammarC])) (by decide) (by simp) rfl (.okw (by simp [okr, okr1]) (.nfr (by simp) .nil)) (by simp [go_sem, List.take_of_length_le, ren, ren1, ren2, okr, okr1, okr2, ChkN, BlkN, List.range_succ, nf, grammarC] <;> with_reducible rfl) ?_
        refine wkc (And.intro @h60i (@h60n)) _ ?_
        refine Out.mk (xs := ?_) ?_ ?_ (by first | exact .inr rfl | exact .inl rfl)
        rotate_left
        · simp [go_sem, List.take_of_length_le] <;> with_reducible rfl
        exact Fz.tuL (.cons (Fz.all rfl rfl (by simp) rfl (ints_cl _)) (.cons (.v _) .nil))
      · rw [if_neg hc]
        by_cases hx0 : x = 0
        · subst hx0
          by_cases hae : a = s.length
          · subst hae
            have h60i : (60 : Int) < (rs.length : Int) := by
              rcases Nat.lt_or_ge 60 rs.length with h | h
              · omega
              · exact absurd ⟨rfl, rfl, h⟩ hc
            have h60n : 60 < rs.length := by omega
            refine wkc (@grammarC.eq_1) _ ?_
            refine GS.fnn [1, 2] (t2) rfl rfl rfl rfl (by simp [go_sem, List.take_of_length_le, ren, ren1, ren2, okr, okr1, okr2, ChkN, BlkN, List.range_succ, nf, grammarC] <;> with_reducible rfl) (by simp [go_sem, List.take_of_length_le, ren, ren1, ren2, okr, okr1, okr2, ChkN, BlkN, List.range_succ, nf, grammarC]) (by simp [go_sem, List.take_of_length_le, ren, ren1, ren2, okr, okr1, okr2, ChkN, BlkN, List.range_succ, nf, grammarC]) (by simp [List.range_succ, lb]) (ChkN.toB (by simp [go_sem, List.take_of_length_le, ren, ren1, ren2, okr, okr1, okr2, ChkN, BlkN, List.range_succ, nf, grammarC])) (by decide) (by simp) rfl (.okw (by simp [okr, okr1]) (.nfr (by simp) .nil)) (by simp [go_sem, List.take_of_length_le, ren, ren1, ren2, okr, okr1, okr2, ChkN, BlkN, List.range_succ, nf, grammarC] <;> with_reducible rfl) ?_
            refine wkc (And.intro @h60i (@h60n)) _ ?_
            refine Out.mk (xs := ?_) ?_ ?_ (by first | exact .inr rfl | exact .inl rfl)
            rotate_left
            · simp [go_sem, List.take_of_length_le] <;> with_reducible rfl
            exact Fz.tuL (.cons (Fz.nl _) (.cons (.v _) .nil))
          · have hae1 : ((a : Int) != (s.length : Int)) = true := by simp; omega
            refine wkc (@grammarC.eq_1) _ ?_
            refine GS.fnn [1, 2] (t2) rfl rfl rfl rfl (by simp [go_sem, List.take_of_length_le, ren, ren1, ren2, okr, okr1, okr2, ChkN, BlkN, List.range_succ, nf, grammarC] <;> with_reducible rfl) (by simp [go_sem, List.take_of_length_le, ren, ren1, ren2, okr, okr1, okr2, ChkN, BlkN, List.range_succ, nf, grammarC]) (by simp [go_sem, List.take_of_length_le, ren, ren1, ren2, okr, okr1, okr2, ChkN, BlkN, List.range_succ, nf, grammarC]) (by simp [List.range_succ, lb]) (ChkN.toB (by simp [go_sem, List.take_of_length_le, ren, ren1, ren2, okr, okr1, okr2, ChkN, BlkN, List.range_succ, nf, grammarC])) (by decide) (by simp) rfl (.okw (by simp [okr, okr1]) (.nfr (by simp) .nil)) (by simp [go_sem, List.take_of_length_le, ren, ren1, ren2, okr, okr1, okr2, ChkN, BlkN, List.range_succ, nf, grammarC] <;> with_reducible rfl) ?_
            refine wkc (And.intro @hae1 (@hae)) _ ?_
            refine Out.mk (xs := ?_) ?_ ?_ (by first | exact .inr rfl | exact .inl rfl)
            rotate_left
            · simp [go_sem, List.take_of_length_le] <;> with_reducible rfl
            exact Fz.tuL (.cons (Fz.nl _) (.cons (.v _) .nil))
        · have hx1 : (x != 0) = true := by simp [hx0]
          refine wkc (@grammarC.eq_1) _ ?_
          refine GS.fnn [1, 2] (t2) rfl rfl rfl rfl (by simp [go_sem, List.take_of_length_le, ren, ren1, ren2, okr, okr1, okr2, ChkN, BlkN, List.range_succ, nf, grammarC] <;> with_reducible rfl) (by simp [go_sem, List.take_of_length_le, ren, ren1, ren2, okr, okr1, okr2, ChkN, BlkN, List.range_succ, nf, grammarC]) (by simp [go_sem, List.take_of_length_le, ren, ren1, ren2, okr, okr1, okr2, ChkN, BlkN, List.range_succ, nf, grammarC]) (by simp [List.range_succ, lb]) (ChkN.toB (by simp [go_sem, List.take_of_length_le, ren, ren1, ren2, okr, okr1, okr2, ChkN, BlkN, List.range_succ, nf, grammarC])) (by decide) (by simp) rfl (.okw (by simp [okr, okr1]) (.nfr (by simp) .nil)) (by simp [go_sem, List.take_of_length_le, ren, ren1, ren2, okr, okr1, okr2, ChkN, BlkN, List.range_succ, nf, grammarC] <;> with_reducible rfl) ?_
          refine wkc (And.intro @hx1 (@hx0)) _ ?_
          refine Out.mk (xs := ?_) ?_ ?_ (by first | exact .inr rfl | exact .inl rfl)
          rotate_left
          · simp [go_sem, List.take_of_length_le] <;> with_reducible rfl
          exact Fz.tuL (.cons (Fz.nl _) (.cons (.v _) .nil))
theorem implRead (g : GrammarT) (s : List UInt8) (hx : g.2.2.length < 4611686018427387904) (hs : ∀ e ∈ g.2.2, e.2.length < 4611686018427387904) : Fn Try.prog 10 0 [.ag (grammarC g), .v (.string (bs s))] [] (.tu [.own 0 1 0 (readTV g s).1.length, .v (.bool (readTV g s).2)]) 1 [(0, ⟨3, 1, ints (readTV g s).1⟩)] := by
  have cg := implGoodG g hx hs
  refine Fn.mk (rs := [.tmp 4, .tmp 5]) (nt := 38) Try.func10 (by kernel_rfl) rfl rfl rfl (by simp) ?_
  simp only [sl, grammarC]
  cases hg : goodG g with
  | false =>
    rw [hg] at cg
    rw [readTV_bad (by rw [hg]; rfl)]
    refine wkc (@grammarC.eq_1) _ ?_
    refine GS.cc (cg) rfl rfl rfl rfl (by simp [go_sem, List.take_of_length_le, grammarC] <;> with_reducible rfl) rfl (by simp [go_sem, List.take_of_length_le, grammarC]) ?_
    refine wkc0 _ ?_
    refine OutF.cov (Cov.niw (t := 4) 3 1 rfl) ?_
    refine OutF.mkn (xs := ?_) (nm [1]) ?_ ?_ ?_ ?_ ?_ (by first | exact .inr rfl | exact .inl rfl)
    rotate_left
    · simp [go_sem, List.take_of_length_le, niw, ints] <;> with_reducible rfl
    · simp [go_sem, List.take_of_length_le, ren, ren1, ren2, okr, okr1, okr2, ChkN, BlkN, List.range_succ, nf, niw, ints]
    · simp [go_sem, List.take_of_length_le, ren, ren1, ren2, okr, okr1, okr2, ChkN, BlkN, List.range_succ, nf, niw, ints]
    · simp [go_sem, List.take_of_length_le, ren, ren1, ren2, okr, okr1, okr2, ChkN, BlkN, List.range_succ, nf, niw, ints]
    · rfl
  | true =>
    rw [hg] at cg
    by_cases hl : s.length ≤ 400
    case neg =>
      have h1 : (400 : Int) < (s.length : Int) := by omega
      have h2 : 400 < s.length := by omega
      rw [readTV_bad (by rw [hg, decide_eq_false hl]; rfl)]
      refine wkc (@grammarC.eq_1) _ ?_
      refine GS.cc (cg) rfl rfl rfl rfl (by simp [go_sem, List.take_of_length_le, grammarC] <;> with_reducible rfl) rfl (by simp [go_sem, List.take_of_length_le, grammarC]) ?_
      refine wkc (And.intro @h1 (@h2)) _ ?_
      refine OutF.cov (Cov.niw (t := 4) 3 1 rfl) ?_
      refine OutF.mkn (xs := ?_) (nm [1]) ?_ ?_ ?_ ?_ ?_ (by first | exact .inr rfl | exact .inl rfl)
      rotate_left
      · simp [go_sem, List.take_of_length_le, niw, ints] <;> with_reducible rfl
      · simp [go_sem, List.take_of_length_le, ren, ren1, ren2, okr, okr1, okr2, ChkN, BlkN, List.range_succ, nf, niw, ints]
      · simp [go_sem, List.take_of_length_le, ren, ren1, ren2, okr, okr1, okr2, ChkN, BlkN, List.range_succ, nf, niw, ints]
      · simp [go_sem, List.take_of_length_le, ren, ren1, ren2, okr, okr1, okr2, ChkN, BlkN, List.range_succ, nf, niw, ints]
      · rfl
    have h1 : ¬ (400 : Int) < (s.length : Int) := by omega
    have h2 : ¬ 400 < s.length := by omega
    have hG := goodG_ok hg
    obtain ⟨t1, t2⟩ := implReadT g hG s hl 401 0 0 (by omega) (by omega) (by omega) (by have := hG.n0; omega)
    simp only [rdArgs, grammarC] at t1 t2
    rw [readTV_good hg hl]
    by_cases hex : ∃ rs a, readR g s 401 0 = some (0, rs, a)
    case neg =>
      have t1 := t1 (fun rs a h => hex ⟨rs, a, h⟩)
      have hv : (match readR g s 401 0 with
          | some (x, rs, a) => if x = 0 ∧ a = s.length ∧ rs.length ≤ 60 then (rs, true) else (([] : List Int), false)
          | none => ([], false)) = ([], false) := by
        cases hr : readR g s 401 0 with
        | none => rfl
        | some q =>
          obtain ⟨x, rs, a⟩ := q
          dsimp only
          rw [if_neg (fun h => hex ⟨rs, a, by rw [hr, h.1]⟩)]
      rw [hv]
      refine wkc (@grammarC.eq_1) _ ?_
      refine GS.cc (cg) rfl rfl rfl rfl (by simp [go_sem, List.take_of_length_le, grammarC] <;> with_reducible rfl) rfl (by simp [go_sem, List.take_of_length_le, grammarC]) ?_
      refine wkc (And.intro @h1 (And.intro @h2 (@grammarC.eq_1))) _ ?_
      refine GS.fnn [] (t1) rfl rfl rfl rfl (by simp [go_sem, List.take_of_length_le, ren, ren1, ren2, okr, okr1, okr2, ChkN, BlkN, List.range_succ, nf, grammarC] <;> with_reducible rfl) (by simp [go_sem, List.take_of_length_le, ren, ren1, ren2, okr, okr1, okr2, ChkN, BlkN, List.range_succ, nf, grammarC]) (by simp [go_sem, List.take_of_length_le, ren, ren1, ren2, okr, okr1, okr2, ChkN, BlkN, List.range_succ, nf, grammarC]) (by simp [List.range_succ, lb]) (ChkN.toB (by simp [go_sem, List.take_of_length_le, ren, ren1, ren2, okr, okr1, okr2, ChkN, BlkN, List.range_succ, nf, grammarC])) (by decide) (by simp) rfl (.nil) (by simp [go_sem, List.take_of_length_le, ren, ren1, ren2, okr, okr1, okr2, ChkN, BlkN, List.range_succ, nf, grammarC] <;> with_reducible rfl) ?_
      refine wkc0 _ ?_
      refine OutF.cov (Cov.niw (t := 4) 3 1 rfl) ?_
      refine OutF.mkn (xs := ?_) (nm [1]) ?_ ?_ ?_ ?_ ?_ (by first | exact .inr rfl | exact .inl rfl)
      rotate_left
      · simp [go_sem, List.take_of_length_le, niw, ints] <;> with_reducible rfl
      · simp [go_sem, List.take_of_length_le, ren, ren1, ren2, okr, okr1, okr2, ChkN, BlkN, List.range_succ, nf, niw, ints]
      · simp [go_sem, List.take_of_length_le, ren, ren1, ren2, okr, okr1, okr2, ChkN, BlkN, List.range_succ, nf, niw, ints]
      · simp [go_sem, List.take_of_length_le, ren, ren1, ren2, okr, okr1, okr2, ChkN, BlkN, List.range_succ, nf, niw, ints]
      · rfl
    obtain ⟨rs, a, hr⟩ := hex
    have t2 := t2 _ _ hr
    obtain ⟨_, ha, _⟩ := readR_ok g s 401 _ _ _ _ hr
    rw [hr]
    dsimp only
    by_cases hae : a = s.length
    · subst hae
      by_cases h60 : rs.length ≤ 60
      · have h60i : ¬ (60 : Int) < (rs.length : Int) := by omega
        have h60n : ¬ 60 < rs.length := by omega
        rw [if_pos ⟨rfl, rfl, h60⟩]
        refine wkc (@grammarC.eq_1) _ ?_
        refine GS.cc (cg) rfl rfl rfl rfl (by simp [go_sem, List.take_of_length_le, grammarC] <;> with_reducible rfl) rfl (by simp [go_sem, List.take_of_length_le, grammarC]) ?_
        refine wkc (And.intro @h1 (And.intro @h2 (@grammarC.eq_1))) _ ?_
        refine GS.fnn [] (t2) rfl rfl rfl rfl (by simp [go_sem, List.take_of_length_le, ren, ren1, ren2, okr, okr1, okr2, ChkN, BlkN, List.range_succ, nf, grammarC] <;> with_reducible rfl) (by simp [go_sem, List.take_of_length_le, ren, ren1, ren2, okr, okr1, okr2, ChkN, BlkN, List.range_succ, nf, grammarC]) (by simp [go_sem, List.take_of_length_le, ren, ren1, ren2, okr, okr1, okr2, ChkN, BlkN, List.range_succ, nf, grammarC]) (by simp [List.range_succ, lb]) (ChkN.toB (by simp [go_sem, List.take_of_length_le, ren, ren1, ren2, okr, okr1, okr2, ChkN, BlkN, List.range_succ, nf, grammarC])) (by decide) (by simp) rfl (.nfr (by simp) .nil) (by simp [go_sem, List.take_of_length_le, ren, ren1, ren2, okr, okr1, okr2, ChkN, BlkN, List.range_succ, nf, grammarC] <;> with_reducible rfl) ?_
        refine wkc (And.intro @h60i (@h60n)) _ ?_
        refine OutF.mkn (xs := ?_) (nm [1]) ?_ ?_ ?_ ?_ ?_ (by first | exact .inr rfl | exact .inl rfl)
        rotate_left
        · simp [go_sem, List.take_of_length_le] <;> with_reducible rfl
        · simp [go_sem, List.take_of_length_le, ren, ren1, ren2, okr, okr1, okr2, ChkN, BlkN, List.range_succ, nf]
        · simp [go_sem, List.take_of_length_le, ren, ren1, ren2, okr, okr1, okr2, ChkN, BlkN, List.range_succ, nf]
        · simp [go_sem, List.take_of_length_le, ren, ren1, ren2, okr, okr1, okr2, ChkN, BlkN, List.range_succ, nf]
        · rfl
      · have h60i : (60 : Int) < (rs.length : Int) := by omega
        have h60n : 60 < rs.length := by omega
        rw [if_neg (fun h => h60 h.2.2)]
        refine wkc (@grammarC.eq_1) _ ?_
        refine GS.cc (cg) rfl rfl rfl rfl (by simp [go_sem, List.take_of_length_le, grammarC] <;> with_reducible rfl) rfl (by simp [go_sem, List.take_of_length_le, grammarC]) ?_
        refine wkc (And.intro @h1 (And.intro @h2 (@grammarC.eq_1))) _ ?_
        refine GS.fnn [] (t2) rfl rfl rfl rfl (by simp [go_sem, List.take_of_length_le, ren, ren1, ren2, okr, okr1, okr2, ChkN, BlkN, List.range_succ, nf, grammarC] <;> with_reducible rfl) (by simp [go_sem, List.take_of_length_le, ren, ren1, ren2, okr, okr1, okr2, ChkN, BlkN, List.range_succ, nf, grammarC]) (by simp [go_sem, List.take_of_length_le, ren, ren1, ren2, okr, okr1, okr2, ChkN, BlkN, List.range_succ, nf, grammarC]) (by simp [List.range_succ, lb]) (ChkN.toB (by simp [go_sem, List.take_of_length_le, ren, ren1, ren2, okr, okr1, okr2, ChkN, BlkN, List.range_succ, nf, grammarC])) (by decide) (by simp) rfl (.nfr (by simp) .nil) (by simp [go_sem, List.take_of_length_le, ren, ren1, ren2, okr, okr1, okr2, ChkN, BlkN, List.range_succ, nf, grammarC] <;> with_reducible rfl) ?_
        refine wkc (And.intro @h60i (@h60n)) _ ?_
        refine OutF.cov (Cov.niw (t := 4) 3 1 rfl) ?_
        refine OutF.mkn (xs := ?_) (nm [2]) ?_ ?_ ?_ ?_ ?_ (by first | exact .inr rfl | exact .inl rfl)
        rotate_left
        · simp [go_sem, List.take_of_length_le, niw, ints] <;> with_reducible rfl
        · simp [go_sem, List.take_of_length_le, ren, ren1, ren2, okr, okr1, okr2, ChkN, BlkN, List.range_succ, nf, niw, ints]
        · simp [go_sem, List.take_of_length_le, ren, ren1, ren2, okr, okr1, okr2, ChkN, BlkN, List.range_succ, nf, niw, ints]
        · simp [go_sem, List.take_of_length_le, ren, ren1, ren2, okr, okr1, okr2, ChkN, BlkN, List.range_succ, nf, niw, ints]
        · rfl
    · have hae1 : ((a : Int) != (s.length : Int)) = true := by simp; omega
      rw [if_neg (fun h => hae h.2.1)]
      refine wkc (@grammarC.eq_1) _ ?_
      refine GS.cc (cg) rfl rfl rfl rfl (by simp [go_sem, List.take_of_length_le, grammarC] <;> with_reducible rfl) rfl (by simp [go_sem, List.take_of_length_le, grammarC]) ?_
      refine wkc (And.intro @h1 (And.intro @h2 (@grammarC.eq_1))) _ ?_
      refine GS.fnn [] (t2) rfl rfl rfl rfl (by simp [go_sem, List.take_of_length_le, ren, ren1, ren2, okr, okr1, okr2, ChkN, BlkN, List.range_succ, nf, grammarC] <;> with_reducible rfl) (by simp [go_sem, List.take_of_length_le, ren, ren1, ren2, okr, okr1, okr2, ChkN, BlkN, List.range_succ, nf, grammarC]) (by simp [go_sem, List.take_of_length_le, ren, ren1, ren2, okr, okr1, okr2, ChkN, BlkN, List.range_succ, nf, grammarC]) (by simp [List.range_succ, lb]) (ChkN.toB (by simp [go_sem, List.take_of_length_le, ren, ren1, ren2, okr, okr1, okr2, ChkN, BlkN, List.range_succ, nf, grammarC])) (by decide) (by simp) rfl (.nfr (by simp) .nil) (by simp [go_sem, List.take_of_length_le, ren, ren1, ren2, okr, okr1, okr2, ChkN, BlkN, List.range_succ, nf, grammarC] <;> with_reducible rfl) ?_
      refine wkc (And.intro @hae1 (@hae)) _ ?_
      refine OutF.cov (Cov.niw (t := 4) 3 1 rfl) ?_
      refine OutF.mkn (xs := ?_) (nm [2]) ?_ ?_ ?_ ?_ ?_ (by first | exact .inr rfl | exact .inl rfl)
      rotate_left
      · simp [go_sem, List.take_of_length_le, niw, ints] <;> with_reducible rfl
      · simp [go_sem, List.take_of_length_le, ren, ren1, ren2, okr, okr1, okr2, ChkN, BlkN, List.range_succ, nf, niw, ints]
      · simp [go_sem, List.take_of_length_le, ren, ren1, ren2, okr, okr1, okr2, ChkN, BlkN, List.range_succ, nf, niw, ints]
      · simp [go_sem, List.take_of_length_le, ren, ren1, ren2, okr, okr1, okr2, ChkN, BlkN, List.range_succ, nf, niw, ints]
      · rfl
end Go.Proofs.Ytejpklajfcngbaa.En
end
section
namespace Go.Proofs.Ytejpklajfcngbaa.En
open Go.RowKit
set_option linter.unusedSimpArgs false
set_option linter.unusedVariables false
set_option maxHeartbeats 8000000
theorem lawReadT (g : GrammarT) (s : List UInt8) (hxg : g.2.2.length < 8796093022208) (hsg : ∀ e ∈ g.2.2, e.2.length < 35184372088832) : Pure Try.prog 3 [.ag (grammarC g), .v (.string (bs s))] (.v (.bool true)) := by
  refine Pure.mk (rs := [.tmp 4]) (nt := 104) Try.func3 (by kernel_rfl) rfl rfl rfl (by simp) ?_
  simp only [sl, grammarC]
  have hsg' : ∀ e ∈ g.2.2, e.2.length < 4611686018427387904 := fun e he => by have := hsg e he; omega
  have ctg := toGrammar g hxg hsg
  have ceg := eqGrammar g g hxg hsg
  have cog := toGrammarO g hxg hsg
  have hig := szGrammarF_in (n := 1048576) (x := g) (by omega)
  have czg := szGrammar g 1048576 (by omega) (by omega) hxg hsg
  have p1 := specRead g s (by omega) hsg'
  have p2 := implRead g s (by omega) hsg'
  try simp only [decide_true] at ceg
  have hv := readTV_len g s
  generalize readTV g s = v at p1 p2 hv
  have p3 := p2.pure (r' := .tu [.im 1 (ints v.1), .v (.bool v.2)]) (Fz.tuL (.cons (Fz.all rfl rfl (by simp) rfl (ints_cl _)) (.cons (.v _) .nil)))
  refine wkd0 _ ?_
  refine Holds.cond rfl (fun h => ?_) (fun h => ?_)
  · refine wkd0 _ ?_
    refine Out.mk (xs := ?_) ?_ ?_ (by first | exact .inr rfl | exact .inl rfl)
    rotate_left
    · simp [go_sem, List.take_of_length_le] <;> with_reducible rfl
    exact .v _
  refine wkd0 _ ?_
  first | refine GS.cc (czg) rfl rfl rfl rfl (by simp [go_sem, List.take_of_length_le, grammarC] <;> with_reducible rfl) rfl (by simp [go_sem, List.take_of_length_le, grammarC]) ?_ | refine Gd.cc (czg) rfl rfl rfl rfl (by simp [go_sem, List.take_of_length_le, grammarC] <;> with_reducible rfl) rfl (by simp [go_sem, List.take_of_length_le, grammarC]) ?_
  refine wkd0 _ ?_
  refine Holds.cond rfl (fun h => ?_) (fun h => ?_)
  · refine wkd0 _ ?_
    refine Out.mk (xs := ?_) ?_ ?_ (by first | exact .inr rfl | exact .inl rfl)
    rotate_left
    · simp [go_sem, List.take_of_length_le] <;> with_reducible rfl
    exact .v _
  have hqg := szGrammar_wt (show 0 ≤ szGrammarF (1048576) g by simp at h; omega)
  refine wkd (@grammarC.eq_1) _ ?_
  first | refine GS.cc (ctg) rfl rfl rfl rfl (by simp [go_sem, List.take_of_length_le, grammarC] <;> with_reducible rfl) rfl (by simp [go_sem, List.take_of_length_le, grammarC]) ?_ | refine Gd.cc (ctg) rfl rfl rfl rfl (by simp [go_sem, List.take_of_length_le, grammarC] <;> with_reducible rfl) rfl (by simp [go_sem, List.take_of_length_le, grammarC]) ?_
  refine wkd (@grammarC.eq_1) _ ?_
  first | refine GS.cc (p1) rfl rfl rfl rfl (by simp [go_sem, List.take_of_length_le, grammarC] <;> with_reducible rfl) rfl (by simp [go_sem, List.take_of_length_le, grammarC]) ?_ | refine Gd.cc (p1) rfl rfl rfl rfl (by simp [go_sem, List.take_of_length_le, grammarC] <;> with_reducible rfl) rfl (by simp [go_sem, List.take_of_length_le, grammarC]) ?_
  refine wkd (@grammarC.eq_1) _ ?_
  refine GS.fnn [] (cog) rfl rfl rfl rfl (by simp [go_sem, List.take_of_length_le, ren, ren1, ren2, okr, okr1, okr2, ChkN, BlkN, List.range_succ, nf, grammarC] <;> with_reducible rfl) (by simp [go_sem, List.take_of_length_le, ren, ren1, ren2, okr, okr1, okr2, ChkN, BlkN, List.range_succ, nf, grammarC]) (by simp [go_sem, List.take_of_length_le, ren, ren1, ren2, okr, okr1, okr2, ChkN, BlkN, List.range_succ, nf, grammarC]) (by simp [List.range_succ, lb]) (ChkN.toB (by simp [go_sem, List.take_of_length_le, ren, ren1, ren2, okr, okr1, okr2, ChkN, BlkN, List.range_succ, nf, grammarC])) (by decide) (by simp) rfl (.nfr (by simp) .nil) (by simp [go_sem, List.take_of_length_le, ren, ren1, ren2, okr, okr1, okr2, ChkN, BlkN, List.range_succ, nf, grammarC] <;> with_reducible rfl) ?_
  refine wkd (@grammarC.eq_1) _ ?_
  refine GS.fnnd (p2) rfl rfl rfl rfl (by simp [go_sem, List.take_of_length_le, ren, ren1, ren2, okr, okr1, okr2, List.range_succ, nf, grammarC] <;> with_reducible rfl) (by exact (.cons (Fz.agL (.cons (.v _) (.cons (.v _) (.cons (fz_rulesO _ rfl rfl) .nil)))) (.cons (.v _) .nil))) (by simp) (by simp [go_sem, List.take_of_length_le, ren, ren1, ren2, okr, okr1, okr2, List.range_succ, nf, grammarC]) (by simp [go_sem, List.take_of_length_le, ren, ren1, ren2, okr, okr1, okr2, List.range_succ, nf, grammarC]) rfl (.nfr (by simp) (.nil)) (by simp [go_sem, List.take_of_length_le, ren, ren1, ren2, okr, okr1, okr2, List.range_succ, nf, grammarC] <;> with_reducible rfl) ?_
  have ceq := eqIntS v.1 v.1 (by omega)
  try simp only [decide_true] at ceq
  refine wkd0 _ ?_
  first | refine GS.cd (ceq) rfl rfl rfl rfl (by simp [go_sem, List.take_of_length_le] <;> with_reducible rfl) rfl (by exact (.cons (Fz.all rfl rfl (by simp) rfl (ints_cl _)) (.cons (.im _ _) .nil))) rfl ?_ | refine Gd.cd (ceq) rfl rfl rfl rfl (by simp [go_sem, List.take_of_length_le] <;> with_reducible rfl) rfl (by exact (.cons (Fz.all rfl rfl (by simp) rfl (ints_cl _)) (.cons (.im _ _) .nil))) rfl ?_
  clear ceq
  refine wkd0 _ ?_
  refine Holds.cond rfl (fun h => ?_) (fun h => ?_)
  · cases h
  refine wkd0 _ ?_
  first | refine GS.cc (ctg) rfl rfl rfl rfl (by simp [go_sem, List.take_of_length_le, grammarC] <;> with_reducible rfl) rfl (by simp [go_sem, List.take_of_length_le, grammarC]) ?_ | refine Gd.cc (ctg) rfl rfl rfl rfl (by simp [go_sem, List.take_of_length_le, grammarC] <;> with_reducible rfl) rfl (by simp [go_sem, List.take_of_length_le, grammarC]) ?_
  refine wkd (@grammarC.eq_1) _ ?_
  first | refine GS.cd (ceg) rfl rfl rfl rfl (by simp [go_sem, List.take_of_length_le, grammarC] <;> with_reducible rfl) rfl (by exact (.cons (Fz.agL (.cons (.v _) (.cons (.v _) (.cons (fz_rulesO _ rfl rfl) .nil)))) (.cons (Fz.cl rfl) .nil))) rfl ?_ | refine Gd.cd (ceg) rfl rfl rfl rfl (by simp [go_sem, List.take_of_length_le, grammarC] <;> with_reducible rfl) rfl (by exact (.cons (Fz.agL (.cons (.v _) (.cons (.v _) (.cons (fz_rulesO _ rfl rfl) .nil)))) (.cons (Fz.cl rfl) .nil))) rfl ?_
  refine wkd0 _ ?_
  refine Holds.cond rfl (fun h => ?_) (fun h => ?_)
  · cases h
  have cmg := markGrammar g ((1 : Int)) (by omega) (by omega) (by omega)
  refine wkd0 _ ?_
  refine GS.fnn [1] (cmg) rfl rfl rfl rfl (by simp [go_sem, List.take_of_length_le, ren, ren1, ren2, okr, okr1, okr2, ChkN, BlkN, List.range_succ, nf] <;> with_reducible rfl) (by simp [go_sem, List.take_of_length_le, ren, ren1, ren2, okr, okr1, okr2, ChkN, BlkN, List.range_succ, nf]) (by simp [go_sem, List.take_of_length_le, ren, ren1, ren2, okr, okr1, okr2, ChkN, BlkN, List.range_succ, nf]) (by simp [List.range_succ, lb]) (ChkN.toB (by simp [go_sem, List.take_of_length_le, ren, ren1, ren2, okr, okr1, okr2, ChkN, BlkN, List.range_succ, nf])) (by decide) (by simp) rfl (.nfr (by simp) (.nil)) (by simp [go_sem, List.take_of_length_le, ren, ren1, ren2, okr, okr1, okr2, ChkN, BlkN, List.range_succ, nf] <;> with_reducible rfl) ?_
  have hk0 : ¬ ((1 : Int) + (wGrammar g : Nat) < 0) := by omega
  have ceq := eqIntS v.1 v.1 (by omega)
  try simp only [decide_true] at ceq
  refine wkd (@hk0) _ ?_
  first | refine GS.cd (ceq) rfl rfl rfl rfl (by simp [go_sem, List.take_of_length_le, hk0] <;> with_reducible rfl) rfl (by exact (.cons (Fz.all rfl rfl (by simp) rfl (ints_cl _)) (.cons (.im _ _) .nil))) rfl ?_ | refine Gd.cd (ceq) rfl rfl rfl rfl (by simp [go_sem, List.take_of_length_le, hk0] <;> with_reducible rfl) rfl (by exact (.cons (Fz.all rfl rfl (by simp) rfl (ints_cl _)) (.cons (.im _ _) .nil))) rfl ?_
  clear ceq
  refine wkd (@hk0) _ ?_
  refine Holds.cond rfl (fun h => ?_) (fun h => ?_)
  · cases h
  have cm := markIntS v.1 ((1 : Int)) (by omega) (by simp; omega)
  have ch3 := heldIntS v.1 ((1 : Int)) (by omega) (by simp; omega)
  try simp only [wtL_w1] at cm ch3
  refine wkd0 _ ?_
  refine GS.fnn [3] (cm) rfl rfl rfl rfl (by simp [go_sem, List.take_of_length_le, ren, ren1, ren2, okr, okr1, okr2, ChkN, BlkN, List.range_succ, nf] <;> with_reducible rfl) (by simp [go_sem, List.take_of_length_le, ren, ren1, ren2, okr, okr1, okr2, ChkN, BlkN, List.range_succ, nf]) (by simp [go_sem, List.take_of_length_le, ren, ren1, ren2, okr, okr1, okr2, ChkN, BlkN, List.range_succ, nf]) (by simp [List.range_succ, lb]) (ChkN.toB (by simp [go_sem, List.take_of_length_le, ren, ren1, ren2, okr, okr1, okr2, ChkN, BlkN, List.range_succ, nf])) (by decide) (by simp) rfl (.nfr (by simp) .nil) (by simp [go_sem, List.take_of_length_le, ren, ren1, ren2, okr, okr1, okr2, ChkN, BlkN, List.range_succ, nf] <;> with_reducible rfl) ?_
  clear cm
  refine wkd0 _ ?_
  first | refine GS.cd (ch3) rfl rfl rfl rfl (by simp [go_sem, List.take_of_length_le] <;> with_reducible rfl) rfl (by exact (.cons (Fz.all rfl rfl (by simp) rfl (ints_cl _)) (.cons (.v _) .nil))) rfl ?_ | refine Gd.cd (ch3) rfl rfl rfl rfl (by simp [go_sem, List.take_of_length_le] <;> with_reducible rfl) rfl (by exact (.cons (Fz.all rfl rfl (by simp) rfl (ints_cl _)) (.cons (.v _) .nil))) rfl ?_
  have hk3 : ¬ ((1 : Int) + (v.1.length : Nat) < 0) := by omega
  refine wkd (@hk3) _ ?_
  refine Holds.cond rfl (fun h => ?_) (fun h => ?_)
  · cases h
  refine wkd0 _ ?_
  refine Holds.cond rfl (fun h => ?_) (fun h => ?_)
  · cases h
  refine wkd (@grammarC.eq_1) _ ?_
  first | refine GS.cc (ctg) rfl rfl rfl rfl (by simp [go_sem, List.take_of_length_le, grammarC] <;> with_reducible rfl) rfl (by simp [go_sem, List.take_of_length_le, grammarC]) ?_ | refine Gd.cc (ctg) rfl rfl rfl rfl (by simp [go_sem, List.take_of_length_le, grammarC] <;> with_reducible rfl) rfl (by simp [go_sem, List.take_of_length_le, grammarC]) ?_
  refine wkd (@grammarC.eq_1) _ ?_
  first | refine GS.cc (p3) rfl rfl rfl rfl (by simp [go_sem, List.take_of_length_le, grammarC] <;> with_reducible rfl) rfl (by simp [go_sem, List.take_of_length_le, grammarC]) ?_ | refine Gd.cc (p3) rfl rfl rfl rfl (by simp [go_sem, List.take_of_length_le, grammarC] <;> with_reducible rfl) rfl (by simp [go_sem, List.take_of_length_le, grammarC]) ?_
  have ceq := eqIntS v.1 v.1 (by omega)
  try simp only [decide_true] at ceq
  refine wkd0 _ ?_
  first | refine GS.cc (ceq) rfl rfl rfl rfl (by simp [go_sem, List.take_of_length_le] <;> with_reducible rfl) rfl (by simp [go_sem, List.take_of_length_le]) ?_ | refine Gd.cc (ceq) rfl rfl rfl rfl (by simp [go_sem, List.take_of_length_le] <;> with_reducible rfl) rfl (by simp [go_sem, List.take_of_length_le]) ?_
  clear ceq
  refine wkd0 _ ?_
  refine Holds.cond rfl (fun h => ?_) (fun h => ?_)
  · cases h
  refine wkd0 _ ?_
  first | refine GS.cd (ch3) rfl rfl rfl rfl (by simp [go_sem, List.take_of_length_le] <;> with_reducible rfl) rfl (by exact (.cons (Fz.all rfl rfl (by simp) rfl (ints_cl _)) (.cons (.v _) .nil))) rfl ?_ | refine Gd.cd (ch3) rfl rfl rfl rfl (by simp [go_sem, List.take_of_length_le] <;> with_reducible rfl) rfl (by exact (.cons (Fz.all rfl rfl (by simp) rfl (ints_cl _)) (.cons (.v _) .nil))) rfl ?_
  have hk3 : ¬ ((1 : Int) + (v.1.length : Nat) < 0) := by omega
  refine wkd (@hk3) _ ?_
  refine Holds.cond rfl (fun h => ?_) (fun h => ?_)
  · cases h
  refine wkd0 _ ?_
  refine Holds.cond rfl (fun h => ?_) (fun h => ?_)
  · cases h
  refine wkd0 _ ?_
  refine Out.mk (xs := ?_) ?_ ?_ (by first | exact .inr rfl | exact .inl rfl)
  rotate_left
  · simp [go_sem, List.take_of_length_le] <;> with_reducible rfl
  exact .v _
end Go.Proofs.Ytejpklajfcngbaa.En
end
