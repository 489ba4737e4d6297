/- Own words and walks of this claim, part 5: what the program's functions compute, for all the arguments that are named; no further conditions. -/
import Derived.Test.YtpnpjkkppndhfaaM3
import Derived.Test.YtpnpjkkppndhfaaM4
import Derived.Test.YtpnpjkkppndhfaaM2
section
namespace Go.Proofs.Ytpnpjkkppndhfaa.En
open Go.RowKit
set_option linter.unusedSimpArgs false
set_option linter.unusedVariables false
set_option maxHeartbeats 4000000
theorem ints_cons (x : Int) (r : List Int) : ints (x :: r) = [.v (.int .i64 x)] :: ints r := by simp [ints]
/-- The least cost over the first places of the middle. -/
def midF (T : Tab) (w : List Int) (x : Int) (r : List Int) (i j m : Nat) : Option Nat := (List.range (m - i)).foldl (fun b d => oMin b (oAdd (T x.toNat i (i + d)) (rowO T w r (i + d) j))) none
theorem midF_next {T : Tab} {w : List Int} {x : Int} {r : List Int} {i j m : Nat} (h : i ≤ m) : midF T w x r i j (m + 1) = oMin (midF T w x r i j m) (oAdd (T x.toNat i m) (rowO T w r m j)) := by
  unfold midF
  rw [show m + 1 - i = (m - i) + 1 by omega, List.range_succ, List.foldl_append]
  simp only [List.foldl_cons, List.foldl_nil, show i + (m - i) = m by omega]
theorem rowO_top {N : Nat} {T : Tab} {w : List Int} (hT : GoodT N T) (hN : N ≤ 6) : ∀ (r : List Int) (i j v : Nat), j ≤ 10 → rowO T w r i j = some v → v ≤ r.length * 70000000
  | [], i, j, v, hj, h => by
    simp only [rowO] at h
    split at h
    · have := Option.some.inj h
      omega
    · cases h
  | x :: r, i, j, v, hj, h => by
    simp only [rowO] at h
    have hl : (x :: r).length * 70000000 = r.length * 70000000 + 70000000 := by rw [List.length_cons]; omega
    split at h
    · split at h
      · have g1 := rowO_top hT hN r (i + 1) j v hj h
        rw [hl]; exact Nat.le_trans g1 (Nat.le_add_right _ _)
      · cases h
    · rcases foldO_some _ _ _ h with h | ⟨d, hd, h⟩
      · cases h
      · obtain ⟨a, b, ha, hb, rfl⟩ := oAdd_some h
        have h1 := rowO_top hT hN r _ j b hj hb
        simp only [List.mem_range] at hd
        have h2 := hT.bnd.top hN (A := x.toNat) (i := i) (j := i + d) (by omega) ha
        omega
/-- Symbols of a rule's right side. -/
def SymOk (N : Nat) (r : List Int) : Prop := ∀ x ∈ r, -100 ≤ x ∧ x < N
theorem l10Best {N n : Nat} {T : Tab} (hT : GoodT N T) (hN : N ≤ 6) (w : List Int) (hw : w.length = n) (hn : n ≤ 10) (hwk : ∀ x ∈ w, 0 ≤ x ∧ x ≤ 100) : ∀ (r : List Int), r.length ≤ 4 → SymOk N r → ∀ (i j : Nat), i ≤ j → j ≤ n →
    Pure Try.prog 37 [.im 1 (intss (tabF (n + 1) N T)), .im 1 (ints w), .im 1 (ints r), .v (.int .i64 i), .v (.int .i64 j)] (.v (.int .i64 (encO (rowO T w r i j)))) := by
  intro r
  induction r with
  | nil =>
    intro _ _ i j hij hj
    refine Pure.mk (rs := [.tmp 10]) (nt := 92) Try.func37 (by kernel_rfl) rfl rfl rfl (by simp) ?_
    simp only [sl]
    by_cases e : i = j
    · subst e
      simp only [rowO, if_true, encO_some]
      repeat' first
        | (refine Holds.condT ?_ ?_; (· (simp [go_sem, List.take_of_length_le] <;> with_reducible rfl)))
        | (refine Holds.condF ?_ ?_; (· (simp [go_sem, List.take_of_length_le] <;> with_reducible rfl)))
        | refine Holds.seq ?_
        | refine Holds.skip ?_
        | refine Holds.exit ?_
        | refine Holds.ret ?_
        | refine thenA_normal ?_
        | refine thenA_exit ?_
        | refine thenA_ret ?_
        | refine inB_normal ?_
        | refine inB_ret ?_
        | refine inB_here ?_
        | (refine inB_past ?_ ?_; (· exact rfl))
        | refine Holds.reg ?_
        | refine Holds.block ?_
        | refine GS.nil ?_
        | (refine GS.step (s' := ?_) ?_ ?_ ?_; rotate_left; (· exact rfl); (· (simp [go_sem, List.take_of_length_le] <;> with_reducible rfl)))
        | (refine GS.skip ?_ ?_ ?_; (· exact rfl); (· exact rfl))
        | fail
      refine Out.mk (xs := ?_) ?_ ?_ (by first | exact .inr rfl | exact .inl rfl)
      rotate_left
      · simp [go_sem, List.take_of_length_le] <;> with_reducible rfl
      exact .v _
    · have e' : ¬ (i : Int) = (j : Int) := by omega
      simp only [rowO, if_neg e, encO_none]
      repeat' first
        | (refine Holds.condT ?_ ?_; (· (simp [go_sem, List.take_of_length_le, e, e'] <;> with_reducible rfl)))
        | (refine Holds.condF ?_ ?_; (· (simp [go_sem, List.take_of_length_le, e, e'] <;> with_reducible rfl)))
        | refine Holds.seq ?_
        | refine Holds.skip ?_
        | refine Holds.exit ?_
        | refine Holds.ret ?_
        | refine thenA_normal ?_
        | refine thenA_exit ?_
        | refine thenA_ret ?_
        | refine inB_normal ?_
        | refine inB_ret ?_
        | refine inB_here ?_
        | (refine inB_past ?_ ?_; (· exact rfl))
        | refine Holds.reg ?_
        | refine Holds.block ?_
        | refine GS.nil ?_
        | (refine GS.step (s' := ?_) ?_ ?_ ?_; rotate_left; (· exact rfl); (· (simp [go_sem, List.take_of_length_le, e, e'] <;> with_reducible rfl)))
        | (refine GS.skip ?_ ?_ ?_; (· exact rfl); (· exact rfl))
        | fail
      refine Out.mk (xs := ?_) ?_ ?_ (by first | exact .inr rfl | exact .inl rfl)
      rotate_left
      · simp [go_sem, List.take_of_length_le] <;> with_reducible rfl
      exact .v _
  | cons x r ih =>
    intro hl hs i j hij hj
    have hx := hs x (by simp)
    have ih := fun i j h1 h2 => ih (by simp at hl; omega) (fun y hy => hs y (by simp [hy])) i j h1 h2
    have hrl : r.length ≤ 3 := by simp at hl; omega
    have hne : ¬ (r.length : Int) + 1 = 0 := by omega
    refine Pure.mk (rs := [.tmp 10]) (nt := 92) Try.func37 (by kernel_rfl) rfl rfl rfl (by simp) ?_
    simp only [sl]
    repeat' first
      | (refine Holds.condT ?_ ?_; (· (simp [go_sem, List.take_of_length_le, ints_cons, hne] <;> with_reducible rfl)))
      | (refine Holds.condF ?_ ?_; (· (simp [go_sem, List.take_of_length_le, ints_cons, hne] <;> with_reducible rfl)))
      | refine Holds.seq ?_
      | refine Holds.skip ?_
      | refine Holds.exit ?_
      | refine Holds.ret ?_
      | refine thenA_normal ?_
      | refine thenA_exit ?_
      | refine thenA_ret ?_
      | refine inB_normal ?_
      | refine inB_ret ?_
      | refine inB_here ?_
      | (refine inB_past ?_ ?_; (· exact rfl))
      | refine Holds.reg ?_
      | refine Holds.block ?_
      | refine GS.nil ?_
      | (refine GS.step (s' := ?_) ?_ ?_ ?_; rotate_left; (· exact rfl); (· (simp [go_sem, List.take_of_length_le, ints_cons, hne] <;> with_reducible rfl)))
      | (refine GS.skip ?_ ?_ ?_; (· exact rfl); (· exact rfl))
      | fail
    refine Holds.cond rfl (fun h => ?_) (fun h => ?_)
    · have h0 : x < 0 := by simpa using h
      simp only [rowO, if_pos h0]
      have hwx : wr64 (-1 - x) = -1 - x := wr64_id (by omega) (by omega)
      have hwi : wr64 ((i : Int) + 1) = ((i + 1 : Nat) : Int) := wr64_id (by omega) (by omega)
      by_cases e : i < j
      · have hlt : i < w.length := by omega
        have hwe : w[i]? = some w[i] := List.getElem?_eq_getElem hlt
        have e2 : (i : Int) < (j : Int) := by omega
        rw [hwe]
        generalize w[i] = y at hwe
        by_cases g : y = -1 - x
        · have c1 := ih (i + 1) j (by omega) hj
          rw [if_pos ⟨e, by rw [g]⟩]
          generalize encO (rowO T w r (i + 1) j) = v at c1
          repeat' first
            | (refine Holds.condT ?_ ?_; (· (simp [go_sem, List.take_of_length_le, e, e2, hwe, hwx, g] <;> with_reducible rfl)))
            | (refine Holds.condF ?_ ?_; (· (simp [go_sem, List.take_of_length_le, e, e2, hwe, hwx, g] <;> with_reducible rfl)))
            | refine Holds.seq ?_
            | refine Holds.skip ?_
            | refine Holds.exit ?_
            | refine Holds.ret ?_
            | refine thenA_normal ?_
            | refine thenA_exit ?_
            | refine thenA_ret ?_
            | refine inB_normal ?_
            | refine inB_ret ?_
            | refine inB_here ?_
            | (refine inB_past ?_ ?_; (· exact rfl))
            | refine Holds.reg ?_
            | refine Holds.block ?_
            | refine GS.nil ?_
            | (refine GS.step (s' := ?_) ?_ ?_ ?_; rotate_left; (· exact rfl); (· (simp [go_sem, List.take_of_length_le, e, e2, hwe, hwx, g] <;> with_reducible rfl)))
            | (refine GS.skip ?_ ?_ ?_; (· exact rfl); (· exact rfl))
            | fail
          refine GS.cc (c1) rfl rfl rfl rfl (by simp [go_sem, List.take_of_length_le, ints_cons, hwi] <;> with_reducible rfl) rfl (by simp [go_sem, List.take_of_length_le, ints_cons, hwi]) ?_
          repeat' first
            | (refine Holds.condT ?_ ?_; (· (simp [go_sem, List.take_of_length_le] <;> with_reducible rfl)))
            | (refine Holds.condF ?_ ?_; (· (simp [go_sem, List.take_of_length_le] <;> with_reducible rfl)))
            | refine Holds.seq ?_
            | refine Holds.skip ?_
            | refine Holds.exit ?_
            | refine Holds.ret ?_
            | refine thenA_normal ?_
            | refine thenA_exit ?_
            | refine thenA_ret ?_
            | refine inB_normal ?_
            | refine inB_ret ?_
            | refine inB_here ?_
            | (refine inB_past ?_ ?_; (· exact rfl))
            | refine Holds.reg ?_
            | refine Holds.block ?_
            | refine GS.nil ?_
            | (refine GS.step (s' := ?_) ?_ ?_ ?_; rotate_left; (· exact rfl); (· (simp [go_sem, List.take_of_length_le] <;> with_reducible rfl)))
            | (refine GS.skip ?_ ?_ ?_; (· exact rfl); (· exact rfl))
            | fail
          refine Out.mk (xs := ?_) ?_ ?_ (by first | exact .inr rfl | exact .inl rfl)
          rotate_left
          · simp [go_sem, List.take_of_length_le] <;> with_reducible rfl
          exact .v _
        · rw [if_neg (fun hh => g (Option.some.inj hh.2)), encO_none]
          have g2 : (y == -1 - x) = false := by simpa using g
          repeat' first
            | (refine Holds.condT ?_ ?_; (· (simp [go_sem, List.take_of_length_le, e, e2, hwe, hwx, g, g2] <;> with_reducible rfl)))
            | (refine Holds.condF ?_ ?_; (· (simp [go_sem, List.take_of_length_le, e, e2, hwe, hwx, g, g2] <;> with_reducible rfl)))
            | refine Holds.seq ?_
            | refine Holds.skip ?_
            | refine Holds.exit ?_
            | refine Holds.ret ?_
            | refine thenA_normal ?_
            | refine thenA_exit ?_
            | refine thenA_ret ?_
            | refine inB_normal ?_
            | refine inB_ret ?_
            | refine inB_here ?_
            | (refine inB_past ?_ ?_; (· exact rfl))
            | refine Holds.reg ?_
            | refine Holds.block ?_
            | refine GS.nil ?_
            | (refine GS.step (s' := ?_) ?_ ?_ ?_; rotate_left; (· exact rfl); (· (simp [go_sem, List.take_of_length_le, e, e2, hwe, hwx, g, g2] <;> with_reducible rfl)))
            | (refine GS.skip ?_ ?_ ?_; (· exact rfl); (· exact rfl))
            | fail
          refine Out.mk (xs := ?_) ?_ ?_ (by first | exact .inr rfl | exact .inl rfl)
          rotate_left
          · simp [go_sem, List.take_of_length_le] <;> with_reducible rfl
          exact .v _
      · have e2 : ¬ (i : Int) < (j : Int) := by omega
        rw [if_neg (fun hh => e hh.1), encO_none]
        repeat' first
          | (refine Holds.condT ?_ ?_; (· (simp [go_sem, List.take_of_length_le, e, e2] <;> with_reducible rfl)))
          | (refine Holds.condF ?_ ?_; (· (simp [go_sem, List.take_of_length_le, e, e2] <;> with_reducible rfl)))
          | refine Holds.seq ?_
          | refine Holds.skip ?_
          | refine Holds.exit ?_
          | refine Holds.ret ?_
          | refine thenA_normal ?_
          | refine thenA_exit ?_
          | refine thenA_ret ?_
          | refine inB_normal ?_
          | refine inB_ret ?_
          | refine inB_here ?_
          | (refine inB_past ?_ ?_; (· exact rfl))
          | refine Holds.reg ?_
          | refine Holds.block ?_
          | refine GS.nil ?_
          | (refine GS.step (s' := ?_) ?_ ?_ ?_; rotate_left; (· exact rfl); (· (simp [go_sem, List.take_of_length_le, e, e2] <;> with_reducible rfl)))
          | (refine GS.skip ?_ ?_ ?_; (· exact rfl); (· exact rfl))
          | fail
        refine Out.mk (xs := ?_) ?_ ?_ (by first | exact .inr rfl | exact .inl rfl)
        rotate_left
        · simp [go_sem, List.take_of_length_le] <;> with_reducible rfl
        exact .v _
    · have h0 : ¬ x < 0 := by simpa using h
      simp only [rowO, if_neg h0]
      obtain ⟨n1, hn1⟩ : ∃ n1, n1 = n + 1 := ⟨_, rfl⟩
      have hm1 : wr64 ((w.length : Int) + 1) = (n1 : Int) := by rw [hw, hn1]; exact wr64_id (by omega) (by omega)
      obtain ⟨p, hp⟩ : ∃ p, p = i * n1 := ⟨_, rfl⟩
      have hp100 : p ≤ 110 := by rw [hp]; have : i * n1 ≤ 10 * 11 := Nat.mul_le_mul (by omega) (by omega); omega
      have hm2 : wr64 ((i : Int) * (n1 : Int)) = (p : Int) := by rw [show (i : Int) * (n1 : Int) = (p : Int) by rw [hp]; simp]; exact wr64_id (by omega) (by omega)
      have htx : (tabF (n + 1) N T)[x.toNat]? = some (rowF (n + 1) T x.toNat) := tabF_get T (by omega)
      repeat' first
        | (refine Holds.condT ?_ ?_; (· (simp [go_sem, List.take_of_length_le] <;> with_reducible rfl)))
        | (refine Holds.condF ?_ ?_; (· (simp [go_sem, List.take_of_length_le] <;> with_reducible rfl)))
        | refine Holds.seq ?_
        | refine Holds.skip ?_
        | refine Holds.exit ?_
        | refine Holds.ret ?_
        | refine thenA_normal ?_
        | refine thenA_exit ?_
        | refine thenA_ret ?_
        | refine inB_normal ?_
        | refine inB_ret ?_
        | refine inB_here ?_
        | (refine inB_past ?_ ?_; (· exact rfl))
        | refine Holds.reg ?_
        | refine Holds.block ?_
        | refine GS.nil ?_
        | (refine GS.step (s' := ?_) ?_ ?_ ?_; rotate_left; (· exact rfl); (· (simp [go_sem, List.take_of_length_le] <;> with_reducible rfl)))
        | (refine GS.skip ?_ ?_ ?_; (· exact rfl); (· exact rfl))
        | fail
      refine Holds.loop (ι := Nat × Option Nat) (fun s => ⟨[(0, .im 1 (intss (tabF (n + 1) N T))), (1, .im 1 (ints w)), (2, .im 1 (ints (x :: r))), (3, .v (.int .i64 i)), (4, .v (.int .i64 j)), (11, .v (.int .i64 x)), (12, .v (.int .i64 (encO s.2))), (13, .v (.int .i64 s.1))], [], 0⟩)
        (fun s => i ≤ s.1 ∧ s.1 ≤ j + 1 ∧ s.2 = midF T w x r i j s.1) (fun s => j + 1 - s.1) (i, none) ⟨Nat.le_refl _, by dsimp only; omega, by simp [midF]⟩ ?_ ?_
      · exact Cov.ofn (id) rfl (by simp [go_sem, List.take_of_length_le, ren, ren1, okr, okr1, ChkT, ChkN, BlkN, nf, encO, ints_cons]) (by simp [go_sem, List.take_of_length_le, ren, ren1, okr, okr1, ChkT, ChkN, BlkN, nf, encO, ints_cons])
      rintro ⟨m, b⟩ ⟨hm, hmj, hb⟩
      dsimp only at hm hmj hb ⊢
      have step : wr64 ((m : Int) + 1) = ((m + 1 : Nat) : Int) := wr64_id (by omega) (by omega)
      repeat' first
        | (refine Holds.condT ?_ ?_; (· (simp [go_sem, List.take_of_length_le] <;> with_reducible rfl)))
        | (refine Holds.condF ?_ ?_; (· (simp [go_sem, List.take_of_length_le] <;> with_reducible rfl)))
        | refine Holds.seq ?_
        | refine Holds.skip ?_
        | refine Holds.exit ?_
        | refine Holds.ret ?_
        | refine thenA_normal ?_
        | refine thenA_exit ?_
        | refine thenA_ret ?_
        | refine inB_normal ?_
        | refine inB_ret ?_
        | refine inB_here ?_
        | (refine inB_past ?_ ?_; (· exact rfl))
        | refine Holds.reg ?_
        | refine Holds.block ?_
        | refine GS.nil ?_
        | (refine GS.step (s' := ?_) ?_ ?_ ?_; rotate_left; (· exact rfl); (· (simp [go_sem, List.take_of_length_le] <;> with_reducible rfl)))
        | (refine GS.skip ?_ ?_ ?_; (· exact rfl); (· exact rfl))
        | fail
      refine Holds.cond rfl (fun h => ?_) (fun h => ?_)
      · have hlt : m ≤ j := by simp at h; omega
        have hnx := midF_next (T := T) (w := w) (x := x) (r := r) (j := j) hm
        rw [← hb] at hnx
        obtain ⟨q, hq⟩ : ∃ q, q = p + m := ⟨_, rfl⟩
        have hm3 : wr64 ((p : Int) + (m : Int)) = (q : Int) := by rw [show (p : Int) + (m : Int) = (q : Int) by rw [hq]; simp]; exact wr64_id (by omega) (by omega)
        have hrx : (rowF (n + 1) T x.toNat)[q]? = some (sV (T x.toNat i m)) := by rw [hq, hp, hn1]; exact rowF_get T _ (by omega) (by omega)
        have htop := fun v => hT.bnd.top hN (A := x.toNat) (i := i) (j := m) (v := v)
        have hpos := hT.pos x.toNat i m
        have hrt := rowO_top (w := w) hT hN r m j
        have c1 := ih m j (by omega) hj
        have hx0 : (0 : Int) ≤ x := by omega
        generalize T x.toNat i m = P at hnx hrx htop hpos
        generalize rowO T w r m j = R at hnx hrt c1
        cases P with
        | none =>
          have e1 : sV none = 0 := rfl
          rw [e1] at hrx
          simp only [oAdd, oMin_none] at hnx
          repeat' first
            | (refine Holds.condT ?_ ?_; (· (simp [go_sem, List.take_of_length_le, hm1, hm2, hm3, htx, hrx, hx0, intsC] <;> with_reducible rfl)))
            | (refine Holds.condF ?_ ?_; (· (simp [go_sem, List.take_of_length_le, hm1, hm2, hm3, htx, hrx, hx0, intsC] <;> with_reducible rfl)))
            | refine Holds.seq ?_
            | refine Holds.skip ?_
            | refine Holds.exit ?_
            | refine Holds.ret ?_
            | refine thenA_normal ?_
            | refine thenA_exit ?_
            | refine thenA_ret ?_
            | refine inB_normal ?_
            | refine inB_ret ?_
            | refine inB_here ?_
            | (refine inB_past ?_ ?_; (· exact rfl))
            | refine Holds.reg ?_
            | refine Holds.block ?_
            | refine GS.nil ?_
            | (refine GS.step (s' := ?_) ?_ ?_ ?_; rotate_left; (· exact rfl); (· (simp [go_sem, List.take_of_length_le, hm1, hm2, hm3, htx, hrx, hx0, intsC] <;> with_reducible rfl)))
            | (refine GS.skip ?_ ?_ ?_; (· exact rfl); (· exact rfl))
            | fail
          refine ⟨(m + 1, b), ⟨by dsimp only; omega, by dsimp only; omega, by rw [hnx]⟩, by dsimp only; omega, ?_⟩
          rw [step]
          exact Cov.ofn (id) rfl (by simp [go_sem, List.take_of_length_le, ren, ren1, okr, okr1, ChkT, ChkN, BlkN, nf]) (by simp [go_sem, List.take_of_length_le, ren, ren1, okr, okr1, ChkT, ChkN, BlkN, nf])
        | some a =>
          have e1 : sV (some a) = (a : Int) := rfl
          have ha := htop a (by omega) rfl
          have ha0 := hpos a rfl
          have ha1 : ¬ (a : Int) = 0 := by omega
          have ha2 : ((a : Int) == 0) = false := by simpa using ha1
          have ha3 : ¬ a = 0 := by omega
          rw [e1] at hrx
          cases R with
          | none =>
            simp only [oAdd, oMin_none] at hnx
            rw [encO_none] at c1
            repeat' first
              | (refine Holds.condT ?_ ?_; (· (simp [go_sem, List.take_of_length_le, hm1, hm2, hm3, htx, hrx, hx0, intsC, ha1, ha2, ha3] <;> with_reducible rfl)))
              | (refine Holds.condF ?_ ?_; (· (simp [go_sem, List.take_of_length_le, hm1, hm2, hm3, htx, hrx, hx0, intsC, ha1, ha2, ha3] <;> with_reducible rfl)))
              | refine Holds.seq ?_
              | refine Holds.skip ?_
              | refine Holds.exit ?_
              | refine Holds.ret ?_
              | refine thenA_normal ?_
              | refine thenA_exit ?_
              | refine thenA_ret ?_
              | refine inB_normal ?_
              | refine inB_ret ?_
              | refine inB_here ?_
              | (refine inB_past ?_ ?_; (· exact rfl))
              | refine Holds.reg ?_
              | refine Holds.block ?_
              | refine GS.nil ?_
              | (refine GS.step (s' := ?_) ?_ ?_ ?_; rotate_left; (· exact rfl); (· (simp [go_sem, List.take_of_length_le, hm1, hm2, hm3, htx, hrx, hx0, intsC, ha1, ha2, ha3] <;> with_reducible rfl)))
              | (refine GS.skip ?_ ?_ ?_; (· exact rfl); (· exact rfl))
              | fail
            refine GS.cc (c1) rfl rfl rfl rfl (by simp [go_sem, List.take_of_length_le, ints_cons] <;> with_reducible rfl) rfl (by simp [go_sem, List.take_of_length_le, ints_cons]) ?_
            repeat' first
              | (refine Holds.condT ?_ ?_; (· (simp [go_sem, List.take_of_length_le] <;> with_reducible rfl)))
              | (refine Holds.condF ?_ ?_; (· (simp [go_sem, List.take_of_length_le] <;> with_reducible rfl)))
              | refine Holds.seq ?_
              | refine Holds.skip ?_
              | refine Holds.exit ?_
              | refine Holds.ret ?_
              | refine thenA_normal ?_
              | refine thenA_exit ?_
              | refine thenA_ret ?_
              | refine inB_normal ?_
              | refine inB_ret ?_
              | refine inB_here ?_
              | (refine inB_past ?_ ?_; (· exact rfl))
              | refine Holds.reg ?_
              | refine Holds.block ?_
              | refine GS.nil ?_
              | (refine GS.step (s' := ?_) ?_ ?_ ?_; rotate_left; (· exact rfl); (· (simp [go_sem, List.take_of_length_le] <;> with_reducible rfl)))
              | (refine GS.skip ?_ ?_ ?_; (· exact rfl); (· exact rfl))
              | fail
            refine ⟨(m + 1, b), ⟨by dsimp only; omega, by dsimp only; omega, by rw [hnx]⟩, by dsimp only; omega, ?_⟩
            rw [step]
            exact Cov.ofn (id) rfl (by simp [go_sem, List.take_of_length_le, ren, ren1, okr, okr1, ChkT, ChkN, BlkN, nf]) (by simp [go_sem, List.take_of_length_le, ren, ren1, okr, okr1, ChkT, ChkN, BlkN, nf])
          | some c =>
            have hc := hrt c (by omega) rfl
            have hc1 : (0 : Int) ≤ (c : Int) := by omega
            obtain ⟨sm, hsm⟩ : ∃ sm, sm = a + c := ⟨_, rfl⟩
            have hws : wr64 ((a : Int) + (c : Int)) = (sm : Int) := by rw [show (a : Int) + (c : Int) = (sm : Int) by rw [hsm]; simp]; exact wr64_id (by omega) (by omega)
            simp only [oAdd] at hnx
            rw [← hsm] at hnx
            rw [encO_some] at c1
            cases b with
            | none =>
              simp only [none_oMin] at hnx
              repeat' first
                | (refine Holds.condT ?_ ?_; (· (simp [go_sem, List.take_of_length_le, hm1, hm2, hm3, htx, hrx, hx0, intsC, ha1, ha2, ha3] <;> with_reducible rfl)))
                | (refine Holds.condF ?_ ?_; (· (simp [go_sem, List.take_of_length_le, hm1, hm2, hm3, htx, hrx, hx0, intsC, ha1, ha2, ha3] <;> with_reducible rfl)))
                | refine Holds.seq ?_
                | refine Holds.skip ?_
                | refine Holds.exit ?_
                | refine Holds.ret ?_
                | refine thenA_normal ?_
                | refine thenA_exit ?_
                | refine thenA_ret ?_
                | refine inB_normal ?_
                | refine inB_ret ?_
                | refine inB_here ?_
                | (refine inB_past ?_ ?_; (· exact rfl))
                | refine Holds.reg ?_
                | refine Holds.block ?_
                | refine GS.nil ?_
                | (refine GS.step (s' := ?_) ?_ ?_ ?_; rotate_left; (· exact rfl); (· (simp [go_sem, List.take_of_length_le, hm1, hm2, hm3, htx, hrx, hx0, intsC, ha1, ha2, ha3] <;> with_reducible rfl)))
                | (refine GS.skip ?_ ?_ ?_; (· exact rfl); (· exact rfl))
                | fail
              refine GS.cc (c1) rfl rfl rfl rfl (by simp [go_sem, List.take_of_length_le, ints_cons] <;> with_reducible rfl) rfl (by simp [go_sem, List.take_of_length_le, ints_cons]) ?_
              repeat' first
                | (refine Holds.condT ?_ ?_; (· (simp [go_sem, List.take_of_length_le, hc1, hws, encO] <;> with_reducible rfl)))
                | (refine Holds.condF ?_ ?_; (· (simp [go_sem, List.take_of_length_le, hc1, hws, encO] <;> with_reducible rfl)))
                | refine Holds.seq ?_
                | refine Holds.skip ?_
                | refine Holds.exit ?_
                | refine Holds.ret ?_
                | refine thenA_normal ?_
                | refine thenA_exit ?_
                | refine thenA_ret ?_
                | refine inB_normal ?_
                | refine inB_ret ?_
                | refine inB_here ?_
                | (refine inB_past ?_ ?_; (· exact rfl))
                | refine Holds.reg ?_
                | refine Holds.block ?_
                | refine GS.nil ?_
                | (refine GS.step (s' := ?_) ?_ ?_ ?_; rotate_left; (· exact rfl); (· (simp [go_sem, List.take_of_length_le, hc1, hws, encO] <;> with_reducible rfl)))
                | (refine GS.skip ?_ ?_ ?_; (· exact rfl); (· exact rfl))
                | fail
              refine ⟨(m + 1, some sm), ⟨by dsimp only; omega, by dsimp only; omega, by rw [hnx]⟩, by dsimp only; omega, ?_⟩
              rw [step]
              exact Cov.ofn (id) rfl (by simp [go_sem, List.take_of_length_le, ren, ren1, okr, okr1, ChkT, ChkN, BlkN, nf, encO]) (by simp [go_sem, List.take_of_length_le, ren, ren1, okr, okr1, ChkT, ChkN, BlkN, nf, encO])
            | some e =>
              have he1 : ¬ ((e : Int) < 0) := by omega
              by_cases hlt2 : sm < e
              · have hl2 : (sm : Int) < (e : Int) := by omega
                simp only [oMin, if_pos hlt2] at hnx
                repeat' first
                  | (refine Holds.condT ?_ ?_; (· (simp [go_sem, List.take_of_length_le, hm1, hm2, hm3, htx, hrx, hx0, intsC, ha1, ha2, ha3] <;> with_reducible rfl)))
                  | (refine Holds.condF ?_ ?_; (· (simp [go_sem, List.take_of_length_le, hm1, hm2, hm3, htx, hrx, hx0, intsC, ha1, ha2, ha3] <;> with_reducible rfl)))
                  | refine Holds.seq ?_
                  | refine Holds.skip ?_
                  | refine Holds.exit ?_
                  | refine Holds.ret ?_
                  | refine thenA_normal ?_
                  | refine thenA_exit ?_
                  | refine thenA_ret ?_
                  | refine inB_normal ?_
                  | refine inB_ret ?_
                  | refine inB_here ?_
                  | (refine inB_past ?_ ?_; (· exact rfl))
                  | refine Holds.reg ?_
                  | refine Holds.block ?_
                  | refine GS.nil ?_
                  | (refine GS.step (s' := ?_) ?_ ?_ ?_; rotate_left; (· exact rfl); (· (simp [go_sem, List.take_of_length_le, hm1, hm2, hm3, htx, hrx, hx0, intsC, ha1, ha2, ha3] <;> with_reducible rfl)))
                  | (refine GS.skip ?_ ?_ ?_; (· exact rfl); (· exact rfl))
                  | fail
                refine GS.cc (c1) rfl rfl rfl rfl (by simp [go_sem, List.take_of_length_le, ints_cons] <;> with_reducible rfl) rfl (by simp [go_sem, List.take_of_length_le, ints_cons]) ?_
                repeat' first
                  | (refine Holds.condT ?_ ?_; (· (simp [go_sem, List.take_of_length_le, hc1, hws, encO, he1, hl2, hlt2] <;> with_reducible rfl)))
                  | (refine Holds.condF ?_ ?_; (· (simp [go_sem, List.take_of_length_le, hc1, hws, encO, he1, hl2, hlt2] <;> with_reducible rfl)))
                  | refine Holds.seq ?_
                  | refine Holds.skip ?_
                  | refine Holds.exit ?_
                  | refine Holds.ret ?_
                  | refine thenA_normal ?_
                  | refine thenA_exit ?_
                  | refine thenA_ret ?_
                  | refine inB_normal ?_
                  | refine inB_ret ?_
                  | refine inB_here ?_
                  | (refine inB_past ?_ ?_; (· exact rfl))
                  | refine Holds.reg ?_
                  | refine Holds.block ?_
                  | refine GS.nil ?_
                  | (refine GS.step (s' := ?_) ?_ ?_ ?_; rotate_left; (· exact rfl); (· (simp [go_sem, List.take_of_length_le, hc1, hws, encO, he1, hl2, hlt2] <;> with_reducible rfl)))
                  | (refine GS.skip ?_ ?_ ?_; (· exact rfl); (· exact rfl))
                  | fail
                refine ⟨(m + 1, some sm), ⟨by dsimp only; omega, by dsimp only; omega, by rw [hnx]⟩, by dsimp only; omega, ?_⟩
                rw [step]
                exact Cov.ofn (id) rfl (by simp [go_sem, List.take_of_length_le, ren, ren1, okr, okr1, ChkT, ChkN, BlkN, nf, encO]) (by simp [go_sem, List.take_of_length_le, ren, ren1, okr, okr1, ChkT, ChkN, BlkN, nf, encO])
              · have hl2 : ¬ (sm : Int) < (e : Int) := by omega
                simp only [oMin, if_neg hlt2] at hnx
                repeat' first
                  | (refine Holds.condT ?_ ?_; (· (simp [go_sem, List.take_of_length_le, hm1, hm2, hm3, htx, hrx, hx0, intsC, ha1, ha2, ha3] <;> with_reducible rfl)))
                  | (refine Holds.condF ?_ ?_; (· (simp [go_sem, List.take_of_length_le, hm1, hm2, hm3, htx, hrx, hx0, intsC, ha1, ha2, ha3] <;> with_reducible rfl)))
                  | refine Holds.seq ?_
                  | refine Holds.skip ?_
                  | refine Holds.exit ?_
                  | refine Holds.ret ?_
                  | refine thenA_normal ?_
                  | refine thenA_exit ?_
                  | refine thenA_ret ?_
                  | refine inB_normal ?_
                  | refine inB_ret ?_
                  | refine inB_here ?_
                  | (refine inB_past ?_ ?_; (· exact rfl))
                  | refine Holds.reg ?_
                  | refine Holds.block ?_
                  | refine GS.nil ?_
                  | (refine GS.step (s' := ?_) ?_ ?_ ?_; rotate_left; (· exact rfl); (· (simp [go_sem, List.take_of_length_le, hm1, hm2, hm3, htx, hrx, hx0, intsC, ha1, ha2, ha3] <;> with_reducible rfl)))
                  | (refine GS.skip ?_ ?_ ?_; (· exact rfl); (· exact rfl))
                  | fail
                refine GS.cc (c1) rfl rfl rfl rfl (by simp [go_sem, List.take_of_length_le, ints_cons] <;> with_reducible rfl) rfl (by simp [go_sem, List.take_of_length_le, ints_cons]) ?_
                repeat' first
                  | (refine Holds.condT ?_ ?_; (· (simp [go_sem, List.take_of_length_le, hc1, hws, encO, he1, hl2, hlt2] <;> with_reducible rfl)))
                  | (refine Holds.condF ?_ ?_; (· (simp [go_sem, List.take_of_length_le, hc1, hws, encO, he1, hl2, hlt2] <;> with_reducible rfl)))
                  | refine Holds.seq ?_
                  | refine Holds.skip ?_
                  | refine Holds.exit ?_
                  | refine Holds.ret ?_
                  | refine thenA_normal ?_
                  | refine thenA_exit ?_
                  | refine thenA_ret ?_
                  | refine inB_normal ?_
                  | refine inB_ret ?_
                  | refine inB_here ?_
                  | (refine inB_past ?_ ?_; (· exact rfl))
                  | refine Holds.reg ?_
                  | refine Holds.block ?_
                  | refine GS.nil ?_
                  | (refine GS.step (s' := ?_) ?_ ?_ ?_; rotate_left; (· exact rfl); (· (simp [go_sem, List.take_of_length_le, hc1, hws, encO, he1, hl2, hlt2] <;> with_reducible rfl)))
                  | (refine GS.skip ?_ ?_ ?_; (· exact rfl); (· exact rfl))
                  | fail
                refine ⟨(m + 1, some e), ⟨by dsimp only; omega, by dsimp only; omega, by rw [hnx]⟩, by dsimp only; omega, ?_⟩
                rw [step]
                exact Cov.ofn (id) rfl (by simp [go_sem, List.take_of_length_le, ren, ren1, okr, okr1, ChkT, ChkN, BlkN, nf, encO]) (by simp [go_sem, List.take_of_length_le, ren, ren1, okr, okr1, ChkT, ChkN, BlkN, nf, encO])
      · have hlt : m = j + 1 := by simp at h; omega
        subst hlt
        have : midF T w x r i j (j + 1) = (List.range (j + 1 - i)).foldl (fun b d => oMin b (oAdd (T x.toNat i (i + d)) (rowO T w r (i + d) j))) none := rfl
        rw [← this, ← hb]
        repeat' first
          | (refine Holds.condT ?_ ?_; (· (simp [go_sem, List.take_of_length_le] <;> with_reducible rfl)))
          | (refine Holds.condF ?_ ?_; (· (simp [go_sem, List.take_of_length_le] <;> with_reducible rfl)))
          | refine Holds.seq ?_
          | refine Holds.skip ?_
          | refine Holds.exit ?_
          | refine Holds.ret ?_
          | refine thenA_normal ?_
          | refine thenA_exit ?_
          | refine thenA_ret ?_
          | refine inB_normal ?_
          | refine inB_ret ?_
          | refine inB_here ?_
          | (refine inB_past ?_ ?_; (· exact rfl))
          | refine Holds.reg ?_
          | refine Holds.block ?_
          | refine GS.nil ?_
          | (refine GS.step (s' := ?_) ?_ ?_ ?_; rotate_left; (· exact rfl); (· (simp [go_sem, List.take_of_length_le] <;> with_reducible rfl)))
          | (refine GS.skip ?_ ?_ ?_; (· exact rfl); (· exact rfl))
          | fail
        refine Out.mk (xs := ?_) ?_ ?_ (by first | exact .inr rfl | exact .inl rfl)
        rotate_left
        · simp [go_sem, List.take_of_length_le] <;> with_reducible rfl
        exact .v _
end Go.Proofs.Ytpnpjkkppndhfaa.En
end
section
namespace Go.Proofs.Ytpnpjkkppndhfaa.En
open Go.RowKit
set_option linter.unusedSimpArgs false
set_option linter.unusedVariables false
set_option maxHeartbeats 4000000
/-- Two rows, the first i elements of the one, behind them the other's. -/
def mid {α : Type} (ys xs : List α) (i : Nat) : List α := ys.take i ++ xs.drop i
@[simp] theorem mid_zero {α : Type} (ys xs : List α) : mid ys xs 0 = xs := by simp [mid]
theorem mid_all {α : Type} {ys xs : List α} {n : Nat} (h1 : ys.length = n) (h2 : xs.length = n) : mid ys xs n = ys := by
  unfold mid; rw [List.take_of_length_le (by omega), List.drop_eq_nil_of_le (by omega), List.append_nil]
theorem mid_len {α : Type} {ys xs : List α} {i : Nat} (h : ys.length = xs.length) : (mid ys xs i).length = xs.length := by
  simp only [mid, List.length_append, List.length_take, List.length_drop]; omega
theorem mid_get {α : Type} {ys xs : List α} {i : Nat} (h : ys.length = xs.length) (hi : i < xs.length) : (mid ys xs i)[i]? = xs[i]? := by
  unfold mid
  rw [List.getElem?_append_right (by simp; omega), List.getElem?_drop]
  congr 1; simp; omega
theorem mid_set {α : Type} {ys xs : List α} {i : Nat} (h : ys.length = xs.length) (hi : i < xs.length) {y : α} (hy : ys[i]? = some y) : (mid ys xs i).set i y = mid ys xs (i + 1) := by
  unfold mid
  rw [List.set_append_right _ _ (by simp; omega), List.take_add_one, hy, List.drop_eq_getElem_cons hi]
  have e2 : i - (ys.take i).length = 0 := by simp; omega
  rw [e2, List.set_cons_zero]
  simp
/-- How many marks a row takes; the row marked from k on. -/
def wtL {α : Type} (w : α → Nat) : List α → Nat
  | [] => 0
  | x :: xs => w x + wtL w xs
def mkL {α : Type} (w : α → Nat) (f : Int → α → α) : Int → List α → List α
  | _, [] => []
  | k, x :: xs => f k x :: mkL w f (k + w x) xs
@[simp] theorem mkL_len {α : Type} (w : α → Nat) (f : Int → α → α) : ∀ (xs : List α) (k : Int), (mkL w f k xs).length = xs.length
  | [], _ => rfl
  | x :: xs, k => by simp [mkL, mkL_len w f xs]
theorem mkL_get {α : Type} (w : α → Nat) (f : Int → α → α) : ∀ (xs : List α) (k : Int) (i : Nat), (mkL w f k xs)[i]? = (xs[i]?).map (f (k + wtL w (xs.take i)))
  | [], _, i => by simp [mkL]
  | x :: xs, k, 0 => by simp [mkL, wtL]
  | x :: xs, k, i + 1 => by
    simp only [mkL, List.getElem?_cons_succ, mkL_get w f xs, List.take_succ_cons, wtL]
    congr 2; omega
theorem wtL_next {α : Type} (w : α → Nat) : ∀ {xs : List α} {i : Nat} {x : α}, xs[i]? = some x → wtL w (xs.take (i + 1)) = wtL w (xs.take i) + w x
  | [], i, x, h => by simp at h
  | y :: ys, 0, x, h => by simp at h; subst h; simp [wtL]
  | y :: ys, i + 1, x, h => by
    simp only [List.getElem?_cons_succ] at h
    simp only [List.take_succ_cons, wtL, wtL_next w h]; omega
theorem wtL_le {α : Type} (w : α → Nat) : ∀ (xs : List α) (i : Nat), wtL w (xs.take i) ≤ wtL w xs
  | [], i => by simp
  | y :: ys, 0 => by simp [wtL]
  | y :: ys, i + 1 => by have := wtL_le w ys i; simp only [List.take_succ_cons, wtL]; omega
theorem wtL_mk {α : Type} (w : α → Nat) (f : Int → α → α) (h : ∀ k x, w (f k x) = w x) : ∀ (xs : List α) (k : Int), wtL w (mkL w f k xs) = wtL w xs
  | [], _ => rfl
  | x :: xs, k => by simp [mkL, wtL, h, wtL_mk w f h xs]
def w1 (_ : Int) : Nat := 1
def m1 (k : Int) (_ : Int) : Int := k
@[simp] theorem wtL_w1 : ∀ xs : List Int, wtL w1 xs = xs.length
  | [] => rfl
  | x :: xs => by simp [wtL, w1, wtL_w1 xs]; omega
/-- The marks from k on, as many as there are elements. -/
def cnt (k : Int) (xs : List Int) : List Int := mkL w1 m1 k xs
@[simp] theorem cnt_len (k : Int) (xs : List Int) : (cnt k xs).length = xs.length := mkL_len _ _ _ _
theorem cnt_get (k : Int) (xs : List Int) {i : Nat} (h : i < xs.length) : (cnt k xs)[i]? = some (k + i) := by
  unfold cnt
  rw [mkL_get, List.getElem?_eq_getElem h, wtL_w1, List.length_take]
  simp [m1]; omega
@[simp] theorem cnt_gE (k : Int) (xs : List Int) (i : Nat) (h : i < (cnt k xs).length) : (cnt k xs)[i] = k + i := by
  have := cnt_get k xs (i := i) (by simpa using h)
  rw [List.getElem?_eq_getElem h] at this
  exact Option.some.inj this
@[simp] theorem onyR_ints (xs : List Int) : onyR (ints xs) := fun row hr x hx => by
  simp only [ints, List.mem_map] at hr
  obtain ⟨n, _, rfl⟩ := hr
  simp at hx; subst hx; exact .v _
theorem get_E {α : Type} {l : List α} {i : Nat} {a : α} (h : l[i]? = some a) : ∀ g : i < l.length, l[i] = a := fun g => by
  rw [List.getElem?_eq_getElem g] at h; exact Option.some.inj h
theorem set_get {α : Type} {l : List α} {i : Nat} {a b : α} (h : l[i]? = some b) : (l.set i a)[i]? = some a := by
  have := (List.getElem?_eq_some_iff.1 h).1
  simp [this]
theorem nfr_mid {ys xs : List (List AV)} {i : Nat} (h1 : nfr ys) (h2 : nfr xs) : nfr (mid ys xs i) := by
  unfold mid; rw [nfr_append]; exact ⟨h1.take i, h2.drop i⟩
/-- Rows of one's own as they are seen: flat ones inside memory; rows of rows. -/
theorem Fz.owI {bl : List (Nat × Blk)} {e : TypeId} {sz : Nat} {xs : List (List AV)} (h : ∀ row ∈ xs, ∀ x ∈ row, En.cl1 x = true) : Fz bl (.ow e sz xs) (.im sz xs) :=
  .ow e sz xs xs rfl (fun j r r' h1 h2 => by rw [h1] at h2; cases h2; rfl) fun j r r' i x y h1 h2 h3 h4 => by
    rw [h1] at h2; cases h2
    rw [h3] at h4; cases h4
    exact .cl1 (h r (List.mem_of_getElem? h1) x (List.mem_of_getElem? h3))
theorem map_both {α β γ : Type} {xs : List α} {f : α → β} {g : α → γ} {j : Nat} {b : β} {c : γ} (h1 : (xs.map f)[j]? = some b) (h2 : (xs.map g)[j]? = some c) : ∃ x ∈ xs, b = f x ∧ c = g x := by
  simp only [List.getElem?_map, Option.map_eq_some_iff] at h1 h2
  obtain ⟨x, hx, rfl⟩ := h1
  obtain ⟨y, hy, rfl⟩ := h2
  rw [hx] at hy; cases hy
  exact ⟨x, List.mem_of_getElem? hx, rfl, rfl⟩
theorem Fz.rowsW {bl : List (Nat × Blk)} {α : Type} {e : TypeId} {sz : Nat} (l : List α) (fO fI : α → List AV) (hz : ∀ x ∈ l, FzL bl (fO x) (fI x)) : Fz bl (.ow e sz (l.map fO)) (.im sz (l.map fI)) :=
  .ow e sz _ _ (by simp) (fun j r r' h1 h2 => by obtain ⟨x, hx, rfl, rfl⟩ := map_both h1 h2; exact (hz x hx).len) fun j r r' i x y h1 h2 h3 h4 => by
    obtain ⟨x, hx, rfl, rfl⟩ := map_both h1 h2
    exact (hz x hx).get i _ _ h3 h4
theorem Fz.rowsO {bl : List (Nat × Blk)} {α : Type} {n sz len : Nat} {k : Blk} (l : List α) (fO fI : α → List AV) (hk : lb bl n = some k) (hx : k.xs = l.map fO) (hs : k.sz = sz) (hz : ∀ x ∈ l, FzL bl (fO x) (fI x)) (hl : len = l.length) : Fz bl (.own n sz 0 len) (.im sz (l.map fI)) := by
  subst hs hl
  refine .own n 0 l.length k (l.map fI) _ hk (by simp [hx]) (fun j r r' h1 h2 => ?_) (fun j r r' i x y h1 h2 h3 h4 => ?_) (by simp) (by simp [List.take_of_length_le])
  · rw [hx] at h1
    obtain ⟨x, hx, rfl, rfl⟩ := map_both h1 h2
    exact (hz x hx).len
  · rw [hx] at h1
    obtain ⟨x, hx, rfl, rfl⟩ := map_both h1 h2
    exact (hz x hx).get i _ _ h3 h4
theorem ints_mid (ys xs : List Int) (i : Nat) : mid (ints ys) (ints xs) i = ints (mid ys xs i) := by simp [mid, ints]

theorem toIntSO (xs : List Int) (hx : xs.length < 35184372088832) : Fn Try.prog 10 0 [.im 1 (ints xs)] [] (.own 0 1 0 xs.length) 1 [(0, ⟨3, 1, ints xs⟩)] := by
  refine Fn.mk (rs := [.tmp 2]) (nt := 22) Try.func10 (by kernel_rfl) rfl rfl rfl (by simp) ?_
  simp only [sl]
  repeat' first
    | refine Holds.seq ?_
    | refine Holds.skip ?_
    | refine Holds.exit ?_
    | refine Holds.ret ?_
    | refine thenA_normal ?_
    | refine thenA_exit ?_
    | refine thenA_ret ?_
    | refine inB_normal ?_
    | refine inB_ret ?_
    | refine inB_here ?_
    | (refine inB_past ?_ ?_; (· exact rfl))
    | refine Holds.reg ?_
    | refine Holds.block ?_
    | refine GS.nil ?_
    | (refine GS.step (s' := ?_) ?_ ?_ ?_; rotate_left; (· exact rfl); (· (simp [go_sem, List.take_of_length_le, (show (0:Int) ≤ (xs.length : Int) by omega), (show (8:Int) * xs.length ≤ 281474976710656 by omega), (show (xs.length : Int) ≤ 281474976710656 by omega)] <;> with_reducible rfl)))
    | (refine GS.skip ?_ ?_ ?_; (· exact rfl); (· exact rfl))
    | fail
  refine Holds.loop (ι := Nat) (fun i => ⟨[(0, .im 1 (ints xs)), (3, .own 0 1 0 xs.length), (4, .v (.int .i64 i))], [(0, ⟨3, 1, ints (half xs 0 i)⟩)], 1⟩) (fun i => i ≤ xs.length) (fun i => xs.length - i) 0 (Nat.zero_le _) ?_ ?_
  · exact Cov.ofn (id) rfl (by simp [go_sem, List.take_of_length_le, ren, ren1, okr, okr1, ChkT, ChkN, BlkN, nf, half]) (by simp [go_sem, List.take_of_length_le, ren, ren1, okr, okr1, ChkT, ChkN, BlkN, nf, half])
  intro i hi
  repeat' first
    | refine Holds.seq ?_
    | refine Holds.skip ?_
    | refine Holds.exit ?_
    | refine Holds.ret ?_
    | refine thenA_normal ?_
    | refine thenA_exit ?_
    | refine thenA_ret ?_
    | refine inB_normal ?_
    | refine inB_ret ?_
    | refine inB_here ?_
    | (refine inB_past ?_ ?_; (· exact rfl))
    | refine Holds.reg ?_
    | refine Holds.block ?_
    | refine GS.nil ?_
    | (refine GS.step (s' := ?_) ?_ ?_ ?_; rotate_left; (· exact rfl); (· (simp [go_sem, List.take_of_length_le] <;> with_reducible rfl)))
    | (refine GS.skip ?_ ?_ ?_; (· exact rfl); (· exact rfl))
    | fail
  refine Holds.cond rfl (fun hl => ?_) (fun hl => ?_)
  · have hlt : i < xs.length := by simpa using hl
    have hxi : xs[i]? = some xs[i] := List.getElem?_eq_getElem hlt
    have hhi := half_get xs 0 i hlt
    have hhs := half_set xs 0 i hlt _ hxi
    repeat' first
      | refine Holds.seq ?_
      | refine Holds.skip ?_
      | refine Holds.exit ?_
      | refine Holds.ret ?_
      | refine thenA_normal ?_
      | refine thenA_exit ?_
      | refine thenA_ret ?_
      | refine inB_normal ?_
      | refine inB_ret ?_
      | refine inB_here ?_
      | (refine inB_past ?_ ?_; (· exact rfl))
      | refine Holds.reg ?_
      | refine Holds.block ?_
      | refine GS.nil ?_
      | (refine GS.step (s' := ?_) ?_ ?_ ?_; rotate_left; (· exact rfl); (· (simp [go_sem, List.take_of_length_le, hxi, hlt, hhi, hhs] <;> with_reducible rfl)))
      | (refine GS.skip ?_ ?_ ?_; (· exact rfl); (· exact rfl))
      | fail
    refine ⟨i + 1, by omega, by omega, ?_⟩
    rw [wr64_id (by omega) (by omega)]
    exact Cov.ofn (id) rfl (by simp [go_sem, List.take_of_length_le, ren, ren1, okr, okr1, ChkT, ChkN, BlkN, nf]) (by simp [go_sem, List.take_of_length_le, ren, ren1, okr, okr1, ChkT, ChkN, BlkN, nf])
  · have hle : i = xs.length := by
      have : ¬ i < xs.length := by simpa using hl
      omega
    subst hle
    rw [half_all]
    repeat' first
      | refine Holds.seq ?_
      | refine Holds.skip ?_
      | refine Holds.exit ?_
      | refine Holds.ret ?_
      | refine thenA_normal ?_
      | refine thenA_exit ?_
      | refine thenA_ret ?_
      | refine inB_normal ?_
      | refine inB_ret ?_
      | refine inB_here ?_
      | (refine inB_past ?_ ?_; (· exact rfl))
      | refine Holds.reg ?_
      | refine Holds.block ?_
      | refine GS.nil ?_
      | (refine GS.step (s' := ?_) ?_ ?_ ?_; rotate_left; (· exact rfl); (· (simp [go_sem, List.take_of_length_le] <;> with_reducible rfl)))
      | (refine GS.skip ?_ ?_ ?_; (· exact rfl); (· exact rfl))
      | fail
    refine OutF.mkn (xs := ?_) (nm [0]) ?_ ?_ ?_ ?_ ?_ (by first | exact .inr rfl | exact .inl rfl)
    rotate_left
    · simp [go_sem, List.take_of_length_le] <;> with_reducible rfl
    · simp [go_sem, List.take_of_length_le, ren, ren1, okr, okr1, ChkN, BlkN, List.range_succ, nf]
    · simp [go_sem, List.take_of_length_le, ren, ren1, okr, okr1, ChkN, BlkN, List.range_succ, nf]
    · simp [go_sem, List.take_of_length_le, ren, ren1, okr, okr1, ChkN, BlkN, List.range_succ, nf]
    · rfl
theorem markIntS (xs : List Int) (k : Int) (h0 : 0 ≤ k) (h1 : k + wtL w1 xs ≤ 4611686018427387904) : Fn Try.prog 17 1 [.own 0 1 0 xs.length, .v (.int .i64 k)] [(0, ⟨3, 1, ints xs⟩)] (.v (.int .i64 (k + wtL w1 xs))) 1 [(0, ⟨3, 1, ints (cnt k xs)⟩)] := by
  rw [wtL_w1] at h1 ⊢
  have hl0 : (cnt k xs).length = xs.length := cnt_len k xs
  refine Fn.mk (rs := [.tmp 4]) (nt := 19) Try.func17 (by kernel_rfl) rfl rfl rfl (by simp) ?_
  simp only [sl]
  repeat' first
    | refine Holds.seq ?_
    | refine Holds.skip ?_
    | refine Holds.exit ?_
    | refine Holds.ret ?_
    | refine thenA_normal ?_
    | refine thenA_exit ?_
    | refine thenA_ret ?_
    | refine inB_normal ?_
    | refine inB_ret ?_
    | refine inB_here ?_
    | (refine inB_past ?_ ?_; (· exact rfl))
    | refine Holds.reg ?_
    | refine Holds.block ?_
    | refine GS.nil ?_
    | (refine GS.step (s' := ?_) ?_ ?_ ?_; rotate_left; (· exact rfl); (· (simp [go_sem, List.take_of_length_le] <;> with_reducible rfl)))
    | (refine GS.skip ?_ ?_ ?_; (· exact rfl); (· exact rfl))
    | fail
  refine Holds.loop (ι := Nat) (fun i => ⟨[(0, .own 0 1 0 xs.length), (1, .v (.int .i64 (k + i))), (5, .v (.int .i64 i))], [(0, ⟨3, 1, ints (mid (cnt k xs) xs i)⟩)], 1⟩) (fun i => i ≤ xs.length) (fun i => xs.length - i) 0 (Nat.zero_le _) ?_ ?_
  · exact Cov.ofn (id) rfl (by simp [go_sem, List.take_of_length_le, ren, ren1, okr, okr1, ChkT, ChkN, BlkN, nf]) (by simp [go_sem, List.take_of_length_le, ren, ren1, okr, okr1, ChkT, ChkN, BlkN, nf])
  intro i hi
  have hml := mid_len (i := i) hl0
  repeat' first
    | refine Holds.seq ?_
    | refine Holds.skip ?_
    | refine Holds.exit ?_
    | refine Holds.ret ?_
    | refine thenA_normal ?_
    | refine thenA_exit ?_
    | refine thenA_ret ?_
    | refine inB_normal ?_
    | refine inB_ret ?_
    | refine inB_here ?_
    | (refine inB_past ?_ ?_; (· exact rfl))
    | refine Holds.reg ?_
    | refine Holds.block ?_
    | refine GS.nil ?_
    | (refine GS.step (s' := ?_) ?_ ?_ ?_; rotate_left; (· exact rfl); (· (simp [go_sem, List.take_of_length_le, hml] <;> with_reducible rfl)))
    | (refine GS.skip ?_ ?_ ?_; (· exact rfl); (· exact rfl))
    | fail
  refine Holds.cond rfl (fun hl => ?_) (fun hl => ?_)
  · have hlt : i < xs.length := by simpa using hl
    have hxi : xs[i]? = some xs[i] := List.getElem?_eq_getElem hlt
    have hhi := (mid_get hl0 hlt).trans hxi
    have hhs := mid_set hl0 hlt (cnt_get k xs hlt)
    repeat' first
      | refine Holds.seq ?_
      | refine Holds.skip ?_
      | refine Holds.exit ?_
      | refine Holds.ret ?_
      | refine thenA_normal ?_
      | refine thenA_exit ?_
      | refine thenA_ret ?_
      | refine inB_normal ?_
      | refine inB_ret ?_
      | refine inB_here ?_
      | (refine inB_past ?_ ?_; (· exact rfl))
      | refine Holds.reg ?_
      | refine Holds.block ?_
      | refine GS.nil ?_
      | (refine GS.step (s' := ?_) ?_ ?_ ?_; rotate_left; (· exact rfl); (· (simp [go_sem, List.take_of_length_le, hml, hxi, hlt, hhi, hhs] <;> with_reducible rfl)))
      | (refine GS.skip ?_ ?_ ?_; (· exact rfl); (· exact rfl))
      | fail
    refine ⟨i + 1, by omega, by omega, ?_⟩
    rw [wr64_id (by omega) (by omega), wr64_id (by omega) (by omega), show k + (i : Int) + 1 = k + ((i + 1 : Nat) : Int) by omega]
    exact Cov.ofn (id) rfl (by simp [go_sem, List.take_of_length_le, ren, ren1, okr, okr1, ChkT, ChkN, BlkN, nf]) (by simp [go_sem, List.take_of_length_le, ren, ren1, okr, okr1, ChkT, ChkN, BlkN, nf])
  · have hle : i = xs.length := by
      have : ¬ i < xs.length := by simpa using hl
      omega
    subst hle
    rw [mid_all hl0 rfl]
    repeat' first
      | refine Holds.seq ?_
      | refine Holds.skip ?_
      | refine Holds.exit ?_
      | refine Holds.ret ?_
      | refine thenA_normal ?_
      | refine thenA_exit ?_
      | refine thenA_ret ?_
      | refine inB_normal ?_
      | refine inB_ret ?_
      | refine inB_here ?_
      | (refine inB_past ?_ ?_; (· exact rfl))
      | refine Holds.reg ?_
      | refine Holds.block ?_
      | refine GS.nil ?_
      | (refine GS.step (s' := ?_) ?_ ?_ ?_; rotate_left; (· exact rfl); (· (simp [go_sem, List.take_of_length_le] <;> with_reducible rfl)))
      | (refine GS.skip ?_ ?_ ?_; (· exact rfl); (· exact rfl))
      | fail
    refine OutF.mkn (xs := ?_) (nm [0]) ?_ ?_ ?_ ?_ ?_ (by first | exact .inr rfl | exact .inl rfl)
    rotate_left
    · simp [go_sem, List.take_of_length_le] <;> with_reducible rfl
    · simp [go_sem, List.take_of_length_le, ren, ren1, okr, okr1, ChkN, BlkN, List.range_succ, nf]
    · simp [go_sem, List.take_of_length_le, ren, ren1, okr, okr1, ChkN, BlkN, List.range_succ, nf]
    · simp [go_sem, List.take_of_length_le, ren, ren1, okr, okr1, ChkN, BlkN, List.range_succ, nf]
    · rfl
theorem heldIntS (xs : List Int) (k : Int) (h0 : 0 ≤ k) (h1 : k + wtL w1 xs ≤ 4611686018427387904) : Pure Try.prog 18 [.im 1 (ints (cnt k xs)), .v (.int .i64 k)] (.v (.int .i64 (k + wtL w1 xs))) := by
  rw [wtL_w1] at h1 ⊢
  refine Pure.mk (rs := [.tmp 4]) (nt := 21) Try.func18 (by kernel_rfl) rfl rfl rfl (by simp) ?_
  simp only [sl]
  repeat' first
    | refine Holds.seq ?_
    | refine Holds.skip ?_
    | refine Holds.exit ?_
    | refine Holds.ret ?_
    | refine thenA_normal ?_
    | refine thenA_exit ?_
    | refine thenA_ret ?_
    | refine inB_normal ?_
    | refine inB_ret ?_
    | refine inB_here ?_
    | (refine inB_past ?_ ?_; (· exact rfl))
    | refine Holds.reg ?_
    | refine Holds.block ?_
    | refine GS.nil ?_
    | (refine GS.step (s' := ?_) ?_ ?_ ?_; rotate_left; (· exact rfl); (· (simp [go_sem, List.take_of_length_le] <;> with_reducible rfl)))
    | (refine GS.skip ?_ ?_ ?_; (· exact rfl); (· exact rfl))
    | fail
  refine Holds.loop (ι := Nat) (fun i => ⟨[(0, .im 1 (ints (cnt k xs))), (1, .v (.int .i64 (k + i))), (5, .v (.int .i64 i))], [], 0⟩) (fun i => i ≤ xs.length) (fun i => xs.length - i) 0 (Nat.zero_le _) ?_ ?_
  · exact Cov.ofn (id) rfl (by simp [go_sem, List.take_of_length_le, ren, ren1, okr, okr1, ChkT, ChkN, BlkN, nf]) (by simp [go_sem, List.take_of_length_le, ren, ren1, okr, okr1, ChkT, ChkN, BlkN, nf])
  intro i hi
  repeat' first
    | refine Holds.seq ?_
    | refine Holds.skip ?_
    | refine Holds.exit ?_
    | refine Holds.ret ?_
    | refine thenA_normal ?_
    | refine thenA_exit ?_
    | refine thenA_ret ?_
    | refine inB_normal ?_
    | refine inB_ret ?_
    | refine inB_here ?_
    | (refine inB_past ?_ ?_; (· exact rfl))
    | refine Holds.reg ?_
    | refine Holds.block ?_
    | refine GS.nil ?_
    | (refine GS.step (s' := ?_) ?_ ?_ ?_; rotate_left; (· exact rfl); (· (simp [go_sem, List.take_of_length_le] <;> with_reducible rfl)))
    | (refine GS.skip ?_ ?_ ?_; (· exact rfl); (· exact rfl))
    | fail
  refine Holds.cond rfl (fun hl => ?_) (fun hl => ?_)
  · have hlt : i < xs.length := by simpa using hl
    have hxi := cnt_get k xs hlt
    repeat' first
      | refine Holds.seq ?_
      | refine Holds.skip ?_
      | refine Holds.exit ?_
      | refine Holds.ret ?_
      | refine thenA_normal ?_
      | refine thenA_exit ?_
      | refine thenA_ret ?_
      | refine inB_normal ?_
      | refine inB_ret ?_
      | refine inB_here ?_
      | (refine inB_past ?_ ?_; (· exact rfl))
      | refine Holds.reg ?_
      | refine Holds.block ?_
      | refine GS.nil ?_
      | (refine GS.step (s' := ?_) ?_ ?_ ?_; rotate_left; (· exact rfl); (· (simp [go_sem, List.take_of_length_le, hxi, hlt] <;> with_reducible rfl)))
      | (refine GS.skip ?_ ?_ ?_; (· exact rfl); (· exact rfl))
      | fail
    refine Holds.cond rfl (fun hl => absurd hl (by simp)) (fun hl => ?_)
    repeat' first
      | refine Holds.seq ?_
      | refine Holds.skip ?_
      | refine Holds.exit ?_
      | refine Holds.ret ?_
      | refine thenA_normal ?_
      | refine thenA_exit ?_
      | refine thenA_ret ?_
      | refine inB_normal ?_
      | refine inB_ret ?_
      | refine inB_here ?_
      | (refine inB_past ?_ ?_; (· exact rfl))
      | refine Holds.reg ?_
      | refine Holds.block ?_
      | refine GS.nil ?_
      | (refine GS.step (s' := ?_) ?_ ?_ ?_; rotate_left; (· exact rfl); (· (simp [go_sem, List.take_of_length_le] <;> with_reducible rfl)))
      | (refine GS.skip ?_ ?_ ?_; (· exact rfl); (· exact rfl))
      | fail
    refine ⟨i + 1, by omega, by omega, ?_⟩
    rw [wr64_id (by omega) (by omega), wr64_id (by omega) (by omega), show k + (i : Int) + 1 = k + ((i + 1 : Nat) : Int) by omega]
    exact Cov.ofn (id) rfl (by simp [go_sem, List.take_of_length_le, ren, ren1, okr, okr1, ChkT, ChkN, BlkN, nf]) (by simp [go_sem, List.take_of_length_le, ren, ren1, okr, okr1, ChkT, ChkN, BlkN, nf])
  · have hle : i = xs.length := by
      have : ¬ i < xs.length := by simpa using hl
      omega
    subst hle
    repeat' first
      | refine Holds.seq ?_
      | refine Holds.skip ?_
      | refine Holds.exit ?_
      | refine Holds.ret ?_
      | refine thenA_normal ?_
      | refine thenA_exit ?_
      | refine thenA_ret ?_
      | refine inB_normal ?_
      | refine inB_ret ?_
      | refine inB_here ?_
      | (refine inB_past ?_ ?_; (· exact rfl))
      | refine Holds.reg ?_
      | refine Holds.block ?_
      | refine GS.nil ?_
      | (refine GS.step (s' := ?_) ?_ ?_ ?_; rotate_left; (· exact rfl); (· (simp [go_sem, List.take_of_length_le] <;> with_reducible rfl)))
      | (refine GS.skip ?_ ?_ ?_; (· exact rfl); (· exact rfl))
      | fail
    refine Out.mk (xs := ?_) ?_ ?_ (by first | exact .inr rfl | exact .inl rfl)
    rotate_left
    · simp [go_sem, List.take_of_length_le] <;> with_reducible rfl
    exact .v _
end Go.Proofs.Ytpnpjkkppndhfaa.En
end
section
namespace Go.Proofs.Ytpnpjkkppndhfaa.En
open Go.RowKit
set_option linter.unusedSimpArgs false
set_option linter.unusedVariables false
set_option maxHeartbeats 4000000
def wRule (x : RuleT) : Nat := 1 + wtL w1 x.2
def mRule (k : Int) (x : RuleT) : RuleT := ((k), cnt (k + 1) x.2)
theorem wRule_m (k : Int) (x : RuleT) : wRule (mRule k x) = wRule x := by simp [wRule, mRule]
def ruleO (x : RuleT) : List AV := [.v (.int .i64 x.1), .ow 3 1 (ints x.2)]
def rulesO (l : List RuleT) : List (List AV) := l.map ruleO
@[simp] theorem rulesO_len (l : List (RuleT)) : (rulesO l).length = l.length := by simp [rulesO]
@[simp] theorem rulesO_get (l : List (RuleT)) (i : Nat) : (rulesO l)[i]? = (l[i]?).map ruleO := by simp [rulesO]
@[simp] theorem rulesO_gE (l : List (RuleT)) (i : Nat) (h : i < (rulesO l).length) : (rulesO l)[i] = ruleO (l[i]'(by simpa using h)) := by simp [rulesO]
theorem rulesO_all (p : AV → Prop) (l : List (RuleT)) (h : ∀ x ∈ l, ∀ y ∈ ruleO x, p y) : ∀ row ∈ rulesO l, ∀ y ∈ row, p y := by
  intro row hr y hy
  simp only [rulesO, List.mem_map] at hr
  obtain ⟨n, hn, rfl⟩ := hr
  exact h n hn y hy
@[simp] theorem nfr_rulesO (l : List (RuleT)) : nfr (rulesO l) := rulesO_all _ l fun x _ y hy => by simp only [ruleO, List.mem_cons, List.not_mem_nil, or_false] at hy; rcases hy with rfl | rfl <;> rfl
@[simp] theorem onyR_rulesO (l : List (RuleT)) : onyR (rulesO l) := rulesO_all _ l fun x _ y hy => by simp only [ruleO, List.mem_cons, List.not_mem_nil, or_false] at hy; rcases hy with rfl | rfl <;> simp
theorem fz_rulesO {bl : List (Nat × Blk)} {n len : Nat} {e : TypeId} (l : List (RuleT)) (hk : lb bl n = some ⟨e, 2, rulesO l⟩) (hl : len = l.length) : Fz bl (.own n 2 0 len) (.im 2 (rules l)) := Fz.rowsO l ruleO ruleC hk rfl rfl (fun x _ => show FzL bl (ruleO x) (ruleC x) from by simp only [ruleO, ruleC]; exact .cons (.v _) (.cons (Fz.owI (ints_cl _)) (.nil))) hl
theorem fzw_rulesO {bl : List (Nat × Blk)} {e : TypeId} (l : List (RuleT)) : Fz bl (.ow e 2 (rulesO l)) (.im 2 (rules l)) := Fz.rowsW l ruleO ruleC (fun x _ => show FzL bl (ruleO x) (ruleC x) from by simp only [ruleO, ruleC]; exact .cons (.v _) (.cons (Fz.owI (ints_cl _)) (.nil)))
theorem toRuleO (x : RuleT) (h0 : (x.2).length < 35184372088832) : Fn Try.prog 49 0 [.ag (ruleC x)] [] (.ag [.v (.int .i64 x.1), .own 0 1 0 (x.2).length]) 1 [(0, ⟨3, 1, ints x.2⟩)] := by
  refine Fn.mk (rs := [.cell 2 68]) (nt := 12) Try.func49 (by kernel_rfl) rfl rfl rfl (by simp) ?_
  simp only [sl, ruleC]
  repeat' first
    | refine Holds.seq ?_
    | refine Holds.skip ?_
    | refine Holds.exit ?_
    | refine Holds.ret ?_
    | refine thenA_normal ?_
    | refine thenA_exit ?_
    | refine thenA_ret ?_
    | refine inB_normal ?_
    | refine inB_ret ?_
    | refine inB_here ?_
    | (refine inB_past ?_ ?_; (· exact rfl))
    | refine Holds.reg ?_
    | refine Holds.block ?_
    | refine GS.nil ?_
    | (refine GS.step (s' := ?_) ?_ ?_ ?_; rotate_left; (· exact rfl); (· (simp [go_sem, List.take_of_length_le] <;> with_reducible rfl)))
    | (refine GS.skip ?_ ?_ ?_; (· exact rfl); (· exact rfl))
    | fail
  refine GS.fnn [] (toIntSO x.2 h0) rfl rfl rfl rfl (by simp [go_sem, List.take_of_length_le, ren, ren1, okr, okr1, ChkN, BlkN, List.range_succ, nf, ruleC] <;> with_reducible rfl) (by simp [go_sem, List.take_of_length_le, ren, ren1, okr, okr1, ChkN, BlkN, List.range_succ, nf, ruleC]) (by simp [go_sem, List.take_of_length_le, ren, ren1, okr, okr1, ChkN, BlkN, List.range_succ, nf, ruleC]) (by simp [List.range_succ, lb]) (ChkN.toB (by simp [go_sem, List.take_of_length_le, ren, ren1, okr, okr1, ChkN, BlkN, List.range_succ, nf, ruleC])) (by decide) (by simp) rfl (.nfr (by simp) .nil) (by simp [go_sem, List.take_of_length_le, ren, ren1, okr, okr1, ChkN, BlkN, List.range_succ, nf, ruleC] <;> with_reducible rfl) ?_
  repeat' first
    | refine Holds.seq ?_
    | refine Holds.skip ?_
    | refine Holds.exit ?_
    | refine Holds.ret ?_
    | refine thenA_normal ?_
    | refine thenA_exit ?_
    | refine thenA_ret ?_
    | refine inB_normal ?_
    | refine inB_ret ?_
    | refine inB_here ?_
    | (refine inB_past ?_ ?_; (· exact rfl))
    | refine Holds.reg ?_
    | refine Holds.block ?_
    | refine GS.nil ?_
    | (refine GS.step (s' := ?_) ?_ ?_ ?_; rotate_left; (· exact rfl); (· (simp [go_sem, List.take_of_length_le] <;> with_reducible rfl)))
    | (refine GS.skip ?_ ?_ ?_; (· exact rfl); (· exact rfl))
    | fail
  refine OutF.mkn (xs := ?_) (nm [3]) ?_ ?_ ?_ ?_ ?_ (by first | exact .inr rfl | exact .inl rfl)
  rotate_left
  · simp [go_sem, List.take_of_length_le, ruleC] <;> with_reducible rfl
  · simp [go_sem, List.take_of_length_le, ren, ren1, okr, okr1, ChkN, BlkN, List.range_succ, nf, ruleC]
  · simp [go_sem, List.take_of_length_le, ren, ren1, okr, okr1, ChkN, BlkN, List.range_succ, nf, ruleC]
  · simp [go_sem, List.take_of_length_le, ren, ren1, okr, okr1, ChkN, BlkN, List.range_succ, nf, ruleC]
  · rfl
theorem toRuleSO (l : List (RuleT)) (h0 : l.length < 8796093022208) (h1 : ∀ q ∈ l, (q.2).length < 35184372088832) : Fn Try.prog 27 0 [.im 2 (rules l)] [] (.own 0 2 0 l.length) 1 [(0, ⟨68, 2, rulesO l⟩)] := by
  refine Fn.mk (rs := [.tmp 2]) (nt := 23) Try.func27 (by kernel_rfl) rfl rfl rfl (by simp) ?_
  simp only [sl]
  repeat' first
    | refine Holds.seq ?_
    | refine Holds.skip ?_
    | refine Holds.exit ?_
    | refine Holds.ret ?_
    | refine thenA_normal ?_
    | refine thenA_exit ?_
    | refine thenA_ret ?_
    | refine inB_normal ?_
    | refine inB_ret ?_
    | refine inB_here ?_
    | (refine inB_past ?_ ?_; (· exact rfl))
    | refine Holds.reg ?_
    | refine Holds.block ?_
    | refine GS.nil ?_
    | (refine GS.step (s' := ?_) ?_ ?_ ?_; rotate_left; (· exact rfl); (· (simp [go_sem, List.take_of_length_le, (show (0:Int) ≤ (l.length : Int) by omega), (show (32:Int) * l.length ≤ 281474976710656 by omega), (show (l.length : Int) ≤ 281474976710656 by omega)] <;> with_reducible rfl)))
    | (refine GS.skip ?_ ?_ ?_; (· exact rfl); (· exact rfl))
    | fail
  refine Holds.loop (ι := Nat) (fun i => ⟨[(0, .im 2 (rules l)), (3, .own 0 2 0 l.length), (4, .v (.int .i64 i))], [(0, ⟨68, 2, half (rulesO l) [.v (.int .i64 0), .v (.slice none 0 0)] i⟩)], 1⟩) (fun i => i ≤ l.length) (fun i => l.length - i) 0 (Nat.zero_le _) ?_ ?_
  · have hnf0 : nfr (List.replicate l.length ([.v (.int .i64 0), .v (.slice none 0 0)] : List AV)) := .rep (by simp [nf])
    exact Cov.ofn (id) rfl (by simp [go_sem, List.take_of_length_le, ren, ren1, okr, okr1, ChkT, ChkN, BlkN, nf, half, hnf0]) (by simp [go_sem, List.take_of_length_le, ren, ren1, okr, okr1, ChkT, ChkN, BlkN, nf, half, hnf0])
  intro i hi
  repeat' first
    | refine Holds.seq ?_
    | refine Holds.skip ?_
    | refine Holds.exit ?_
    | refine Holds.ret ?_
    | refine thenA_normal ?_
    | refine thenA_exit ?_
    | refine thenA_ret ?_
    | refine inB_normal ?_
    | refine inB_ret ?_
    | refine inB_here ?_
    | (refine inB_past ?_ ?_; (· exact rfl))
    | refine Holds.reg ?_
    | refine Holds.block ?_
    | refine GS.nil ?_
    | (refine GS.step (s' := ?_) ?_ ?_ ?_; rotate_left; (· exact rfl); (· (simp [go_sem, List.take_of_length_le] <;> with_reducible rfl)))
    | (refine GS.skip ?_ ?_ ?_; (· exact rfl); (· exact rfl))
    | fail
  refine Holds.cond rfl (fun hl => ?_) (fun hl => ?_)
  · have hlt : i < l.length := by simpa using hl
    have hxi : l[i]? = some l[i] := List.getElem?_eq_getElem hlt
    have hhi := half_get (rulesO l) [.v (.int .i64 0), .v (.slice none 0 0)] i (by simpa using hlt)
    have hhs := half_set (rulesO l) [.v (.int .i64 0), .v (.slice none 0 0)] i (by simpa using hlt) (ruleO l[i]) (by simp [hxi])
    have hnf : nfr (half (rulesO l) [.v (.int .i64 0), .v (.slice none 0 0)] i) := nfr_half (by simp) (by simp [nf])
    have hnf1 : nfr (half (rulesO l) [.v (.int .i64 0), .v (.slice none 0 0)] (i + 1)) := nfr_half (by simp) (by simp [nf])
    simp only [ruleO] at hhs
    repeat' first
      | refine Holds.seq ?_
      | refine Holds.skip ?_
      | refine Holds.exit ?_
      | refine Holds.ret ?_
      | refine thenA_normal ?_
      | refine thenA_exit ?_
      | refine thenA_ret ?_
      | refine inB_normal ?_
      | refine inB_ret ?_
      | refine inB_here ?_
      | (refine inB_past ?_ ?_; (· exact rfl))
      | refine Holds.reg ?_
      | refine Holds.block ?_
      | refine GS.nil ?_
      | (refine GS.step (s' := ?_) ?_ ?_ ?_; rotate_left; (· exact rfl); (· (simp [go_sem, List.take_of_length_le, hxi, hlt, ruleC] <;> with_reducible rfl)))
      | (refine GS.skip ?_ ?_ ?_; (· exact rfl); (· exact rfl))
      | fail
    refine GS.fnn [] (toRuleO l[i] (h1 _ (List.getElem_mem hlt))) rfl rfl rfl rfl (by simp [go_sem, List.take_of_length_le, ren, ren1, okr, okr1, ChkN, BlkN, List.range_succ, nf, ruleC] <;> with_reducible rfl) (by simp [go_sem, List.take_of_length_le, ren, ren1, okr, okr1, ChkN, BlkN, List.range_succ, nf, ruleC]) (by simp [go_sem, List.take_of_length_le, ren, ren1, okr, okr1, ChkN, BlkN, List.range_succ, nf, ruleC]) (by simp [List.range_succ, lb]) (ChkN.toB (by simp [go_sem, List.take_of_length_le, ren, ren1, okr, okr1, ChkN, BlkN, List.range_succ, nf, ruleC])) (by decide) (by simp) rfl (.nfr (by simp) .nil) (by simp [go_sem, List.take_of_length_le, ren, ren1, okr, okr1, ChkN, BlkN, List.range_succ, nf, ruleC] <;> with_reducible rfl) ?_
    repeat' first
      | refine Holds.seq ?_
      | refine Holds.skip ?_
      | refine Holds.exit ?_
      | refine Holds.ret ?_
      | refine thenA_normal ?_
      | refine thenA_exit ?_
      | refine thenA_ret ?_
      | refine inB_normal ?_
      | refine inB_ret ?_
      | refine inB_here ?_
      | (refine inB_past ?_ ?_; (· exact rfl))
      | refine Holds.reg ?_
      | refine Holds.block ?_
      | refine GS.nil ?_
      | (refine GS.step (s' := ?_) ?_ ?_ ?_; rotate_left; (· exact rfl); (· (simp [go_sem, List.take_of_length_le, hxi, hlt, hhi, hhs, ruleC] <;> with_reducible rfl)))
      | (refine GS.skip ?_ ?_ ?_; (· exact rfl); (· exact rfl))
      | fail
    refine ⟨i + 1, by omega, by omega, ?_⟩
    rw [wr64_id (by omega) (by omega)]
    refine Cov.trans ?_ (Cov.close 0 i 1 rfl (set_get hhi) rfl rfl rfl rfl (by first | rfl | simp) (by simp))
    simp only [rm, st, List.set_set, List.set_cons_zero, List.set_cons_succ, hhs]
    exact Cov.ofn (id) rfl (by simp [go_sem, List.take_of_length_le, ren, ren1, okr, okr1, ChkT, ChkN, BlkN, nf, hnf, hnf1]) (by simp [go_sem, List.take_of_length_le, ren, ren1, okr, okr1, ChkT, ChkN, BlkN, nf, hnf, hnf1])
  · have hle : i = l.length := by
      have : ¬ i < l.length := by simpa using hl
      omega
    subst hle
    rw [show half (rulesO l) [.v (.int .i64 0), .v (.slice none 0 0)] l.length = rulesO l by have := half_all (rulesO l) ([.v (.int .i64 0), .v (.slice none 0 0)] : List AV); rwa [show (rulesO l).length = l.length by simp] at this]
    repeat' first
      | refine Holds.seq ?_
      | refine Holds.skip ?_
      | refine Holds.exit ?_
      | refine Holds.ret ?_
      | refine thenA_normal ?_
      | refine thenA_exit ?_
      | refine thenA_ret ?_
      | refine inB_normal ?_
      | refine inB_ret ?_
      | refine inB_here ?_
      | (refine inB_past ?_ ?_; (· exact rfl))
      | refine Holds.reg ?_
      | refine Holds.block ?_
      | refine GS.nil ?_
      | (refine GS.step (s' := ?_) ?_ ?_ ?_; rotate_left; (· exact rfl); (· (simp [go_sem, List.take_of_length_le] <;> with_reducible rfl)))
      | (refine GS.skip ?_ ?_ ?_; (· exact rfl); (· exact rfl))
      | fail
    refine OutF.mkn (xs := ?_) (nm [0]) ?_ ?_ ?_ ?_ ?_ (by first | exact .inr rfl | exact .inl rfl)
    rotate_left
    · simp [go_sem, List.take_of_length_le] <;> with_reducible rfl
    · simp [go_sem, List.take_of_length_le, ren, ren1, okr, okr1, ChkN, BlkN, List.range_succ, nf]
    · simp [go_sem, List.take_of_length_le, ren, ren1, okr, okr1, ChkN, BlkN, List.range_succ, nf]
    · simp [go_sem, List.take_of_length_le, ren, ren1, okr, okr1, ChkN, BlkN, List.range_succ, nf]
    · rfl
theorem markRuleS (l : List (RuleT)) (k : Int) (h0 : 0 ≤ k) (h1 : k + wtL wRule l ≤ 4611686018427387904) (h2 : l.length ≤ 4611686018427387904) : Fn Try.prog 35 1 [.own 0 2 0 l.length, .v (.int .i64 k)] [(0, ⟨68, 2, rulesO l⟩)] (.v (.int .i64 (k + wtL wRule l))) 1 [(0, ⟨68, 2, rulesO (mkL wRule mRule k l)⟩)] := by
  have hl0 : (rulesO (mkL wRule mRule k l)).length = (rulesO l).length := by simp
  have hl1 : (rulesO l).length = l.length := by simp
  refine Fn.mk (rs := [.tmp 4]) (nt := 27) Try.func35 (by kernel_rfl) rfl rfl rfl (by simp) ?_
  simp only [sl]
  repeat' first
    | refine Holds.seq ?_
    | refine Holds.skip ?_
    | refine Holds.exit ?_
    | refine Holds.ret ?_
    | refine thenA_normal ?_
    | refine thenA_exit ?_
    | refine thenA_ret ?_
    | refine inB_normal ?_
    | refine inB_ret ?_
    | refine inB_here ?_
    | (refine inB_past ?_ ?_; (· exact rfl))
    | refine Holds.reg ?_
    | refine Holds.block ?_
    | refine GS.nil ?_
    | (refine GS.step (s' := ?_) ?_ ?_ ?_; rotate_left; (· exact rfl); (· (simp [go_sem, List.take_of_length_le] <;> with_reducible rfl)))
    | (refine GS.skip ?_ ?_ ?_; (· exact rfl); (· exact rfl))
    | fail
  refine Holds.loop (ι := Nat) (fun i => ⟨[(0, .own 0 2 0 l.length), (1, .v (.int .i64 (k + wtL wRule (l.take i)))), (5, .v (.int .i64 i))], [(0, ⟨68, 2, mid (rulesO (mkL wRule mRule k l)) (rulesO l) i⟩)], 1⟩) (fun i => i ≤ l.length) (fun i => l.length - i) 0 (Nat.zero_le _) ?_ ?_
  · exact Cov.ofn (id) rfl (by simp [go_sem, List.take_of_length_le, ren, ren1, okr, okr1, ChkT, ChkN, BlkN, nf, wtL]) (by simp [go_sem, List.take_of_length_le, ren, ren1, okr, okr1, ChkT, ChkN, BlkN, nf, wtL])
  intro i hi
  have hml := (mid_len (i := i) hl0).trans hl1
  repeat' first
    | refine Holds.seq ?_
    | refine Holds.skip ?_
    | refine Holds.exit ?_
    | refine Holds.ret ?_
    | refine thenA_normal ?_
    | refine thenA_exit ?_
    | refine thenA_ret ?_
    | refine inB_normal ?_
    | refine inB_ret ?_
    | refine inB_here ?_
    | (refine inB_past ?_ ?_; (· exact rfl))
    | refine Holds.reg ?_
    | refine Holds.block ?_
    | refine GS.nil ?_
    | (refine GS.step (s' := ?_) ?_ ?_ ?_; rotate_left; (· exact rfl); (· (simp [go_sem, List.take_of_length_le, hml] <;> with_reducible rfl)))
    | (refine GS.skip ?_ ?_ ?_; (· exact rfl); (· exact rfl))
    | fail
  refine Holds.cond rfl (fun hl => ?_) (fun hl => ?_)
  · have hlt : i < l.length := by simpa using hl
    have hxi : l[i]? = some l[i] := List.getElem?_eq_getElem hlt
    have hwn := wtL_next wRule hxi
    have hwl := wtL_le wRule l (i + 1)
    have hmk : (mkL wRule mRule k l)[i]? = some (mRule (k + wtL wRule (l.take i)) l[i]) := by rw [mkL_get, hxi]; rfl
    have hhi := (mid_get hl0 (i := i) (by simpa using hlt)).trans (show (rulesO l)[i]? = some (ruleO l[i]) by simp [hxi])
    have hhs := mid_set hl0 (i := i) (by simpa using hlt) (show (rulesO (mkL wRule mRule k l))[i]? = some (ruleO (mRule (k + wtL wRule (l.take i)) l[i])) by simp [hmk])
    have hnf : nfr (mid (rulesO (mkL wRule mRule k l)) (rulesO l) i) := nfr_mid (by simp) (by simp)
    have hnf1 : nfr (mid (rulesO (mkL wRule mRule k l)) (rulesO l) (i + 1)) := nfr_mid (by simp) (by simp)
    have hW0 : (0 : Int) ≤ (wtL wRule (l.take i) : Int) := Int.natCast_nonneg _
    generalize wtL wRule (l.take i) = W at hwn hmk hhs hW0 ⊢
    generalize hX : l[i] = x at hxi hwn hmk hhi hhs
    simp only [wRule] at hwn
    simp only [ruleO, mRule] at hhs
    simp only [ruleO] at hhi
    have hhe := get_E hhi
    have hw0 : wr64 ((k + W : Int) + 1) = (k + W : Int) + 1 := wr64_id (by omega) (by omega)
    repeat' first
      | refine Holds.seq ?_
      | refine Holds.skip ?_
      | refine Holds.exit ?_
      | refine Holds.ret ?_
      | refine thenA_normal ?_
      | refine thenA_exit ?_
      | refine thenA_ret ?_
      | refine inB_normal ?_
      | refine inB_ret ?_
      | refine inB_here ?_
      | (refine inB_past ?_ ?_; (· exact rfl))
      | refine Holds.reg ?_
      | refine Holds.block ?_
      | refine GS.nil ?_
      | (refine GS.step (s' := ?_) ?_ ?_ ?_; rotate_left; (· exact rfl); (· (simp [go_sem, List.take_of_length_le, hml, hhi, hhe, hlt, hl0, hw0] <;> with_reducible rfl)))
      | (refine GS.skip ?_ ?_ ?_; (· exact rfl); (· exact rfl))
      | fail
    refine GS.fnn [1] (markIntS x.2 ((k + W : Int) + 1) (by omega) (by omega)) rfl rfl rfl rfl (by simp [go_sem, List.take_of_length_le, ren, ren1, okr, okr1, ChkN, BlkN, List.range_succ, nf, hml, hhi, hhe, hlt, hl0, hw0] <;> with_reducible rfl) (by simp [go_sem, List.take_of_length_le, ren, ren1, okr, okr1, ChkN, BlkN, List.range_succ, nf, hml, hhi, hhe, hlt, hl0, hw0]) (by simp [go_sem, List.take_of_length_le, ren, ren1, okr, okr1, ChkN, BlkN, List.range_succ, nf, hml, hhi, hhe, hlt, hl0, hw0]) (by simp [List.range_succ, lb]) (ChkN.toB (by simp [go_sem, List.take_of_length_le, ren, ren1, okr, okr1, ChkN, BlkN, List.range_succ, nf, hml, hhi, hhe, hlt, hl0, hw0])) (by decide) (by simp) rfl (.nfr (by simp) .nil) (by simp [go_sem, List.take_of_length_le, ren, ren1, okr, okr1, ChkN, BlkN, List.range_succ, nf, hml, hhi, hhe, hlt, hl0, hw0] <;> with_reducible rfl) ?_
    repeat' first
      | refine Holds.seq ?_
      | refine Holds.skip ?_
      | refine Holds.exit ?_
      | refine Holds.ret ?_
      | refine thenA_normal ?_
      | refine thenA_exit ?_
      | refine thenA_ret ?_
      | refine inB_normal ?_
      | refine inB_ret ?_
      | refine inB_here ?_
      | (refine inB_past ?_ ?_; (· exact rfl))
      | refine Holds.reg ?_
      | refine Holds.block ?_
      | refine GS.nil ?_
      | (refine GS.step (s' := ?_) ?_ ?_ ?_; rotate_left; (· exact rfl); (· (simp [go_sem, List.take_of_length_le, hml, hhi, hhe, hlt, hl0, hw0] <;> with_reducible rfl)))
      | (refine GS.skip ?_ ?_ ?_; (· exact rfl); (· exact rfl))
      | fail
    refine ⟨i + 1, by omega, by omega, ?_⟩
    rw [show wr64 ((i : Int) + 1) = ((i + 1 : Nat) : Int) from wr64_id (by omega) (by omega), hwn]
    refine Cov.trans ?_ (Cov.close 0 i 1 rfl (set_get hhi) rfl rfl rfl rfl (by first | rfl | simp) (by simp))
    simp only [rm, st, List.set_set, List.set_cons_zero, List.set_cons_succ]
    exact Cov.ofn (id) rfl (by simp [go_sem, List.take_of_length_le, ren, ren1, okr, okr1, ChkT, ChkN, BlkN, nf, hhs, hnf, hnf1, Int.add_assoc]) (by simp [go_sem, List.take_of_length_le, ren, ren1, okr, okr1, ChkT, ChkN, BlkN, nf, hhs, hnf, hnf1])
  · have hle : i = l.length := by
      have : ¬ i < l.length := by simpa using hl
      omega
    subst hle
    rw [mid_all (by simp) (by simp), List.take_length]
    repeat' first
      | refine Holds.seq ?_
      | refine Holds.skip ?_
      | refine Holds.exit ?_
      | refine Holds.ret ?_
      | refine thenA_normal ?_
      | refine thenA_exit ?_
      | refine thenA_ret ?_
      | refine inB_normal ?_
      | refine inB_ret ?_
      | refine inB_here ?_
      | (refine inB_past ?_ ?_; (· exact rfl))
      | refine Holds.reg ?_
      | refine Holds.block ?_
      | refine GS.nil ?_
      | (refine GS.step (s' := ?_) ?_ ?_ ?_; rotate_left; (· exact rfl); (· (simp [go_sem, List.take_of_length_le] <;> with_reducible rfl)))
      | (refine GS.skip ?_ ?_ ?_; (· exact rfl); (· exact rfl))
      | fail
    refine OutF.mkn (xs := ?_) (nm [0]) ?_ ?_ ?_ ?_ ?_ (by first | exact .inr rfl | exact .inl rfl)
    rotate_left
    · simp [go_sem, List.take_of_length_le] <;> with_reducible rfl
    · simp [go_sem, List.take_of_length_le, ren, ren1, okr, okr1, ChkN, BlkN, List.range_succ, nf]
    · simp [go_sem, List.take_of_length_le, ren, ren1, okr, okr1, ChkN, BlkN, List.range_succ, nf]
    · simp [go_sem, List.take_of_length_le, ren, ren1, okr, okr1, ChkN, BlkN, List.range_succ, nf]
    · rfl
theorem toGrammarO (x : GrammarT) (h0 : (x.2.2).length < 8796093022208) (h1 : ∀ q ∈ (x.2.2), (q.2).length < 35184372088832) : Fn Try.prog 9 0 [.ag (grammarC x)] [] (.ag [.v (.int .i64 x.1), .v (.int .i64 x.2.1), .own 0 2 0 (x.2.2).length]) 1 [(0, ⟨68, 2, rulesO x.2.2⟩)] := by
  refine Fn.mk (rs := [.cell 2 31]) (nt := 15) Try.func9 (by kernel_rfl) rfl rfl rfl (by simp) ?_
  simp only [sl, grammarC]
  repeat' first
    | refine Holds.seq ?_
    | refine Holds.skip ?_
    | refine Holds.exit ?_
    | refine Holds.ret ?_
    | refine thenA_normal ?_
    | refine thenA_exit ?_
    | refine thenA_ret ?_
    | refine inB_normal ?_
    | refine inB_ret ?_
    | refine inB_here ?_
    | (refine inB_past ?_ ?_; (· exact rfl))
    | refine Holds.reg ?_
    | refine Holds.block ?_
    | refine GS.nil ?_
    | (refine GS.step (s' := ?_) ?_ ?_ ?_; rotate_left; (· exact rfl); (· (simp [go_sem, List.take_of_length_le] <;> with_reducible rfl)))
    | (refine GS.skip ?_ ?_ ?_; (· exact rfl); (· exact rfl))
    | fail
  refine GS.fnn [] (toRuleSO x.2.2 h0 h1) rfl rfl rfl rfl (by simp [go_sem, List.take_of_length_le, ren, ren1, okr, okr1, ChkN, BlkN, List.range_succ, nf, grammarC] <;> with_reducible rfl) (by simp [go_sem, List.take_of_length_le, ren, ren1, okr, okr1, ChkN, BlkN, List.range_succ, nf, grammarC]) (by simp [go_sem, List.take_of_length_le, ren, ren1, okr, okr1, ChkN, BlkN, List.range_succ, nf, grammarC]) (by simp [List.range_succ, lb]) (ChkN.toB (by simp [go_sem, List.take_of_length_le, ren, ren1, okr, okr1, ChkN, BlkN, List.range_succ, nf, grammarC])) (by decide) (by simp) rfl (.nfr (by simp) .nil) (by simp [go_sem, List.take_of_length_le, ren, ren1, okr, okr1, ChkN, BlkN, List.range_succ, nf, grammarC] <;> with_reducible rfl) ?_
  repeat' first
    | refine Holds.seq ?_
    | refine Holds.skip ?_
    | refine Holds.exit ?_
    | refine Holds.ret ?_
    | refine thenA_normal ?_
    | refine thenA_exit ?_
    | refine thenA_ret ?_
    | refine inB_normal ?_
    | refine inB_ret ?_
    | refine inB_here ?_
    | (refine inB_past ?_ ?_; (· exact rfl))
    | refine Holds.reg ?_
    | refine Holds.block ?_
    | refine GS.nil ?_
    | (refine GS.step (s' := ?_) ?_ ?_ ?_; rotate_left; (· exact rfl); (· (simp [go_sem, List.take_of_length_le] <;> with_reducible rfl)))
    | (refine GS.skip ?_ ?_ ?_; (· exact rfl); (· exact rfl))
    | fail
  refine OutF.mkn (xs := ?_) (nm [3]) ?_ ?_ ?_ ?_ ?_ (by first | exact .inr rfl | exact .inl rfl)
  rotate_left
  · simp [go_sem, List.take_of_length_le, grammarC] <;> with_reducible rfl
  · simp [go_sem, List.take_of_length_le, ren, ren1, okr, okr1, ChkN, BlkN, List.range_succ, nf, grammarC]
  · simp [go_sem, List.take_of_length_le, ren, ren1, okr, okr1, ChkN, BlkN, List.range_succ, nf, grammarC]
  · simp [go_sem, List.take_of_length_le, ren, ren1, okr, okr1, ChkN, BlkN, List.range_succ, nf, grammarC]
  · rfl
def wGrammar (x : GrammarT) : Nat := wtL wRule x.2.2
def mGrammar (k : Int) (x : GrammarT) : GrammarT := (x.1, x.2.1, mkL wRule mRule (k) x.2.2)
theorem markGrammar (x : GrammarT) (k : Int) (h0 : 0 ≤ k) (h1 : k + wGrammar x ≤ 4611686018427387904) (g20 : x.2.2.length ≤ 4611686018427387904) : Fn Try.prog 16 1 [.ag [.v (.int .i64 x.1), .v (.int .i64 x.2.1), .own 0 2 0 (x.2.2).length], .v (.int .i64 k)] [(0, ⟨68, 2, rulesO x.2.2⟩)] (.v (.int .i64 (k + wGrammar x))) 1 [(0, ⟨68, 2, rulesO (mGrammar k x).2.2⟩)] := by
  simp only [wGrammar] at h1
  simp only [wGrammar, mGrammar]
  refine Fn.mk (rs := [.tmp 4]) (nt := 10) Try.func16 (by kernel_rfl) rfl rfl rfl (by simp) ?_
  simp only [sl]
  repeat' first
    | refine Holds.seq ?_
    | refine Holds.skip ?_
    | refine Holds.exit ?_
    | refine Holds.ret ?_
    | refine thenA_normal ?_
    | refine thenA_exit ?_
    | refine thenA_ret ?_
    | refine inB_normal ?_
    | refine inB_ret ?_
    | refine inB_here ?_
    | (refine inB_past ?_ ?_; (· exact rfl))
    | refine Holds.reg ?_
    | refine Holds.block ?_
    | refine GS.nil ?_
    | (refine GS.step (s' := ?_) ?_ ?_ ?_; rotate_left; (· exact rfl); (· (simp [go_sem, List.take_of_length_le] <;> with_reducible rfl)))
    | (refine GS.skip ?_ ?_ ?_; (· exact rfl); (· exact rfl))
    | fail
  refine GS.fnn [0] (markRuleS x.2.2 (k) (by omega) (by omega) g20) rfl rfl rfl rfl (by simp [go_sem, List.take_of_length_le, ren, ren1, okr, okr1, ChkN, BlkN, List.range_succ, nf] <;> with_reducible rfl) (by simp [go_sem, List.take_of_length_le, ren, ren1, okr, okr1, ChkN, BlkN, List.range_succ, nf]) (by simp [go_sem, List.take_of_length_le, ren, ren1, okr, okr1, ChkN, BlkN, List.range_succ, nf]) (by simp [List.range_succ, lb]) (ChkN.toB (by simp [go_sem, List.take_of_length_le, ren, ren1, okr, okr1, ChkN, BlkN, List.range_succ, nf])) (by decide) (by simp) rfl (.nfr (by simp) .nil) (by simp [go_sem, List.take_of_length_le, ren, ren1, okr, okr1, ChkN, BlkN, List.range_succ, nf] <;> with_reducible rfl) ?_
  repeat' first
    | refine Holds.seq ?_
    | refine Holds.skip ?_
    | refine Holds.exit ?_
    | refine Holds.ret ?_
    | refine thenA_normal ?_
    | refine thenA_exit ?_
    | refine thenA_ret ?_
    | refine inB_normal ?_
    | refine inB_ret ?_
    | refine inB_here ?_
    | (refine inB_past ?_ ?_; (· exact rfl))
    | refine Holds.reg ?_
    | refine Holds.block ?_
    | refine GS.nil ?_
    | (refine GS.step (s' := ?_) ?_ ?_ ?_; rotate_left; (· exact rfl); (· (simp [go_sem, List.take_of_length_le] <;> with_reducible rfl)))
    | (refine GS.skip ?_ ?_ ?_; (· exact rfl); (· exact rfl))
    | fail
  refine OutF.mkn (xs := ?_) (nm [0]) ?_ ?_ ?_ ?_ ?_ (by first | exact .inr rfl | exact .inl rfl)
  rotate_left
  · simp [go_sem, List.take_of_length_le, Int.add_assoc, cnt] <;> with_reducible rfl
  · simp [go_sem, List.take_of_length_le, ren, ren1, okr, okr1, ChkN, BlkN, List.range_succ, nf, Int.add_assoc, cnt]
  · simp [go_sem, List.take_of_length_le, ren, ren1, okr, okr1, ChkN, BlkN, List.range_succ, nf, Int.add_assoc, cnt]
  · simp [go_sem, List.take_of_length_le, ren, ren1, okr, okr1, ChkN, BlkN, List.range_succ, nf, Int.add_assoc, cnt]
  · rfl
end Go.Proofs.Ytpnpjkkppndhfaa.En
end
section
namespace Go.Proofs.Ytpnpjkkppndhfaa.En
open Go.RowKit
set_option linter.unusedSimpArgs false
set_option linter.unusedVariables false
set_option maxHeartbeats 4000000
def wIntS (x : List Int) : Nat := wtL w1 x
def mIntS (k : Int) (x : List Int) : List Int := cnt k x
theorem wIntS_m (k : Int) (x : List Int) : wIntS (mIntS k x) = wIntS x := by simp [wIntS, mIntS]
def intsO1 (x : List Int) : List AV := [.ow 3 1 (ints x)]
def intssO (l : List (List Int)) : List (List AV) := l.map intsO1
@[simp] theorem intssO_len (l : List (List Int)) : (intssO l).length = l.length := by simp [intssO]
@[simp] theorem intssO_get (l : List (List Int)) (i : Nat) : (intssO l)[i]? = (l[i]?).map intsO1 := by simp [intssO]
@[simp] theorem intssO_gE (l : List (List Int)) (i : Nat) (h : i < (intssO l).length) : (intssO l)[i] = intsO1 (l[i]'(by simpa using h)) := by simp [intssO]
theorem intssO_all (p : AV → Prop) (l : List (List Int)) (h : ∀ x ∈ l, ∀ y ∈ intsO1 x, p y) : ∀ row ∈ intssO l, ∀ y ∈ row, p y := by
  intro row hr y hy
  simp only [intssO, List.mem_map] at hr
  obtain ⟨n, hn, rfl⟩ := hr
  exact h n hn y hy
@[simp] theorem nfr_intssO (l : List (List Int)) : nfr (intssO l) := intssO_all _ l fun x _ y hy => by simp only [intsO1, List.mem_cons, List.not_mem_nil, or_false] at hy; rcases hy with rfl <;> rfl
@[simp] theorem onyR_intssO (l : List (List Int)) : onyR (intssO l) := intssO_all _ l fun x _ y hy => by simp only [intsO1, List.mem_cons, List.not_mem_nil, or_false] at hy; rcases hy with rfl <;> simp
theorem fz_intssO {bl : List (Nat × Blk)} {n len : Nat} {e : TypeId} (l : List (List Int)) (hk : lb bl n = some ⟨e, 1, intssO l⟩) (hl : len = l.length) : Fz bl (.own n 1 0 len) (.im 1 (intss l)) := Fz.rowsO l intsO1 intsC hk rfl rfl (fun x _ => show FzL bl (intsO1 x) (intsC x) from by simp only [intsO1, intsC]; exact .cons (Fz.owI (ints_cl _)) (.nil)) hl
theorem fzw_intssO {bl : List (Nat × Blk)} {e : TypeId} (l : List (List Int)) : Fz bl (.ow e 1 (intssO l)) (.im 1 (intss l)) := Fz.rowsW l intsO1 intsC (fun x _ => show FzL bl (intsO1 x) (intsC x) from by simp only [intsO1, intsC]; exact .cons (Fz.owI (ints_cl _)) (.nil))
end Go.Proofs.Ytpnpjkkppndhfaa.En
end
section
namespace Go.Proofs.Ytpnpjkkppndhfaa.En
open Go.RowKit
set_option linter.unusedSimpArgs false
set_option linter.unusedVariables false
set_option maxHeartbeats 4000000
def iv (n : Int) : AV := .v (.int .i64 n)
/-- The box of the program's costs, but for its map. -/
def costR (g : GrammarT) (w cs : List Int) (T : Tab) : List AV := grammarC g ++ [.im 1 (ints w), .im 1 (ints cs)] ++ (boxF T).map iv
theorem costR_cl (g : GrammarT) (w cs : List Int) (T : Tab) : ∀ x ∈ costR g w cs T, cl1 x = true := by
  intro x hx
  simp only [costR, grammarC, List.mem_append, List.mem_cons, List.not_mem_nil, or_false, List.mem_map] at hx
  rcases hx with ((rfl | rfl | rfl) | (rfl | rfl)) | ⟨n, _, rfl⟩ <;> rfl
theorem costR_get {g : GrammarT} {w cs : List Int} {T : Tab} {p : Nat} {n : Int} (h : (boxF T)[p]? = some n) : (costR g w cs T)[5 + p]? = some (.v (.int .i64 n)) := by
  unfold costR
  rw [List.getElem?_append_right (by simp [grammarC])]
  simp only [grammarC, List.length_append, List.length_cons, List.length_nil]
  rw [show 5 + p - (0 + 1 + 1 + 1 + (0 + 1 + 1)) = p by omega, List.getElem?_map, h]; rfl
theorem costR_w (g : GrammarT) (w cs : List Int) (T : Tab) : (costR g w cs T)[3]? = some (.im 1 (ints w)) := by simp [costR, grammarC]
theorem implOne {N n : Nat} {T : Tab} (hT : GoodT N T) (hN : N ≤ 6) (g : GrammarT) (w cs : List Int) (hw : w.length = n) (hn : n ≤ 10) (hwk : ∀ x ∈ w, 0 ≤ x ∧ x ≤ 100) (x : Int) (hx : -100 ≤ x ∧ x < N) (i j : Nat) (hij : i ≤ j) (hj : j ≤ n) :
    Pure Try.prog 71 [.pi (costR g w cs T), .v (.int .i64 x), .v (.int .i64 i), .v (.int .i64 j)] (.v (.int .i64 (encO (oneO T w x i j)))) := by
  refine Pure.mk (rs := [.tmp 8]) (nt := 37) Try.func71 (by kernel_rfl) rfl rfl rfl (by simp) ?_
  simp only [sl]
  by_cases h0 : x < 0
  · have h1 : ¬ (0 ≤ x) := by omega
    have hcw := costR_w g w cs T
    have hwi : wr64 ((i : Int) + 1) = ((i + 1 : Nat) : Int) := wr64_id (by omega) (by omega)
    unfold oneO
    rw [if_pos h0]
    by_cases e : j = i + 1
    · subst e
      have hlt : i < w.length := by omega
      have hwe : w[i]? = some w[i] := List.getElem?_eq_getElem hlt
      have hk := hwk _ (List.getElem_mem hlt)
      rw [hwe]
      generalize w[i] = y at hwe hk
      have cs1 := symbolOf y (by omega) (by omega)
      by_cases q : y = -1 - x
      · have q3 : -1 - y = x := by omega
        rw [if_pos ⟨rfl, by rw [q]⟩]
        rw [q3] at cs1
        repeat' first
          | (refine Holds.condT ?_ ?_; (· (simp [go_sem, List.take_of_length_le, h0, h1, hwi, hcw, hwe] <;> with_reducible rfl)))
          | (refine Holds.condF ?_ ?_; (· (simp [go_sem, List.take_of_length_le, h0, h1, hwi, hcw, hwe] <;> with_reducible rfl)))
          | refine Holds.seq ?_
          | refine Holds.skip ?_
          | refine Holds.exit ?_
          | refine Holds.ret ?_
          | refine thenA_normal ?_
          | refine thenA_exit ?_
          | refine thenA_ret ?_
          | refine inB_normal ?_
          | refine inB_ret ?_
          | refine inB_here ?_
          | (refine inB_past ?_ ?_; (· exact rfl))
          | refine Holds.reg ?_
          | refine Holds.block ?_
          | refine GS.nil ?_
          | (refine GS.step (s' := ?_) ?_ ?_ ?_; rotate_left; (· exact rfl); (· (simp [go_sem, List.take_of_length_le, h0, h1, hwi, hcw, hwe] <;> with_reducible rfl)))
          | (refine GS.skip ?_ ?_ ?_; (· exact rfl); (· exact rfl))
          | fail
        refine GS.cc (cs1) rfl rfl rfl rfl (by simp [go_sem, List.take_of_length_le] <;> with_reducible rfl) rfl (by simp [go_sem, List.take_of_length_le]) ?_
        repeat' first
          | (refine Holds.condT ?_ ?_; (· (simp [go_sem, List.take_of_length_le, q3] <;> with_reducible rfl)))
          | (refine Holds.condF ?_ ?_; (· (simp [go_sem, List.take_of_length_le, q3] <;> with_reducible rfl)))
          | refine Holds.seq ?_
          | refine Holds.skip ?_
          | refine Holds.exit ?_
          | refine Holds.ret ?_
          | refine thenA_normal ?_
          | refine thenA_exit ?_
          | refine thenA_ret ?_
          | refine inB_normal ?_
          | refine inB_ret ?_
          | refine inB_here ?_
          | (refine inB_past ?_ ?_; (· exact rfl))
          | refine Holds.reg ?_
          | refine Holds.block ?_
          | refine GS.nil ?_
          | (refine GS.step (s' := ?_) ?_ ?_ ?_; rotate_left; (· exact rfl); (· (simp [go_sem, List.take_of_length_le, q3] <;> with_reducible rfl)))
          | (refine GS.skip ?_ ?_ ?_; (· exact rfl); (· exact rfl))
          | fail
        refine Out.mk (xs := ?_) ?_ ?_ (by first | exact .inr rfl | exact .inl rfl)
        rotate_left
        · simp [go_sem, List.take_of_length_le] <;> with_reducible rfl
        exact .v _
      · have q2 : ((-1 - y) == x) = false := by simp; omega
        rw [if_neg (fun hh => q (Option.some.inj hh.2)), encO_none]
        repeat' first
          | (refine Holds.condT ?_ ?_; (· (simp [go_sem, List.take_of_length_le, h0, h1, hwi, hcw, hwe] <;> with_reducible rfl)))
          | (refine Holds.condF ?_ ?_; (· (simp [go_sem, List.take_of_length_le, h0, h1, hwi, hcw, hwe] <;> with_reducible rfl)))
          | refine Holds.seq ?_
          | refine Holds.skip ?_
          | refine Holds.exit ?_
          | refine Holds.ret ?_
          | refine thenA_normal ?_
          | refine thenA_exit ?_
          | refine thenA_ret ?_
          | refine inB_normal ?_
          | refine inB_ret ?_
          | refine inB_here ?_
          | (refine inB_past ?_ ?_; (· exact rfl))
          | refine Holds.reg ?_
          | refine Holds.block ?_
          | refine GS.nil ?_
          | (refine GS.step (s' := ?_) ?_ ?_ ?_; rotate_left; (· exact rfl); (· (simp [go_sem, List.take_of_length_le, h0, h1, hwi, hcw, hwe] <;> with_reducible rfl)))
          | (refine GS.skip ?_ ?_ ?_; (· exact rfl); (· exact rfl))
          | fail
        refine GS.cc (cs1) rfl rfl rfl rfl (by simp [go_sem, List.take_of_length_le] <;> with_reducible rfl) rfl (by simp [go_sem, List.take_of_length_le]) ?_
        repeat' first
          | (refine Holds.condT ?_ ?_; (· (simp [go_sem, List.take_of_length_le, q2] <;> with_reducible rfl)))
          | (refine Holds.condF ?_ ?_; (· (simp [go_sem, List.take_of_length_le, q2] <;> with_reducible rfl)))
          | refine Holds.seq ?_
          | refine Holds.skip ?_
          | refine Holds.exit ?_
          | refine Holds.ret ?_
          | refine thenA_normal ?_
          | refine thenA_exit ?_
          | refine thenA_ret ?_
          | refine inB_normal ?_
          | refine inB_ret ?_
          | refine inB_here ?_
          | (refine inB_past ?_ ?_; (· exact rfl))
          | refine Holds.reg ?_
          | refine Holds.block ?_
          | refine GS.nil ?_
          | (refine GS.step (s' := ?_) ?_ ?_ ?_; rotate_left; (· exact rfl); (· (simp [go_sem, List.take_of_length_le, q2] <;> with_reducible rfl)))
          | (refine GS.skip ?_ ?_ ?_; (· exact rfl); (· exact rfl))
          | fail
        refine Out.mk (xs := ?_) ?_ ?_ (by first | exact .inr rfl | exact .inl rfl)
        rotate_left
        · simp [go_sem, List.take_of_length_le] <;> with_reducible rfl
        exact .v _
    · have e2 : ((j : Int) == ((i + 1 : Nat) : Int)) = false := by simp; omega
      have e3 : ((j : Int) == (i : Int) + 1) = false := by simp; omega
      rw [if_neg (fun hh => e hh.1), encO_none]
      repeat' first
        | (refine Holds.condT ?_ ?_; (· (simp [go_sem, List.take_of_length_le, h0, h1, hwi, e2, e3] <;> with_reducible rfl)))
        | (refine Holds.condF ?_ ?_; (· (simp [go_sem, List.take_of_length_le, h0, h1, hwi, e2, e3] <;> with_reducible rfl)))
        | refine Holds.seq ?_
        | refine Holds.skip ?_
        | refine Holds.exit ?_
        | refine Holds.ret ?_
        | refine thenA_normal ?_
        | refine thenA_exit ?_
        | refine thenA_ret ?_
        | refine inB_normal ?_
        | refine inB_ret ?_
        | refine inB_here ?_
        | (refine inB_past ?_ ?_; (· exact rfl))
        | refine Holds.reg ?_
        | refine Holds.block ?_
        | refine GS.nil ?_
        | (refine GS.step (s' := ?_) ?_ ?_ ?_; rotate_left; (· exact rfl); (· (simp [go_sem, List.take_of_length_le, h0, h1, hwi, e2, e3] <;> with_reducible rfl)))
        | (refine GS.skip ?_ ?_ ?_; (· exact rfl); (· exact rfl))
        | fail
      refine Out.mk (xs := ?_) ?_ ?_ (by first | exact .inr rfl | exact .inl rfl)
      rotate_left
      · simp [go_sem, List.take_of_length_le] <;> with_reducible rfl
      exact .v _
  · have h1 : 0 ≤ x := by omega
    have hb := costR_get (g := g) (w := w) (cs := cs) (boxF_get T (A := x.toNat) (i := i) (j := j) (by omega) (by omega) (by omega))
    have hb2 : (costR g w cs T)[5 + x.toNat * 121 + i * 11 + j]? = some (.v (.int .i64 (encO (T x.toNat i j)))) := by rw [← hb]; congr 1; omega
    have h6 : x < 6 := by omega
    have hi11 : i < 11 := by omega
    have hj11 : j < 11 := by omega
    have hl := (List.getElem?_eq_some_iff.1 hb2).1
    unfold oneO
    rw [if_neg h0]
    repeat' first
      | (refine Holds.condT ?_ ?_; (· (simp [go_sem, List.take_of_length_le, h0, h1, hb2, h6, hi11, hj11, hl, get_E hb2] <;> with_reducible rfl)))
      | (refine Holds.condF ?_ ?_; (· (simp [go_sem, List.take_of_length_le, h0, h1, hb2, h6, hi11, hj11, hl, get_E hb2] <;> with_reducible rfl)))
      | refine Holds.seq ?_
      | refine Holds.skip ?_
      | refine Holds.exit ?_
      | refine Holds.ret ?_
      | refine thenA_normal ?_
      | refine thenA_exit ?_
      | refine thenA_ret ?_
      | refine inB_normal ?_
      | refine inB_ret ?_
      | refine inB_here ?_
      | (refine inB_past ?_ ?_; (· exact rfl))
      | refine Holds.reg ?_
      | refine Holds.block ?_
      | refine GS.nil ?_
      | (refine GS.step (s' := ?_) ?_ ?_ ?_; rotate_left; (· exact rfl); (· (simp [go_sem, List.take_of_length_le, h0, h1, hb2, h6, hi11, hj11, hl, get_E hb2] <;> with_reducible rfl)))
      | (refine GS.skip ?_ ?_ ?_; (· exact rfl); (· exact rfl))
      | fail
    refine Out.mk (xs := ?_) ?_ ?_ (by first | exact .inr rfl | exact .inl rfl)
    rotate_left
    · simp [go_sem, List.take_of_length_le] <;> with_reducible rfl
    exact .v _
/-- The least cost over the first places of the middle, as the program has it. -/
def midI (T : Tab) (w : List Int) (x : Int) (r : List Int) (i j m : Nat) : Option Nat := (List.range (m - i)).foldl (fun b d => oMin b (oAdd (oneO T w x i (i + d)) (rowI T w r (i + d) j))) none
theorem midI_next {T : Tab} {w : List Int} {x : Int} {r : List Int} {i j m : Nat} (h : i ≤ m) : midI T w x r i j (m + 1) = oMin (midI T w x r i j m) (oAdd (oneO T w x i m) (rowI T w r m j)) := by
  unfold midI
  rw [show m + 1 - i = (m - i) + 1 by omega, List.range_succ, List.foldl_append]
  simp only [List.foldl_cons, List.foldl_nil, show i + (m - i) = m by omega]
theorem oneO_top {N : Nat} {T : Tab} {w : List Int} (hT : GoodT N T) (hN : N ≤ 6) {x : Int} {i j v : Nat} (hj : j ≤ 10) (h : oneO T w x i j = some v) : v ≤ 70000000 := by
  unfold oneO at h
  split at h
  · split at h
    · have := Option.some.inj h; omega
    · cases h
  · exact hT.bnd.top hN hj h
theorem implRest {N n : Nat} {T : Tab} (hT : GoodT N T) (hN : N ≤ 6) (g : GrammarT) (w cs : List Int) (hw : w.length = n) (hn : n ≤ 10) (hwk : ∀ x ∈ w, 0 ≤ x ∧ x ≤ 100) : ∀ (r : List Int), r.length ≤ 4 → SymOk N r → ∀ (i j : Nat), i ≤ j → j ≤ n →
    Pure Try.prog 60 [.pi (costR g w cs T), .im 1 (ints r), .v (.int .i64 i), .v (.int .i64 j)] (.v (.int .i64 (encO (rowI T w r i j)))) := by
  intro r
  induction r with
  | nil =>
    intro _ _ i j hij hj
    refine Pure.mk (rs := [.tmp 8]) (nt := 57) Try.func60 (by kernel_rfl) rfl rfl rfl (by simp) ?_
    simp only [sl]
    by_cases e : i = j
    · subst e
      simp only [rowI, if_true, encO_some]
      repeat' first
        | (refine Holds.condT ?_ ?_; (· (simp [go_sem, List.take_of_length_le] <;> with_reducible rfl)))
        | (refine Holds.condF ?_ ?_; (· (simp [go_sem, List.take_of_length_le] <;> with_reducible rfl)))
        | refine Holds.seq ?_
        | refine Holds.skip ?_
        | refine Holds.exit ?_
        | refine Holds.ret ?_
        | refine thenA_normal ?_
        | refine thenA_exit ?_
        | refine thenA_ret ?_
        | refine inB_normal ?_
        | refine inB_ret ?_
        | refine inB_here ?_
        | (refine inB_past ?_ ?_; (· exact rfl))
        | refine Holds.reg ?_
        | refine Holds.block ?_
        | refine GS.nil ?_
        | (refine GS.step (s' := ?_) ?_ ?_ ?_; rotate_left; (· exact rfl); (· (simp [go_sem, List.take_of_length_le] <;> with_reducible rfl)))
        | (refine GS.skip ?_ ?_ ?_; (· exact rfl); (· exact rfl))
        | fail
      refine Out.mk (xs := ?_) ?_ ?_ (by first | exact .inr rfl | exact .inl rfl)
      rotate_left
      · simp [go_sem, List.take_of_length_le] <;> with_reducible rfl
      exact .v _
    · have e' : ((i : Int) == (j : Int)) = false := by simp; omega
      simp only [rowI, if_neg e, encO_none]
      repeat' first
        | (refine Holds.condT ?_ ?_; (· (simp [go_sem, List.take_of_length_le, e, e'] <;> with_reducible rfl)))
        | (refine Holds.condF ?_ ?_; (· (simp [go_sem, List.take_of_length_le, e, e'] <;> with_reducible rfl)))
        | refine Holds.seq ?_
        | refine Holds.skip ?_
        | refine Holds.exit ?_
        | refine Holds.ret ?_
        | refine thenA_normal ?_
        | refine thenA_exit ?_
        | refine thenA_ret ?_
        | refine inB_normal ?_
        | refine inB_ret ?_
        | refine inB_here ?_
        | (refine inB_past ?_ ?_; (· exact rfl))
        | refine Holds.reg ?_
        | refine Holds.block ?_
        | refine GS.nil ?_
        | (refine GS.step (s' := ?_) ?_ ?_ ?_; rotate_left; (· exact rfl); (· (simp [go_sem, List.take_of_length_le, e, e'] <;> with_reducible rfl)))
        | (refine GS.skip ?_ ?_ ?_; (· exact rfl); (· exact rfl))
        | fail
      refine Out.mk (xs := ?_) ?_ ?_ (by first | exact .inr rfl | exact .inl rfl)
      rotate_left
      · simp [go_sem, List.take_of_length_le] <;> with_reducible rfl
      exact .v _
  | cons x r ih =>
    intro hl hs i j hij hj
    have hx := hs x (by simp)
    have ih := fun i j h1 h2 => ih (by simp at hl; omega) (fun y hy => hs y (by simp [hy])) i j h1 h2
    have hrl : r.length ≤ 3 := by simp at hl; omega
    have hne : ¬ (r.length : Int) + 1 = 0 := by omega
    simp only [rowI]
    refine Pure.mk (rs := [.tmp 8]) (nt := 57) Try.func60 (by kernel_rfl) rfl rfl rfl (by simp) ?_
    simp only [sl]
    repeat' first
      | (refine Holds.condT ?_ ?_; (· (simp [go_sem, List.take_of_length_le, ints_cons, hne] <;> with_reducible rfl)))
      | (refine Holds.condF ?_ ?_; (· (simp [go_sem, List.take_of_length_le, ints_cons, hne] <;> with_reducible rfl)))
      | refine Holds.seq ?_
      | refine Holds.skip ?_
      | refine Holds.exit ?_
      | refine Holds.ret ?_
      | refine thenA_normal ?_
      | refine thenA_exit ?_
      | refine thenA_ret ?_
      | refine inB_normal ?_
      | refine inB_ret ?_
      | refine inB_here ?_
      | (refine inB_past ?_ ?_; (· exact rfl))
      | refine Holds.reg ?_
      | refine Holds.block ?_
      | refine GS.nil ?_
      | (refine GS.step (s' := ?_) ?_ ?_ ?_; rotate_left; (· exact rfl); (· (simp [go_sem, List.take_of_length_le, ints_cons, hne] <;> with_reducible rfl)))
      | (refine GS.skip ?_ ?_ ?_; (· exact rfl); (· exact rfl))
      | fail
    refine Holds.loop (ι := Nat × Option Nat) (fun s => ⟨[(0, .pi (costR g w cs T)), (1, .im 1 (ints (x :: r))), (2, .v (.int .i64 i)), (3, .v (.int .i64 j)), (9, .v (.int .i64 (encO s.2))), (10, .v (.int .i64 s.1))], [], 0⟩)
      (fun s => i ≤ s.1 ∧ s.1 ≤ j + 1 ∧ s.2 = midI T w x r i j s.1) (fun s => j + 1 - s.1) (i, none) ⟨Nat.le_refl _, by dsimp only; omega, by simp [midI]⟩ ?_ ?_
    · exact Cov.ofn (id) rfl (by simp [go_sem, List.take_of_length_le, ren, ren1, okr, okr1, ChkT, ChkN, BlkN, nf, encO, ints_cons]) (by simp [go_sem, List.take_of_length_le, ren, ren1, okr, okr1, ChkT, ChkN, BlkN, nf, encO, ints_cons])
    rintro ⟨m, b⟩ ⟨hm, hmj, hb⟩
    dsimp only at hm hmj hb ⊢
    have step : wr64 ((m : Int) + 1) = ((m + 1 : Nat) : Int) := wr64_id (by omega) (by omega)
    repeat' first
      | (refine Holds.condT ?_ ?_; (· (simp [go_sem, List.take_of_length_le] <;> with_reducible rfl)))
      | (refine Holds.condF ?_ ?_; (· (simp [go_sem, List.take_of_length_le] <;> with_reducible rfl)))
      | refine Holds.seq ?_
      | refine Holds.skip ?_
      | refine Holds.exit ?_
      | refine Holds.ret ?_
      | refine thenA_normal ?_
      | refine thenA_exit ?_
      | refine thenA_ret ?_
      | refine inB_normal ?_
      | refine inB_ret ?_
      | refine inB_here ?_
      | (refine inB_past ?_ ?_; (· exact rfl))
      | refine Holds.reg ?_
      | refine Holds.block ?_
      | refine GS.nil ?_
      | (refine GS.step (s' := ?_) ?_ ?_ ?_; rotate_left; (· exact rfl); (· (simp [go_sem, List.take_of_length_le] <;> with_reducible rfl)))
      | (refine GS.skip ?_ ?_ ?_; (· exact rfl); (· exact rfl))
      | fail
    refine Holds.cond rfl (fun h => ?_) (fun h => ?_)
    · have hlt : m ≤ j := by simp at h; omega
      have hnx := midI_next (T := T) (w := w) (x := x) (r := r) (j := j) hm
      rw [← hb] at hnx
      have htop := fun v => oneO_top (w := w) hT hN (x := x) (i := i) (j := m) (v := v)
      have hrt := fun v => rowO_top (w := w) hT hN r m j v
      rw [← rowI_eq] at hrt
      have c1 := ih m j (by omega) hj
      have c0 := implOne hT hN g w cs hw hn hwk x hx i m hm (by omega)
      generalize oneO T w x i m = P at hnx htop c0
      generalize rowI T w r m j = R at hnx hrt c1
      cases P with
      | none =>
        rw [encO_none] at c0
        simp only [oAdd, oMin_none] at hnx
        repeat' first
          | (refine Holds.condT ?_ ?_; (· (simp [go_sem, List.take_of_length_le, ints_cons] <;> with_reducible rfl)))
          | (refine Holds.condF ?_ ?_; (· (simp [go_sem, List.take_of_length_le, ints_cons] <;> with_reducible rfl)))
          | refine Holds.seq ?_
          | refine Holds.skip ?_
          | refine Holds.exit ?_
          | refine Holds.ret ?_
          | refine thenA_normal ?_
          | refine thenA_exit ?_
          | refine thenA_ret ?_
          | refine inB_normal ?_
          | refine inB_ret ?_
          | refine inB_here ?_
          | (refine inB_past ?_ ?_; (· exact rfl))
          | refine Holds.reg ?_
          | refine Holds.block ?_
          | refine GS.nil ?_
          | (refine GS.step (s' := ?_) ?_ ?_ ?_; rotate_left; (· exact rfl); (· (simp [go_sem, List.take_of_length_le, ints_cons] <;> with_reducible rfl)))
          | (refine GS.skip ?_ ?_ ?_; (· exact rfl); (· exact rfl))
          | fail
        refine GS.cc (c0) rfl rfl rfl rfl (by simp [go_sem, List.take_of_length_le, ints_cons] <;> with_reducible rfl) rfl (by simp [go_sem, List.take_of_length_le, ints_cons]) ?_
        repeat' first
          | (refine Holds.condT ?_ ?_; (· (simp [go_sem, List.take_of_length_le] <;> with_reducible rfl)))
          | (refine Holds.condF ?_ ?_; (· (simp [go_sem, List.take_of_length_le] <;> with_reducible rfl)))
          | refine Holds.seq ?_
          | refine Holds.skip ?_
          | refine Holds.exit ?_
          | refine Holds.ret ?_
          | refine thenA_normal ?_
          | refine thenA_exit ?_
          | refine thenA_ret ?_
          | refine inB_normal ?_
          | refine inB_ret ?_
          | refine inB_here ?_
          | (refine inB_past ?_ ?_; (· exact rfl))
          | refine Holds.reg ?_
          | refine Holds.block ?_
          | refine GS.nil ?_
          | (refine GS.step (s' := ?_) ?_ ?_ ?_; rotate_left; (· exact rfl); (· (simp [go_sem, List.take_of_length_le] <;> with_reducible rfl)))
          | (refine GS.skip ?_ ?_ ?_; (· exact rfl); (· exact rfl))
          | fail
        refine ⟨(m + 1, b), ⟨by dsimp only; omega, by dsimp only; omega, by rw [hnx]⟩, by dsimp only; omega, ?_⟩
        rw [step]
        exact Cov.ofn (id) rfl (by simp [go_sem, List.take_of_length_le, ren, ren1, okr, okr1, ChkT, ChkN, BlkN, nf, ints_cons]) (by simp [go_sem, List.take_of_length_le, ren, ren1, okr, okr1, ChkT, ChkN, BlkN, nf, ints_cons])
      | some a =>
        have ha := htop a (by omega) rfl
        have ha1 : ¬ ((a : Int) < 0) := by omega
        rw [encO_some] at c0
        cases R with
        | none =>
          simp only [oAdd, oMin_none] at hnx
          rw [encO_none] at c1
          repeat' first
            | (refine Holds.condT ?_ ?_; (· (simp [go_sem, List.take_of_length_le, ints_cons] <;> with_reducible rfl)))
            | (refine Holds.condF ?_ ?_; (· (simp [go_sem, List.take_of_length_le, ints_cons] <;> with_reducible rfl)))
            | refine Holds.seq ?_
            | refine Holds.skip ?_
            | refine Holds.exit ?_
            | refine Holds.ret ?_
            | refine thenA_normal ?_
            | refine thenA_exit ?_
            | refine thenA_ret ?_
            | refine inB_normal ?_
            | refine inB_ret ?_
            | refine inB_here ?_
            | (refine inB_past ?_ ?_; (· exact rfl))
            | refine Holds.reg ?_
            | refine Holds.block ?_
            | refine GS.nil ?_
            | (refine GS.step (s' := ?_) ?_ ?_ ?_; rotate_left; (· exact rfl); (· (simp [go_sem, List.take_of_length_le, ints_cons] <;> with_reducible rfl)))
            | (refine GS.skip ?_ ?_ ?_; (· exact rfl); (· exact rfl))
            | fail
          refine GS.cc (c0) rfl rfl rfl rfl (by simp [go_sem, List.take_of_length_le, ints_cons] <;> with_reducible rfl) rfl (by simp [go_sem, List.take_of_length_le, ints_cons]) ?_
          repeat' first
            | (refine Holds.condT ?_ ?_; (· (simp [go_sem, List.take_of_length_le, ha1, ints_cons] <;> with_reducible rfl)))
            | (refine Holds.condF ?_ ?_; (· (simp [go_sem, List.take_of_length_le, ha1, ints_cons] <;> with_reducible rfl)))
            | refine Holds.seq ?_
            | refine Holds.skip ?_
            | refine Holds.exit ?_
            | refine Holds.ret ?_
            | refine thenA_normal ?_
            | refine thenA_exit ?_
            | refine thenA_ret ?_
            | refine inB_normal ?_
            | refine inB_ret ?_
            | refine inB_here ?_
            | (refine inB_past ?_ ?_; (· exact rfl))
            | refine Holds.reg ?_
            | refine Holds.block ?_
            | refine GS.nil ?_
            | (refine GS.step (s' := ?_) ?_ ?_ ?_; rotate_left; (· exact rfl); (· (simp [go_sem, List.take_of_length_le, ha1, ints_cons] <;> with_reducible rfl)))
            | (refine GS.skip ?_ ?_ ?_; (· exact rfl); (· exact rfl))
            | fail
          refine GS.cc (c1) rfl rfl rfl rfl (by simp [go_sem, List.take_of_length_le, ints_cons] <;> with_reducible rfl) rfl (by simp [go_sem, List.take_of_length_le, ints_cons]) ?_
          repeat' first
            | (refine Holds.condT ?_ ?_; (· (simp [go_sem, List.take_of_length_le] <;> with_reducible rfl)))
            | (refine Holds.condF ?_ ?_; (· (simp [go_sem, List.take_of_length_le] <;> with_reducible rfl)))
            | refine Holds.seq ?_
            | refine Holds.skip ?_
            | refine Holds.exit ?_
            | refine Holds.ret ?_
            | refine thenA_normal ?_
            | refine thenA_exit ?_
            | refine thenA_ret ?_
            | refine inB_normal ?_
            | refine inB_ret ?_
            | refine inB_here ?_
            | (refine inB_past ?_ ?_; (· exact rfl))
            | refine Holds.reg ?_
            | refine Holds.block ?_
            | refine GS.nil ?_
            | (refine GS.step (s' := ?_) ?_ ?_ ?_; rotate_left; (· exact rfl); (· (simp [go_sem, List.take_of_length_le] <;> with_reducible rfl)))
            | (refine GS.skip ?_ ?_ ?_; (· exact rfl); (· exact rfl))
            | fail
          refine ⟨(m + 1, b), ⟨by dsimp only; omega, by dsimp only; omega, by rw [hnx]⟩, by dsimp only; omega, ?_⟩
          rw [step]
          exact Cov.ofn (id) rfl (by simp [go_sem, List.take_of_length_le, ren, ren1, okr, okr1, ChkT, ChkN, BlkN, nf, ints_cons]) (by simp [go_sem, List.take_of_length_le, ren, ren1, okr, okr1, ChkT, ChkN, BlkN, nf, ints_cons])
        | some c =>
          have hc := hrt c (by omega) rfl
          have hc1 : (0 : Int) ≤ (c : Int) := by omega
          obtain ⟨sm, hsm⟩ : ∃ sm, sm = a + c := ⟨_, rfl⟩
          have hws : wr64 ((a : Int) + (c : Int)) = (sm : Int) := by rw [show (a : Int) + (c : Int) = (sm : Int) by rw [hsm]; simp]; exact wr64_id (by omega) (by omega)
          simp only [oAdd] at hnx
          rw [← hsm] at hnx
          rw [encO_some] at c1
          cases b with
          | none =>
            simp only [none_oMin] at hnx
            repeat' first
              | (refine Holds.condT ?_ ?_; (· (simp [go_sem, List.take_of_length_le, ints_cons] <;> with_reducible rfl)))
              | (refine Holds.condF ?_ ?_; (· (simp [go_sem, List.take_of_length_le, ints_cons] <;> with_reducible rfl)))
              | refine Holds.seq ?_
              | refine Holds.skip ?_
              | refine Holds.exit ?_
              | refine Holds.ret ?_
              | refine thenA_normal ?_
              | refine thenA_exit ?_
              | refine thenA_ret ?_
              | refine inB_normal ?_
              | refine inB_ret ?_
              | refine inB_here ?_
              | (refine inB_past ?_ ?_; (· exact rfl))
              | refine Holds.reg ?_
              | refine Holds.block ?_
              | refine GS.nil ?_
              | (refine GS.step (s' := ?_) ?_ ?_ ?_; rotate_left; (· exact rfl); (· (simp [go_sem, List.take_of_length_le, ints_cons] <;> with_reducible rfl)))
              | (refine GS.skip ?_ ?_ ?_; (· exact rfl); (· exact rfl))
              | fail
            refine GS.cc (c0) rfl rfl rfl rfl (by simp [go_sem, List.take_of_length_le, ints_cons] <;> with_reducible rfl) rfl (by simp [go_sem, List.take_of_length_le, ints_cons]) ?_
            repeat' first
              | (refine Holds.condT ?_ ?_; (· (simp [go_sem, List.take_of_length_le, ha1, ints_cons] <;> with_reducible rfl)))
              | (refine Holds.condF ?_ ?_; (· (simp [go_sem, List.take_of_length_le, ha1, ints_cons] <;> with_reducible rfl)))
              | refine Holds.seq ?_
              | refine Holds.skip ?_
              | refine Holds.exit ?_
              | refine Holds.ret ?_
              | refine thenA_normal ?_
              | refine thenA_exit ?_
              | refine thenA_ret ?_
              | refine inB_normal ?_
              | refine inB_ret ?_
              | refine inB_here ?_
              | (refine inB_past ?_ ?_; (· exact rfl))
              | refine Holds.reg ?_
              | refine Holds.block ?_
              | refine GS.nil ?_
              | (refine GS.step (s' := ?_) ?_ ?_ ?_; rotate_left; (· exact rfl); (· (simp [go_sem, List.take_of_length_le, ha1, ints_cons] <;> with_reducible rfl)))
              | (refine GS.skip ?_ ?_ ?_; (· exact rfl); (· exact rfl))
              | fail
            refine GS.cc (c1) rfl rfl rfl rfl (by simp [go_sem, List.take_of_length_le, ints_cons] <;> with_reducible rfl) rfl (by simp [go_sem, List.take_of_length_le, ints_cons]) ?_
            repeat' first
              | (refine Holds.condT ?_ ?_; (· (simp [go_sem, List.take_of_length_le, hc1, hws, encO] <;> with_reducible rfl)))
              | (refine Holds.condF ?_ ?_; (· (simp [go_sem, List.take_of_length_le, hc1, hws, encO] <;> with_reducible rfl)))
              | refine Holds.seq ?_
              | refine Holds.skip ?_
              | refine Holds.exit ?_
              | refine Holds.ret ?_
              | refine thenA_normal ?_
              | refine thenA_exit ?_
              | refine thenA_ret ?_
              | refine inB_normal ?_
              | refine inB_ret ?_
              | refine inB_here ?_
              | (refine inB_past ?_ ?_; (· exact rfl))
              | refine Holds.reg ?_
              | refine Holds.block ?_
              | refine GS.nil ?_
              | (refine GS.step (s' := ?_) ?_ ?_ ?_; rotate_left; (· exact rfl); (· (simp [go_sem, List.take_of_length_le, hc1, hws, encO] <;> with_reducible rfl)))
              | (refine GS.skip ?_ ?_ ?_; (· exact rfl); (· exact rfl))
              | fail
            refine ⟨(m + 1, some sm), ⟨by dsimp only; omega, by dsimp only; omega, by rw [hnx]⟩, by dsimp only; omega, ?_⟩
            rw [step]
            exact Cov.ofn (id) rfl (by simp [go_sem, List.take_of_length_le, ren, ren1, okr, okr1, ChkT, ChkN, BlkN, nf, encO, ints_cons]) (by simp [go_sem, List.take_of_length_le, ren, ren1, okr, okr1, ChkT, ChkN, BlkN, nf, encO, ints_cons])
          | some e =>
            have he1 : ¬ ((e : Int) < 0) := by omega
            by_cases hlt2 : sm < e
            · have hl2 : (sm : Int) < (e : Int) := by omega
              simp only [oMin, if_pos hlt2] at hnx
              repeat' first
                | (refine Holds.condT ?_ ?_; (· (simp [go_sem, List.take_of_length_le, ints_cons] <;> with_reducible rfl)))
                | (refine Holds.condF ?_ ?_; (· (simp [go_sem, List.take_of_length_le, ints_cons] <;> with_reducible rfl)))
                | refine Holds.seq ?_
                | refine Holds.skip ?_
                | refine Holds.exit ?_
                | refine Holds.ret ?_
                | refine thenA_normal ?_
                | refine thenA_exit ?_
                | refine thenA_ret ?_
                | refine inB_normal ?_
                | refine inB_ret ?_
                | refine inB_here ?_
                | (refine inB_past ?_ ?_; (· exact rfl))
                | refine Holds.reg ?_
                | refine Holds.block ?_
                | refine GS.nil ?_
                | (refine GS.step (s' := ?_) ?_ ?_ ?_; rotate_left; (· exact rfl); (· (simp [go_sem, List.take_of_length_le, ints_cons] <;> with_reducible rfl)))
                | (refine GS.skip ?_ ?_ ?_; (· exact rfl); (· exact rfl))
                | fail
              refine GS.cc (c0) rfl rfl rfl rfl (by simp [go_sem, List.take_of_length_le, ints_cons] <;> with_reducible rfl) rfl (by simp [go_sem, List.take_of_length_le, ints_cons]) ?_
              repeat' first
                | (refine Holds.condT ?_ ?_; (· (simp [go_sem, List.take_of_length_le, ha1, ints_cons] <;> with_reducible rfl)))
                | (refine Holds.condF ?_ ?_; (· (simp [go_sem, List.take_of_length_le, ha1, ints_cons] <;> with_reducible rfl)))
                | refine Holds.seq ?_
                | refine Holds.skip ?_
                | refine Holds.exit ?_
                | refine Holds.ret ?_
                | refine thenA_normal ?_
                | refine thenA_exit ?_
                | refine thenA_ret ?_
                | refine inB_normal ?_
                | refine inB_ret ?_
                | refine inB_here ?_
                | (refine inB_past ?_ ?_; (· exact rfl))
                | refine Holds.reg ?_
                | refine Holds.block ?_
                | refine GS.nil ?_
                | (refine GS.step (s' := ?_) ?_ ?_ ?_; rotate_left; (· exact rfl); (· (simp [go_sem, List.take_of_length_le, ha1, ints_cons] <;> with_reducible rfl)))
                | (refine GS.skip ?_ ?_ ?_; (· exact rfl); (· exact rfl))
                | fail
              refine GS.cc (c1) rfl rfl rfl rfl (by simp [go_sem, List.take_of_length_le, ints_cons] <;> with_reducible rfl) rfl (by simp [go_sem, List.take_of_length_le, ints_cons]) ?_
              repeat' first
                | (refine Holds.condT ?_ ?_; (· (simp [go_sem, List.take_of_length_le, hc1, hws, encO, he1, hl2, hlt2] <;> with_reducible rfl)))
                | (refine Holds.condF ?_ ?_; (· (simp [go_sem, List.take_of_length_le, hc1, hws, encO, he1, hl2, hlt2] <;> with_reducible rfl)))
                | refine Holds.seq ?_
                | refine Holds.skip ?_
                | refine Holds.exit ?_
                | refine Holds.ret ?_
                | refine thenA_normal ?_
                | refine thenA_exit ?_
                | refine thenA_ret ?_
                | refine inB_normal ?_
                | refine inB_ret ?_
                | refine inB_here ?_
                | (refine inB_past ?_ ?_; (· exact rfl))
                | refine Holds.reg ?_
                | refine Holds.block ?_
                | refine GS.nil ?_
                | (refine GS.step (s' := ?_) ?_ ?_ ?_; rotate_left; (· exact rfl); (· (simp [go_sem, List.take_of_length_le, hc1, hws, encO, he1, hl2, hlt2] <;> with_reducible rfl)))
                | (refine GS.skip ?_ ?_ ?_; (· exact rfl); (· exact rfl))
                | fail
              refine ⟨(m + 1, some sm), ⟨by dsimp only; omega, by dsimp only; omega, by rw [hnx]⟩, by dsimp only; omega, ?_⟩
              rw [step]
              exact Cov.ofn (id) rfl (by simp [go_sem, List.take_of_length_le, ren, ren1, okr, okr1, ChkT, ChkN, BlkN, nf, encO, ints_cons]) (by simp [go_sem, List.take_of_length_le, ren, ren1, okr, okr1, ChkT, ChkN, BlkN, nf, encO, ints_cons])
            · have hl2 : ¬ (sm : Int) < (e : Int) := by omega
              simp only [oMin, if_neg hlt2] at hnx
              repeat' first
                | (refine Holds.condT ?_ ?_; (· (simp [go_sem, List.take_of_length_le, ints_cons] <;> with_reducible rfl)))
                | (refine Holds.condF ?_ ?_; (· (simp [go_sem, List.take_of_length_le, ints_cons] <;> with_reducible rfl)))
                | refine Holds.seq ?_
                | refine Holds.skip ?_
                | refine Holds.exit ?_
                | refine Holds.ret ?_
                | refine thenA_normal ?_
                | refine thenA_exit ?_
                | refine thenA_ret ?_
                | refine inB_normal ?_
                | refine inB_ret ?_
                | refine inB_here ?_
                | (refine inB_past ?_ ?_; (· exact rfl))
                | refine Holds.reg ?_
                | refine Holds.block ?_
                | refine GS.nil ?_
                | (refine GS.step (s' := ?_) ?_ ?_ ?_; rotate_left; (· exact rfl); (· (simp [go_sem, List.take_of_length_le, ints_cons] <;> with_reducible rfl)))
                | (refine GS.skip ?_ ?_ ?_; (· exact rfl); (· exact rfl))
                | fail
              refine GS.cc (c0) rfl rfl rfl rfl (by simp [go_sem, List.take_of_length_le, ints_cons] <;> with_reducible rfl) rfl (by simp [go_sem, List.take_of_length_le, ints_cons]) ?_
              repeat' first
                | (refine Holds.condT ?_ ?_; (· (simp [go_sem, List.take_of_length_le, ha1, ints_cons] <;> with_reducible rfl)))
                | (refine Holds.condF ?_ ?_; (· (simp [go_sem, List.take_of_length_le, ha1, ints_cons] <;> with_reducible rfl)))
                | refine Holds.seq ?_
                | refine Holds.skip ?_
                | refine Holds.exit ?_
                | refine Holds.ret ?_
                | refine thenA_normal ?_
                | refine thenA_exit ?_
                | refine thenA_ret ?_
                | refine inB_normal ?_
                | refine inB_ret ?_
                | refine inB_here ?_
                | (refine inB_past ?_ ?_; (· exact rfl))
                | refine Holds.reg ?_
                | refine Holds.block ?_
                | refine GS.nil ?_
                | (refine GS.step (s' := ?_) ?_ ?_ ?_; rotate_left; (· exact rfl); (· (simp [go_sem, List.take_of_length_le, ha1, ints_cons] <;> with_reducible rfl)))
                | (refine GS.skip ?_ ?_ ?_; (· exact rfl); (· exact rfl))
                | fail
              refine GS.cc (c1) rfl rfl rfl rfl (by simp [go_sem, List.take_of_length_le, ints_cons] <;> with_reducible rfl) rfl (by simp [go_sem, List.take_of_length_le, ints_cons]) ?_
              repeat' first
                | (refine Holds.condT ?_ ?_; (· (simp [go_sem, List.take_of_length_le, hc1, hws, encO, he1, hl2, hlt2] <;> with_reducible rfl)))
                | (refine Holds.condF ?_ ?_; (· (simp [go_sem, List.take_of_length_le, hc1, hws, encO, he1, hl2, hlt2] <;> with_reducible rfl)))
                | refine Holds.seq ?_
                | refine Holds.skip ?_
                | refine Holds.exit ?_
                | refine Holds.ret ?_
                | refine thenA_normal ?_
                | refine thenA_exit ?_
                | refine thenA_ret ?_
                | refine inB_normal ?_
                | refine inB_ret ?_
                | refine inB_here ?_
                | (refine inB_past ?_ ?_; (· exact rfl))
                | refine Holds.reg ?_
                | refine Holds.block ?_
                | refine GS.nil ?_
                | (refine GS.step (s' := ?_) ?_ ?_ ?_; rotate_left; (· exact rfl); (· (simp [go_sem, List.take_of_length_le, hc1, hws, encO, he1, hl2, hlt2] <;> with_reducible rfl)))
                | (refine GS.skip ?_ ?_ ?_; (· exact rfl); (· exact rfl))
                | fail
              refine ⟨(m + 1, some e), ⟨by dsimp only; omega, by dsimp only; omega, by rw [hnx]⟩, by dsimp only; omega, ?_⟩
              rw [step]
              exact Cov.ofn (id) rfl (by simp [go_sem, List.take_of_length_le, ren, ren1, okr, okr1, ChkT, ChkN, BlkN, nf, encO, ints_cons]) (by simp [go_sem, List.take_of_length_le, ren, ren1, okr, okr1, ChkT, ChkN, BlkN, nf, encO, ints_cons])
    · have hlt : m = j + 1 := by simp at h; omega
      subst hlt
      have : midI T w x r i j (j + 1) = (List.range (j + 1 - i)).foldl (fun b d => oMin b (oAdd (oneO T w x i (i + d)) (rowI T w r (i + d) j))) none := rfl
      rw [← this, ← hb]
      repeat' first
        | (refine Holds.condT ?_ ?_; (· (simp [go_sem, List.take_of_length_le] <;> with_reducible rfl)))
        | (refine Holds.condF ?_ ?_; (· (simp [go_sem, List.take_of_length_le] <;> with_reducible rfl)))
        | refine Holds.seq ?_
        | refine Holds.skip ?_
        | refine Holds.exit ?_
        | refine Holds.ret ?_
        | refine thenA_normal ?_
        | refine thenA_exit ?_
        | refine thenA_ret ?_
        | refine inB_normal ?_
        | refine inB_ret ?_
        | refine inB_here ?_
        | (refine inB_past ?_ ?_; (· exact rfl))
        | refine Holds.reg ?_
        | refine Holds.block ?_
        | refine GS.nil ?_
        | (refine GS.step (s' := ?_) ?_ ?_ ?_; rotate_left; (· exact rfl); (· (simp [go_sem, List.take_of_length_le] <;> with_reducible rfl)))
        | (refine GS.skip ?_ ?_ ?_; (· exact rfl); (· exact rfl))
        | fail
      refine Out.mk (xs := ?_) ?_ ?_ (by first | exact .inr rfl | exact .inl rfl)
      rotate_left
      · simp [go_sem, List.take_of_length_le] <;> with_reducible rfl
      exact .v _
end Go.Proofs.Ytpnpjkkppndhfaa.En
end
section
namespace Go.Proofs.Ytpnpjkkppndhfaa.En
open Go.RowKit
set_option linter.unusedSimpArgs false
set_option linter.unusedVariables false
set_option maxHeartbeats 4000000
/-- The box of the program's costs. -/
def costB (g : GrammarT) (w cs : List Int) (vs : List Int) (m : AV) : List AV := grammarC g ++ [.im 1 (ints w), .im 1 (ints cs)] ++ vs.map iv ++ [m]
theorem costB_R (g : GrammarT) (w cs : List Int) (T : Tab) (m : AV) : costB g w cs (boxF T) m = costR g w cs T ++ [m] := rfl
theorem costB_len (g : GrammarT) (w cs vs : List Int) (m : AV) (h : vs.length = 726) : (costB g w cs vs m).length = 732 := by simp [costB, grammarC, h]
theorem costB_get {g : GrammarT} {w cs vs : List Int} {m : AV} {p : Nat} {n : Int} (h : vs[p]? = some n) : (costB g w cs vs m)[5 + p]? = some (.v (.int .i64 n)) := by
  have hl := (List.getElem?_eq_some_iff.1 h).1
  unfold costB
  rw [List.getElem?_append_left (by simp [grammarC]; omega), List.getElem?_append_right (by simp [grammarC])]
  simp only [grammarC, List.length_append, List.length_cons, List.length_nil]
  rw [show 5 + p - (0 + 1 + 1 + 1 + (0 + 1 + 1)) = p by omega, List.getElem?_map, h]; rfl
theorem costB_set {g : GrammarT} {w cs vs : List Int} {m : AV} {p : Nat} (n : Int) (h : p < vs.length) : (costB g w cs vs m).set (5 + p) (.v (.int .i64 n)) = costB g w cs (vs.set p n) m := by
  unfold costB
  rw [List.set_append_left _ _ (by simp [grammarC]; omega), List.set_append_right _ _ (by simp [grammarC])]
  simp only [grammarC, List.length_append, List.length_cons, List.length_nil]
  rw [show 5 + p - (0 + 1 + 1 + 1 + (0 + 1 + 1)) = p by omega, List.map_set]; rfl
def initI (p : Nat) : List Int := List.replicate p (-1) ++ List.replicate (726 - p) 0
theorem initI_len {p : Nat} (h : p ≤ 726) : (initI p).length = 726 := by simp [initI]; omega
theorem initI_set {p : Nat} (h : p < 726) : (initI p).set p (-1) = initI (p + 1) := by
  unfold initI
  rw [List.set_append_right _ _ (by simp)]
  rw [show 726 - p = (726 - (p + 1)) + 1 by omega, List.replicate_succ]
  simp [List.replicate_succ']
theorem fillA_cons {place : Nat → Option (Nat × Nat)} {s : AS} {zs : List AV} {i off size : Nat} {x : Operand} {y : AV} {r : List (Nat × Operand)} (hp : place i = some (off, size)) (hx : ev s x = some y) (h1 : (cel y).length = size) (h2 : (cel y).all (ok1 s) = true) (h3 : off + size ≤ zs.length) :
    fillA place s zs ((i, x) :: r) = fillA place s (spl zs off (cel y)) r := by
  simp only [fillA, hp, hx]
  rw [if_pos ⟨h1, h2, h3⟩]
theorem buildCost {s : AS} {g : GrammarT} {w cs : List Int} {m : AV} {a b c d : Nat} (ha : lk s.tm a = some (.ag (grammarC g))) (hb : lk s.tm b = some (.im 1 (ints w))) (hc : lk s.tm c = some (.im 1 (ints cs))) (hd : lk s.tm d = some m) (hm : cel m = [m]) (hm2 : ok1 s m = true) :
    abuild Try.prog s 76 #[(0, .tmp a), (1, .tmp b), (2, .tmp c), (4, .tmp d)] = some (.ag (costB g w cs (initI 0) m), s) := by
  rw [show initI 0 = List.replicate 726 0 from rfl]
  have hp : plc Try.prog 76 = some (fun i => [(0, 3), (3, 1), (4, 1), (5, 726), (731, 1)][i]?) := by kernel_rfl
  unfold abuild
  rw [zc76, ti76, hp]
  dsimp only
  rw [if_pos rfl]
  have hR : (List.replicate 726 (0 : Int)).map iv = List.replicate 726 (.v (.int .i64 0)) := by rw [List.map_replicate]; rfl
  generalize hRR : List.replicate 726 (AV.v (.int .i64 0)) = R at hR ⊢
  have hRl : R.length = 726 := by rw [← hRR, List.length_replicate]
  rw [fillA_cons (off := 0) (size := 3) (x := .tmp a) rfl (show ev s (.tmp a) = _ from ha) rfl rfl (by simp only [List.length_append, hRl, List.length_cons, List.length_nil]; omega)]
  rw [fillA_cons (off := 3) (size := 1) (x := .tmp b) rfl (show ev s (.tmp b) = _ from hb) rfl rfl (by simp only [spl, cel, grammarC, List.length_append, List.length_take, List.length_drop, hRl, List.length_cons, List.length_nil]; omega)]
  rw [fillA_cons (off := 4) (size := 1) (x := .tmp c) rfl (show ev s (.tmp c) = _ from hc) rfl rfl (by simp only [spl, cel, grammarC, List.length_append, List.length_take, List.length_drop, List.length_set, hRl, List.length_cons, List.length_nil]; omega)]
  rw [fillA_cons (off := 731) (size := 1) (x := .tmp d) rfl (show ev s (.tmp d) = _ from hd) (by rw [hm]; rfl) (by rw [hm]; simp [hm2]) (by simp only [spl, cel, grammarC, List.length_append, List.length_take, List.length_drop, List.length_set, hRl, List.length_cons, List.length_nil]; omega)]
  have e : spl (spl (spl ([AV.v (.int .i64 0), .v (.int .i64 0), .v (.slice none 0 0), .v (.slice none 0 0), .v (.slice none 0 0)] ++ R ++ [.v (.map none)]) 0 (cel (.ag (grammarC g)))) 3 (cel (.im 1 (ints w)))) 4 (cel (.im 1 (ints cs))) = (grammarC g ++ [.im 1 (ints w), .im 1 (ints cs)] ++ R) ++ [.v (.map none)] := by
    simp [spl, cel, grammarC]
  rw [e, hm]
  show some (AV.ag (List.set _ 731 m), s) = _
  rw [List.set_append_right _ _ (by simp [grammarC, hRl])]
  simp only [costB, hR, grammarC, List.length_append, hRl, List.length_cons, List.length_nil]
  rfl
theorem GS.bld {P : Program} {nt : NT} {s s1 : AS} {ops : Array Oper} {K : AS → Prop} {i : Nat} {o : Oper} {l : List Oper} {t : TypeId} {parts : Array (Nat × Operand)} {y : AV} (hop : o.op = .build t parts) (hg : gd ops s o = some true) (hd : okd nt.n o.dst = true) (hb : abuild P s t parts = some (y, s)) (hs1 : put s o.dst y = s1) (h : GS P nt ops K l (i + 1) s1) : GS P nt ops K (o :: l) i s := by
  subst hs1
  exact GS.step hg (by unfold astep; rw [if_pos hd, hop]; simp [hb]) h
theorem GS.bxx {P : Program} {nt : NT} {s s1 : AS} {ops : Array Oper} {K : AS → Prop} {i : Nat} {o : Oper} {l : List Oper} {t : TypeId} {x : Operand} {cs : List AV} {n : Nat} (hop : o.op = .box t x) (hg : gd ops s o = some true) (hd : okd nt.n o.dst = true) (hx : ev s x = some (.ag cs)) (hc : cs.all (ok1 s) = true) (hn : cs.length = n) (hs1 : put ⟨s.tm, (s.nx, ⟨t, n, [cs]⟩) :: s.bl, s.nx + 1⟩ o.dst (.pb s.nx n 0 0) = s1) (h : GS P nt ops K l (i + 1) s1) : GS P nt ops K (o :: l) i s := by
  subst hs1 hn
  exact GS.step hg (by unfold astep; rw [if_pos hd, hop]; simp [abox, hx, cel, hc, anew]) h
theorem costB_ok {s : AS} {g : GrammarT} {w cs vs : List Int} {m : AV} (hm : ok1 s m = true) : (costB g w cs vs m).all (ok1 s) = true := by
  rw [List.all_eq_true]
  intro x hx
  simp only [costB, grammarC, List.mem_append, List.mem_cons, List.not_mem_nil, or_false, List.mem_map] at hx
  rcases hx with (((rfl | rfl | rfl) | (rfl | rfl)) | ⟨n, _, rfl⟩) | rfl <;> first | rfl | exact hm
@[simp] theorem costB_ren (ρ : Nat → Nat) (g : GrammarT) (w cs vs : List Int) (m : AV) : (costB g w cs vs m).map (ren ρ) = costB g w cs vs (ren ρ m) := by
  simp only [costB, grammarC, List.map_append, List.map_cons, List.map_nil, ren, ren1, List.map_map]
  congr 2
@[simp] theorem costB_okr (nx : Nat) (g : GrammarT) (w cs vs : List Int) (m : AV) : (∀ x ∈ costB g w cs vs m, okr nx x = true) ↔ okr nx m = true := by
  constructor
  · intro h; exact h m (by simp [costB])
  · intro h x hx
    simp only [costB, grammarC, List.mem_append, List.mem_cons, List.not_mem_nil, or_false, List.mem_map] at hx
    rcases hx with (((rfl | rfl | rfl) | (rfl | rfl)) | ⟨n, _, rfl⟩) | rfl <;> first | rfl | exact h
end Go.Proofs.Ytpnpjkkppndhfaa.En
end
section
namespace Go.Proofs.Ytpnpjkkppndhfaa.En
open Go.RowKit
set_option linter.unusedSimpArgs false
set_option linter.unusedVariables false
set_option maxHeartbeats 8000000
def rulesQ (g : GrammarT) (cs : List Int) : List (Nat × List Int × Nat) := (g.2.2.zip cs).map fun p => (p.1.1.toNat, p.1.2, p.2.toNat)
theorem rulesQ_len (g : GrammarT) (cs : List Int) (h : cs.length = g.2.2.length) : (rulesQ g cs).length = g.2.2.length := by simp [rulesQ, h]
theorem rulesQ_at {g : GrammarT} (hg : OkG g) {cs : List Int} (hl : cs.length = g.2.2.length) (hc : ∀ c ∈ cs, 1 ≤ c ∧ c ≤ 100) {N : Nat} (hN : (N : Int) = g.1) {k : Nat} (hk : k < g.2.2.length) :
    ∃ (ln : Nat) (right : List Int) (cn : Nat), g.2.2[k]? = some ((ln : Int), right) ∧ cs[k]? = some (cn : Int) ∧ (rulesQ g cs)[k]? = some (ln, right, cn) ∧ RuleOk N (ln, right, cn) ∧ SymOk N right := by
  have h1 : g.2.2[k]? = some g.2.2[k] := List.getElem?_eq_getElem hk
  have h2 : cs[k]? = some cs[k] := List.getElem?_eq_getElem (by omega)
  have m1 := List.getElem_mem hk
  have m2 := List.getElem_mem (show k < cs.length by omega)
  have l0 := hg.l0 _ m1
  have l1 := hg.l1 _ m1
  have r4 := hg.r4 _ m1
  have s0 := hg.s0 _ m1
  have s1 := hg.s1 _ m1
  have c0 := hc _ m2
  have t1 := hg.t1
  generalize g.2.2[k] = r at h1 l0 l1 r4 s0 s1
  generalize cs[k] = c at h2 c0
  obtain ⟨l, right⟩ := r
  dsimp only at l0 l1 r4 s0 s1
  refine ⟨l.toNat, right, c.toNat, by rw [h1, Int.toNat_of_nonneg l0], by rw [h2, Int.toNat_of_nonneg (by omega)], ?_, ⟨by dsimp only; omega, r4, by dsimp only; omega, by dsimp only; omega⟩, fun x hx => ?_⟩
  · unfold rulesQ; rw [List.getElem?_map, (List.getElem?_zip_eq_some (z := ((l, right), c))).2 ⟨h1, h2⟩]; rfl
  · have := s0 x hx
    have := s1 x hx
    omega
theorem rulesQ_ok {g : GrammarT} (hg : OkG g) {cs : List Int} (hl : cs.length = g.2.2.length) (hc : ∀ c ∈ cs, 1 ≤ c ∧ c ≤ 100) {N : Nat} (hN : (N : Int) = g.1) : ∀ q ∈ rulesQ g cs, RuleOk N q := fun q hq => by
  obtain ⟨k, hk⟩ := List.getElem?_of_mem hq
  have hlt : k < g.2.2.length := by have := (List.getElem?_eq_some_iff.1 hk).1; rw [rulesQ_len g cs hl] at this; exact this
  obtain ⟨ln, right, cn, _, _, h3, h4, _⟩ := rulesQ_at hg hl hc hN hlt
  rw [h3] at hk; cases hk; exact h4
@[simp high] theorem okw_costB (nx : Nat) (g : GrammarT) (w cs vs : List Int) (m : AV) : okw nx [costB g w cs vs m] ↔ okr nx m = true := by simp only [okw, List.mem_singleton, forall_eq, costB_okr]
theorem range'_next {i n : Nat} (h : i < n) : List.range' i (n - i) = i :: List.range' (i + 1) (n - (i + 1)) := by
  rw [show n - i = (n - (i + 1)) + 1 by omega, List.range'_succ]
theorem range'_end (n : Nat) : List.range' n (n - n) = [] := by simp
def cBox (g : GrammarT) (w cs vs : List Int) : List (Nat × Blk) := [(2, ⟨76, 732, [costB g w cs vs (.own 1 1 0 0)]⟩), (0, ⟨31, 3, [grammarC g]⟩)]
theorem initI_none : initI 726 = boxF noO := by
  unfold initI
  rw [boxF_none, show 726 - 726 = 0 from rfl, List.replicate_zero, List.append_nil]
theorem implCosts {N n : Nat} (g : GrammarT) (hg : OkG g) (cs w : List Int) (hN : (N : Int) = g.1) (hw : w.length = n) (hn : n ≤ 10) (hwk : ∀ x ∈ w, 0 ≤ x ∧ x ≤ 100) (hcl : cs.length = g.2.2.length) (hck : ∀ c ∈ cs, 1 ≤ c ∧ c ≤ 100) :
    Pure Try.prog 40 [.ag (grammarC g), .im 1 (ints cs), .im 1 (ints w)] (.pi (costR g w cs (endO N n w (rulesQ g cs) noO))) := by
  have hN6 : N ≤ 6 := by have := hg.n1; omega
  have hQ := rulesQ_ok hg hcl hck hN
  refine Pure.mk (rs := [.tmp 6]) (nt := 114) Try.func40 (by kernel_rfl) rfl rfl rfl (by simp) ?_
  simp only [sl, grammarC]
  repeat' first
    | (refine Holds.condT ?_ ?_; (· (simp [go_sem, List.take_of_length_le] <;> with_reducible rfl)))
    | (refine Holds.condF ?_ ?_; (· (simp [go_sem, List.take_of_length_le] <;> with_reducible rfl)))
    | refine Holds.seq ?_
    | refine Holds.skip ?_
    | refine Holds.exit ?_
    | refine Holds.ret ?_
    | refine thenA_normal ?_
    | refine thenA_exit ?_
    | refine thenA_ret ?_
    | refine inB_normal ?_
    | refine inB_ret ?_
    | refine inB_here ?_
    | (refine inB_past ?_ ?_; (· exact rfl))
    | refine Holds.reg ?_
    | refine Holds.block ?_
    | refine GS.nil ?_
    | refine Gd.nil ?_
    | (refine Holds.any mixed ?_ ?_; (· kernel_rfl))
    | (refine GS.step (s' := ?_) ?_ ?_ ?_; rotate_left; (· exact rfl); (· (simp [go_sem, List.take_of_length_le] <;> with_reducible rfl)))
    | (refine GS.skip ?_ ?_ ?_; (· exact rfl); (· exact rfl))
    | (refine Gd.go (s' := ?_) ?_ ?_ ?_; rotate_left; (· exact rfl); (· (simp [go_sem, List.take_of_length_le] <;> with_reducible rfl)))
    | (refine Gd.skip ?_ ?_ ?_; (· exact rfl); (· exact rfl))
    | fail
  refine GS.mkMap rfl rfl rfl rfl ?_
  refine GS.bld (y := .ag (costB g w cs (initI 0) (.own 1 1 0 0))) rfl rfl rfl (buildCost rfl rfl rfl rfl rfl rfl) rfl ?_
  refine GS.bxx (n := 732) rfl rfl rfl rfl (costB_ok rfl) (costB_len _ _ _ _ _ (initI_len (by omega))) rfl ?_
  repeat' first
    | (refine Holds.condT ?_ ?_; (· (simp [go_sem, List.take_of_length_le] <;> with_reducible rfl)))
    | (refine Holds.condF ?_ ?_; (· (simp [go_sem, List.take_of_length_le] <;> with_reducible rfl)))
    | refine Holds.seq ?_
    | refine Holds.skip ?_
    | refine Holds.exit ?_
    | refine Holds.ret ?_
    | refine thenA_normal ?_
    | refine thenA_exit ?_
    | refine thenA_ret ?_
    | refine inB_normal ?_
    | refine inB_ret ?_
    | refine inB_here ?_
    | (refine inB_past ?_ ?_; (· exact rfl))
    | refine Holds.reg ?_
    | refine Holds.block ?_
    | refine GS.nil ?_
    | refine Gd.nil ?_
    | (refine Holds.any mixed ?_ ?_; (· kernel_rfl))
    | (refine GS.step (s' := ?_) ?_ ?_ ?_; rotate_left; (· exact rfl); (· (simp [go_sem, List.take_of_length_le] <;> with_reducible rfl)))
    | (refine GS.skip ?_ ?_ ?_; (· exact rfl); (· exact rfl))
    | (refine Gd.go (s' := ?_) ?_ ?_ ?_; rotate_left; (· exact rfl); (· (simp [go_sem, List.take_of_length_le] <;> with_reducible rfl)))
    | (refine Gd.skip ?_ ?_ ?_; (· exact rfl); (· exact rfl))
    | fail
  refine Holds.loop (ι := Nat) (fun A => ⟨[(1, .im 1 (ints cs)), (2, .im 1 (ints w)), (3, .pb 0 3 0 0), (7, .pb 2 732 0 0), (24, .v (.int .i64 A))], cBox g w cs (initI (A * 121)), 3⟩) (fun A => A ≤ 6) (fun A => 6 - A) 0 (Nat.zero_le _) ?_ ?_
  · exact Cov.ofn (id) rfl (by simp [go_sem, List.take_of_length_le, ren, ren1, okr, okr1, ChkT, ChkN, BlkN, nf, cBox, grammarC]) (by simp [go_sem, List.take_of_length_le, ren, ren1, okr, okr1, ChkT, ChkN, BlkN, nf, cBox, grammarC])
  intro A hA
  have stepA : wr64 ((A : Int) + 1) = ((A + 1 : Nat) : Int) := wr64_id (by omega) (by omega)
  repeat' first
    | (refine Holds.condT ?_ ?_; (· (simp [go_sem, List.take_of_length_le, cBox] <;> with_reducible rfl)))
    | (refine Holds.condF ?_ ?_; (· (simp [go_sem, List.take_of_length_le, cBox] <;> with_reducible rfl)))
    | refine Holds.seq ?_
    | refine Holds.skip ?_
    | refine Holds.exit ?_
    | refine Holds.ret ?_
    | refine thenA_normal ?_
    | refine thenA_exit ?_
    | refine thenA_ret ?_
    | refine inB_normal ?_
    | refine inB_ret ?_
    | refine inB_here ?_
    | (refine inB_past ?_ ?_; (· exact rfl))
    | refine Holds.reg ?_
    | refine Holds.block ?_
    | refine GS.nil ?_
    | refine Gd.nil ?_
    | (refine Holds.any mixed ?_ ?_; (· kernel_rfl))
    | (refine GS.step (s' := ?_) ?_ ?_ ?_; rotate_left; (· exact rfl); (· (simp [go_sem, List.take_of_length_le, cBox] <;> with_reducible rfl)))
    | (refine GS.skip ?_ ?_ ?_; (· exact rfl); (· exact rfl))
    | (refine Gd.go (s' := ?_) ?_ ?_ ?_; rotate_left; (· exact rfl); (· (simp [go_sem, List.take_of_length_le, cBox] <;> with_reducible rfl)))
    | (refine Gd.skip ?_ ?_ ?_; (· exact rfl); (· exact rfl))
    | fail
  refine Holds.cond rfl (fun h => ?_) (fun h => ?_)
  · have hA6 : A < 6 := by simp at h; omega
    repeat' first
      | (refine Holds.condT ?_ ?_; (· (simp [go_sem, List.take_of_length_le, cBox] <;> with_reducible rfl)))
      | (refine Holds.condF ?_ ?_; (· (simp [go_sem, List.take_of_length_le, cBox] <;> with_reducible rfl)))
      | refine Holds.seq ?_
      | refine Holds.skip ?_
      | refine Holds.exit ?_
      | refine Holds.ret ?_
      | refine thenA_normal ?_
      | refine thenA_exit ?_
      | refine thenA_ret ?_
      | refine inB_normal ?_
      | refine inB_ret ?_
      | refine inB_here ?_
      | (refine inB_past ?_ ?_; (· exact rfl))
      | refine Holds.reg ?_
      | refine Holds.block ?_
      | refine GS.nil ?_
      | refine Gd.nil ?_
      | (refine Holds.any mixed ?_ ?_; (· kernel_rfl))
      | (refine GS.step (s' := ?_) ?_ ?_ ?_; rotate_left; (· exact rfl); (· (simp [go_sem, List.take_of_length_le, cBox] <;> with_reducible rfl)))
      | (refine GS.skip ?_ ?_ ?_; (· exact rfl); (· exact rfl))
      | (refine Gd.go (s' := ?_) ?_ ?_ ?_; rotate_left; (· exact rfl); (· (simp [go_sem, List.take_of_length_le, cBox] <;> with_reducible rfl)))
      | (refine Gd.skip ?_ ?_ ?_; (· exact rfl); (· exact rfl))
      | fail
    refine Holds.loop (ι := Nat) (fun i => ⟨[(1, .im 1 (ints cs)), (2, .im 1 (ints w)), (3, .pb 0 3 0 0), (7, .pb 2 732 0 0), (8, .v (.int .i64 A)), (24, .v (.int .i64 A)), (27, .v (.int .i64 i))], cBox g w cs (initI (A * 121 + i * 11)), 3⟩) (fun i => i ≤ 11) (fun i => 11 - i) 0 (Nat.zero_le _) ?_ ?_
    · exact Cov.ofn (id) rfl (by simp [go_sem, List.take_of_length_le, ren, ren1, okr, okr1, ChkT, ChkN, BlkN, nf, cBox, grammarC]) (by simp [go_sem, List.take_of_length_le, ren, ren1, okr, okr1, ChkT, ChkN, BlkN, nf, cBox, grammarC])
    intro i hi
    have stepi : wr64 ((i : Int) + 1) = ((i + 1 : Nat) : Int) := wr64_id (by omega) (by omega)
    repeat' first
      | (refine Holds.condT ?_ ?_; (· (simp [go_sem, List.take_of_length_le, cBox] <;> with_reducible rfl)))
      | (refine Holds.condF ?_ ?_; (· (simp [go_sem, List.take_of_length_le, cBox] <;> with_reducible rfl)))
      | refine Holds.seq ?_
      | refine Holds.skip ?_
      | refine Holds.exit ?_
      | refine Holds.ret ?_
      | refine thenA_normal ?_
      | refine thenA_exit ?_
      | refine thenA_ret ?_
      | refine inB_normal ?_
      | refine inB_ret ?_
      | refine inB_here ?_
      | (refine inB_past ?_ ?_; (· exact rfl))
      | refine Holds.reg ?_
      | refine Holds.block ?_
      | refine GS.nil ?_
      | refine Gd.nil ?_
      | (refine Holds.any mixed ?_ ?_; (· kernel_rfl))
      | (refine GS.step (s' := ?_) ?_ ?_ ?_; rotate_left; (· exact rfl); (· (simp [go_sem, List.take_of_length_le, cBox] <;> with_reducible rfl)))
      | (refine GS.skip ?_ ?_ ?_; (· exact rfl); (· exact rfl))
      | (refine Gd.go (s' := ?_) ?_ ?_ ?_; rotate_left; (· exact rfl); (· (simp [go_sem, List.take_of_length_le, cBox] <;> with_reducible rfl)))
      | (refine Gd.skip ?_ ?_ ?_; (· exact rfl); (· exact rfl))
      | fail
    refine Holds.cond rfl (fun h => ?_) (fun h => ?_)
    · have hi11 : i < 11 := by simp at h; omega
      repeat' first
        | (refine Holds.condT ?_ ?_; (· (simp [go_sem, List.take_of_length_le, cBox] <;> with_reducible rfl)))
        | (refine Holds.condF ?_ ?_; (· (simp [go_sem, List.take_of_length_le, cBox] <;> with_reducible rfl)))
        | refine Holds.seq ?_
        | refine Holds.skip ?_
        | refine Holds.exit ?_
        | refine Holds.ret ?_
        | refine thenA_normal ?_
        | refine thenA_exit ?_
        | refine thenA_ret ?_
        | refine inB_normal ?_
        | refine inB_ret ?_
        | refine inB_here ?_
        | (refine inB_past ?_ ?_; (· exact rfl))
        | refine Holds.reg ?_
        | refine Holds.block ?_
        | refine GS.nil ?_
        | refine Gd.nil ?_
        | (refine Holds.any mixed ?_ ?_; (· kernel_rfl))
        | (refine GS.step (s' := ?_) ?_ ?_ ?_; rotate_left; (· exact rfl); (· (simp [go_sem, List.take_of_length_le, cBox] <;> with_reducible rfl)))
        | (refine GS.skip ?_ ?_ ?_; (· exact rfl); (· exact rfl))
        | (refine Gd.go (s' := ?_) ?_ ?_ ?_; rotate_left; (· exact rfl); (· (simp [go_sem, List.take_of_length_le, cBox] <;> with_reducible rfl)))
        | (refine Gd.skip ?_ ?_ ?_; (· exact rfl); (· exact rfl))
        | fail
      refine Holds.loop (ι := Nat) (fun j => ⟨[(1, .im 1 (ints cs)), (2, .im 1 (ints w)), (3, .pb 0 3 0 0), (7, .pb 2 732 0 0), (8, .v (.int .i64 A)), (9, .v (.int .i64 i)), (24, .v (.int .i64 A)), (27, .v (.int .i64 i)), (30, .v (.int .i64 j))], cBox g w cs (initI (A * 121 + i * 11 + j)), 3⟩) (fun j => j ≤ 11) (fun j => 11 - j) 0 (Nat.zero_le _) ?_ ?_
      · exact Cov.ofn (id) rfl (by simp [go_sem, List.take_of_length_le, ren, ren1, okr, okr1, ChkT, ChkN, BlkN, nf, cBox, grammarC]) (by simp [go_sem, List.take_of_length_le, ren, ren1, okr, okr1, ChkT, ChkN, BlkN, nf, cBox, grammarC])
      intro j hj
      have stepj : wr64 ((j : Int) + 1) = ((j + 1 : Nat) : Int) := wr64_id (by omega) (by omega)
      repeat' first
        | (refine Holds.condT ?_ ?_; (· (simp [go_sem, List.take_of_length_le, cBox] <;> with_reducible rfl)))
        | (refine Holds.condF ?_ ?_; (· (simp [go_sem, List.take_of_length_le, cBox] <;> with_reducible rfl)))
        | refine Holds.seq ?_
        | refine Holds.skip ?_
        | refine Holds.exit ?_
        | refine Holds.ret ?_
        | refine thenA_normal ?_
        | refine thenA_exit ?_
        | refine thenA_ret ?_
        | refine inB_normal ?_
        | refine inB_ret ?_
        | refine inB_here ?_
        | (refine inB_past ?_ ?_; (· exact rfl))
        | refine Holds.reg ?_
        | refine Holds.block ?_
        | refine GS.nil ?_
        | refine Gd.nil ?_
        | (refine Holds.any mixed ?_ ?_; (· kernel_rfl))
        | (refine GS.step (s' := ?_) ?_ ?_ ?_; rotate_left; (· exact rfl); (· (simp [go_sem, List.take_of_length_le, cBox] <;> with_reducible rfl)))
        | (refine GS.skip ?_ ?_ ?_; (· exact rfl); (· exact rfl))
        | (refine Gd.go (s' := ?_) ?_ ?_ ?_; rotate_left; (· exact rfl); (· (simp [go_sem, List.take_of_length_le, cBox] <;> with_reducible rfl)))
        | (refine Gd.skip ?_ ?_ ?_; (· exact rfl); (· exact rfl))
        | fail
      refine Holds.cond rfl (fun h => ?_) (fun h => ?_)
      · have hj11 : j < 11 := by simp at h; omega
        have hlt : A * 121 + i * 11 + j < 726 := by omega
        have hset := costB_set (g := g) (w := w) (cs := cs) (vs := initI (A * 121 + i * 11 + j)) (m := .own 1 1 0 0) (p := A * 121 + i * 11 + j) (-1) (by rw [initI_len (by omega)]; exact hlt)
        rw [initI_set hlt] at hset
        have hset2 : (costB g w cs (initI (A * 121 + i * 11 + j)) (.own 1 1 0 0)).set (5 + A * 121 + i * 11 + j) (.v (.int .i64 (-1))) = costB g w cs (initI (A * 121 + i * 11 + (j + 1))) (.own 1 1 0 0) := by rw [← Nat.add_assoc, ← hset]; congr 1; omega
        have hlen := costB_len g w cs (initI (A * 121 + i * 11 + j)) (.own 1 1 0 0) (initI_len (by omega))
        have hp : 5 + A * 121 + i * 11 + j ≤ 731 := by omega
        repeat' first
          | (refine Holds.condT ?_ ?_; (· (simp [go_sem, List.take_of_length_le, cBox, hA6, hi11, hj11, hlt, hlen, hp, hset2] <;> with_reducible rfl)))
          | (refine Holds.condF ?_ ?_; (· (simp [go_sem, List.take_of_length_le, cBox, hA6, hi11, hj11, hlt, hlen, hp, hset2] <;> with_reducible rfl)))
          | refine Holds.seq ?_
          | refine Holds.skip ?_
          | refine Holds.exit ?_
          | refine Holds.ret ?_
          | refine thenA_normal ?_
          | refine thenA_exit ?_
          | refine thenA_ret ?_
          | refine inB_normal ?_
          | refine inB_ret ?_
          | refine inB_here ?_
          | (refine inB_past ?_ ?_; (· exact rfl))
          | refine Holds.reg ?_
          | refine Holds.block ?_
          | refine GS.nil ?_
          | refine Gd.nil ?_
          | (refine Holds.any mixed ?_ ?_; (· kernel_rfl))
          | (refine GS.step (s' := ?_) ?_ ?_ ?_; rotate_left; (· exact rfl); (· (simp [go_sem, List.take_of_length_le, cBox, hA6, hi11, hj11, hlt, hlen, hp, hset2] <;> with_reducible rfl)))
          | (refine GS.skip ?_ ?_ ?_; (· exact rfl); (· exact rfl))
          | (refine Gd.go (s' := ?_) ?_ ?_ ?_; rotate_left; (· exact rfl); (· (simp [go_sem, List.take_of_length_le, cBox, hA6, hi11, hj11, hlt, hlen, hp, hset2] <;> with_reducible rfl)))
          | (refine Gd.skip ?_ ?_ ?_; (· exact rfl); (· exact rfl))
          | fail
        refine ⟨j + 1, by omega, by omega, ?_⟩
        rw [stepj]
        exact Cov.ofn (id) rfl (by simp [go_sem, List.take_of_length_le, ren, ren1, okr, okr1, ChkT, ChkN, BlkN, nf, cBox, grammarC, hset2]) (by simp [go_sem, List.take_of_length_le, ren, ren1, okr, okr1, ChkT, ChkN, BlkN, nf, cBox, grammarC, hset2])
      · have hj11 : j = 11 := by simp at h; omega
        subst hj11
        repeat' first
          | (refine Holds.condT ?_ ?_; (· (simp [go_sem, List.take_of_length_le] <;> with_reducible rfl)))
          | (refine Holds.condF ?_ ?_; (· (simp [go_sem, List.take_of_length_le] <;> with_reducible rfl)))
          | refine Holds.seq ?_
          | refine Holds.skip ?_
          | refine Holds.exit ?_
          | refine Holds.ret ?_
          | refine thenA_normal ?_
          | refine thenA_exit ?_
          | refine thenA_ret ?_
          | refine inB_normal ?_
          | refine inB_ret ?_
          | refine inB_here ?_
          | (refine inB_past ?_ ?_; (· exact rfl))
          | refine Holds.reg ?_
          | refine Holds.block ?_
          | refine GS.nil ?_
          | refine Gd.nil ?_
          | (refine Holds.any mixed ?_ ?_; (· kernel_rfl))
          | (refine GS.step (s' := ?_) ?_ ?_ ?_; rotate_left; (· exact rfl); (· (simp [go_sem, List.take_of_length_le] <;> with_reducible rfl)))
          | (refine GS.skip ?_ ?_ ?_; (· exact rfl); (· exact rfl))
          | (refine Gd.go (s' := ?_) ?_ ?_ ?_; rotate_left; (· exact rfl); (· (simp [go_sem, List.take_of_length_le] <;> with_reducible rfl)))
          | (refine Gd.skip ?_ ?_ ?_; (· exact rfl); (· exact rfl))
          | fail
        refine ⟨i + 1, by omega, by omega, ?_⟩
        rw [stepi, show A * 121 + (i + 1) * 11 = A * 121 + i * 11 + 11 by omega]
        exact Cov.ofn (id) rfl (by simp [go_sem, List.take_of_length_le, ren, ren1, okr, okr1, ChkT, ChkN, BlkN, nf, cBox, grammarC]) (by simp [go_sem, List.take_of_length_le, ren, ren1, okr, okr1, ChkT, ChkN, BlkN, nf, cBox, grammarC])
    · have hi11 : i = 11 := by simp at h; omega
      subst hi11
      repeat' first
        | (refine Holds.condT ?_ ?_; (· (simp [go_sem, List.take_of_length_le] <;> with_reducible rfl)))
        | (refine Holds.condF ?_ ?_; (· (simp [go_sem, List.take_of_length_le] <;> with_reducible rfl)))
        | refine Holds.seq ?_
        | refine Holds.skip ?_
        | refine Holds.exit ?_
        | refine Holds.ret ?_
        | refine thenA_normal ?_
        | refine thenA_exit ?_
        | refine thenA_ret ?_
        | refine inB_normal ?_
        | refine inB_ret ?_
        | refine inB_here ?_
        | (refine inB_past ?_ ?_; (· exact rfl))
        | refine Holds.reg ?_
        | refine Holds.block ?_
        | refine GS.nil ?_
        | refine Gd.nil ?_
        | (refine Holds.any mixed ?_ ?_; (· kernel_rfl))
        | (refine GS.step (s' := ?_) ?_ ?_ ?_; rotate_left; (· exact rfl); (· (simp [go_sem, List.take_of_length_le] <;> with_reducible rfl)))
        | (refine GS.skip ?_ ?_ ?_; (· exact rfl); (· exact rfl))
        | (refine Gd.go (s' := ?_) ?_ ?_ ?_; rotate_left; (· exact rfl); (· (simp [go_sem, List.take_of_length_le] <;> with_reducible rfl)))
        | (refine Gd.skip ?_ ?_ ?_; (· exact rfl); (· exact rfl))
        | fail
      refine ⟨A + 1, by omega, by omega, ?_⟩
      rw [stepA, show (A + 1) * 121 = A * 121 + 11 * 11 by omega]
      exact Cov.ofn (id) rfl (by simp [go_sem, List.take_of_length_le, ren, ren1, okr, okr1, ChkT, ChkN, BlkN, nf, cBox, grammarC]) (by simp [go_sem, List.take_of_length_le, ren, ren1, okr, okr1, ChkT, ChkN, BlkN, nf, cBox, grammarC])
  · have hA6 : A = 6 := by simp at h; omega
    subst hA6
    have hi : initI (6 * 121) = boxF noO := initI_none
    rw [hi]
    repeat' first
      | (refine Holds.condT ?_ ?_; (· (simp [go_sem, List.take_of_length_le] <;> with_reducible rfl)))
      | (refine Holds.condF ?_ ?_; (· (simp [go_sem, List.take_of_length_le] <;> with_reducible rfl)))
      | refine Holds.seq ?_
      | refine Holds.skip ?_
      | refine Holds.exit ?_
      | refine Holds.ret ?_
      | refine thenA_normal ?_
      | refine thenA_exit ?_
      | refine thenA_ret ?_
      | refine inB_normal ?_
      | refine inB_ret ?_
      | refine inB_here ?_
      | (refine inB_past ?_ ?_; (· exact rfl))
      | refine Holds.reg ?_
      | refine Holds.block ?_
      | refine GS.nil ?_
      | refine Gd.nil ?_
      | (refine Holds.any mixed ?_ ?_; (· kernel_rfl))
      | (refine GS.step (s' := ?_) ?_ ?_ ?_; rotate_left; (· exact rfl); (· (simp [go_sem, List.take_of_length_le] <;> with_reducible rfl)))
      | (refine GS.skip ?_ ?_ ?_; (· exact rfl); (· exact rfl))
      | (refine Gd.go (s' := ?_) ?_ ?_ ?_; rotate_left; (· exact rfl); (· (simp [go_sem, List.take_of_length_le] <;> with_reducible rfl)))
      | (refine Gd.skip ?_ ?_ ?_; (· exact rfl); (· exact rfl))
      | fail
    clear hi hA
    generalize hE : endO N n w (rulesQ g cs) noO = E
    refine Holds.loop (ι := Tab × Bool) (fun s => ⟨[(1, .im 1 (ints cs)), (2, .im 1 (ints w)), (3, .pb 0 3 0 0), (7, .pb 2 732 0 0), (11, .v (.bool s.2))], cBox g w cs (boxF s.1), 3⟩)
      (fun s => GoodT N s.1 ∧ (if s.2 = true then endO N n w (rulesQ g cs) s.1 else s.1) = E) (fun s => 2 * muO 70000000 N n s.1 + (if s.2 = true then 1 else 0)) (noO, true) ⟨noO_good N, by dsimp only; rw [if_pos rfl]; exact hE⟩ ?_ ?_
    · exact Cov.ofn (id) rfl (by simp [go_sem, List.take_of_length_le, ren, ren1, okr, okr1, ChkT, ChkN, BlkN, nf, cBox, grammarC]) (by simp [go_sem, List.take_of_length_le, ren, ren1, okr, okr1, ChkT, ChkN, BlkN, nf, cBox, grammarC])
    rintro ⟨T, b⟩ ⟨hT, hend⟩
    dsimp only at hT hend ⊢
    cases b with
    | false =>
      rw [if_neg (by decide)] at hend
      subst hend
      repeat' first
        | (refine Holds.condT ?_ ?_; (· (simp [go_sem, List.take_of_length_le, cBox] <;> with_reducible rfl)))
        | (refine Holds.condF ?_ ?_; (· (simp [go_sem, List.take_of_length_le, cBox] <;> with_reducible rfl)))
        | refine Holds.seq ?_
        | refine Holds.skip ?_
        | refine Holds.exit ?_
        | refine Holds.ret ?_
        | refine thenA_normal ?_
        | refine thenA_exit ?_
        | refine thenA_ret ?_
        | refine inB_normal ?_
        | refine inB_ret ?_
        | refine inB_here ?_
        | (refine inB_past ?_ ?_; (· exact rfl))
        | refine Holds.reg ?_
        | refine Holds.block ?_
        | refine GS.nil ?_
        | refine Gd.nil ?_
        | (refine Holds.any mixed ?_ ?_; (· kernel_rfl))
        | (refine GS.step (s' := ?_) ?_ ?_ ?_; rotate_left; (· exact rfl); (· (simp [go_sem, List.take_of_length_le, cBox] <;> with_reducible rfl)))
        | (refine GS.skip ?_ ?_ ?_; (· exact rfl); (· exact rfl))
        | (refine Gd.go (s' := ?_) ?_ ?_ ?_; rotate_left; (· exact rfl); (· (simp [go_sem, List.take_of_length_le, cBox] <;> with_reducible rfl)))
        | (refine Gd.skip ?_ ?_ ?_; (· exact rfl); (· exact rfl))
        | fail
      refine Out.mk (xs := ?_) ?_ ?_ (by first | exact .inr rfl | exact .inl rfl)
      rotate_left
      · simp [go_sem, List.take_of_length_le] <;> with_reducible rfl
      exact Fz.pbP (zs := [.own 1 1 0 0]) rfl rfl rfl (costR_cl g w cs T)
    | true =>
      rw [if_pos rfl, endO_step hN6 hn hQ hT] at hend
      repeat' first
        | (refine Holds.condT ?_ ?_; (· (simp [go_sem, List.take_of_length_le, cBox, grammarC] <;> with_reducible rfl)))
        | (refine Holds.condF ?_ ?_; (· (simp [go_sem, List.take_of_length_le, cBox, grammarC] <;> with_reducible rfl)))
        | refine Holds.seq ?_
        | refine Holds.skip ?_
        | refine Holds.exit ?_
        | refine Holds.ret ?_
        | refine thenA_normal ?_
        | refine thenA_exit ?_
        | refine thenA_ret ?_
        | refine inB_normal ?_
        | refine inB_ret ?_
        | refine inB_here ?_
        | (refine inB_past ?_ ?_; (· exact rfl))
        | refine Holds.reg ?_
        | refine Holds.block ?_
        | refine GS.nil ?_
        | refine Gd.nil ?_
        | (refine Holds.any mixed ?_ ?_; (· kernel_rfl))
        | (refine GS.step (s' := ?_) ?_ ?_ ?_; rotate_left; (· exact rfl); (· (simp [go_sem, List.take_of_length_le, cBox, grammarC] <;> with_reducible rfl)))
        | (refine GS.skip ?_ ?_ ?_; (· exact rfl); (· exact rfl))
        | (refine Gd.go (s' := ?_) ?_ ?_ ?_; rotate_left; (· exact rfl); (· (simp [go_sem, List.take_of_length_le, cBox, grammarC] <;> with_reducible rfl)))
        | (refine Gd.skip ?_ ?_ ?_; (· exact rfl); (· exact rfl))
        | fail
      refine Holds.loop (ι := Nat × (Tab × Bool)) (fun s => ⟨[(1, .im 1 (ints cs)), (2, .im 1 (ints w)), (3, .pb 0 3 0 0), (7, .pb 2 732 0 0), (11, .v (.bool s.2.2)), (47, .im 2 (rules g.2.2)), (48, .v (.int .i64 g.2.2.length)), (49, .v (.int .i64 s.1))], cBox g w cs (boxF s.2.1), 3⟩)
        (fun s => s.1 ≤ g.2.2.length ∧ Swp N n (muO 70000000 N n T) s.2 ∧ ((rulesQ g cs).drop s.1).foldl (fun s q => swI w (n + 1) q s) s.2 = swQ w (n + 1) (rulesQ g cs) (T, false)) (fun s => g.2.2.length - s.1) (0, (T, false)) ⟨Nat.zero_le _, hT.swp, rfl⟩ ?_ ?_
      · exact Cov.ofn (id) rfl (by simp [go_sem, List.take_of_length_le, ren, ren1, okr, okr1, ChkT, ChkN, BlkN, nf, cBox, grammarC]) (by simp [go_sem, List.take_of_length_le, ren, ren1, okr, okr1, ChkT, ChkN, BlkN, nf, cBox, grammarC])
      rintro ⟨k, s⟩ ⟨hk, hsw, hfold⟩
      dsimp only at hk hsw hfold ⊢
      have hgl := hg.len
      have stepk : wr64 ((k : Int) + 1) = ((k + 1 : Nat) : Int) := wr64_id (by omega) (by omega)
      repeat' first
        | (refine Holds.condT ?_ ?_; (· (simp [go_sem, List.take_of_length_le, cBox, grammarC] <;> with_reducible rfl)))
        | (refine Holds.condF ?_ ?_; (· (simp [go_sem, List.take_of_length_le, cBox, grammarC] <;> with_reducible rfl)))
        | refine Holds.seq ?_
        | refine Holds.skip ?_
        | refine Holds.exit ?_
        | refine Holds.ret ?_
        | refine thenA_normal ?_
        | refine thenA_exit ?_
        | refine thenA_ret ?_
        | refine inB_normal ?_
        | refine inB_ret ?_
        | refine inB_here ?_
        | (refine inB_past ?_ ?_; (· exact rfl))
        | refine Holds.reg ?_
        | refine Holds.block ?_
        | refine GS.nil ?_
        | refine Gd.nil ?_
        | (refine Holds.any mixed ?_ ?_; (· kernel_rfl))
        | (refine GS.step (s' := ?_) ?_ ?_ ?_; rotate_left; (· exact rfl); (· (simp [go_sem, List.take_of_length_le, cBox, grammarC] <;> with_reducible rfl)))
        | (refine GS.skip ?_ ?_ ?_; (· exact rfl); (· exact rfl))
        | (refine Gd.go (s' := ?_) ?_ ?_ ?_; rotate_left; (· exact rfl); (· (simp [go_sem, List.take_of_length_le, cBox, grammarC] <;> with_reducible rfl)))
        | (refine Gd.skip ?_ ?_ ?_; (· exact rfl); (· exact rfl))
        | fail
      refine Holds.cond rfl (fun h => ?_) (fun h => ?_)
      · have hkl : k < g.2.2.length := by simp at h; omega
        obtain ⟨ln, right, cn, hr, hc, hq, hqk, hsym⟩ := rulesQ_at hg hcl hck hN hkl
        have hql : k < (rulesQ g cs).length := by rw [rulesQ_len g cs hcl]; exact hkl
        rw [List.drop_eq_getElem_cons hql, List.foldl_cons, (Option.some.inj ((List.getElem?_eq_getElem hql).symm.trans hq))] at hfold
        have hwn : wr64 ((w.length : Int) + 1) = ((n + 1 : Nat) : Int) := by rw [hw]; exact wr64_id (by omega) (by omega)
        repeat' first
          | (refine Holds.condT ?_ ?_; (· (simp [go_sem, List.take_of_length_le, cBox, hr, ruleC, hwn] <;> with_reducible rfl)))
          | (refine Holds.condF ?_ ?_; (· (simp [go_sem, List.take_of_length_le, cBox, hr, ruleC, hwn] <;> with_reducible rfl)))
          | refine Holds.seq ?_
          | refine Holds.skip ?_
          | refine Holds.exit ?_
          | refine Holds.ret ?_
          | refine thenA_normal ?_
          | refine thenA_exit ?_
          | refine thenA_ret ?_
          | refine inB_normal ?_
          | refine inB_ret ?_
          | refine inB_here ?_
          | (refine inB_past ?_ ?_; (· exact rfl))
          | refine Holds.reg ?_
          | refine Holds.block ?_
          | refine GS.nil ?_
          | refine Gd.nil ?_
          | (refine Holds.any mixed ?_ ?_; (· kernel_rfl))
          | (refine GS.step (s' := ?_) ?_ ?_ ?_; rotate_left; (· exact rfl); (· (simp [go_sem, List.take_of_length_le, cBox, hr, ruleC, hwn] <;> with_reducible rfl)))
          | (refine GS.skip ?_ ?_ ?_; (· exact rfl); (· exact rfl))
          | (refine Gd.go (s' := ?_) ?_ ?_ ?_; rotate_left; (· exact rfl); (· (simp [go_sem, List.take_of_length_le, cBox, hr, ruleC, hwn] <;> with_reducible rfl)))
          | (refine Gd.skip ?_ ?_ ?_; (· exact rfl); (· exact rfl))
          | fail
        refine Holds.loop (ι := Nat × (Tab × Bool)) (fun s => ⟨[(1, .im 1 (ints cs)), (2, .im 1 (ints w)), (3, .pb 0 3 0 0), (7, .pb 2 732 0 0), (11, .v (.bool s.2.2)), (12, .v (.int .i64 k)), (13, .pb 3 2 0 0), (47, .im 2 (rules g.2.2)), (48, .v (.int .i64 g.2.2.length)), (49, .v (.int .i64 k)), (56, .v (.int .i64 (n + 1 : Nat))), (57, .v (.int .i64 s.1))],
            (3, ⟨68, 2, [[.v (.int .i64 ln), .im 1 (ints right)]]⟩) :: cBox g w cs (boxF s.2.1), 4⟩)
          (fun u => u.1 ≤ n + 1 ∧ Swp N n (muO 70000000 N n T) u.2 ∧ (List.range' u.1 (n + 1 - u.1)).foldl (fun s i => swJ w (n + 1) (ln, right, cn) i s) u.2 = swI w (n + 1) (ln, right, cn) s) (fun u => n + 1 - u.1) (0, s) ⟨Nat.zero_le _, hsw, rfl⟩ ?_ ?_
        · exact Cov.ofn (id) rfl (by simp [go_sem, List.take_of_length_le, ren, ren1, okr, okr1, ChkT, ChkN, BlkN, nf, cBox, grammarC]) (by simp [go_sem, List.take_of_length_le, ren, ren1, okr, okr1, ChkT, ChkN, BlkN, nf, cBox, grammarC])
        rintro ⟨i, s1⟩ ⟨hi, hsw1, hfold1⟩
        dsimp only at hi hsw1 hfold1 ⊢
        have stepi : wr64 ((i : Int) + 1) = ((i + 1 : Nat) : Int) := wr64_id (by omega) (by omega)
        repeat' first
          | (refine Holds.condT ?_ ?_; (· (simp [go_sem, List.take_of_length_le, cBox] <;> with_reducible rfl)))
          | (refine Holds.condF ?_ ?_; (· (simp [go_sem, List.take_of_length_le, cBox] <;> with_reducible rfl)))
          | refine Holds.seq ?_
          | refine Holds.skip ?_
          | refine Holds.exit ?_
          | refine Holds.ret ?_
          | refine thenA_normal ?_
          | refine thenA_exit ?_
          | refine thenA_ret ?_
          | refine inB_normal ?_
          | refine inB_ret ?_
          | refine inB_here ?_
          | (refine inB_past ?_ ?_; (· exact rfl))
          | refine Holds.reg ?_
          | refine Holds.block ?_
          | refine GS.nil ?_
          | refine Gd.nil ?_
          | (refine Holds.any mixed ?_ ?_; (· kernel_rfl))
          | (refine GS.step (s' := ?_) ?_ ?_ ?_; rotate_left; (· exact rfl); (· (simp [go_sem, List.take_of_length_le, cBox] <;> with_reducible rfl)))
          | (refine GS.skip ?_ ?_ ?_; (· exact rfl); (· exact rfl))
          | (refine Gd.go (s' := ?_) ?_ ?_ ?_; rotate_left; (· exact rfl); (· (simp [go_sem, List.take_of_length_le, cBox] <;> with_reducible rfl)))
          | (refine Gd.skip ?_ ?_ ?_; (· exact rfl); (· exact rfl))
          | fail
        refine Holds.cond rfl (fun h => ?_) (fun h => ?_)
        · have hil : i < n + 1 := by simp at h; omega
          rw [range'_next hil, List.foldl_cons] at hfold1
          repeat' first
            | (refine Holds.condT ?_ ?_; (· (simp [go_sem, List.take_of_length_le, cBox] <;> with_reducible rfl)))
            | (refine Holds.condF ?_ ?_; (· (simp [go_sem, List.take_of_length_le, cBox] <;> with_reducible rfl)))
            | refine Holds.seq ?_
            | refine Holds.skip ?_
            | refine Holds.exit ?_
            | refine Holds.ret ?_
            | refine thenA_normal ?_
            | refine thenA_exit ?_
            | refine thenA_ret ?_
            | refine inB_normal ?_
            | refine inB_ret ?_
            | refine inB_here ?_
            | (refine inB_past ?_ ?_; (· exact rfl))
            | refine Holds.reg ?_
            | refine Holds.block ?_
            | refine GS.nil ?_
            | refine Gd.nil ?_
            | (refine Holds.any mixed ?_ ?_; (· kernel_rfl))
            | (refine GS.step (s' := ?_) ?_ ?_ ?_; rotate_left; (· exact rfl); (· (simp [go_sem, List.take_of_length_le, cBox] <;> with_reducible rfl)))
            | (refine GS.skip ?_ ?_ ?_; (· exact rfl); (· exact rfl))
            | (refine Gd.go (s' := ?_) ?_ ?_ ?_; rotate_left; (· exact rfl); (· (simp [go_sem, List.take_of_length_le, cBox] <;> with_reducible rfl)))
            | (refine Gd.skip ?_ ?_ ?_; (· exact rfl); (· exact rfl))
            | fail
          refine Holds.loop (ι := Nat × (Tab × Bool)) (fun s => ⟨[(1, .im 1 (ints cs)), (2, .im 1 (ints w)), (3, .pb 0 3 0 0), (7, .pb 2 732 0 0), (11, .v (.bool s.2.2)), (12, .v (.int .i64 k)), (13, .pb 3 2 0 0), (14, .v (.int .i64 i)), (15, .v (.int .i64 s.1)), (47, .im 2 (rules g.2.2)), (48, .v (.int .i64 g.2.2.length)), (49, .v (.int .i64 k)), (56, .v (.int .i64 (n + 1 : Nat))), (57, .v (.int .i64 i))],
              (3, ⟨68, 2, [[.v (.int .i64 ln), .im 1 (ints right)]]⟩) :: cBox g w cs (boxF s.2.1), 4⟩)
            (fun u => i ≤ u.1 ∧ u.1 ≤ n + 1 ∧ Swp N n (muO 70000000 N n T) u.2 ∧ (List.range' u.1 (n + 1 - u.1)).foldl (fun s j => st1 w (ln, right, cn) i j s) u.2 = swJ w (n + 1) (ln, right, cn) i s1) (fun u => n + 1 - u.1) (i, s1) ⟨Nat.le_refl _, hi, hsw1, rfl⟩ ?_ ?_
          · exact Cov.ofn (id) rfl (by simp [go_sem, List.take_of_length_le, ren, ren1, okr, okr1, ChkT, ChkN, BlkN, nf, cBox, grammarC]) (by simp [go_sem, List.take_of_length_le, ren, ren1, okr, okr1, ChkT, ChkN, BlkN, nf, cBox, grammarC])
          rintro ⟨j, s2⟩ ⟨hij, hj, hsw2, hfold2⟩
          dsimp only at hij hj hsw2 hfold2 ⊢
          have stepj : wr64 ((j : Int) + 1) = ((j + 1 : Nat) : Int) := wr64_id (by omega) (by omega)
          repeat' first
            | (refine Holds.condT ?_ ?_; (· (simp [go_sem, List.take_of_length_le, cBox] <;> with_reducible rfl)))
            | (refine Holds.condF ?_ ?_; (· (simp [go_sem, List.take_of_length_le, cBox] <;> with_reducible rfl)))
            | refine Holds.seq ?_
            | refine Holds.skip ?_
            | refine Holds.exit ?_
            | refine Holds.ret ?_
            | refine thenA_normal ?_
            | refine thenA_exit ?_
            | refine thenA_ret ?_
            | refine inB_normal ?_
            | refine inB_ret ?_
            | refine inB_here ?_
            | (refine inB_past ?_ ?_; (· exact rfl))
            | refine Holds.reg ?_
            | refine Holds.block ?_
            | refine GS.nil ?_
            | refine Gd.nil ?_
            | (refine Holds.any mixed ?_ ?_; (· kernel_rfl))
            | (refine GS.step (s' := ?_) ?_ ?_ ?_; rotate_left; (· exact rfl); (· (simp [go_sem, List.take_of_length_le, cBox] <;> with_reducible rfl)))
            | (refine GS.skip ?_ ?_ ?_; (· exact rfl); (· exact rfl))
            | (refine Gd.go (s' := ?_) ?_ ?_ ?_; rotate_left; (· exact rfl); (· (simp [go_sem, List.take_of_length_le, cBox] <;> with_reducible rfl)))
            | (refine Gd.skip ?_ ?_ ?_; (· exact rfl); (· exact rfl))
            | fail
          refine Holds.cond rfl (fun h => ?_) (fun h => ?_)
          · have hjl : j ≤ n := by simp at h; omega
            rw [range'_next (show j < n + 1 by omega), List.foldl_cons] at hfold2
            have hnext := hsw2.st1 (w := w) hN6 hn hqk hij hjl
            obtain ⟨T2, b2⟩ := s2
            have hG := hsw2.good
            dsimp only at hG
            have c1 := implRest hG hN6 g w cs hw hn hwk right hqk.2.1 hsym i j hij hjl
            rw [rowI_eq] at c1
            have hbg := costB_get (g := g) (w := w) (cs := cs) (m := .own 1 1 0 0) (boxF_get T2 (A := ln) (i := i) (j := j) (by have := hqk.1; dsimp only at this; omega) (by omega) (by omega))
            rw [← Nat.add_assoc, ← Nat.add_assoc] at hbg
            have hlN : ln < 6 := by have := hqk.1; dsimp only at this; omega
            have hi11 : i < 11 := by omega
            have hj11 : j < 11 := by omega
            have hlt : ln * 121 + i * 11 + j < 726 := by omega
            have hp : 5 + ln * 121 + i * 11 + j ≤ 731 := by omega
            have hlen := costB_len g w cs (boxF T2) (.own 1 1 0 0) (boxF_len T2)
            have htop := rowO_top (w := w) hG hN6 right i j
            have hr4 := hqk.2.1
            have hc1 := hqk.2.2.1
            have hc2 := hqk.2.2.2
            dsimp only at hr4 hc1 hc2
            cases hR : rowO T2 w right i j with
            | none =>
              have hst : st1 w (ln, right, cn) i j (T2, b2) = (T2, b2) := by simp only [st1, hR]
              rw [hst] at hnext hfold2
              rw [hR, encO_none] at c1
              repeat' first
                | (refine Holds.condT ?_ ?_; (· (simp [go_sem, List.take_of_length_le, cBox] <;> with_reducible rfl)))
                | (refine Holds.condF ?_ ?_; (· (simp [go_sem, List.take_of_length_le, cBox] <;> with_reducible rfl)))
                | refine Holds.seq ?_
                | refine Holds.skip ?_
                | refine Holds.exit ?_
                | refine Holds.ret ?_
                | refine thenA_normal ?_
                | refine thenA_exit ?_
                | refine thenA_ret ?_
                | refine inB_normal ?_
                | refine inB_ret ?_
                | refine inB_here ?_
                | (refine inB_past ?_ ?_; (· exact rfl))
                | refine Holds.reg ?_
                | refine Holds.block ?_
                | refine GS.nil ?_
                | refine Gd.nil ?_
                | (refine Holds.any mixed ?_ ?_; (· kernel_rfl))
                | (refine GS.step (s' := ?_) ?_ ?_ ?_; rotate_left; (· exact rfl); (· (simp [go_sem, List.take_of_length_le, cBox] <;> with_reducible rfl)))
                | (refine GS.skip ?_ ?_ ?_; (· exact rfl); (· exact rfl))
                | (refine Gd.go (s' := ?_) ?_ ?_ ?_; rotate_left; (· exact rfl); (· (simp [go_sem, List.take_of_length_le, cBox] <;> with_reducible rfl)))
                | (refine Gd.skip ?_ ?_ ?_; (· exact rfl); (· exact rfl))
                | fail
              first | refine GS.cd (c1) rfl rfl rfl rfl (by simp [go_sem, List.take_of_length_le, cBox] <;> with_reducible rfl) rfl (by exact .cons (Fz.pbP (zs := [.own 1 1 0 0]) rfl rfl rfl (costR_cl g w cs T2)) (.cons (.im _ _) (.cons (.v _) (.cons (.v _) .nil)))) rfl ?_ | refine Gd.cd (c1) rfl rfl rfl rfl (by simp [go_sem, List.take_of_length_le, cBox] <;> with_reducible rfl) rfl (by exact .cons (Fz.pbP (zs := [.own 1 1 0 0]) rfl rfl rfl (costR_cl g w cs T2)) (.cons (.im _ _) (.cons (.v _) (.cons (.v _) .nil)))) rfl ?_
              repeat' first
                | (refine Holds.condT ?_ ?_; (· (simp [go_sem, List.take_of_length_le, cBox, hlN, hi11, hj11, hlt, hp, hlen] <;> with_reducible rfl)))
                | (refine Holds.condF ?_ ?_; (· (simp [go_sem, List.take_of_length_le, cBox, hlN, hi11, hj11, hlt, hp, hlen] <;> with_reducible rfl)))
                | refine Holds.seq ?_
                | refine Holds.skip ?_
                | refine Holds.exit ?_
                | refine Holds.ret ?_
                | refine thenA_normal ?_
                | refine thenA_exit ?_
                | refine thenA_ret ?_
                | refine inB_normal ?_
                | refine inB_ret ?_
                | refine inB_here ?_
                | (refine inB_past ?_ ?_; (· exact rfl))
                | refine Holds.reg ?_
                | refine Holds.block ?_
                | refine GS.nil ?_
                | refine Gd.nil ?_
                | (refine Holds.any mixed ?_ ?_; (· kernel_rfl))
                | (refine GS.step (s' := ?_) ?_ ?_ ?_; rotate_left; (· exact rfl); (· (simp [go_sem, List.take_of_length_le, cBox, hlN, hi11, hj11, hlt, hp, hlen] <;> with_reducible rfl)))
                | (refine GS.skip ?_ ?_ ?_; (· exact rfl); (· exact rfl))
                | (refine Gd.go (s' := ?_) ?_ ?_ ?_; rotate_left; (· exact rfl); (· (simp [go_sem, List.take_of_length_le, cBox, hlN, hi11, hj11, hlt, hp, hlen] <;> with_reducible rfl)))
                | (refine Gd.skip ?_ ?_ ?_; (· exact rfl); (· exact rfl))
                | fail
              refine ⟨(j + 1, (T2, b2)), ⟨by dsimp only; omega, by dsimp only; omega, hnext, hfold2⟩, by dsimp only; omega, ?_⟩
              rw [stepj]
              exact Cov.ofn (id) rfl (by simp [go_sem, List.take_of_length_le, ren, ren1, okr, okr1, ChkT, ChkN, BlkN, nf, cBox, grammarC]) (by simp [go_sem, List.take_of_length_le, ren, ren1, okr, okr1, ChkT, ChkN, BlkN, nf, cBox, grammarC])
            | some v =>
              have hv := htop v (by omega) hR
              have hv1 : (0 : Int) ≤ (v : Int) := by omega
              rw [hR, encO_some] at c1
              obtain ⟨sm, hsm⟩ : ∃ sm, sm = v + cn := ⟨_, rfl⟩
              have hws : wr64 ((v : Int) + (cn : Int)) = (sm : Int) := by rw [show (v : Int) + (cn : Int) = (sm : Int) by rw [hsm]; simp]; exact wr64_id (by omega) (by omega)
              have hset := costB_set (g := g) (w := w) (cs := cs) (vs := boxF T2) (m := .own 1 1 0 0) (p := ln * 121 + i * 11 + j) (sm : Int) (by rw [boxF_len]; exact hlt)
              rw [boxF_put T2 hlN hi11 hj11, ← Nat.add_assoc, ← Nat.add_assoc] at hset
              cases hP : T2 ln i j with
              | none =>
                have hst : st1 w (ln, right, cn) i j (T2, b2) = (putO T2 ln i j (some sm), true) := by simp only [st1, hR, hP, hsm]
                rw [hst] at hnext hfold2
                rw [hP, encO_none] at hbg
                repeat' first
                  | (refine Holds.condT ?_ ?_; (· (simp [go_sem, List.take_of_length_le, cBox] <;> with_reducible rfl)))
                  | (refine Holds.condF ?_ ?_; (· (simp [go_sem, List.take_of_length_le, cBox] <;> with_reducible rfl)))
                  | refine Holds.seq ?_
                  | refine Holds.skip ?_
                  | refine Holds.exit ?_
                  | refine Holds.ret ?_
                  | refine thenA_normal ?_
                  | refine thenA_exit ?_
                  | refine thenA_ret ?_
                  | refine inB_normal ?_
                  | refine inB_ret ?_
                  | refine inB_here ?_
                  | (refine inB_past ?_ ?_; (· exact rfl))
                  | refine Holds.reg ?_
                  | refine Holds.block ?_
                  | refine GS.nil ?_
                  | refine Gd.nil ?_
                  | (refine Holds.any mixed ?_ ?_; (· kernel_rfl))
                  | (refine GS.step (s' := ?_) ?_ ?_ ?_; rotate_left; (· exact rfl); (· (simp [go_sem, List.take_of_length_le, cBox] <;> with_reducible rfl)))
                  | (refine GS.skip ?_ ?_ ?_; (· exact rfl); (· exact rfl))
                  | (refine Gd.go (s' := ?_) ?_ ?_ ?_; rotate_left; (· exact rfl); (· (simp [go_sem, List.take_of_length_le, cBox] <;> with_reducible rfl)))
                  | (refine Gd.skip ?_ ?_ ?_; (· exact rfl); (· exact rfl))
                  | fail
                first | refine GS.cd (c1) rfl rfl rfl rfl (by simp [go_sem, List.take_of_length_le, cBox] <;> with_reducible rfl) rfl (by exact .cons (Fz.pbP (zs := [.own 1 1 0 0]) rfl rfl rfl (costR_cl g w cs T2)) (.cons (.im _ _) (.cons (.v _) (.cons (.v _) .nil)))) rfl ?_ | refine Gd.cd (c1) rfl rfl rfl rfl (by simp [go_sem, List.take_of_length_le, cBox] <;> with_reducible rfl) rfl (by exact .cons (Fz.pbP (zs := [.own 1 1 0 0]) rfl rfl rfl (costR_cl g w cs T2)) (.cons (.im _ _) (.cons (.v _) (.cons (.v _) .nil)))) rfl ?_
                repeat' first
                  | (refine Holds.condT ?_ ?_; (· (simp [go_sem, List.take_of_length_le, cBox, hlN, hi11, hj11, hlt, hp, hlen, hv1, hbg, get_E hbg, hc, hws, hset] <;> with_reducible rfl)))
                  | (refine Holds.condF ?_ ?_; (· (simp [go_sem, List.take_of_length_le, cBox, hlN, hi11, hj11, hlt, hp, hlen, hv1, hbg, get_E hbg, hc, hws, hset] <;> with_reducible rfl)))
                  | refine Holds.seq ?_
                  | refine Holds.skip ?_
                  | refine Holds.exit ?_
                  | refine Holds.ret ?_
                  | refine thenA_normal ?_
                  | refine thenA_exit ?_
                  | refine thenA_ret ?_
                  | refine inB_normal ?_
                  | refine inB_ret ?_
                  | refine inB_here ?_
                  | (refine inB_past ?_ ?_; (· exact rfl))
                  | refine Holds.reg ?_
                  | refine Holds.block ?_
                  | refine GS.nil ?_
                  | refine Gd.nil ?_
                  | (refine Holds.any mixed ?_ ?_; (· kernel_rfl))
                  | (refine GS.step (s' := ?_) ?_ ?_ ?_; rotate_left; (· exact rfl); (· (simp [go_sem, List.take_of_length_le, cBox, hlN, hi11, hj11, hlt, hp, hlen, hv1, hbg, get_E hbg, hc, hws, hset] <;> with_reducible rfl)))
                  | (refine GS.skip ?_ ?_ ?_; (· exact rfl); (· exact rfl))
                  | (refine Gd.go (s' := ?_) ?_ ?_ ?_; rotate_left; (· exact rfl); (· (simp [go_sem, List.take_of_length_le, cBox, hlN, hi11, hj11, hlt, hp, hlen, hv1, hbg, get_E hbg, hc, hws, hset] <;> with_reducible rfl)))
                  | (refine Gd.skip ?_ ?_ ?_; (· exact rfl); (· exact rfl))
                  | fail
                refine ⟨(j + 1, (putO T2 ln i j (some sm), true)), ⟨by dsimp only; omega, by dsimp only; omega, hnext, hfold2⟩, by dsimp only; omega, ?_⟩
                rw [stepj]
                exact Cov.ofn (id) rfl (by simp [go_sem, List.take_of_length_le, ren, ren1, okr, okr1, ChkT, ChkN, BlkN, nf, cBox, grammarC, hset]) (by simp [go_sem, List.take_of_length_le, ren, ren1, okr, okr1, ChkT, ChkN, BlkN, nf, cBox, grammarC, hset])
              | some o =>
                rw [hP, encO_some] at hbg
                have ho0 : ¬ ((o : Int) < 0) := by omega
                by_cases hlo : v + cn < o
                · have hst : st1 w (ln, right, cn) i j (T2, b2) = (putO T2 ln i j (some sm), true) := by simp only [st1, hR, hP, if_pos hlo, hsm]
                  have hl2 : (sm : Int) < (o : Int) := by omega
                  have hl3 : sm < o := by omega
                  rw [hst] at hnext hfold2
                  repeat' first
                    | (refine Holds.condT ?_ ?_; (· (simp [go_sem, List.take_of_length_le, cBox] <;> with_reducible rfl)))
                    | (refine Holds.condF ?_ ?_; (· (simp [go_sem, List.take_of_length_le, cBox] <;> with_reducible rfl)))
                    | refine Holds.seq ?_
                    | refine Holds.skip ?_
                    | refine Holds.exit ?_
                    | refine Holds.ret ?_
                    | refine thenA_normal ?_
                    | refine thenA_exit ?_
                    | refine thenA_ret ?_
                    | refine inB_normal ?_
                    | refine inB_ret ?_
                    | refine inB_here ?_
                    | (refine inB_past ?_ ?_; (· exact rfl))
                    | refine Holds.reg ?_
                    | refine Holds.block ?_
                    | refine GS.nil ?_
                    | refine Gd.nil ?_
                    | (refine Holds.any mixed ?_ ?_; (· kernel_rfl))
                    | (refine GS.step (s' := ?_) ?_ ?_ ?_; rotate_left; (· exact rfl); (· (simp [go_sem, List.take_of_length_le, cBox] <;> with_reducible rfl)))
                    | (refine GS.skip ?_ ?_ ?_; (· exact rfl); (· exact rfl))
                    | (refine Gd.go (s' := ?_) ?_ ?_ ?_; rotate_left; (· exact rfl); (· (simp [go_sem, List.take_of_length_le, cBox] <;> with_reducible rfl)))
                    | (refine Gd.skip ?_ ?_ ?_; (· exact rfl); (· exact rfl))
                    | fail
                  first | refine GS.cd (c1) rfl rfl rfl rfl (by simp [go_sem, List.take_of_length_le, cBox] <;> with_reducible rfl) rfl (by exact .cons (Fz.pbP (zs := [.own 1 1 0 0]) rfl rfl rfl (costR_cl g w cs T2)) (.cons (.im _ _) (.cons (.v _) (.cons (.v _) .nil)))) rfl ?_ | refine Gd.cd (c1) rfl rfl rfl rfl (by simp [go_sem, List.take_of_length_le, cBox] <;> with_reducible rfl) rfl (by exact .cons (Fz.pbP (zs := [.own 1 1 0 0]) rfl rfl rfl (costR_cl g w cs T2)) (.cons (.im _ _) (.cons (.v _) (.cons (.v _) .nil)))) rfl ?_
                  repeat' first
                    | (refine Holds.condT ?_ ?_; (· (simp [go_sem, List.take_of_length_le, cBox, hlN, hi11, hj11, hlt, hp, hlen, hv1, hbg, get_E hbg, hc, hws, hset, ho0, hl2, hl3] <;> with_reducible rfl)))
                    | (refine Holds.condF ?_ ?_; (· (simp [go_sem, List.take_of_length_le, cBox, hlN, hi11, hj11, hlt, hp, hlen, hv1, hbg, get_E hbg, hc, hws, hset, ho0, hl2, hl3] <;> with_reducible rfl)))
                    | refine Holds.seq ?_
                    | refine Holds.skip ?_
                    | refine Holds.exit ?_
                    | refine Holds.ret ?_
                    | refine thenA_normal ?_
                    | refine thenA_exit ?_
                    | refine thenA_ret ?_
                    | refine inB_normal ?_
                    | refine inB_ret ?_
                    | refine inB_here ?_
                    | (refine inB_past ?_ ?_; (· exact rfl))
                    | refine Holds.reg ?_
                    | refine Holds.block ?_
                    | refine GS.nil ?_
                    | refine Gd.nil ?_
                    | (refine Holds.any mixed ?_ ?_; (· kernel_rfl))
                    | (refine GS.step (s' := ?_) ?_ ?_ ?_; rotate_left; (· exact rfl); (· (simp [go_sem, List.take_of_length_le, cBox, hlN, hi11, hj11, hlt, hp, hlen, hv1, hbg, get_E hbg, hc, hws, hset, ho0, hl2, hl3] <;> with_reducible rfl)))
                    | (refine GS.skip ?_ ?_ ?_; (· exact rfl); (· exact rfl))
                    | (refine Gd.go (s' := ?_) ?_ ?_ ?_; rotate_left; (· exact rfl); (· (simp [go_sem, List.take_of_length_le, cBox, hlN, hi11, hj11, hlt, hp, hlen, hv1, hbg, get_E hbg, hc, hws, hset, ho0, hl2, hl3] <;> with_reducible rfl)))
                    | (refine Gd.skip ?_ ?_ ?_; (· exact rfl); (· exact rfl))
                    | fail
                  refine ⟨(j + 1, (putO T2 ln i j (some sm), true)), ⟨by dsimp only; omega, by dsimp only; omega, hnext, hfold2⟩, by dsimp only; omega, ?_⟩
                  rw [stepj]
                  exact Cov.ofn (id) rfl (by simp [go_sem, List.take_of_length_le, ren, ren1, okr, okr1, ChkT, ChkN, BlkN, nf, cBox, grammarC, hset]) (by simp [go_sem, List.take_of_length_le, ren, ren1, okr, okr1, ChkT, ChkN, BlkN, nf, cBox, grammarC, hset])
                · have hst : st1 w (ln, right, cn) i j (T2, b2) = (T2, b2) := by simp only [st1, hR, hP, if_neg hlo]
                  have hl2 : ¬ (sm : Int) < (o : Int) := by omega
                  have hl3 : ¬ sm < o := by omega
                  rw [hst] at hnext hfold2
                  repeat' first
                    | (refine Holds.condT ?_ ?_; (· (simp [go_sem, List.take_of_length_le, cBox] <;> with_reducible rfl)))
                    | (refine Holds.condF ?_ ?_; (· (simp [go_sem, List.take_of_length_le, cBox] <;> with_reducible rfl)))
                    | refine Holds.seq ?_
                    | refine Holds.skip ?_
                    | refine Holds.exit ?_
                    | refine Holds.ret ?_
                    | refine thenA_normal ?_
                    | refine thenA_exit ?_
                    | refine thenA_ret ?_
                    | refine inB_normal ?_
                    | refine inB_ret ?_
                    | refine inB_here ?_
                    | (refine inB_past ?_ ?_; (· exact rfl))
                    | refine Holds.reg ?_
                    | refine Holds.block ?_
                    | refine GS.nil ?_
                    | refine Gd.nil ?_
                    | (refine Holds.any mixed ?_ ?_; (· kernel_rfl))
                    | (refine GS.step (s' := ?_) ?_ ?_ ?_; rotate_left; (· exact rfl); (· (simp [go_sem, List.take_of_length_le, cBox] <;> with_reducible rfl)))
                    | (refine GS.skip ?_ ?_ ?_; (· exact rfl); (· exact rfl))
                    | (refine Gd.go (s' := ?_) ?_ ?_ ?_; rotate_left; (· exact rfl); (· (simp [go_sem, List.take_of_length_le, cBox] <;> with_reducible rfl)))
                    | (refine Gd.skip ?_ ?_ ?_; (· exact rfl); (· exact rfl))
                    | fail
                  first | refine GS.cd (c1) rfl rfl rfl rfl (by simp [go_sem, List.take_of_length_le, cBox] <;> with_reducible rfl) rfl (by exact .cons (Fz.pbP (zs := [.own 1 1 0 0]) rfl rfl rfl (costR_cl g w cs T2)) (.cons (.im _ _) (.cons (.v _) (.cons (.v _) .nil)))) rfl ?_ | refine Gd.cd (c1) rfl rfl rfl rfl (by simp [go_sem, List.take_of_length_le, cBox] <;> with_reducible rfl) rfl (by exact .cons (Fz.pbP (zs := [.own 1 1 0 0]) rfl rfl rfl (costR_cl g w cs T2)) (.cons (.im _ _) (.cons (.v _) (.cons (.v _) .nil)))) rfl ?_
                  repeat' first
                    | (refine Holds.condT ?_ ?_; (· (simp [go_sem, List.take_of_length_le, cBox, hlN, hi11, hj11, hlt, hp, hlen, hv1, hbg, get_E hbg, hc, hws, hset, ho0, hl2, hl3] <;> with_reducible rfl)))
                    | (refine Holds.condF ?_ ?_; (· (simp [go_sem, List.take_of_length_le, cBox, hlN, hi11, hj11, hlt, hp, hlen, hv1, hbg, get_E hbg, hc, hws, hset, ho0, hl2, hl3] <;> with_reducible rfl)))
                    | refine Holds.seq ?_
                    | refine Holds.skip ?_
                    | refine Holds.exit ?_
                    | refine Holds.ret ?_
                    | refine thenA_normal ?_
                    | refine thenA_exit ?_
                    | refine thenA_ret ?_
                    | refine inB_normal ?_
                    | refine inB_ret ?_
                    | refine inB_here ?_
                    | (refine inB_past ?_ ?_; (· exact rfl))
                    | refine Holds.reg ?_
                    | refine Holds.block ?_
                    | refine GS.nil ?_
                    | refine Gd.nil ?_
                    | (refine Holds.any mixed ?_ ?_; (· kernel_rfl))
                    | (refine GS.step (s' := ?_) ?_ ?_ ?_; rotate_left; (· exact rfl); (· (simp [go_sem, List.take_of_length_le, cBox, hlN, hi11, hj11, hlt, hp, hlen, hv1, hbg, get_E hbg, hc, hws, hset, ho0, hl2, hl3] <;> with_reducible rfl)))
                    | (refine GS.skip ?_ ?_ ?_; (· exact rfl); (· exact rfl))
                    | (refine Gd.go (s' := ?_) ?_ ?_ ?_; rotate_left; (· exact rfl); (· (simp [go_sem, List.take_of_length_le, cBox, hlN, hi11, hj11, hlt, hp, hlen, hv1, hbg, get_E hbg, hc, hws, hset, ho0, hl2, hl3] <;> with_reducible rfl)))
                    | (refine Gd.skip ?_ ?_ ?_; (· exact rfl); (· exact rfl))
                    | fail
                  refine ⟨(j + 1, (T2, b2)), ⟨by dsimp only; omega, by dsimp only; omega, hnext, hfold2⟩, by dsimp only; omega, ?_⟩
                  rw [stepj]
                  exact Cov.ofn (id) rfl (by simp [go_sem, List.take_of_length_le, ren, ren1, okr, okr1, ChkT, ChkN, BlkN, nf, cBox, grammarC]) (by simp [go_sem, List.take_of_length_le, ren, ren1, okr, okr1, ChkT, ChkN, BlkN, nf, cBox, grammarC])
          · have hjl : j = n + 1 := by simp at h; omega
            subst hjl
            rw [range'_end, List.foldl_nil] at hfold2
            subst hfold2
            repeat' first
              | (refine Holds.condT ?_ ?_; (· (simp [go_sem, List.take_of_length_le, cBox] <;> with_reducible rfl)))
              | (refine Holds.condF ?_ ?_; (· (simp [go_sem, List.take_of_length_le, cBox] <;> with_reducible rfl)))
              | refine Holds.seq ?_
              | refine Holds.skip ?_
              | refine Holds.exit ?_
              | refine Holds.ret ?_
              | refine thenA_normal ?_
              | refine thenA_exit ?_
              | refine thenA_ret ?_
              | refine inB_normal ?_
              | refine inB_ret ?_
              | refine inB_here ?_
              | (refine inB_past ?_ ?_; (· exact rfl))
              | refine Holds.reg ?_
              | refine Holds.block ?_
              | refine GS.nil ?_
              | refine Gd.nil ?_
              | (refine Holds.any mixed ?_ ?_; (· kernel_rfl))
              | (refine GS.step (s' := ?_) ?_ ?_ ?_; rotate_left; (· exact rfl); (· (simp [go_sem, List.take_of_length_le, cBox] <;> with_reducible rfl)))
              | (refine GS.skip ?_ ?_ ?_; (· exact rfl); (· exact rfl))
              | (refine Gd.go (s' := ?_) ?_ ?_ ?_; rotate_left; (· exact rfl); (· (simp [go_sem, List.take_of_length_le, cBox] <;> with_reducible rfl)))
              | (refine Gd.skip ?_ ?_ ?_; (· exact rfl); (· exact rfl))
              | fail
            refine ⟨(i + 1, swJ w (n + 1) (ln, right, cn) i s1), ⟨by dsimp only; omega, hsw2, hfold1⟩, by dsimp only; omega, ?_⟩
            rw [stepi]
            exact Cov.ofn (id) rfl (by simp [go_sem, List.take_of_length_le, ren, ren1, okr, okr1, ChkT, ChkN, BlkN, nf, cBox, grammarC]) (by simp [go_sem, List.take_of_length_le, ren, ren1, okr, okr1, ChkT, ChkN, BlkN, nf, cBox, grammarC])
        · have hil : i = n + 1 := by simp at h; omega
          subst hil
          rw [range'_end, List.foldl_nil] at hfold1
          subst hfold1
          repeat' first
            | (refine Holds.condT ?_ ?_; (· (simp [go_sem, List.take_of_length_le, cBox] <;> with_reducible rfl)))
            | (refine Holds.condF ?_ ?_; (· (simp [go_sem, List.take_of_length_le, cBox] <;> with_reducible rfl)))
            | refine Holds.seq ?_
            | refine Holds.skip ?_
            | refine Holds.exit ?_
            | refine Holds.ret ?_
            | refine thenA_normal ?_
            | refine thenA_exit ?_
            | refine thenA_ret ?_
            | refine inB_normal ?_
            | refine inB_ret ?_
            | refine inB_here ?_
            | (refine inB_past ?_ ?_; (· exact rfl))
            | refine Holds.reg ?_
            | refine Holds.block ?_
            | refine GS.nil ?_
            | refine Gd.nil ?_
            | (refine Holds.any mixed ?_ ?_; (· kernel_rfl))
            | (refine GS.step (s' := ?_) ?_ ?_ ?_; rotate_left; (· exact rfl); (· (simp [go_sem, List.take_of_length_le, cBox] <;> with_reducible rfl)))
            | (refine GS.skip ?_ ?_ ?_; (· exact rfl); (· exact rfl))
            | (refine Gd.go (s' := ?_) ?_ ?_ ?_; rotate_left; (· exact rfl); (· (simp [go_sem, List.take_of_length_le, cBox] <;> with_reducible rfl)))
            | (refine Gd.skip ?_ ?_ ?_; (· exact rfl); (· exact rfl))
            | fail
          refine ⟨(k + 1, swI w (n + 1) (ln, right, cn) s), ⟨by dsimp only; omega, hsw1, hfold⟩, by dsimp only; omega, ?_⟩
          rw [stepk]
          exact Cov.ofn (id) rfl (by simp [go_sem, List.take_of_length_le, ren, ren1, okr, okr1, ChkT, ChkN, BlkN, nf, cBox, grammarC]) (by simp [go_sem, List.take_of_length_le, ren, ren1, okr, okr1, ChkT, ChkN, BlkN, nf, cBox, grammarC])
      · have hkl : k = g.2.2.length := by simp at h; omega
        subst hkl
        rw [List.drop_eq_nil_of_le (by rw [rulesQ_len g cs hcl]; exact Nat.le_refl _), List.foldl_nil] at hfold
        rw [← hfold] at hend
        repeat' first
          | (refine Holds.condT ?_ ?_; (· (simp [go_sem, List.take_of_length_le, cBox] <;> with_reducible rfl)))
          | (refine Holds.condF ?_ ?_; (· (simp [go_sem, List.take_of_length_le, cBox] <;> with_reducible rfl)))
          | refine Holds.seq ?_
          | refine Holds.skip ?_
          | refine Holds.exit ?_
          | refine Holds.ret ?_
          | refine thenA_normal ?_
          | refine thenA_exit ?_
          | refine thenA_ret ?_
          | refine inB_normal ?_
          | refine inB_ret ?_
          | refine inB_here ?_
          | (refine inB_past ?_ ?_; (· exact rfl))
          | refine Holds.reg ?_
          | refine Holds.block ?_
          | refine GS.nil ?_
          | refine Gd.nil ?_
          | (refine Holds.any mixed ?_ ?_; (· kernel_rfl))
          | (refine GS.step (s' := ?_) ?_ ?_ ?_; rotate_left; (· exact rfl); (· (simp [go_sem, List.take_of_length_le, cBox] <;> with_reducible rfl)))
          | (refine GS.skip ?_ ?_ ?_; (· exact rfl); (· exact rfl))
          | (refine Gd.go (s' := ?_) ?_ ?_ ?_; rotate_left; (· exact rfl); (· (simp [go_sem, List.take_of_length_le, cBox] <;> with_reducible rfl)))
          | (refine Gd.skip ?_ ?_ ?_; (· exact rfl); (· exact rfl))
          | fail
        refine ⟨s, ⟨hsw.good, hend⟩, ?_, ?_⟩
        · have h1 := hsw.le
          have h2 := hsw.lt
          obtain ⟨T1, b1⟩ := s
          dsimp only at h1 h2 ⊢
          generalize muO 70000000 N n T = x at h1 h2 ⊢
          generalize muO 70000000 N n T1 = y at h1 h2 ⊢
          cases b1 with
          | true => have := h2 rfl; simp only [if_true]; omega
          | false => simp only [if_true, Bool.false_eq_true, if_false]; omega
        · exact Cov.ofn (id) rfl (by simp [go_sem, List.take_of_length_le, ren, ren1, okr, okr1, ChkT, ChkN, BlkN, nf, cBox, grammarC]) (by simp [go_sem, List.take_of_length_le, ren, ren1, okr, okr1, ChkT, ChkN, BlkN, nf, cBox, grammarC])
end Go.Proofs.Ytpnpjkkppndhfaa.En
end
