/- Walks of IsWave: the specification's parts. -/
import Derived.Test.YtbapglkldnlckaaWn
import Derived.Test.YtbapglkldnlckaaWi
namespace Go.Proofs.Ytbapglkldnlckaa.En
open Go.RowKit
set_option linter.unusedSimpArgs false
set_option linter.unusedVariables false
set_option maxHeartbeats 4000000
/-- Is one of the numbers n? -/
def hasN (xs : List Int) (n : Int) : Bool := xs.contains n
theorem not_has_take {xs : List Int} {n : Int} (h : ∀ (i : Nat) (x : Int), xs[i]? = some x → x ≠ n) : hasN xs n = false := by
  rw [hasN, List.contains_eq_any_beq, List.any_eq_false]
  intro x hx
  obtain ⟨i, hi⟩ := List.mem_iff_getElem?.1 hx
  have := h i x hi
  simp; exact fun e => this e.symm
theorem has_at {xs : List Int} {n : Int} {i : Nat} (h : xs[i]? = some n) : hasN xs n = true := by
  rw [hasN, List.contains_eq_any_beq, List.any_eq_true]
  exact ⟨n, List.mem_of_getElem? h, by simp⟩
theorem l1Has (xs : List Int) (n : Int) (hx : xs.length < 4611686018427387904) : Pure Try.prog 76 [.im 1 (ints xs), .v (.int .i64 n)] (.v (.bool (hasN xs n))) := by
  refine Pure.mk (rs := [.tmp 4]) (nt := 17) Try.func76 (by kernel_rfl) rfl rfl rfl (by simp) ?_
  simp only [sl]
  repeat' first
    | refine Holds.seq ?_
    | refine Holds.skip ?_
    | refine Holds.exit ?_
    | refine Holds.ret ?_
    | refine thenA_normal ?_
    | refine thenA_exit ?_
    | refine thenA_ret ?_
    | refine inB_normal ?_
    | refine inB_ret ?_
    | refine inB_here ?_
    | (refine inB_past ?_ ?_; (· exact rfl))
    | refine Holds.reg ?_
    | refine Holds.block ?_
    | refine GS.nil ?_
    | (refine GS.step (s' := ?_) ?_ ?_ ?_; rotate_left; (· exact rfl); (· (simp [go_sem, List.take_of_length_le] <;> with_reducible rfl)))
    | (refine GS.skip ?_ ?_ ?_; (· exact rfl); (· exact rfl))
    | fail
  refine Holds.loop (ι := Nat) (fun i => ⟨[(1, .v (.int .i64 n)), (7, .im 1 (ints xs)), (8, .v (.int .i64 xs.length)), (9, .v (.int .i64 i))], [], 0⟩) (fun i => i ≤ xs.length ∧ ∀ j, j < i → ∀ x, xs[j]? = some x → x ≠ n) (fun i => xs.length - i) 0 ⟨Nat.zero_le _, fun j hj => absurd hj (Nat.not_lt_zero j)⟩ ?_ ?_
  · exact Cov.ofn (id) rfl (by simp [go_sem, List.take_of_length_le, ren, ren1, okr, okr1, ChkT, ChkN, BlkN, nf]) (by simp [go_sem, List.take_of_length_le, ren, ren1, okr, okr1, ChkT, ChkN, BlkN, nf])
  rintro i ⟨hi, hno⟩
  repeat' first
    | refine Holds.seq ?_
    | refine Holds.skip ?_
    | refine Holds.exit ?_
    | refine Holds.ret ?_
    | refine thenA_normal ?_
    | refine thenA_exit ?_
    | refine thenA_ret ?_
    | refine inB_normal ?_
    | refine inB_ret ?_
    | refine inB_here ?_
    | (refine inB_past ?_ ?_; (· exact rfl))
    | refine Holds.reg ?_
    | refine Holds.block ?_
    | refine GS.nil ?_
    | (refine GS.step (s' := ?_) ?_ ?_ ?_; rotate_left; (· exact rfl); (· (simp [go_sem, List.take_of_length_le] <;> with_reducible rfl)))
    | (refine GS.skip ?_ ?_ ?_; (· exact rfl); (· exact rfl))
    | fail
  refine Holds.cond rfl (fun hl => ?_) (fun hl => ?_)
  · have hlt : i < xs.length := by simpa using hl
    have hxi : xs[i]? = some xs[i] := List.getElem?_eq_getElem hlt
    repeat' first
      | refine Holds.seq ?_
      | refine Holds.skip ?_
      | refine Holds.exit ?_
      | refine Holds.ret ?_
      | refine thenA_normal ?_
      | refine thenA_exit ?_
      | refine thenA_ret ?_
      | refine inB_normal ?_
      | refine inB_ret ?_
      | refine inB_here ?_
      | (refine inB_past ?_ ?_; (· exact rfl))
      | refine Holds.reg ?_
      | refine Holds.block ?_
      | refine GS.nil ?_
      | (refine GS.step (s' := ?_) ?_ ?_ ?_; rotate_left; (· exact rfl); (· (simp [go_sem, List.take_of_length_le, hxi] <;> with_reducible rfl)))
      | (refine GS.skip ?_ ?_ ?_; (· exact rfl); (· exact rfl))
      | fail
    refine Holds.cond rfl (fun hl => ?_) (fun hl => ?_)
    · have he : xs[i] = n := by simpa using hl
      rw [has_at (hxi.trans (by rw [he]))]
      repeat' first
        | refine Holds.seq ?_
        | refine Holds.skip ?_
        | refine Holds.exit ?_
        | refine Holds.ret ?_
        | refine thenA_normal ?_
        | refine thenA_exit ?_
        | refine thenA_ret ?_
        | refine inB_normal ?_
        | refine inB_ret ?_
        | refine inB_here ?_
        | (refine inB_past ?_ ?_; (· exact rfl))
        | refine Holds.reg ?_
        | refine Holds.block ?_
        | refine GS.nil ?_
        | (refine GS.step (s' := ?_) ?_ ?_ ?_; rotate_left; (· exact rfl); (· (simp [go_sem, List.take_of_length_le] <;> with_reducible rfl)))
        | (refine GS.skip ?_ ?_ ?_; (· exact rfl); (· exact rfl))
        | fail
      refine Out.mk (xs := ?_) ?_ ?_ (by first | exact .inr rfl | exact .inl rfl)
      rotate_left
      · simp [go_sem, List.take_of_length_le] <;> with_reducible rfl
      exact .v _
    · have he : xs[i] ≠ n := by simpa using hl
      repeat' first
        | refine Holds.seq ?_
        | refine Holds.skip ?_
        | refine Holds.exit ?_
        | refine Holds.ret ?_
        | refine thenA_normal ?_
        | refine thenA_exit ?_
        | refine thenA_ret ?_
        | refine inB_normal ?_
        | refine inB_ret ?_
        | refine inB_here ?_
        | (refine inB_past ?_ ?_; (· exact rfl))
        | refine Holds.reg ?_
        | refine Holds.block ?_
        | refine GS.nil ?_
        | (refine GS.step (s' := ?_) ?_ ?_ ?_; rotate_left; (· exact rfl); (· (simp [go_sem, List.take_of_length_le] <;> with_reducible rfl)))
        | (refine GS.skip ?_ ?_ ?_; (· exact rfl); (· exact rfl))
        | fail
      refine ⟨i + 1, ⟨by omega, fun j hj x hxj => ?_⟩, by omega, ?_⟩
      · by_cases e : j = i
        · subst e; rw [hxi] at hxj; cases hxj; exact he
        · exact hno j (by omega) x hxj
      rw [wr64_id (by omega) (by omega)]
      exact Cov.ofn (id) rfl (by simp [go_sem, List.take_of_length_le, ren, ren1, okr, okr1, ChkT, ChkN, BlkN, nf]) (by simp [go_sem, List.take_of_length_le, ren, ren1, okr, okr1, ChkT, ChkN, BlkN, nf])
  · have hle : i = xs.length := by
      have : ¬ i < xs.length := by simpa using hl
      omega
    rw [not_has_take (n := n) fun j x hj => hno j (by have := (List.getElem?_eq_some_iff.1 hj).1; omega) x hj]
    repeat' first
      | refine Holds.seq ?_
      | refine Holds.skip ?_
      | refine Holds.exit ?_
      | refine Holds.ret ?_
      | refine thenA_normal ?_
      | refine thenA_exit ?_
      | refine thenA_ret ?_
      | refine inB_normal ?_
      | refine inB_ret ?_
      | refine inB_here ?_
      | (refine inB_past ?_ ?_; (· exact rfl))
      | refine Holds.reg ?_
      | refine Holds.block ?_
      | refine GS.nil ?_
      | (refine GS.step (s' := ?_) ?_ ?_ ?_; rotate_left; (· exact rfl); (· (simp [go_sem, List.take_of_length_le] <;> with_reducible rfl)))
      | (refine GS.skip ?_ ?_ ?_; (· exact rfl); (· exact rfl))
      | fail
    refine Out.mk (xs := ?_) ?_ ?_ (by first | exact .inr rfl | exact .inl rfl)
    rotate_left
    · simp [go_sem, List.take_of_length_le] <;> with_reducible rfl
    exact .v _
theorem l8Hands (n m : Int) : Pure Try.prog 74 [.v (.int .i64 n), .v (.int .i64 m)] (.v (.bool (inR n 0 10 && inR m 1 4))) := by
  refine Pure.mk (rs := [.tmp 4]) (nt := 11) Try.func74 (by kernel_rfl) rfl rfl rfl (by simp) ?_
  simp only [sl]
  repeat' first
    | refine Holds.seq ?_
    | refine Holds.skip ?_
    | refine Holds.exit ?_
    | refine Holds.ret ?_
    | refine thenA_normal ?_
    | refine thenA_exit ?_
    | refine thenA_ret ?_
    | refine inB_normal ?_
    | refine inB_ret ?_
    | refine inB_here ?_
    | (refine inB_past ?_ ?_; (· exact rfl))
    | refine Holds.reg ?_
    | refine Holds.block ?_
    | refine GS.nil ?_
    | (refine GS.step (s' := ?_) ?_ ?_ ?_; rotate_left; (· exact rfl); (· (simp [go_sem, List.take_of_length_le] <;> with_reducible rfl)))
    | (refine GS.skip ?_ ?_ ?_; (· exact rfl); (· exact rfl))
    | fail
  refine GS.cc (l1In n 0 10) rfl rfl rfl rfl (by simp [go_sem, List.take_of_length_le] <;> with_reducible rfl) rfl (by simp [go_sem, List.take_of_length_le]) ?_
  repeat' first
    | refine Holds.seq ?_
    | refine Holds.skip ?_
    | refine Holds.exit ?_
    | refine Holds.ret ?_
    | refine thenA_normal ?_
    | refine thenA_exit ?_
    | refine thenA_ret ?_
    | refine inB_normal ?_
    | refine inB_ret ?_
    | refine inB_here ?_
    | (refine inB_past ?_ ?_; (· exact rfl))
    | refine Holds.reg ?_
    | refine Holds.block ?_
    | refine GS.nil ?_
    | (refine GS.step (s' := ?_) ?_ ?_ ?_; rotate_left; (· exact rfl); (· (simp [go_sem, List.take_of_length_le] <;> with_reducible rfl)))
    | (refine GS.skip ?_ ?_ ?_; (· exact rfl); (· exact rfl))
    | fail
  refine GS.guard (t := 7) rfl (fun h => ?_) (fun h => ?_)
  · repeat' first
      | refine Holds.seq ?_
      | refine Holds.skip ?_
      | refine Holds.exit ?_
      | refine Holds.ret ?_
      | refine thenA_normal ?_
      | refine thenA_exit ?_
      | refine thenA_ret ?_
      | refine inB_normal ?_
      | refine inB_ret ?_
      | refine inB_here ?_
      | (refine inB_past ?_ ?_; (· exact rfl))
      | refine Holds.reg ?_
      | refine Holds.block ?_
      | refine GS.nil ?_
      | (refine GS.step (s' := ?_) ?_ ?_ ?_; rotate_left; (· exact rfl); (· (simp [go_sem, List.take_of_length_le] <;> with_reducible rfl)))
      | (refine GS.skip ?_ ?_ ?_; (· exact rfl); (· exact rfl))
      | fail
    refine GS.cc (l1In m 1 4) rfl rfl rfl rfl (by simp [go_sem, List.take_of_length_le] <;> with_reducible rfl) rfl (by simp [go_sem, List.take_of_length_le]) ?_
    repeat' first
      | refine Holds.seq ?_
      | refine Holds.skip ?_
      | refine Holds.exit ?_
      | refine Holds.ret ?_
      | refine thenA_normal ?_
      | refine thenA_exit ?_
      | refine thenA_ret ?_
      | refine inB_normal ?_
      | refine inB_ret ?_
      | refine inB_here ?_
      | (refine inB_past ?_ ?_; (· exact rfl))
      | refine Holds.reg ?_
      | refine Holds.block ?_
      | refine GS.nil ?_
      | (refine GS.step (s' := ?_) ?_ ?_ ?_; rotate_left; (· exact rfl); (· (simp [go_sem, List.take_of_length_le] <;> with_reducible rfl)))
      | (refine GS.skip ?_ ?_ ?_; (· exact rfl); (· exact rfl))
      | fail
    rw [h]
    refine Out.mk (xs := ?_) ?_ ?_ (by first | exact .inr rfl | exact .inl rfl)
    rotate_left
    · simp [go_sem, List.take_of_length_le] <;> with_reducible rfl
    exact .v _
  · repeat' first
      | refine Holds.seq ?_
      | refine Holds.skip ?_
      | refine Holds.exit ?_
      | refine Holds.ret ?_
      | refine thenA_normal ?_
      | refine thenA_exit ?_
      | refine thenA_ret ?_
      | refine inB_normal ?_
      | refine inB_ret ?_
      | refine inB_here ?_
      | (refine inB_past ?_ ?_; (· exact rfl))
      | refine Holds.reg ?_
      | refine Holds.block ?_
      | refine GS.nil ?_
      | (refine GS.step (s' := ?_) ?_ ?_ ?_; rotate_left; (· exact rfl); (· (simp [go_sem, List.take_of_length_le] <;> with_reducible rfl)))
      | (refine GS.skip ?_ ?_ ?_; (· exact rfl); (· exact rfl))
      | fail
    rw [h]
    refine Out.mk (xs := ?_) ?_ ?_ (by first | exact .inr rfl | exact .inl rfl)
    rotate_left
    · simp [go_sem, List.take_of_length_le] <;> with_reducible rfl
    exact .v _
/-- A hand's part for a length: how many, which. -/
def cntP (n H h long : Nat) : Nat := if h + long ≤ n then (n - long - h) / H + 1 else 0
theorem cntP_lt {n H h long : Nat} (hH : 0 < H) (i : Nat) : i < cntP n H h long ↔ h + i * H + long ≤ n := by
  unfold cntP
  split
  · rw [Nat.lt_succ_iff, Nat.le_div_iff_mul_le hH]
    omega
  · constructor
    · intro h; omega
    · intro h; have := Nat.zero_le (i * H); omega
theorem cntP_le {n H h long : Nat} (hH : 0 < H) : cntP n H h long ≤ n + 1 := by
  rcases Nat.lt_or_ge (n + 1) (cntP n H h long) with g | g
  · have := (cntP_lt hH (n + 1)).1 g
    have h2 : n + 1 ≤ (n + 1) * H := Nat.le_mul_of_pos_right _ hH
    omega
  · exact g
def partF (H h : Nat) : Nat → Int := fun i => (h : Int) + (i : Int) * (H : Int)
def partP (n H h long : Nat) : List Int := upTo (partF H h) (cntP n H h long)
theorem l8Part (n H h long : Nat) (hn : n ≤ 10) (hH : 0 < H) (hH4 : H ≤ 4) (hh : h < H) (hl : long ≤ 1000) : Pure Try.prog 129 [.v (.int .i64 n), .v (.int .i64 H), .v (.int .i64 h), .v (.int .i64 long)] (.im 1 (ints (partP n H h long))) := by
  refine Pure.mk (rs := [.tmp 8]) (nt := 25) Try.func129 (by kernel_rfl) rfl rfl rfl (by simp) ?_
  simp only [sl]
  repeat' first
    | refine Holds.seq ?_
    | refine Holds.skip ?_
    | refine Holds.exit ?_
    | refine Holds.ret ?_
    | refine thenA_normal ?_
    | refine thenA_exit ?_
    | refine thenA_ret ?_
    | refine inB_normal ?_
    | refine inB_ret ?_
    | refine inB_here ?_
    | (refine inB_past ?_ ?_; (· exact rfl))
    | refine Holds.reg ?_
    | refine Holds.block ?_
    | refine GS.nil ?_
    | (refine GS.step (s' := ?_) ?_ ?_ ?_; rotate_left; (· exact rfl); (· (simp [go_sem, List.take_of_length_le] <;> with_reducible rfl)))
    | (refine GS.skip ?_ ?_ ?_; (· exact rfl); (· exact rfl))
    | fail
  refine Holds.niw 9 3 1 rfl ?_
  refine Holds.loop (ι := Nat) (fun i => ⟨[(0, .v (.int .i64 n)), (1, .v (.int .i64 H)), (3, .v (.int .i64 long)), (9, .own 0 1 0 i), (10, .v (.int .i64 ((h : Int) + (i : Int) * (H : Int))))], [(0, ⟨3, 1, ints (upTo (partF H h) i)⟩)], 1⟩) (fun i => i ≤ cntP n H h long) (fun i => cntP n H h long - i) 0 (Nat.zero_le _) ?_ ?_
  · exact Cov.ofn (id) rfl (by simp [go_sem, List.take_of_length_le, ren, ren1, okr, okr1, ChkT, ChkN, BlkN, nf]) (by simp [go_sem, List.take_of_length_le, ren, ren1, okr, okr1, ChkT, ChkN, BlkN, nf])
  intro i hi
  have hic : i ≤ 11 := Nat.le_trans hi (Nat.le_trans (cntP_le hH) (by omega))
  have hiH : i * H ≤ 44 := Nat.le_trans (Nat.mul_le_mul hic hH4) (by omega)
  have hm : (i : Int) * (H : Int) = ((i * H : Nat) : Int) := by simp
  have hw : wr64 ((h : Int) + (i : Int) * (H : Int) + long) = (h : Int) + (i : Int) * (H : Int) + long := by rw [wr64_id (by omega) (by omega)]
  repeat' first
    | refine Holds.seq ?_
    | refine Holds.skip ?_
    | refine Holds.exit ?_
    | refine Holds.ret ?_
    | refine thenA_normal ?_
    | refine thenA_exit ?_
    | refine thenA_ret ?_
    | refine inB_normal ?_
    | refine inB_ret ?_
    | refine inB_here ?_
    | (refine inB_past ?_ ?_; (· exact rfl))
    | refine Holds.reg ?_
    | refine Holds.block ?_
    | refine GS.nil ?_
    | (refine GS.step (s' := ?_) ?_ ?_ ?_; rotate_left; (· exact rfl); (· (simp [go_sem, List.take_of_length_le, hw] <;> with_reducible rfl)))
    | (refine GS.skip ?_ ?_ ?_; (· exact rfl); (· exact rfl))
    | fail
  refine Holds.cond rfl (fun hc => ?_) (fun hc => ?_)
  · have hc' : h + i * H + long ≤ n := by
      have : (h : Int) + (i : Int) * (H : Int) + long ≤ (n : Int) := by simpa [hw] using hc
      omega
    have hlt : i < cntP n H h long := (cntP_lt hH i).2 hc'
    have e : (h : Int) + (i : Int) * (H : Int) + (H : Int) = (h : Int) + ((i + 1 : Nat) : Int) * (H : Int) := by rw [Int.natCast_add, Int.add_mul]; omega
    have hs := upTo_snoc (partF H h) i
    simp only [partF] at hs
    repeat' first
      | refine Holds.seq ?_
      | refine Holds.skip ?_
      | refine Holds.exit ?_
      | refine Holds.ret ?_
      | refine thenA_normal ?_
      | refine thenA_exit ?_
      | refine thenA_ret ?_
      | refine inB_normal ?_
      | refine inB_ret ?_
      | refine inB_here ?_
      | (refine inB_past ?_ ?_; (· exact rfl))
      | refine Holds.reg ?_
      | refine Holds.block ?_
      | refine GS.nil ?_
      | (refine GS.step (s' := ?_) ?_ ?_ ?_; rotate_left; (· exact rfl); (· (simp [go_sem, List.take_of_length_le, show (i + 1) * 8 ≤ 140737488355328 by omega] <;> with_reducible rfl)))
      | (refine GS.skip ?_ ?_ ?_; (· exact rfl); (· exact rfl))
      | fail
    refine ⟨i + 1, hlt, by omega, ?_⟩
    rw [wr64_id (by omega) (by omega), e]
    exact Cov.ofn (nm [3]) rfl (by simp [go_sem, List.take_of_length_le, ren, ren1, okr, okr1, ChkT, ChkN, BlkN, nf, partF, hs]) (by simp [go_sem, List.take_of_length_le, ren, ren1, okr, okr1, ChkT, ChkN, BlkN, nf, partF, hs])
  · have hc' : ¬ h + i * H + long ≤ n := by
      have : ¬ (h : Int) + (i : Int) * (H : Int) + long ≤ (n : Int) := by simpa [hw] using hc
      omega
    have hle : i = cntP n H h long := by
      have := (cntP_lt (h := h) (long := long) (n := n) hH i)
      omega
    subst hle
    repeat' first
      | refine Holds.seq ?_
      | refine Holds.skip ?_
      | refine Holds.exit ?_
      | refine Holds.ret ?_
      | refine thenA_normal ?_
      | refine thenA_exit ?_
      | refine thenA_ret ?_
      | refine inB_normal ?_
      | refine inB_ret ?_
      | refine inB_here ?_
      | (refine inB_past ?_ ?_; (· exact rfl))
      | refine Holds.reg ?_
      | refine Holds.block ?_
      | refine GS.nil ?_
      | (refine GS.step (s' := ?_) ?_ ?_ ?_; rotate_left; (· exact rfl); (· (simp [go_sem, List.take_of_length_le] <;> with_reducible rfl)))
      | (refine GS.skip ?_ ?_ ?_; (· exact rfl); (· exact rfl))
      | fail
    refine Out.mk (xs := ?_) ?_ ?_ (by first | exact .inr rfl | exact .inl rfl)
    rotate_left
    · simp [go_sem, List.take_of_length_le] <;> with_reducible rfl
    exact Fz.all rfl rfl (by simp) rfl (ints_cl _)
end Go.Proofs.Ytbapglkldnlckaa.En
