/- Walks of GoodMachine: slices.Compare; the specification. -/
import Derived.Test.YtbapglkldnlckaaWj
namespace Go.Proofs.Ytbapglkldnlckaa.En
open Go.RowKit
set_option linter.unusedSimpArgs false
set_option linter.unusedVariables false
set_option maxHeartbeats 8000000
theorem compareInts (xs ys : List Int) (hx : xs.length < 4611686018427387904) : Pure Try.prog 134 [.im 1 (ints xs), .im 1 (ints ys)] (.v (.int .i64 (cmpL xs ys))) := by
  refine Pure.mk (rs := [.tmp 4]) (nt := 36) Try.func134 (by kernel_rfl) rfl rfl rfl (by simp) ?_
  simp only [sl]
  repeat' first
    | refine Holds.seq ?_
    | refine Holds.skip ?_
    | refine Holds.exit ?_
    | refine Holds.ret ?_
    | refine thenA_normal ?_
    | refine thenA_exit ?_
    | refine thenA_ret ?_
    | refine inB_normal ?_
    | refine inB_ret ?_
    | refine inB_here ?_
    | (refine inB_past ?_ ?_; (· exact rfl))
    | refine Holds.reg ?_
    | refine Holds.block ?_
    | refine GS.nil ?_
    | refine Gd.nil ?_
    | (refine Holds.any mixed ?_ ?_; (· kernel_rfl))
    | (refine GS.step (s' := ?_) ?_ ?_ ?_; rotate_left; (· exact rfl); (· (simp [go_sem] <;> with_reducible rfl)))
    | (refine GS.skip ?_ ?_ ?_; (· exact rfl); (· exact rfl))
    | (refine Gd.go (s' := ?_) ?_ ?_ ?_; rotate_left; (· exact rfl); (· (simp [go_sem] <;> with_reducible rfl)))
    | (refine Gd.skip ?_ ?_ ?_; (· exact rfl); (· exact rfl))
    | fail
  refine Holds.loop (ι := Nat) (fun i => ⟨[(0, .im 1 (ints xs)), (1, .im 1 (ints ys)), (9, .im 1 (ints xs)), (10, .v (.int .i64 xs.length)), (11, .v (.int .i64 i))], [], 0⟩) (fun i => i ≤ xs.length ∧ i ≤ ys.length ∧ cmpL (xs.drop i) (ys.drop i) = cmpL xs ys) (fun i => xs.length - i) 0 ⟨Nat.zero_le _, Nat.zero_le _, rfl⟩ ?_ ?_
  · exact Cov.of id (by simp [ChkT, okr, okr1, lk, ren, ren1]) (by simp [ChkB])
  rintro i ⟨hi, hiy, hc⟩
  repeat' first
    | refine Holds.seq ?_
    | refine Holds.skip ?_
    | refine Holds.exit ?_
    | refine Holds.ret ?_
    | refine thenA_normal ?_
    | refine thenA_exit ?_
    | refine thenA_ret ?_
    | refine inB_normal ?_
    | refine inB_ret ?_
    | refine inB_here ?_
    | (refine inB_past ?_ ?_; (· exact rfl))
    | refine Holds.reg ?_
    | refine Holds.block ?_
    | refine GS.nil ?_
    | refine Gd.nil ?_
    | (refine Holds.any mixed ?_ ?_; (· kernel_rfl))
    | (refine GS.step (s' := ?_) ?_ ?_ ?_; rotate_left; (· exact rfl); (· (simp [go_sem] <;> with_reducible rfl)))
    | (refine GS.skip ?_ ?_ ?_; (· exact rfl); (· exact rfl))
    | (refine Gd.go (s' := ?_) ?_ ?_ ?_; rotate_left; (· exact rfl); (· (simp [go_sem] <;> with_reducible rfl)))
    | (refine Gd.skip ?_ ?_ ?_; (· exact rfl); (· exact rfl))
    | fail
  refine Holds.cond rfl (fun hl => ?_) (fun hl => ?_)
  · have hlt : i < xs.length := by simpa using hl
    have hxi : xs[i]? = some xs[i] := List.getElem?_eq_getElem hlt
    repeat' first
      | refine Holds.seq ?_
      | refine Holds.skip ?_
      | refine Holds.exit ?_
      | refine Holds.ret ?_
      | refine thenA_normal ?_
      | refine thenA_exit ?_
      | refine thenA_ret ?_
      | refine inB_normal ?_
      | refine inB_ret ?_
      | refine inB_here ?_
      | (refine inB_past ?_ ?_; (· exact rfl))
      | refine Holds.reg ?_
      | refine Holds.block ?_
      | refine GS.nil ?_
      | refine Gd.nil ?_
      | (refine Holds.any mixed ?_ ?_; (· kernel_rfl))
      | (refine GS.step (s' := ?_) ?_ ?_ ?_; rotate_left; (· exact rfl); (· (simp [go_sem, hxi] <;> with_reducible rfl)))
      | (refine GS.skip ?_ ?_ ?_; (· exact rfl); (· exact rfl))
      | (refine Gd.go (s' := ?_) ?_ ?_ ?_; rotate_left; (· exact rfl); (· (simp [go_sem, hxi] <;> with_reducible rfl)))
      | (refine Gd.skip ?_ ?_ ?_; (· exact rfl); (· exact rfl))
      | fail
    refine Holds.cond rfl (fun h => ?_) (fun h => ?_)
    · have h : ys.length ≤ i := by simpa using h
      rw [List.drop_eq_getElem_cons hlt, List.drop_eq_nil_of_le h, cmpL] at hc
      rw [← hc]
      repeat' first
        | refine Holds.seq ?_
        | refine Holds.skip ?_
        | refine Holds.exit ?_
        | refine Holds.ret ?_
        | refine thenA_normal ?_
        | refine thenA_exit ?_
        | refine thenA_ret ?_
        | refine inB_normal ?_
        | refine inB_ret ?_
        | refine inB_here ?_
        | (refine inB_past ?_ ?_; (· exact rfl))
        | refine Holds.reg ?_
        | refine Holds.block ?_
        | refine GS.nil ?_
        | refine Gd.nil ?_
        | (refine Holds.any mixed ?_ ?_; (· kernel_rfl))
        | (refine GS.step (s' := ?_) ?_ ?_ ?_; rotate_left; (· exact rfl); (· (simp [go_sem] <;> with_reducible rfl)))
        | (refine GS.skip ?_ ?_ ?_; (· exact rfl); (· exact rfl))
        | (refine Gd.go (s' := ?_) ?_ ?_ ?_; rotate_left; (· exact rfl); (· (simp [go_sem] <;> with_reducible rfl)))
        | (refine Gd.skip ?_ ?_ ?_; (· exact rfl); (· exact rfl))
        | fail
      refine Out.mk (xs := ?_) ?_ ?_ (.inr rfl)
      rotate_left
      · simp [go_sem] <;> with_reducible rfl
      exact .v _
    have hly : i < ys.length := by
      have : ¬ ys.length ≤ i := by simpa using h
      omega
    have hyi : ys[i]? = some ys[i] := List.getElem?_eq_getElem hly
    rw [List.drop_eq_getElem_cons hlt, List.drop_eq_getElem_cons hly, cmpL] at hc
    repeat' first
      | refine Holds.seq ?_
      | refine Holds.skip ?_
      | refine Holds.exit ?_
      | refine Holds.ret ?_
      | refine thenA_normal ?_
      | refine thenA_exit ?_
      | refine thenA_ret ?_
      | refine inB_normal ?_
      | refine inB_ret ?_
      | refine inB_here ?_
      | (refine inB_past ?_ ?_; (· exact rfl))
      | refine Holds.reg ?_
      | refine Holds.block ?_
      | refine GS.nil ?_
      | refine Gd.nil ?_
      | (refine Holds.any mixed ?_ ?_; (· kernel_rfl))
      | (refine GS.step (s' := ?_) ?_ ?_ ?_; rotate_left; (· exact rfl); (· (simp [go_sem, hyi] <;> with_reducible rfl)))
      | (refine GS.skip ?_ ?_ ?_; (· exact rfl); (· exact rfl))
      | (refine Gd.go (s' := ?_) ?_ ?_ ?_; rotate_left; (· exact rfl); (· (simp [go_sem, hyi] <;> with_reducible rfl)))
      | (refine Gd.skip ?_ ?_ ?_; (· exact rfl); (· exact rfl))
      | fail
    first | refine GS.cc (cmpInt xs[i] ys[i]) rfl rfl rfl rfl (by simp [go_sem] <;> with_reducible rfl) rfl (by simp [go_sem]) ?_ | refine Gd.cc (cmpInt xs[i] ys[i]) rfl rfl rfl rfl (by simp [go_sem] <;> with_reducible rfl) rfl (by simp [go_sem]) ?_
    repeat' first
      | refine Holds.seq ?_
      | refine Holds.skip ?_
      | refine Holds.exit ?_
      | refine Holds.ret ?_
      | refine thenA_normal ?_
      | refine thenA_exit ?_
      | refine thenA_ret ?_
      | refine inB_normal ?_
      | refine inB_ret ?_
      | refine inB_here ?_
      | (refine inB_past ?_ ?_; (· exact rfl))
      | refine Holds.reg ?_
      | refine Holds.block ?_
      | refine GS.nil ?_
      | refine Gd.nil ?_
      | (refine Holds.any mixed ?_ ?_; (· kernel_rfl))
      | (refine GS.step (s' := ?_) ?_ ?_ ?_; rotate_left; (· exact rfl); (· (simp [go_sem] <;> with_reducible rfl)))
      | (refine GS.skip ?_ ?_ ?_; (· exact rfl); (· exact rfl))
      | (refine Gd.go (s' := ?_) ?_ ?_ ?_; rotate_left; (· exact rfl); (· (simp [go_sem] <;> with_reducible rfl)))
      | (refine Gd.skip ?_ ?_ ?_; (· exact rfl); (· exact rfl))
      | fail
    refine Holds.cond rfl (fun h => ?_) (fun h => ?_)
    · have h : cmp1 xs[i] ys[i] ≠ 0 := by simpa using h
      rw [if_pos h] at hc
      rw [← hc]
      repeat' first
        | refine Holds.seq ?_
        | refine Holds.skip ?_
        | refine Holds.exit ?_
        | refine Holds.ret ?_
        | refine thenA_normal ?_
        | refine thenA_exit ?_
        | refine thenA_ret ?_
        | refine inB_normal ?_
        | refine inB_ret ?_
        | refine inB_here ?_
        | (refine inB_past ?_ ?_; (· exact rfl))
        | refine Holds.reg ?_
        | refine Holds.block ?_
        | refine GS.nil ?_
        | refine Gd.nil ?_
        | (refine Holds.any mixed ?_ ?_; (· kernel_rfl))
        | (refine GS.step (s' := ?_) ?_ ?_ ?_; rotate_left; (· exact rfl); (· (simp [go_sem] <;> with_reducible rfl)))
        | (refine GS.skip ?_ ?_ ?_; (· exact rfl); (· exact rfl))
        | (refine Gd.go (s' := ?_) ?_ ?_ ?_; rotate_left; (· exact rfl); (· (simp [go_sem] <;> with_reducible rfl)))
        | (refine Gd.skip ?_ ?_ ?_; (· exact rfl); (· exact rfl))
        | fail
      refine Out.mk (xs := ?_) ?_ ?_ (.inr rfl)
      rotate_left
      · simp [go_sem] <;> with_reducible rfl
      exact .v _
    · have h : ¬ cmp1 xs[i] ys[i] ≠ 0 := by simpa using h
      rw [if_neg h] at hc
      repeat' first
        | refine Holds.seq ?_
        | refine Holds.skip ?_
        | refine Holds.exit ?_
        | refine Holds.ret ?_
        | refine thenA_normal ?_
        | refine thenA_exit ?_
        | refine thenA_ret ?_
        | refine inB_normal ?_
        | refine inB_ret ?_
        | refine inB_here ?_
        | (refine inB_past ?_ ?_; (· exact rfl))
        | refine Holds.reg ?_
        | refine Holds.block ?_
        | refine GS.nil ?_
        | refine Gd.nil ?_
        | (refine Holds.any mixed ?_ ?_; (· kernel_rfl))
        | (refine GS.step (s' := ?_) ?_ ?_ ?_; rotate_left; (· exact rfl); (· (simp [go_sem] <;> with_reducible rfl)))
        | (refine GS.skip ?_ ?_ ?_; (· exact rfl); (· exact rfl))
        | (refine Gd.go (s' := ?_) ?_ ?_ ?_; rotate_left; (· exact rfl); (· (simp [go_sem] <;> with_reducible rfl)))
        | (refine Gd.skip ?_ ?_ ?_; (· exact rfl); (· exact rfl))
        | fail
      refine ⟨i + 1, ⟨by omega, by omega, hc⟩, by omega, ?_⟩
      rw [wr64_id (by omega) (by omega)]
      exact Cov.of id (by simp [ChkT, okr, okr1, lk, ren, ren1]) (by simp [ChkB])
  · have hle : i = xs.length := by
      have : ¬ i < xs.length := by simpa using hl
      omega
    subst hle
    rw [List.drop_length] at hc
    repeat' first
      | refine Holds.seq ?_
      | refine Holds.skip ?_
      | refine Holds.exit ?_
      | refine Holds.ret ?_
      | refine thenA_normal ?_
      | refine thenA_exit ?_
      | refine thenA_ret ?_
      | refine inB_normal ?_
      | refine inB_ret ?_
      | refine inB_here ?_
      | (refine inB_past ?_ ?_; (· exact rfl))
      | refine Holds.reg ?_
      | refine Holds.block ?_
      | refine GS.nil ?_
      | refine Gd.nil ?_
      | (refine Holds.any mixed ?_ ?_; (· kernel_rfl))
      | (refine GS.step (s' := ?_) ?_ ?_ ?_; rotate_left; (· exact rfl); (· (simp [go_sem] <;> with_reducible rfl)))
      | (refine GS.skip ?_ ?_ ?_; (· exact rfl); (· exact rfl))
      | (refine Gd.go (s' := ?_) ?_ ?_ ?_; rotate_left; (· exact rfl); (· (simp [go_sem] <;> with_reducible rfl)))
      | (refine Gd.skip ?_ ?_ ?_; (· exact rfl); (· exact rfl))
      | fail
    refine Holds.cond rfl (fun h => ?_) (fun h => ?_)
    · have h : xs.length < ys.length := by simpa using h
      rw [List.drop_eq_getElem_cons h, cmpL] at hc
      rw [← hc]
      repeat' first
        | refine Holds.seq ?_
        | refine Holds.skip ?_
        | refine Holds.exit ?_
        | refine Holds.ret ?_
        | refine thenA_normal ?_
        | refine thenA_exit ?_
        | refine thenA_ret ?_
        | refine inB_normal ?_
        | refine inB_ret ?_
        | refine inB_here ?_
        | (refine inB_past ?_ ?_; (· exact rfl))
        | refine Holds.reg ?_
        | refine Holds.block ?_
        | refine GS.nil ?_
        | refine Gd.nil ?_
        | (refine Holds.any mixed ?_ ?_; (· kernel_rfl))
        | (refine GS.step (s' := ?_) ?_ ?_ ?_; rotate_left; (· exact rfl); (· (simp [go_sem] <;> with_reducible rfl)))
        | (refine GS.skip ?_ ?_ ?_; (· exact rfl); (· exact rfl))
        | (refine Gd.go (s' := ?_) ?_ ?_ ?_; rotate_left; (· exact rfl); (· (simp [go_sem] <;> with_reducible rfl)))
        | (refine Gd.skip ?_ ?_ ?_; (· exact rfl); (· exact rfl))
        | fail
      refine Out.mk (xs := ?_) ?_ ?_ (.inr rfl)
      rotate_left
      · simp [go_sem] <;> with_reducible rfl
      exact .v _
    · have h : ¬ xs.length < ys.length := by simpa using h
      rw [List.drop_eq_nil_of_le (by omega), cmpL] at hc
      rw [← hc]
      repeat' first
        | refine Holds.seq ?_
        | refine Holds.skip ?_
        | refine Holds.exit ?_
        | refine Holds.ret ?_
        | refine thenA_normal ?_
        | refine thenA_exit ?_
        | refine thenA_ret ?_
        | refine inB_normal ?_
        | refine inB_ret ?_
        | refine inB_here ?_
        | (refine inB_past ?_ ?_; (· exact rfl))
        | refine Holds.reg ?_
        | refine Holds.block ?_
        | refine GS.nil ?_
        | refine Gd.nil ?_
        | (refine Holds.any mixed ?_ ?_; (· kernel_rfl))
        | (refine GS.step (s' := ?_) ?_ ?_ ?_; rotate_left; (· exact rfl); (· (simp [go_sem] <;> with_reducible rfl)))
        | (refine GS.skip ?_ ?_ ?_; (· exact rfl); (· exact rfl))
        | (refine Gd.go (s' := ?_) ?_ ?_ ?_; rotate_left; (· exact rfl); (· (simp [go_sem] <;> with_reducible rfl)))
        | (refine Gd.skip ?_ ?_ ?_; (· exact rfl); (· exact rfl))
        | fail
      refine Out.mk (xs := ?_) ?_ ?_ (.inr rfl)
      rotate_left
      · simp [go_sem] <;> with_reducible rfl
      exact .v _
theorem lessL_cmp : ∀ (xs ys : List Int), xs.length = ys.length → lessL xs ys = decide (cmpL xs ys < 0)
  | [], [], _ => rfl
  | x :: xs, y :: ys, h => by
    have ih := lessL_cmp xs ys (by simpa using h)
    unfold lessL cmpL cmp1
    by_cases h1 : x = y
    · subst h1; simp [ih]
    · by_cases h2 : x < y
      · simp [h1, h2]
      · have : y < x := by omega
        simp [h1, h2, this]
  | [], _ :: _, h => by cases h
  | _ :: _, [], h => by cases h
abbrev Mach := Int × Int × List (List Int) × List Int
def goodAt (m : Mach) (i : Nat) : Bool :=
  let r := m.2.2.1.getD i []
  decide (r.length = 3) && inR (r.getD 0 0) 0 (m.1 - 1) && inR (r.getD 1 0) 0 (m.2.1 - 1) && inR (r.getD 2 0) 0 (m.1 - 1) && (decide (i = 0) || lessL (m.2.2.1.getD (i - 1) []) r)
def goodM (m : Mach) : Bool := inR m.1 1 6 && inR m.2.1 1 4 && rising m.2.2.2 0 (m.1 - 1) && allB (goodAt m) m.2.2.1.length
theorem goodAt_len {m : Mach} {n i : Nat} (h : allB (goodAt m) n = true) (hi : i < n) : (m.2.2.1.getD i []).length = 3 := by
  cases e : goodAt m i with
  | true =>
    simp only [goodAt, Bool.and_eq_true, decide_eq_true_eq] at e
    exact e.1.1.1.1
  | false => rw [allB_no hi e] at h; cases h
end Go.Proofs.Ytbapglkldnlckaa.En
