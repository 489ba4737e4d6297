/- Walks of IsWave: the implementation; the law. -/
import Derived.Test.YtbapglkldnlckaaWv
namespace Go.Proofs.Ytbapglkldnlckaa.En
open Go.RowKit
set_option linter.unusedSimpArgs false
set_option linter.unusedVariables false
set_option maxHeartbeats 8000000
theorem waits_of_ready {n long : Nat} {hs : List (Nat × Bool)} {k : Nat} (hk : k < hs.length) (h : hasN (readyL n long hs) k = true) : hs[k].2 = false := by
  have h := hasN_mem h
  have key : ∀ (xs : List (Nat × Bool)) (a : Nat), ((k : Nat) : Int) ∈ idxs (readyP n long) a xs → ∃ j, k = a + j ∧ ∃ x, xs[j]? = some x ∧ x.2 = false := by
    intro xs
    induction xs with
    | nil => intro a h; simp [idxs] at h
    | cons x xs ih =>
      intro a h
      have next : ((k : Nat) : Int) ∈ idxs (readyP n long) (a + 1) xs → ∃ j, k = a + j ∧ ∃ y, (x :: xs)[j]? = some y ∧ y.2 = false := fun h => by
        obtain ⟨j, h1, y, h2, h3⟩ := ih (a + 1) h
        exact ⟨j + 1, by omega, y, by simpa using h2, h3⟩
      unfold idxs at h
      split at h
      · rename_i hp
        rcases List.mem_cons.1 h with e | h
        · exact ⟨0, by omega, x, by simp, by simp [readyP] at hp; exact hp.2⟩
        · exact next h
      · exact next h
  obtain ⟨j, h1, x, h2, h3⟩ := key hs 0 h
  have : j = k := by omega
  subst this
  rw [List.getElem?_eq_getElem hk] at h2
  cases h2
  exact h3
theorem waits_start (m : Nat) : waitsL (startHs m) = falses m := by simp [waitsL, startHs, falses]
theorem from_start (m : Nat) : fromL (startHs m) = upTo natI m := by
  have := fromL_zero (startHs m)
  rw [show (startHs m).map (fun _ => ((0 : Nat), false)) = startHs m by simp [startHs], show (startHs m).length = m by simp [startHs]] at this
  exact this
theorem implIsWave (n m : Int) (log : List DoneT) (hx : log.length < 4611686018427387904) : Pure Try.prog 30 [.v (.int .i64 n), .v (.int .i64 m), .im 4 (dones log)] (.tu [.v (.bool (isWaveV n m log).1), .v (.bool (isWaveV n m log).2)]) := by
  refine Pure.mk (rs := [.tmp 6, .tmp 7]) (nt := 52) Try.func30 (by kernel_rfl) rfl rfl rfl (by simp) ?_
  simp only [sl]
  repeat' first
    | refine Holds.seq ?_
    | refine Holds.skip ?_
    | refine Holds.exit ?_
    | refine Holds.ret ?_
    | refine thenA_normal ?_
    | refine thenA_exit ?_
    | refine thenA_ret ?_
    | refine inB_normal ?_
    | refine inB_ret ?_
    | refine inB_here ?_
    | (refine inB_past ?_ ?_; (· exact rfl))
    | refine Holds.reg ?_
    | refine Holds.block ?_
    | refine GS.nil ?_
    | refine Gd.nil ?_
    | (refine Holds.any mixed ?_ ?_; (· kernel_rfl))
    | (refine GS.step (s' := ?_) ?_ ?_ ?_; rotate_left; (· exact rfl); (· (simp [go_sem, List.take_of_length_le] <;> with_reducible rfl)))
    | (refine GS.skip ?_ ?_ ?_; (· exact rfl); (· exact rfl))
    | (refine Gd.go (s' := ?_) ?_ ?_ ?_; rotate_left; (· exact rfl); (· (simp [go_sem, List.take_of_length_le] <;> with_reducible rfl)))
    | (refine Gd.skip ?_ ?_ ?_; (· exact rfl); (· exact rfl))
    | refine Gx.nil ?_
    | (refine Gx.go (s' := ?_) rfl ?_ ?_ ?_; rotate_left; (· exact rfl); (· (simp [go_sem, List.take_of_length_le] <;> with_reducible rfl)))
    | (refine Gx.skip rfl ?_ ?_ ?_; (· exact rfl); (· exact rfl))
    | (refine Gx.skipW rfl ?_ ?_ ?_; (· exact rfl); (· exact rfl))
    | (refine Gx.skipH rfl ?_ ?_ ?_; (· exact rfl); (· exact rfl))
    | (refine Gx.hid (r := ?_) rfl ?_ ?_ ?_ ?_; rotate_left; (· exact rfl); (· exact rfl); (· (simp [go_sem, List.take_of_length_le] <;> with_reducible rfl)))
    | (refine Gx.wr (s' := ?_) rfl ?_ ?_ ?_ ?_; rotate_left; (· exact rfl); (· (simp [go_sem, List.take_of_length_le] <;> with_reducible rfl)); (· (simp [go_sem, List.take_of_length_le])))
    | fail
  first | refine GS.cc (implIn n 0 10) rfl rfl rfl rfl (by simp [go_sem, List.take_of_length_le] <;> with_reducible rfl) rfl (by simp [go_sem, List.take_of_length_le]) ?_ | refine Gd.cc (implIn n 0 10) rfl rfl rfl rfl (by simp [go_sem, List.take_of_length_le] <;> with_reducible rfl) rfl (by simp [go_sem, List.take_of_length_le]) ?_ | refine Gx.cc (implIn n 0 10) rfl rfl rfl rfl rfl (by simp [go_sem, List.take_of_length_le] <;> with_reducible rfl) rfl (by simp [go_sem, List.take_of_length_le]) ?_
  generalize hg : inR n 0 10 = g
  repeat' first
    | refine Holds.seq ?_
    | refine Holds.skip ?_
    | refine Holds.exit ?_
    | refine Holds.ret ?_
    | refine thenA_normal ?_
    | refine thenA_exit ?_
    | refine thenA_ret ?_
    | refine inB_normal ?_
    | refine inB_ret ?_
    | refine inB_here ?_
    | (refine inB_past ?_ ?_; (· exact rfl))
    | refine Holds.reg ?_
    | refine Holds.block ?_
    | refine GS.nil ?_
    | refine Gd.nil ?_
    | (refine Holds.any mixed ?_ ?_; (· kernel_rfl))
    | (refine GS.step (s' := ?_) ?_ ?_ ?_; rotate_left; (· exact rfl); (· (simp [go_sem, List.take_of_length_le] <;> with_reducible rfl)))
    | (refine GS.skip ?_ ?_ ?_; (· exact rfl); (· exact rfl))
    | (refine Gd.go (s' := ?_) ?_ ?_ ?_; rotate_left; (· exact rfl); (· (simp [go_sem, List.take_of_length_le] <;> with_reducible rfl)))
    | (refine Gd.skip ?_ ?_ ?_; (· exact rfl); (· exact rfl))
    | refine Gx.nil ?_
    | (refine Gx.go (s' := ?_) rfl ?_ ?_ ?_; rotate_left; (· exact rfl); (· (simp [go_sem, List.take_of_length_le] <;> with_reducible rfl)))
    | (refine Gx.skip rfl ?_ ?_ ?_; (· exact rfl); (· exact rfl))
    | (refine Gx.skipW rfl ?_ ?_ ?_; (· exact rfl); (· exact rfl))
    | (refine Gx.skipH rfl ?_ ?_ ?_; (· exact rfl); (· exact rfl))
    | (refine Gx.hid (r := ?_) rfl ?_ ?_ ?_ ?_; rotate_left; (· exact rfl); (· exact rfl); (· (simp [go_sem, List.take_of_length_le] <;> with_reducible rfl)))
    | (refine Gx.wr (s' := ?_) rfl ?_ ?_ ?_ ?_; rotate_left; (· exact rfl); (· (simp [go_sem, List.take_of_length_le] <;> with_reducible rfl)); (· (simp [go_sem, List.take_of_length_le])))
    | fail
  refine GS.guard (t := 14) rfl (fun h => ?_) (fun h => ?_)
  · have h : g = false := by simpa using h
    subst h
    rw [show isWaveV n m log = (false, false) by unfold isWaveV; rw [hg]; rfl]
    repeat' first
      | refine Holds.seq ?_
      | refine Holds.skip ?_
      | refine Holds.exit ?_
      | refine Holds.ret ?_
      | refine thenA_normal ?_
      | refine thenA_exit ?_
      | refine thenA_ret ?_
      | refine inB_normal ?_
      | refine inB_ret ?_
      | refine inB_here ?_
      | (refine inB_past ?_ ?_; (· exact rfl))
      | refine Holds.reg ?_
      | refine Holds.block ?_
      | refine GS.nil ?_
      | refine Gd.nil ?_
      | (refine Holds.any mixed ?_ ?_; (· kernel_rfl))
      | (refine GS.step (s' := ?_) ?_ ?_ ?_; rotate_left; (· exact rfl); (· (simp [go_sem, List.take_of_length_le] <;> with_reducible rfl)))
      | (refine GS.skip ?_ ?_ ?_; (· exact rfl); (· exact rfl))
      | (refine Gd.go (s' := ?_) ?_ ?_ ?_; rotate_left; (· exact rfl); (· (simp [go_sem, List.take_of_length_le] <;> with_reducible rfl)))
      | (refine Gd.skip ?_ ?_ ?_; (· exact rfl); (· exact rfl))
      | refine Gx.nil ?_
      | (refine Gx.go (s' := ?_) rfl ?_ ?_ ?_; rotate_left; (· exact rfl); (· (simp [go_sem, List.take_of_length_le] <;> with_reducible rfl)))
      | (refine Gx.skip rfl ?_ ?_ ?_; (· exact rfl); (· exact rfl))
      | (refine Gx.skipW rfl ?_ ?_ ?_; (· exact rfl); (· exact rfl))
      | (refine Gx.skipH rfl ?_ ?_ ?_; (· exact rfl); (· exact rfl))
      | (refine Gx.hid (r := ?_) rfl ?_ ?_ ?_ ?_; rotate_left; (· exact rfl); (· exact rfl); (· (simp [go_sem, List.take_of_length_le] <;> with_reducible rfl)))
      | (refine Gx.wr (s' := ?_) rfl ?_ ?_ ?_ ?_; rotate_left; (· exact rfl); (· (simp [go_sem, List.take_of_length_le] <;> with_reducible rfl)); (· (simp [go_sem, List.take_of_length_le])))
      | fail
    refine Holds.cond rfl (fun h => ?_) (fun h => ?_)
    · repeat' first
        | refine Holds.seq ?_
        | refine Holds.skip ?_
        | refine Holds.exit ?_
        | refine Holds.ret ?_
        | refine thenA_normal ?_
        | refine thenA_exit ?_
        | refine thenA_ret ?_
        | refine inB_normal ?_
        | refine inB_ret ?_
        | refine inB_here ?_
        | (refine inB_past ?_ ?_; (· exact rfl))
        | refine Holds.reg ?_
        | refine Holds.block ?_
        | refine GS.nil ?_
        | refine Gd.nil ?_
        | (refine Holds.any mixed ?_ ?_; (· kernel_rfl))
        | (refine GS.step (s' := ?_) ?_ ?_ ?_; rotate_left; (· exact rfl); (· (simp [go_sem, List.take_of_length_le] <;> with_reducible rfl)))
        | (refine GS.skip ?_ ?_ ?_; (· exact rfl); (· exact rfl))
        | (refine Gd.go (s' := ?_) ?_ ?_ ?_; rotate_left; (· exact rfl); (· (simp [go_sem, List.take_of_length_le] <;> with_reducible rfl)))
        | (refine Gd.skip ?_ ?_ ?_; (· exact rfl); (· exact rfl))
        | refine Gx.nil ?_
        | (refine Gx.go (s' := ?_) rfl ?_ ?_ ?_; rotate_left; (· exact rfl); (· (simp [go_sem, List.take_of_length_le] <;> with_reducible rfl)))
        | (refine Gx.skip rfl ?_ ?_ ?_; (· exact rfl); (· exact rfl))
        | (refine Gx.skipW rfl ?_ ?_ ?_; (· exact rfl); (· exact rfl))
        | (refine Gx.skipH rfl ?_ ?_ ?_; (· exact rfl); (· exact rfl))
        | (refine Gx.hid (r := ?_) rfl ?_ ?_ ?_ ?_; rotate_left; (· exact rfl); (· exact rfl); (· (simp [go_sem, List.take_of_length_le] <;> with_reducible rfl)))
        | (refine Gx.wr (s' := ?_) rfl ?_ ?_ ?_ ?_; rotate_left; (· exact rfl); (· (simp [go_sem, List.take_of_length_le] <;> with_reducible rfl)); (· (simp [go_sem, List.take_of_length_le])))
        | fail
      refine Out.mk (xs := ?_) ?_ ?_ (by first | exact .inr rfl | exact .inl rfl)
      rotate_left
      · simp [go_sem, List.take_of_length_le] <;> with_reducible rfl
      exact Fz.cl rfl
    · cases h
  have hA : inR n 0 10 = true := by rw [hg]; simpa using h
  repeat' first
    | refine Holds.seq ?_
    | refine Holds.skip ?_
    | refine Holds.exit ?_
    | refine Holds.ret ?_
    | refine thenA_normal ?_
    | refine thenA_exit ?_
    | refine thenA_ret ?_
    | refine inB_normal ?_
    | refine inB_ret ?_
    | refine inB_here ?_
    | (refine inB_past ?_ ?_; (· exact rfl))
    | refine Holds.reg ?_
    | refine Holds.block ?_
    | refine GS.nil ?_
    | refine Gd.nil ?_
    | (refine Holds.any mixed ?_ ?_; (· kernel_rfl))
    | (refine GS.step (s' := ?_) ?_ ?_ ?_; rotate_left; (· exact rfl); (· (simp [go_sem, List.take_of_length_le] <;> with_reducible rfl)))
    | (refine GS.skip ?_ ?_ ?_; (· exact rfl); (· exact rfl))
    | (refine Gd.go (s' := ?_) ?_ ?_ ?_; rotate_left; (· exact rfl); (· (simp [go_sem, List.take_of_length_le] <;> with_reducible rfl)))
    | (refine Gd.skip ?_ ?_ ?_; (· exact rfl); (· exact rfl))
    | refine Gx.nil ?_
    | (refine Gx.go (s' := ?_) rfl ?_ ?_ ?_; rotate_left; (· exact rfl); (· (simp [go_sem, List.take_of_length_le] <;> with_reducible rfl)))
    | (refine Gx.skip rfl ?_ ?_ ?_; (· exact rfl); (· exact rfl))
    | (refine Gx.skipW rfl ?_ ?_ ?_; (· exact rfl); (· exact rfl))
    | (refine Gx.skipH rfl ?_ ?_ ?_; (· exact rfl); (· exact rfl))
    | (refine Gx.hid (r := ?_) rfl ?_ ?_ ?_ ?_; rotate_left; (· exact rfl); (· exact rfl); (· (simp [go_sem, List.take_of_length_le] <;> with_reducible rfl)))
    | (refine Gx.wr (s' := ?_) rfl ?_ ?_ ?_ ?_; rotate_left; (· exact rfl); (· (simp [go_sem, List.take_of_length_le] <;> with_reducible rfl)); (· (simp [go_sem, List.take_of_length_le])))
    | fail
  first | refine GS.cc (implIn m 1 4) rfl rfl rfl rfl (by simp [go_sem, List.take_of_length_le] <;> with_reducible rfl) rfl (by simp [go_sem, List.take_of_length_le]) ?_ | refine Gd.cc (implIn m 1 4) rfl rfl rfl rfl (by simp [go_sem, List.take_of_length_le] <;> with_reducible rfl) rfl (by simp [go_sem, List.take_of_length_le]) ?_ | refine Gx.cc (implIn m 1 4) rfl rfl rfl rfl rfl (by simp [go_sem, List.take_of_length_le] <;> with_reducible rfl) rfl (by simp [go_sem, List.take_of_length_le]) ?_
  generalize hg2 : inR m 1 4 = g2
  repeat' first
    | refine Holds.seq ?_
    | refine Holds.skip ?_
    | refine Holds.exit ?_
    | refine Holds.ret ?_
    | refine thenA_normal ?_
    | refine thenA_exit ?_
    | refine thenA_ret ?_
    | refine inB_normal ?_
    | refine inB_ret ?_
    | refine inB_here ?_
    | (refine inB_past ?_ ?_; (· exact rfl))
    | refine Holds.reg ?_
    | refine Holds.block ?_
    | refine GS.nil ?_
    | refine Gd.nil ?_
    | (refine Holds.any mixed ?_ ?_; (· kernel_rfl))
    | (refine GS.step (s' := ?_) ?_ ?_ ?_; rotate_left; (· exact rfl); (· (simp [go_sem, List.take_of_length_le] <;> with_reducible rfl)))
    | (refine GS.skip ?_ ?_ ?_; (· exact rfl); (· exact rfl))
    | (refine Gd.go (s' := ?_) ?_ ?_ ?_; rotate_left; (· exact rfl); (· (simp [go_sem, List.take_of_length_le] <;> with_reducible rfl)))
    | (refine Gd.skip ?_ ?_ ?_; (· exact rfl); (· exact rfl))
    | refine Gx.nil ?_
    | (refine Gx.go (s' := ?_) rfl ?_ ?_ ?_; rotate_left; (· exact rfl); (· (simp [go_sem, List.take_of_length_le] <;> with_reducible rfl)))
    | (refine Gx.skip rfl ?_ ?_ ?_; (· exact rfl); (· exact rfl))
    | (refine Gx.skipW rfl ?_ ?_ ?_; (· exact rfl); (· exact rfl))
    | (refine Gx.skipH rfl ?_ ?_ ?_; (· exact rfl); (· exact rfl))
    | (refine Gx.hid (r := ?_) rfl ?_ ?_ ?_ ?_; rotate_left; (· exact rfl); (· exact rfl); (· (simp [go_sem, List.take_of_length_le] <;> with_reducible rfl)))
    | (refine Gx.wr (s' := ?_) rfl ?_ ?_ ?_ ?_; rotate_left; (· exact rfl); (· (simp [go_sem, List.take_of_length_le] <;> with_reducible rfl)); (· (simp [go_sem, List.take_of_length_le])))
    | fail
  refine GS.guard (t := 19) rfl (fun h => ?_) (fun h => ?_)
  · have h : g2 = false := by simpa using h
    subst h
    rw [show isWaveV n m log = (false, false) by unfold isWaveV; rw [hg2, Bool.and_false]; rfl]
    repeat' first
      | refine Holds.seq ?_
      | refine Holds.skip ?_
      | refine Holds.exit ?_
      | refine Holds.ret ?_
      | refine thenA_normal ?_
      | refine thenA_exit ?_
      | refine thenA_ret ?_
      | refine inB_normal ?_
      | refine inB_ret ?_
      | refine inB_here ?_
      | (refine inB_past ?_ ?_; (· exact rfl))
      | refine Holds.reg ?_
      | refine Holds.block ?_
      | refine GS.nil ?_
      | refine Gd.nil ?_
      | (refine Holds.any mixed ?_ ?_; (· kernel_rfl))
      | (refine GS.step (s' := ?_) ?_ ?_ ?_; rotate_left; (· exact rfl); (· (simp [go_sem, List.take_of_length_le] <;> with_reducible rfl)))
      | (refine GS.skip ?_ ?_ ?_; (· exact rfl); (· exact rfl))
      | (refine Gd.go (s' := ?_) ?_ ?_ ?_; rotate_left; (· exact rfl); (· (simp [go_sem, List.take_of_length_le] <;> with_reducible rfl)))
      | (refine Gd.skip ?_ ?_ ?_; (· exact rfl); (· exact rfl))
      | refine Gx.nil ?_
      | (refine Gx.go (s' := ?_) rfl ?_ ?_ ?_; rotate_left; (· exact rfl); (· (simp [go_sem, List.take_of_length_le] <;> with_reducible rfl)))
      | (refine Gx.skip rfl ?_ ?_ ?_; (· exact rfl); (· exact rfl))
      | (refine Gx.skipW rfl ?_ ?_ ?_; (· exact rfl); (· exact rfl))
      | (refine Gx.skipH rfl ?_ ?_ ?_; (· exact rfl); (· exact rfl))
      | (refine Gx.hid (r := ?_) rfl ?_ ?_ ?_ ?_; rotate_left; (· exact rfl); (· exact rfl); (· (simp [go_sem, List.take_of_length_le] <;> with_reducible rfl)))
      | (refine Gx.wr (s' := ?_) rfl ?_ ?_ ?_ ?_; rotate_left; (· exact rfl); (· (simp [go_sem, List.take_of_length_le] <;> with_reducible rfl)); (· (simp [go_sem, List.take_of_length_le])))
      | fail
    refine Holds.cond rfl (fun h => ?_) (fun h => ?_)
    · repeat' first
        | refine Holds.seq ?_
        | refine Holds.skip ?_
        | refine Holds.exit ?_
        | refine Holds.ret ?_
        | refine thenA_normal ?_
        | refine thenA_exit ?_
        | refine thenA_ret ?_
        | refine inB_normal ?_
        | refine inB_ret ?_
        | refine inB_here ?_
        | (refine inB_past ?_ ?_; (· exact rfl))
        | refine Holds.reg ?_
        | refine Holds.block ?_
        | refine GS.nil ?_
        | refine Gd.nil ?_
        | (refine Holds.any mixed ?_ ?_; (· kernel_rfl))
        | (refine GS.step (s' := ?_) ?_ ?_ ?_; rotate_left; (· exact rfl); (· (simp [go_sem, List.take_of_length_le] <;> with_reducible rfl)))
        | (refine GS.skip ?_ ?_ ?_; (· exact rfl); (· exact rfl))
        | (refine Gd.go (s' := ?_) ?_ ?_ ?_; rotate_left; (· exact rfl); (· (simp [go_sem, List.take_of_length_le] <;> with_reducible rfl)))
        | (refine Gd.skip ?_ ?_ ?_; (· exact rfl); (· exact rfl))
        | refine Gx.nil ?_
        | (refine Gx.go (s' := ?_) rfl ?_ ?_ ?_; rotate_left; (· exact rfl); (· (simp [go_sem, List.take_of_length_le] <;> with_reducible rfl)))
        | (refine Gx.skip rfl ?_ ?_ ?_; (· exact rfl); (· exact rfl))
        | (refine Gx.skipW rfl ?_ ?_ ?_; (· exact rfl); (· exact rfl))
        | (refine Gx.skipH rfl ?_ ?_ ?_; (· exact rfl); (· exact rfl))
        | (refine Gx.hid (r := ?_) rfl ?_ ?_ ?_ ?_; rotate_left; (· exact rfl); (· exact rfl); (· (simp [go_sem, List.take_of_length_le] <;> with_reducible rfl)))
        | (refine Gx.wr (s' := ?_) rfl ?_ ?_ ?_ ?_; rotate_left; (· exact rfl); (· (simp [go_sem, List.take_of_length_le] <;> with_reducible rfl)); (· (simp [go_sem, List.take_of_length_le])))
        | fail
      refine Out.mk (xs := ?_) ?_ ?_ (by first | exact .inr rfl | exact .inl rfl)
      rotate_left
      · simp [go_sem, List.take_of_length_le] <;> with_reducible rfl
      exact Fz.cl rfl
    · cases h
  have hB : inR m 1 4 = true := by rw [hg2]; simpa using h
  repeat' first
    | refine Holds.seq ?_
    | refine Holds.skip ?_
    | refine Holds.exit ?_
    | refine Holds.ret ?_
    | refine thenA_normal ?_
    | refine thenA_exit ?_
    | refine thenA_ret ?_
    | refine inB_normal ?_
    | refine inB_ret ?_
    | refine inB_here ?_
    | (refine inB_past ?_ ?_; (· exact rfl))
    | refine Holds.reg ?_
    | refine Holds.block ?_
    | refine GS.nil ?_
    | refine Gd.nil ?_
    | (refine Holds.any mixed ?_ ?_; (· kernel_rfl))
    | (refine GS.step (s' := ?_) ?_ ?_ ?_; rotate_left; (· exact rfl); (· (simp [go_sem, List.take_of_length_le] <;> with_reducible rfl)))
    | (refine GS.skip ?_ ?_ ?_; (· exact rfl); (· exact rfl))
    | (refine Gd.go (s' := ?_) ?_ ?_ ?_; rotate_left; (· exact rfl); (· (simp [go_sem, List.take_of_length_le] <;> with_reducible rfl)))
    | (refine Gd.skip ?_ ?_ ?_; (· exact rfl); (· exact rfl))
    | refine Gx.nil ?_
    | (refine Gx.go (s' := ?_) rfl ?_ ?_ ?_; rotate_left; (· exact rfl); (· (simp [go_sem, List.take_of_length_le] <;> with_reducible rfl)))
    | (refine Gx.skip rfl ?_ ?_ ?_; (· exact rfl); (· exact rfl))
    | (refine Gx.skipW rfl ?_ ?_ ?_; (· exact rfl); (· exact rfl))
    | (refine Gx.skipH rfl ?_ ?_ ?_; (· exact rfl); (· exact rfl))
    | (refine Gx.hid (r := ?_) rfl ?_ ?_ ?_ ?_; rotate_left; (· exact rfl); (· exact rfl); (· (simp [go_sem, List.take_of_length_le] <;> with_reducible rfl)))
    | (refine Gx.wr (s' := ?_) rfl ?_ ?_ ?_ ?_; rotate_left; (· exact rfl); (· (simp [go_sem, List.take_of_length_le] <;> with_reducible rfl)); (· (simp [go_sem, List.take_of_length_le])))
    | fail
  refine Holds.cond rfl (fun h2 => ?_) (fun h2 => ?_)
  · have h2 : ¬ log.length ≤ 200 := by simp at h2; omega
    rw [show isWaveV n m log = (false, false) by unfold isWaveV; rw [hA, hB]; simp [h2]]
    repeat' first
      | refine Holds.seq ?_
      | refine Holds.skip ?_
      | refine Holds.exit ?_
      | refine Holds.ret ?_
      | refine thenA_normal ?_
      | refine thenA_exit ?_
      | refine thenA_ret ?_
      | refine inB_normal ?_
      | refine inB_ret ?_
      | refine inB_here ?_
      | (refine inB_past ?_ ?_; (· exact rfl))
      | refine Holds.reg ?_
      | refine Holds.block ?_
      | refine GS.nil ?_
      | refine Gd.nil ?_
      | (refine Holds.any mixed ?_ ?_; (· kernel_rfl))
      | (refine GS.step (s' := ?_) ?_ ?_ ?_; rotate_left; (· exact rfl); (· (simp [go_sem, List.take_of_length_le] <;> with_reducible rfl)))
      | (refine GS.skip ?_ ?_ ?_; (· exact rfl); (· exact rfl))
      | (refine Gd.go (s' := ?_) ?_ ?_ ?_; rotate_left; (· exact rfl); (· (simp [go_sem, List.take_of_length_le] <;> with_reducible rfl)))
      | (refine Gd.skip ?_ ?_ ?_; (· exact rfl); (· exact rfl))
      | refine Gx.nil ?_
      | (refine Gx.go (s' := ?_) rfl ?_ ?_ ?_; rotate_left; (· exact rfl); (· (simp [go_sem, List.take_of_length_le] <;> with_reducible rfl)))
      | (refine Gx.skip rfl ?_ ?_ ?_; (· exact rfl); (· exact rfl))
      | (refine Gx.skipW rfl ?_ ?_ ?_; (· exact rfl); (· exact rfl))
      | (refine Gx.skipH rfl ?_ ?_ ?_; (· exact rfl); (· exact rfl))
      | (refine Gx.hid (r := ?_) rfl ?_ ?_ ?_ ?_; rotate_left; (· exact rfl); (· exact rfl); (· (simp [go_sem, List.take_of_length_le] <;> with_reducible rfl)))
      | (refine Gx.wr (s' := ?_) rfl ?_ ?_ ?_ ?_; rotate_left; (· exact rfl); (· (simp [go_sem, List.take_of_length_le] <;> with_reducible rfl)); (· (simp [go_sem, List.take_of_length_le])))
      | fail
    refine Out.mk (xs := ?_) ?_ ?_ (by first | exact .inr rfl | exact .inl rfl)
    rotate_left
    · simp [go_sem, List.take_of_length_le] <;> with_reducible rfl
    exact Fz.cl rfl
  have hlog : log.length ≤ 200 := by simp at h2; omega
  rw [show isWaveV n m log = (waveOk n.toNat 1 (startHs m.toNat) log, true) by unfold isWaveV; rw [hA, hB]; simp [hlog]]
  simp [inR] at hA hB
  obtain ⟨n, rfl⟩ : ∃ k : Nat, n = k := ⟨n.toNat, by omega⟩
  obtain ⟨m, rfl⟩ : ∃ k : Nat, m = k := ⟨m.toNat, by omega⟩
  have hn : n ≤ 10 := by omega
  have hm0 : 1 ≤ m := by omega
  have hm : m ≤ 4 := by omega
  clear hA hB hg hg2 h2
  simp only [Int.toNat_natCast]
  repeat' first
    | refine Holds.seq ?_
    | refine Holds.skip ?_
    | refine Holds.exit ?_
    | refine Holds.ret ?_
    | refine thenA_normal ?_
    | refine thenA_exit ?_
    | refine thenA_ret ?_
    | refine inB_normal ?_
    | refine inB_ret ?_
    | refine inB_here ?_
    | (refine inB_past ?_ ?_; (· exact rfl))
    | refine Holds.reg ?_
    | refine Holds.block ?_
    | refine GS.nil ?_
    | refine Gd.nil ?_
    | (refine Holds.any mixed ?_ ?_; (· kernel_rfl))
    | (refine GS.step (s' := ?_) ?_ ?_ ?_; rotate_left; (· exact rfl); (· (simp [go_sem, List.take_of_length_le] <;> with_reducible rfl)))
    | (refine GS.skip ?_ ?_ ?_; (· exact rfl); (· exact rfl))
    | (refine Gd.go (s' := ?_) ?_ ?_ ?_; rotate_left; (· exact rfl); (· (simp [go_sem, List.take_of_length_le] <;> with_reducible rfl)))
    | (refine Gd.skip ?_ ?_ ?_; (· exact rfl); (· exact rfl))
    | refine Gx.nil ?_
    | (refine Gx.go (s' := ?_) rfl ?_ ?_ ?_; rotate_left; (· exact rfl); (· (simp [go_sem, List.take_of_length_le] <;> with_reducible rfl)))
    | (refine Gx.skip rfl ?_ ?_ ?_; (· exact rfl); (· exact rfl))
    | (refine Gx.skipW rfl ?_ ?_ ?_; (· exact rfl); (· exact rfl))
    | (refine Gx.skipH rfl ?_ ?_ ?_; (· exact rfl); (· exact rfl))
    | (refine Gx.hid (r := ?_) rfl ?_ ?_ ?_ ?_; rotate_left; (· exact rfl); (· exact rfl); (· (simp [go_sem, List.take_of_length_le] <;> with_reducible rfl)))
    | (refine Gx.wr (s' := ?_) rfl ?_ ?_ ?_ ?_; rotate_left; (· exact rfl); (· (simp [go_sem, List.take_of_length_le] <;> with_reducible rfl)); (· (simp [go_sem, List.take_of_length_le])))
    | fail
  first | refine GS.fnn [] (newWave n m hm) rfl rfl rfl rfl (by simp [go_sem, List.take_of_length_le, ren, ren1, okr, okr1, ChkN, BlkN, List.range_succ, nf, waveC] <;> with_reducible rfl) (by simp [go_sem, List.take_of_length_le, ren, ren1, okr, okr1, ChkN, BlkN, List.range_succ, nf, waveC]) (by simp [go_sem, List.take_of_length_le, ren, ren1, okr, okr1, ChkN, BlkN, List.range_succ, nf, waveC]) (by simp [List.range_succ, lb]) (ChkN.toB (by simp [go_sem, List.take_of_length_le, ren, ren1, okr, okr1, ChkN, BlkN, List.range_succ, nf, waveC])) (by decide) (by simp) rfl (.okw (by simp [waveC, okr, okr1]) (.nfr (by simp) (.nfr (by simp) .nil))) (by simp [go_sem, List.take_of_length_le, ren, ren1, okr, okr1, ChkN, BlkN, List.range_succ, nf, waveC] <;> with_reducible rfl) ?_ | refine Gx.fnn [] (newWave n m hm) rfl rfl rfl rfl rfl (by simp [go_sem, List.take_of_length_le, ren, ren1, okr, okr1, ChkN, BlkN, List.range_succ, nf, waveC] <;> with_reducible rfl) (by simp [go_sem, List.take_of_length_le, ren, ren1, okr, okr1, ChkN, BlkN, List.range_succ, nf, waveC]) (by simp [go_sem, List.take_of_length_le, ren, ren1, okr, okr1, ChkN, BlkN, List.range_succ, nf, waveC]) (by simp [List.range_succ, lb]) (ChkN.toB (by simp [go_sem, List.take_of_length_le, ren, ren1, okr, okr1, ChkN, BlkN, List.range_succ, nf, waveC])) (by decide) (by simp) rfl (.okw (by simp [waveC, okr, okr1]) (.nfr (by simp) (.nfr (by simp) .nil))) (by simp [go_sem, List.take_of_length_le, ren, ren1, okr, okr1, ChkN, BlkN, List.range_succ, nf, waveC]) (by simp [go_sem, List.take_of_length_le, ren, ren1, okr, okr1, ChkN, BlkN, List.range_succ, nf, waveC] <;> with_reducible rfl) ?_
  repeat' first
    | refine Holds.seq ?_
    | refine Holds.skip ?_
    | refine Holds.exit ?_
    | refine Holds.ret ?_
    | refine thenA_normal ?_
    | refine thenA_exit ?_
    | refine thenA_ret ?_
    | refine inB_normal ?_
    | refine inB_ret ?_
    | refine inB_here ?_
    | (refine inB_past ?_ ?_; (· exact rfl))
    | refine Holds.reg ?_
    | refine Holds.block ?_
    | refine GS.nil ?_
    | refine Gd.nil ?_
    | (refine Holds.any mixed ?_ ?_; (· kernel_rfl))
    | (refine GS.step (s' := ?_) ?_ ?_ ?_; rotate_left; (· exact rfl); (· (simp [go_sem, List.take_of_length_le] <;> with_reducible rfl)))
    | (refine GS.skip ?_ ?_ ?_; (· exact rfl); (· exact rfl))
    | (refine Gd.go (s' := ?_) ?_ ?_ ?_; rotate_left; (· exact rfl); (· (simp [go_sem, List.take_of_length_le] <;> with_reducible rfl)))
    | (refine Gd.skip ?_ ?_ ?_; (· exact rfl); (· exact rfl))
    | refine Gx.nil ?_
    | (refine Gx.go (s' := ?_) rfl ?_ ?_ ?_; rotate_left; (· exact rfl); (· (simp [go_sem, List.take_of_length_le] <;> with_reducible rfl)))
    | (refine Gx.skip rfl ?_ ?_ ?_; (· exact rfl); (· exact rfl))
    | (refine Gx.skipW rfl ?_ ?_ ?_; (· exact rfl); (· exact rfl))
    | (refine Gx.skipH rfl ?_ ?_ ?_; (· exact rfl); (· exact rfl))
    | (refine Gx.hid (r := ?_) rfl ?_ ?_ ?_ ?_; rotate_left; (· exact rfl); (· exact rfl); (· (simp [go_sem, List.take_of_length_le] <;> with_reducible rfl)))
    | (refine Gx.wr (s' := ?_) rfl ?_ ?_ ?_ ?_; rotate_left; (· exact rfl); (· (simp [go_sem, List.take_of_length_le] <;> with_reducible rfl)); (· (simp [go_sem, List.take_of_length_le])))
    | fail
  refine Holds.loop (ι := Nat × Nat × List (Nat × Bool)) (fun i => ⟨[(0, .v (.int .i64 n)), (8, .pb 0 4 0 0), (27, .im 4 (dones log)), (28, .v (.int .i64 log.length)), (29, .v (.int .i64 i.1))], [(0, ⟨169, 4, [[.v (.int .i64 n), .v (.int .i64 i.2.1), .own 2 1 0 m, .own 1 1 0 m]]⟩), (1, ⟨4, 1, bools (waitsL i.2.2)⟩), (2, ⟨3, 1, ints (fromL i.2.2)⟩)], 3⟩)
    (fun i => i.1 ≤ log.length ∧ i.2.1 ≤ 1 + i.1 ∧ okHs m i.2.2 ∧ waveOk n i.2.1 i.2.2 (log.drop i.1) = waveOk n 1 (startHs m) log) (fun i => log.length - i.1) (0, 1, startHs m) ⟨Nat.zero_le _, Nat.le_refl _, okHs.start m, rfl⟩ ?_ ?_
  · exact Cov.ofn (id) rfl (by simp [go_sem, List.take_of_length_le, ren, ren1, okr, okr1, ChkT, ChkN, BlkN, nf, waits_start, from_start]) (by simp [go_sem, List.take_of_length_le, ren, ren1, okr, okr1, ChkT, ChkN, BlkN, nf, waits_start, from_start])
  rintro ⟨i, long, hs⟩ ⟨hi, hlong, hok, hw⟩
  dsimp only at hi hlong hok hw ⊢
  obtain rfl := hok.1
  rw [← hw]
  have hab := able n long (waitsL hs) (fromL hs) (by simpa using hm)
  rw [waitsL_len, show idxs (readyW n long) 0 (waitsL hs) = readyL n long hs from ready_map n long hs] at hab
  repeat' first
    | refine Holds.seq ?_
    | refine Holds.skip ?_
    | refine Holds.exit ?_
    | refine Holds.ret ?_
    | refine thenA_normal ?_
    | refine thenA_exit ?_
    | refine thenA_ret ?_
    | refine inB_normal ?_
    | refine inB_ret ?_
    | refine inB_here ?_
    | (refine inB_past ?_ ?_; (· exact rfl))
    | refine Holds.reg ?_
    | refine Holds.block ?_
    | refine GS.nil ?_
    | refine Gd.nil ?_
    | (refine Holds.any mixed ?_ ?_; (· kernel_rfl))
    | (refine GS.step (s' := ?_) ?_ ?_ ?_; rotate_left; (· exact rfl); (· (simp [go_sem, List.take_of_length_le] <;> with_reducible rfl)))
    | (refine GS.skip ?_ ?_ ?_; (· exact rfl); (· exact rfl))
    | (refine Gd.go (s' := ?_) ?_ ?_ ?_; rotate_left; (· exact rfl); (· (simp [go_sem, List.take_of_length_le] <;> with_reducible rfl)))
    | (refine Gd.skip ?_ ?_ ?_; (· exact rfl); (· exact rfl))
    | refine Gx.nil ?_
    | (refine Gx.go (s' := ?_) rfl ?_ ?_ ?_; rotate_left; (· exact rfl); (· (simp [go_sem, List.take_of_length_le] <;> with_reducible rfl)))
    | (refine Gx.skip rfl ?_ ?_ ?_; (· exact rfl); (· exact rfl))
    | (refine Gx.skipW rfl ?_ ?_ ?_; (· exact rfl); (· exact rfl))
    | (refine Gx.skipH rfl ?_ ?_ ?_; (· exact rfl); (· exact rfl))
    | (refine Gx.hid (r := ?_) rfl ?_ ?_ ?_ ?_; rotate_left; (· exact rfl); (· exact rfl); (· (simp [go_sem, List.take_of_length_le] <;> with_reducible rfl)))
    | (refine Gx.wr (s' := ?_) rfl ?_ ?_ ?_ ?_; rotate_left; (· exact rfl); (· (simp [go_sem, List.take_of_length_le] <;> with_reducible rfl)); (· (simp [go_sem, List.take_of_length_le])))
    | fail
  refine Holds.cond rfl (fun hl => ?_) (fun hl => ?_)
  · have hlt : i < log.length := by simpa using hl
    have hxi : log[i]? = some log[i] := List.getElem?_eq_getElem hlt
    rw [List.drop_eq_getElem_cons hlt]
    simp only [waveOk]
    repeat' first
      | refine Holds.seq ?_
      | refine Holds.skip ?_
      | refine Holds.exit ?_
      | refine Holds.ret ?_
      | refine thenA_normal ?_
      | refine thenA_exit ?_
      | refine thenA_ret ?_
      | refine inB_normal ?_
      | refine inB_ret ?_
      | refine inB_here ?_
      | (refine inB_past ?_ ?_; (· exact rfl))
      | refine Holds.reg ?_
      | refine Holds.block ?_
      | refine GS.nil ?_
      | refine Gd.nil ?_
      | (refine GS.step (s' := ?_) ?_ ?_ ?_; rotate_left; (· exact rfl); (· (simp [go_sem, List.take_of_length_le, hxi, doneC] <;> with_reducible rfl)))
      | (refine GS.skip ?_ ?_ ?_; (· exact rfl); (· exact rfl))
      | (refine Gd.go (s' := ?_) ?_ ?_ ?_; rotate_left; (· exact rfl); (· (simp [go_sem, List.take_of_length_le, hxi, doneC] <;> with_reducible rfl)))
      | (refine Gd.skip ?_ ?_ ?_; (· exact rfl); (· exact rfl))
      | refine Gx.nil ?_
      | (refine Gx.go (s' := ?_) rfl ?_ ?_ ?_; rotate_left; (· exact rfl); (· (simp [go_sem, List.take_of_length_le, hxi, doneC] <;> with_reducible rfl)))
      | (refine Gx.skip rfl ?_ ?_ ?_; (· exact rfl); (· exact rfl))
      | (refine Gx.skipW rfl ?_ ?_ ?_; (· exact rfl); (· exact rfl))
      | (refine Gx.skipH rfl ?_ ?_ ?_; (· exact rfl); (· exact rfl))
      | (refine Gx.hid (r := ?_) rfl ?_ ?_ ?_ ?_; rotate_left; (· exact rfl); (· exact rfl); (· (simp [go_sem, List.take_of_length_le, hxi, doneC] <;> with_reducible rfl)))
      | (refine Gx.wr (s' := ?_) rfl ?_ ?_ ?_ ?_; rotate_left; (· exact rfl); (· (simp [go_sem, List.take_of_length_le, hxi, doneC] <;> with_reducible rfl)); (· (simp [go_sem, List.take_of_length_le, hxi, doneC])))
      | fail
    refine Holds.anx [1, 10] [2, 3, 11] (fun n => n != 3) mixed ?_ ?_ ?_; (· kernel_rfl); (· kernel_rfl)
    repeat' first
      | refine Holds.seq ?_
      | refine Holds.skip ?_
      | refine Holds.exit ?_
      | refine Holds.ret ?_
      | refine thenA_normal ?_
      | refine thenA_exit ?_
      | refine thenA_ret ?_
      | refine inB_normal ?_
      | refine inB_ret ?_
      | refine inB_here ?_
      | (refine inB_past ?_ ?_; (· exact rfl))
      | refine Holds.reg ?_
      | refine Holds.block ?_
      | refine GS.nil ?_
      | refine Gd.nil ?_
      | (refine Holds.any mixed ?_ ?_; (· kernel_rfl))
      | (refine GS.step (s' := ?_) ?_ ?_ ?_; rotate_left; (· exact rfl); (· (simp [go_sem, List.take_of_length_le, hxi, doneC] <;> with_reducible rfl)))
      | (refine GS.skip ?_ ?_ ?_; (· exact rfl); (· exact rfl))
      | (refine Gd.go (s' := ?_) ?_ ?_ ?_; rotate_left; (· exact rfl); (· (simp [go_sem, List.take_of_length_le, hxi, doneC] <;> with_reducible rfl)))
      | (refine Gd.skip ?_ ?_ ?_; (· exact rfl); (· exact rfl))
      | refine Gx.nil ?_
      | (refine Gx.go (s' := ?_) rfl ?_ ?_ ?_; rotate_left; (· exact rfl); (· (simp [go_sem, List.take_of_length_le, hxi, doneC] <;> with_reducible rfl)))
      | (refine Gx.skip rfl ?_ ?_ ?_; (· exact rfl); (· exact rfl))
      | (refine Gx.skipW rfl ?_ ?_ ?_; (· exact rfl); (· exact rfl))
      | (refine Gx.skipH rfl ?_ ?_ ?_; (· exact rfl); (· exact rfl))
      | (refine Gx.hid (r := ?_) rfl ?_ ?_ ?_ ?_; rotate_left; (· exact rfl); (· exact rfl); (· (simp [go_sem, List.take_of_length_le, hxi, doneC] <;> with_reducible rfl)))
      | (refine Gx.wr (s' := ?_) rfl ?_ ?_ ?_ ?_; rotate_left; (· exact rfl); (· (simp [go_sem, List.take_of_length_le, hxi, doneC] <;> with_reducible rfl)); (· (simp [go_sem, List.take_of_length_le, hxi, doneC])))
      | fail
    first | refine GS.fnn [0, 1, 2] (hab) rfl rfl rfl rfl (by simp [go_sem, List.take_of_length_le, ren, ren1, okr, okr1, ChkN, BlkN, List.range_succ, nf, waveC] <;> with_reducible rfl) (by simp [go_sem, List.take_of_length_le, ren, ren1, okr, okr1, ChkN, BlkN, List.range_succ, nf, waveC]) (by simp [go_sem, List.take_of_length_le, ren, ren1, okr, okr1, ChkN, BlkN, List.range_succ, nf, waveC]) (by simp [List.range_succ, lb]) (ChkN.toB (by simp [go_sem, List.take_of_length_le, ren, ren1, okr, okr1, ChkN, BlkN, List.range_succ, nf, waveC])) (by decide) (by simp) rfl (.okw (by simp [waveC, okr, okr1]) (.nfr (by simp) (.nfr (by simp) (.nfr (by simp) .nil)))) (by simp [go_sem, List.take_of_length_le, ren, ren1, okr, okr1, ChkN, BlkN, List.range_succ, nf, waveC] <;> with_reducible rfl) ?_ | refine Gx.fnn [0, 1, 2] (hab) rfl rfl rfl rfl rfl (by simp [go_sem, List.take_of_length_le, ren, ren1, okr, okr1, ChkN, BlkN, List.range_succ, nf, waveC] <;> with_reducible rfl) (by simp [go_sem, List.take_of_length_le, ren, ren1, okr, okr1, ChkN, BlkN, List.range_succ, nf, waveC]) (by simp [go_sem, List.take_of_length_le, ren, ren1, okr, okr1, ChkN, BlkN, List.range_succ, nf, waveC]) (by simp [List.range_succ, lb]) (ChkN.toB (by simp [go_sem, List.take_of_length_le, ren, ren1, okr, okr1, ChkN, BlkN, List.range_succ, nf, waveC])) (by decide) (by simp) rfl (.okw (by simp [waveC, okr, okr1]) (.nfr (by simp) (.nfr (by simp) (.nfr (by simp) .nil)))) (by simp [go_sem, List.take_of_length_le, ren, ren1, okr, okr1, ChkN, BlkN, List.range_succ, nf, waveC]) (by simp [go_sem, List.take_of_length_le, ren, ren1, okr, okr1, ChkN, BlkN, List.range_succ, nf, waveC] <;> with_reducible rfl) ?_
    repeat' first
      | refine Holds.seq ?_
      | refine Holds.skip ?_
      | refine Holds.exit ?_
      | refine Holds.ret ?_
      | refine thenA_normal ?_
      | refine thenA_exit ?_
      | refine thenA_ret ?_
      | refine inB_normal ?_
      | refine inB_ret ?_
      | refine inB_here ?_
      | (refine inB_past ?_ ?_; (· exact rfl))
      | refine Holds.reg ?_
      | refine Holds.block ?_
      | refine GS.nil ?_
      | refine Gd.nil ?_
      | (refine Holds.any mixed ?_ ?_; (· kernel_rfl))
      | (refine GS.step (s' := ?_) ?_ ?_ ?_; rotate_left; (· exact rfl); (· (simp [go_sem, List.take_of_length_le, doneC] <;> with_reducible rfl)))
      | (refine GS.skip ?_ ?_ ?_; (· exact rfl); (· exact rfl))
      | (refine Gd.go (s' := ?_) ?_ ?_ ?_; rotate_left; (· exact rfl); (· (simp [go_sem, List.take_of_length_le, doneC] <;> with_reducible rfl)))
      | (refine Gd.skip ?_ ?_ ?_; (· exact rfl); (· exact rfl))
      | refine Gx.nil ?_
      | (refine Gx.go (s' := ?_) rfl ?_ ?_ ?_; rotate_left; (· exact rfl); (· (simp [go_sem, List.take_of_length_le, doneC] <;> with_reducible rfl)))
      | (refine Gx.skip rfl ?_ ?_ ?_; (· exact rfl); (· exact rfl))
      | (refine Gx.skipW rfl ?_ ?_ ?_; (· exact rfl); (· exact rfl))
      | (refine Gx.skipH rfl ?_ ?_ ?_; (· exact rfl); (· exact rfl))
      | (refine Gx.hid (r := ?_) rfl ?_ ?_ ?_ ?_; rotate_left; (· exact rfl); (· exact rfl); (· (simp [go_sem, List.take_of_length_le, doneC] <;> with_reducible rfl)))
      | (refine Gx.wr (s' := ?_) rfl ?_ ?_ ?_ ?_; rotate_left; (· exact rfl); (· (simp [go_sem, List.take_of_length_le, doneC] <;> with_reducible rfl)); (· (simp [go_sem, List.take_of_length_le, doneC])))
      | fail
    first | refine GS.cd (containsInt (readyL n long hs) log[i].1 (by have := idxs_len (readyP n long) hs 0; unfold readyL; omega)) rfl rfl rfl rfl (by simp [go_sem, List.take_of_length_le] <;> with_reducible rfl) rfl (by exact .cons (Fz.all rfl rfl (by simp) rfl (ints_cl _)) (.cons (.v _) .nil)) rfl ?_ | refine Gd.cd (containsInt (readyL n long hs) log[i].1 (by have := idxs_len (readyP n long) hs 0; unfold readyL; omega)) rfl rfl rfl rfl (by simp [go_sem, List.take_of_length_le] <;> with_reducible rfl) rfl (by exact .cons (Fz.all rfl rfl (by simp) rfl (ints_cl _)) (.cons (.v _) .nil)) rfl ?_ | refine Gx.cd (containsInt (readyL n long hs) log[i].1 (by have := idxs_len (readyP n long) hs 0; unfold readyL; omega)) rfl rfl rfl rfl rfl (by simp [go_sem, List.take_of_length_le] <;> with_reducible rfl) rfl (by exact .cons (Fz.all rfl rfl (by simp) rfl (ints_cl _)) (.cons (.v _) .nil)) rfl ?_
    rw [← hasN_dec]
    repeat' first
      | refine Holds.seq ?_
      | refine Holds.skip ?_
      | refine Holds.exit ?_
      | refine Holds.ret ?_
      | refine thenA_normal ?_
      | refine thenA_exit ?_
      | refine thenA_ret ?_
      | refine inB_normal ?_
      | refine inB_ret ?_
      | refine inB_here ?_
      | (refine inB_past ?_ ?_; (· exact rfl))
      | refine Holds.reg ?_
      | refine Holds.block ?_
      | refine GS.nil ?_
      | refine Gd.nil ?_
      | (refine Holds.any mixed ?_ ?_; (· kernel_rfl))
      | (refine GS.step (s' := ?_) ?_ ?_ ?_; rotate_left; (· exact rfl); (· (simp [go_sem, List.take_of_length_le, doneC] <;> with_reducible rfl)))
      | (refine GS.skip ?_ ?_ ?_; (· exact rfl); (· exact rfl))
      | (refine Gd.go (s' := ?_) ?_ ?_ ?_; rotate_left; (· exact rfl); (· (simp [go_sem, List.take_of_length_le, doneC] <;> with_reducible rfl)))
      | (refine Gd.skip ?_ ?_ ?_; (· exact rfl); (· exact rfl))
      | refine Gx.nil ?_
      | (refine Gx.go (s' := ?_) rfl ?_ ?_ ?_; rotate_left; (· exact rfl); (· (simp [go_sem, List.take_of_length_le, doneC] <;> with_reducible rfl)))
      | (refine Gx.skip rfl ?_ ?_ ?_; (· exact rfl); (· exact rfl))
      | (refine Gx.skipW rfl ?_ ?_ ?_; (· exact rfl); (· exact rfl))
      | (refine Gx.skipH rfl ?_ ?_ ?_; (· exact rfl); (· exact rfl))
      | (refine Gx.hid (r := ?_) rfl ?_ ?_ ?_ ?_; rotate_left; (· exact rfl); (· exact rfl); (· (simp [go_sem, List.take_of_length_le, doneC] <;> with_reducible rfl)))
      | (refine Gx.wr (s' := ?_) rfl ?_ ?_ ?_ ?_; rotate_left; (· exact rfl); (· (simp [go_sem, List.take_of_length_le, doneC] <;> with_reducible rfl)); (· (simp [go_sem, List.take_of_length_le, doneC])))
      | fail
    refine Gx.guard (t := 39) rfl (fun h => ?_) (fun h => ?_)
    · have h : hasN (readyL n long hs) log[i].1 = false := by simpa using h
      rw [h]
      repeat' first
        | refine Holds.seq ?_
        | refine Holds.skip ?_
        | refine Holds.exit ?_
        | refine Holds.ret ?_
        | refine thenA_normal ?_
        | refine thenA_exit ?_
        | refine thenA_ret ?_
        | refine inB_normal ?_
        | refine inB_ret ?_
        | refine inB_here ?_
        | (refine inB_past ?_ ?_; (· exact rfl))
        | refine Holds.reg ?_
        | refine Holds.block ?_
        | refine GS.nil ?_
        | refine Gd.nil ?_
        | (refine Holds.any mixed ?_ ?_; (· kernel_rfl))
        | (refine GS.step (s' := ?_) ?_ ?_ ?_; rotate_left; (· exact rfl); (· (simp [go_sem, List.take_of_length_le, doneC] <;> with_reducible rfl)))
        | (refine GS.skip ?_ ?_ ?_; (· exact rfl); (· exact rfl))
        | (refine Gd.go (s' := ?_) ?_ ?_ ?_; rotate_left; (· exact rfl); (· (simp [go_sem, List.take_of_length_le, doneC] <;> with_reducible rfl)))
        | (refine Gd.skip ?_ ?_ ?_; (· exact rfl); (· exact rfl))
        | refine Gx.nil ?_
        | (refine Gx.go (s' := ?_) rfl ?_ ?_ ?_; rotate_left; (· exact rfl); (· (simp [go_sem, List.take_of_length_le, doneC] <;> with_reducible rfl)))
        | (refine Gx.skip rfl ?_ ?_ ?_; (· exact rfl); (· exact rfl))
        | (refine Gx.skipW rfl ?_ ?_ ?_; (· exact rfl); (· exact rfl))
        | (refine Gx.skipH rfl ?_ ?_ ?_; (· exact rfl); (· exact rfl))
        | (refine Gx.hid (r := ?_) rfl ?_ ?_ ?_ ?_; rotate_left; (· exact rfl); (· exact rfl); (· (simp [go_sem, List.take_of_length_le, doneC] <;> with_reducible rfl)))
        | (refine Gx.wr (s' := ?_) rfl ?_ ?_ ?_ ?_; rotate_left; (· exact rfl); (· (simp [go_sem, List.take_of_length_le, doneC] <;> with_reducible rfl)); (· (simp [go_sem, List.take_of_length_le, doneC])))
        | fail
      refine Holds.cond rfl (fun h => ?_) (fun h => ?_)
      · repeat' first
          | refine Holds.seq ?_
          | refine Holds.skip ?_
          | refine Holds.exit ?_
          | refine Holds.ret ?_
          | refine thenA_normal ?_
          | refine thenA_exit ?_
          | refine thenA_ret ?_
          | refine inB_normal ?_
          | refine inB_ret ?_
          | refine inB_here ?_
          | (refine inB_past ?_ ?_; (· exact rfl))
          | refine Holds.reg ?_
          | refine Holds.block ?_
          | refine GS.nil ?_
          | refine Gd.nil ?_
          | (refine Holds.any mixed ?_ ?_; (· kernel_rfl))
          | (refine GS.step (s' := ?_) ?_ ?_ ?_; rotate_left; (· exact rfl); (· (simp [go_sem, List.take_of_length_le] <;> with_reducible rfl)))
          | (refine GS.skip ?_ ?_ ?_; (· exact rfl); (· exact rfl))
          | (refine Gd.go (s' := ?_) ?_ ?_ ?_; rotate_left; (· exact rfl); (· (simp [go_sem, List.take_of_length_le] <;> with_reducible rfl)))
          | (refine Gd.skip ?_ ?_ ?_; (· exact rfl); (· exact rfl))
          | refine Gx.nil ?_
          | (refine Gx.go (s' := ?_) rfl ?_ ?_ ?_; rotate_left; (· exact rfl); (· (simp [go_sem, List.take_of_length_le] <;> with_reducible rfl)))
          | (refine Gx.skip rfl ?_ ?_ ?_; (· exact rfl); (· exact rfl))
          | (refine Gx.skipW rfl ?_ ?_ ?_; (· exact rfl); (· exact rfl))
          | (refine Gx.skipH rfl ?_ ?_ ?_; (· exact rfl); (· exact rfl))
          | (refine Gx.hid (r := ?_) rfl ?_ ?_ ?_ ?_; rotate_left; (· exact rfl); (· exact rfl); (· (simp [go_sem, List.take_of_length_le] <;> with_reducible rfl)))
          | (refine Gx.wr (s' := ?_) rfl ?_ ?_ ?_ ?_; rotate_left; (· exact rfl); (· (simp [go_sem, List.take_of_length_le] <;> with_reducible rfl)); (· (simp [go_sem, List.take_of_length_le])))
          | fail
        refine Out.mk (xs := ?_) ?_ ?_ (by first | exact .inr rfl | exact .inl rfl)
        rotate_left
        · simp [go_sem, List.take_of_length_le] <;> with_reducible rfl
        exact Fz.cl rfl
      · cases h
    have hh : hasN (readyL n long hs) log[i].1 = true := by simpa using h
    rw [hh]
    obtain ⟨k, hk, hklt⟩ := ready_lt hh
    have hwk := waits_of_ready hklt (by rw [← hk]; exact hh)
    rw [hk, Int.toNat_natCast]
    repeat' first
      | refine Holds.seq ?_
      | refine Holds.skip ?_
      | refine Holds.exit ?_
      | refine Holds.ret ?_
      | refine thenA_normal ?_
      | refine thenA_exit ?_
      | refine thenA_ret ?_
      | refine inB_normal ?_
      | refine inB_ret ?_
      | refine inB_here ?_
      | (refine inB_past ?_ ?_; (· exact rfl))
      | refine Holds.reg ?_
      | refine Holds.block ?_
      | refine GS.nil ?_
      | refine Gd.nil ?_
      | (refine Holds.any mixed ?_ ?_; (· kernel_rfl))
      | (refine GS.step (s' := ?_) ?_ ?_ ?_; rotate_left; (· exact rfl); (· (simp [go_sem, List.take_of_length_le, doneC, hk] <;> with_reducible rfl)))
      | (refine GS.skip ?_ ?_ ?_; (· exact rfl); (· exact rfl))
      | (refine Gd.go (s' := ?_) ?_ ?_ ?_; rotate_left; (· exact rfl); (· (simp [go_sem, List.take_of_length_le, doneC, hk] <;> with_reducible rfl)))
      | (refine Gd.skip ?_ ?_ ?_; (· exact rfl); (· exact rfl))
      | refine Gx.nil ?_
      | (refine Gx.go (s' := ?_) rfl ?_ ?_ ?_; rotate_left; (· exact rfl); (· (simp [go_sem, List.take_of_length_le, doneC, hk] <;> with_reducible rfl)))
      | (refine Gx.skip rfl ?_ ?_ ?_; (· exact rfl); (· exact rfl))
      | (refine Gx.skipW rfl ?_ ?_ ?_; (· exact rfl); (· exact rfl))
      | (refine Gx.skipH rfl ?_ ?_ ?_; (· exact rfl); (· exact rfl))
      | (refine Gx.hid (r := ?_) rfl ?_ ?_ ?_ ?_; rotate_left; (· exact rfl); (· exact rfl); (· (simp [go_sem, List.take_of_length_le, doneC, hk] <;> with_reducible rfl)))
      | (refine Gx.wr (s' := ?_) rfl ?_ ?_ ?_ ?_; rotate_left; (· exact rfl); (· (simp [go_sem, List.take_of_length_le, doneC, hk] <;> with_reducible rfl)); (· (simp [go_sem, List.take_of_length_le, doneC, hk])))
      | fail
    first | refine GS.fnn [0, 1, 2] (waveDo n long hs k hn (by omega) hm hklt hok.2 hwk) rfl rfl rfl rfl (by simp [go_sem, List.take_of_length_le, ren, ren1, okr, okr1, ChkN, BlkN, List.range_succ, nf, waveC, doneC] <;> with_reducible rfl) (by simp [go_sem, List.take_of_length_le, ren, ren1, okr, okr1, ChkN, BlkN, List.range_succ, nf, waveC, doneC]) (by simp [go_sem, List.take_of_length_le, ren, ren1, okr, okr1, ChkN, BlkN, List.range_succ, nf, waveC, doneC]) (by simp [List.range_succ, lb]) (ChkN.toB (by simp [go_sem, List.take_of_length_le, ren, ren1, okr, okr1, ChkN, BlkN, List.range_succ, nf, waveC, doneC])) (by decide) (by simp) rfl (.okw (by simp [waveC, okr, okr1]) (.nfr (by simp) (.nfr (by simp) .nil))) (by simp [go_sem, List.take_of_length_le, ren, ren1, okr, okr1, ChkN, BlkN, List.range_succ, nf, waveC, doneC] <;> with_reducible rfl) ?_ | refine Gx.fnn [0, 1, 2] (waveDo n long hs k hn (by omega) hm hklt hok.2 hwk) rfl rfl rfl rfl rfl (by simp [go_sem, List.take_of_length_le, ren, ren1, okr, okr1, ChkN, BlkN, List.range_succ, nf, waveC, doneC] <;> with_reducible rfl) (by simp [go_sem, List.take_of_length_le, ren, ren1, okr, okr1, ChkN, BlkN, List.range_succ, nf, waveC, doneC]) (by simp [go_sem, List.take_of_length_le, ren, ren1, okr, okr1, ChkN, BlkN, List.range_succ, nf, waveC, doneC]) (by simp [List.range_succ, lb]) (ChkN.toB (by simp [go_sem, List.take_of_length_le, ren, ren1, okr, okr1, ChkN, BlkN, List.range_succ, nf, waveC, doneC])) (by decide) (by simp) rfl (.okw (by simp [waveC, okr, okr1]) (.nfr (by simp) (.nfr (by simp) .nil))) (by simp [go_sem, List.take_of_length_le, ren, ren1, okr, okr1, ChkN, BlkN, List.range_succ, nf, waveC, doneC]) (by simp [go_sem, List.take_of_length_le, ren, ren1, okr, okr1, ChkN, BlkN, List.range_succ, nf, waveC, doneC] <;> with_reducible rfl) ?_
    repeat' first
      | refine Holds.seq ?_
      | refine Holds.skip ?_
      | refine Holds.exit ?_
      | refine Holds.ret ?_
      | refine thenA_normal ?_
      | refine thenA_exit ?_
      | refine thenA_ret ?_
      | refine inB_normal ?_
      | refine inB_ret ?_
      | refine inB_here ?_
      | (refine inB_past ?_ ?_; (· exact rfl))
      | refine Holds.reg ?_
      | refine Holds.block ?_
      | refine GS.nil ?_
      | refine Gd.nil ?_
      | (refine Holds.any mixed ?_ ?_; (· kernel_rfl))
      | (refine GS.step (s' := ?_) ?_ ?_ ?_; rotate_left; (· exact rfl); (· (simp [go_sem, List.take_of_length_le, doneC, hk] <;> with_reducible rfl)))
      | (refine GS.skip ?_ ?_ ?_; (· exact rfl); (· exact rfl))
      | (refine Gd.go (s' := ?_) ?_ ?_ ?_; rotate_left; (· exact rfl); (· (simp [go_sem, List.take_of_length_le, doneC, hk] <;> with_reducible rfl)))
      | (refine Gd.skip ?_ ?_ ?_; (· exact rfl); (· exact rfl))
      | refine Gx.nil ?_
      | (refine Gx.go (s' := ?_) rfl ?_ ?_ ?_; rotate_left; (· exact rfl); (· (simp [go_sem, List.take_of_length_le, doneC, hk] <;> with_reducible rfl)))
      | (refine Gx.skip rfl ?_ ?_ ?_; (· exact rfl); (· exact rfl))
      | (refine Gx.skipW rfl ?_ ?_ ?_; (· exact rfl); (· exact rfl))
      | (refine Gx.skipH rfl ?_ ?_ ?_; (· exact rfl); (· exact rfl))
      | (refine Gx.hid (r := ?_) rfl ?_ ?_ ?_ ?_; rotate_left; (· exact rfl); (· exact rfl); (· (simp [go_sem, List.take_of_length_le, doneC, hk] <;> with_reducible rfl)))
      | (refine Gx.wr (s' := ?_) rfl ?_ ?_ ?_ ?_; rotate_left; (· exact rfl); (· (simp [go_sem, List.take_of_length_le, doneC, hk] <;> with_reducible rfl)); (· (simp [go_sem, List.take_of_length_le, doneC, hk])))
      | fail
    have hk4 : done4 log[i] = [(k : Int), log[i].2.1, log[i].2.2.1, log[i].2.2.2] := by simp [done4, hk]
    refine Gx.calm rfl rfl rfl (.neS (xs := done4 (stepS n long hs k).1) (ys := [(k : Int), log[i].2.1, log[i].2.2.1, log[i].2.2.2]) rfl eqDone4 rfl rfl rfl rfl rfl) ?_
    rw [← hk4]
    repeat' first
      | refine Holds.seq ?_
      | refine Holds.skip ?_
      | refine Holds.exit ?_
      | refine Holds.ret ?_
      | refine thenA_normal ?_
      | refine thenA_exit ?_
      | refine thenA_ret ?_
      | refine inB_normal ?_
      | refine inB_ret ?_
      | refine inB_here ?_
      | (refine inB_past ?_ ?_; (· exact rfl))
      | refine Holds.reg ?_
      | refine Holds.block ?_
      | refine GS.nil ?_
      | refine Gd.nil ?_
      | (refine Holds.any mixed ?_ ?_; (· kernel_rfl))
      | (refine GS.step (s' := ?_) ?_ ?_ ?_; rotate_left; (· exact rfl); (· (simp [go_sem, List.take_of_length_le] <;> with_reducible rfl)))
      | (refine GS.skip ?_ ?_ ?_; (· exact rfl); (· exact rfl))
      | (refine Gd.go (s' := ?_) ?_ ?_ ?_; rotate_left; (· exact rfl); (· (simp [go_sem, List.take_of_length_le] <;> with_reducible rfl)))
      | (refine Gd.skip ?_ ?_ ?_; (· exact rfl); (· exact rfl))
      | refine Gx.nil ?_
      | (refine Gx.go (s' := ?_) rfl ?_ ?_ ?_; rotate_left; (· exact rfl); (· (simp [go_sem, List.take_of_length_le] <;> with_reducible rfl)))
      | (refine Gx.skip rfl ?_ ?_ ?_; (· exact rfl); (· exact rfl))
      | (refine Gx.skipW rfl ?_ ?_ ?_; (· exact rfl); (· exact rfl))
      | (refine Gx.skipH rfl ?_ ?_ ?_; (· exact rfl); (· exact rfl))
      | (refine Gx.hid (r := ?_) rfl ?_ ?_ ?_ ?_; rotate_left; (· exact rfl); (· exact rfl); (· (simp [go_sem, List.take_of_length_le] <;> with_reducible rfl)))
      | (refine Gx.wr (s' := ?_) rfl ?_ ?_ ?_ ?_; rotate_left; (· exact rfl); (· (simp [go_sem, List.take_of_length_le] <;> with_reducible rfl)); (· (simp [go_sem, List.take_of_length_le])))
      | fail
    refine Holds.cond rfl (fun h => ?_) (fun h => ?_)
    · have hne : ¬ (stepS n long hs k).1 = log[i] := fun e => by rw [e] at h; simp at h
      rw [decide_eq_false hne]
      repeat' first
        | refine Holds.seq ?_
        | refine Holds.skip ?_
        | refine Holds.exit ?_
        | refine Holds.ret ?_
        | refine thenA_normal ?_
        | refine thenA_exit ?_
        | refine thenA_ret ?_
        | refine inB_normal ?_
        | refine inB_ret ?_
        | refine inB_here ?_
        | (refine inB_past ?_ ?_; (· exact rfl))
        | refine Holds.reg ?_
        | refine Holds.block ?_
        | refine GS.nil ?_
        | refine Gd.nil ?_
        | (refine Holds.any mixed ?_ ?_; (· kernel_rfl))
        | (refine GS.step (s' := ?_) ?_ ?_ ?_; rotate_left; (· exact rfl); (· (simp [go_sem, List.take_of_length_le] <;> with_reducible rfl)))
        | (refine GS.skip ?_ ?_ ?_; (· exact rfl); (· exact rfl))
        | (refine Gd.go (s' := ?_) ?_ ?_ ?_; rotate_left; (· exact rfl); (· (simp [go_sem, List.take_of_length_le] <;> with_reducible rfl)))
        | (refine Gd.skip ?_ ?_ ?_; (· exact rfl); (· exact rfl))
        | refine Gx.nil ?_
        | (refine Gx.go (s' := ?_) rfl ?_ ?_ ?_; rotate_left; (· exact rfl); (· (simp [go_sem, List.take_of_length_le] <;> with_reducible rfl)))
        | (refine Gx.skip rfl ?_ ?_ ?_; (· exact rfl); (· exact rfl))
        | (refine Gx.skipW rfl ?_ ?_ ?_; (· exact rfl); (· exact rfl))
        | (refine Gx.skipH rfl ?_ ?_ ?_; (· exact rfl); (· exact rfl))
        | (refine Gx.hid (r := ?_) rfl ?_ ?_ ?_ ?_; rotate_left; (· exact rfl); (· exact rfl); (· (simp [go_sem, List.take_of_length_le] <;> with_reducible rfl)))
        | (refine Gx.wr (s' := ?_) rfl ?_ ?_ ?_ ?_; rotate_left; (· exact rfl); (· (simp [go_sem, List.take_of_length_le] <;> with_reducible rfl)); (· (simp [go_sem, List.take_of_length_le])))
        | fail
      refine Out.mk (xs := ?_) ?_ ?_ (by first | exact .inr rfl | exact .inl rfl)
      rotate_left
      · simp [go_sem, List.take_of_length_le] <;> with_reducible rfl
      exact Fz.cl rfl
    · have he : (stepS n long hs k).1 = log[i] := done4_ext.1 (by simpa using h)
      rw [decide_eq_true he]
      have hok2 := hok.step (long := long) hn hklt
      repeat' first
        | refine Holds.seq ?_
        | refine Holds.skip ?_
        | refine Holds.exit ?_
        | refine Holds.ret ?_
        | refine thenA_normal ?_
        | refine thenA_exit ?_
        | refine thenA_ret ?_
        | refine inB_normal ?_
        | refine inB_ret ?_
        | refine inB_here ?_
        | (refine inB_past ?_ ?_; (· exact rfl))
        | refine Holds.reg ?_
        | refine Holds.block ?_
        | refine GS.nil ?_
        | refine Gd.nil ?_
        | (refine Holds.any mixed ?_ ?_; (· kernel_rfl))
        | (refine GS.step (s' := ?_) ?_ ?_ ?_; rotate_left; (· exact rfl); (· (simp [go_sem, List.take_of_length_le] <;> with_reducible rfl)))
        | (refine GS.skip ?_ ?_ ?_; (· exact rfl); (· exact rfl))
        | (refine Gd.go (s' := ?_) ?_ ?_ ?_; rotate_left; (· exact rfl); (· (simp [go_sem, List.take_of_length_le] <;> with_reducible rfl)))
        | (refine Gd.skip ?_ ?_ ?_; (· exact rfl); (· exact rfl))
        | refine Gx.nil ?_
        | (refine Gx.go (s' := ?_) rfl ?_ ?_ ?_; rotate_left; (· exact rfl); (· (simp [go_sem, List.take_of_length_le] <;> with_reducible rfl)))
        | (refine Gx.skip rfl ?_ ?_ ?_; (· exact rfl); (· exact rfl))
        | (refine Gx.skipW rfl ?_ ?_ ?_; (· exact rfl); (· exact rfl))
        | (refine Gx.skipH rfl ?_ ?_ ?_; (· exact rfl); (· exact rfl))
        | (refine Gx.hid (r := ?_) rfl ?_ ?_ ?_ ?_; rotate_left; (· exact rfl); (· exact rfl); (· (simp [go_sem, List.take_of_length_le] <;> with_reducible rfl)))
        | (refine Gx.wr (s' := ?_) rfl ?_ ?_ ?_ ?_; rotate_left; (· exact rfl); (· (simp [go_sem, List.take_of_length_le] <;> with_reducible rfl)); (· (simp [go_sem, List.take_of_length_le])))
        | fail
      refine ⟨(i + 1, goLong long (stepS n long hs k).2, goHs (stepS n long hs k).2), ⟨hlt, ?_, hok2.go, by simp⟩, by show log.length - (i + 1) < log.length - i; omega, ?_⟩
      · have := goLong_le long (stepS n long hs k).2
        show goLong long (stepS n long hs k).2 ≤ 1 + (i + 1)
        omega
      rw [wr64_id (by omega) (by omega)]
      exact Cov.ofn (nm [0, 1, 5]) rfl (by simp [go_sem, List.take_of_length_le, ren, ren1, okr, okr1, ChkT, ChkN, BlkN, nf]) (by simp [go_sem, List.take_of_length_le, ren, ren1, okr, okr1, ChkT, ChkN, BlkN, nf])
  · have hle : i = log.length := by
      have : ¬ i < log.length := by simpa using hl
      omega
    subst hle
    rw [List.drop_length]
    simp only [waveOk]
    repeat' first
      | refine Holds.seq ?_
      | refine Holds.skip ?_
      | refine Holds.exit ?_
      | refine Holds.ret ?_
      | refine thenA_normal ?_
      | refine thenA_exit ?_
      | refine thenA_ret ?_
      | refine inB_normal ?_
      | refine inB_ret ?_
      | refine inB_here ?_
      | (refine inB_past ?_ ?_; (· exact rfl))
      | refine Holds.reg ?_
      | refine Holds.block ?_
      | refine GS.nil ?_
      | refine Gd.nil ?_
      | (refine Holds.any mixed ?_ ?_; (· kernel_rfl))
      | (refine GS.step (s' := ?_) ?_ ?_ ?_; rotate_left; (· exact rfl); (· (simp [go_sem, List.take_of_length_le] <;> with_reducible rfl)))
      | (refine GS.skip ?_ ?_ ?_; (· exact rfl); (· exact rfl))
      | (refine Gd.go (s' := ?_) ?_ ?_ ?_; rotate_left; (· exact rfl); (· (simp [go_sem, List.take_of_length_le] <;> with_reducible rfl)))
      | (refine Gd.skip ?_ ?_ ?_; (· exact rfl); (· exact rfl))
      | refine Gx.nil ?_
      | (refine Gx.go (s' := ?_) rfl ?_ ?_ ?_; rotate_left; (· exact rfl); (· (simp [go_sem, List.take_of_length_le] <;> with_reducible rfl)))
      | (refine Gx.skip rfl ?_ ?_ ?_; (· exact rfl); (· exact rfl))
      | (refine Gx.skipW rfl ?_ ?_ ?_; (· exact rfl); (· exact rfl))
      | (refine Gx.skipH rfl ?_ ?_ ?_; (· exact rfl); (· exact rfl))
      | (refine Gx.hid (r := ?_) rfl ?_ ?_ ?_ ?_; rotate_left; (· exact rfl); (· exact rfl); (· (simp [go_sem, List.take_of_length_le] <;> with_reducible rfl)))
      | (refine Gx.wr (s' := ?_) rfl ?_ ?_ ?_ ?_; rotate_left; (· exact rfl); (· (simp [go_sem, List.take_of_length_le] <;> with_reducible rfl)); (· (simp [go_sem, List.take_of_length_le])))
      | fail
    first | refine GS.fnn [0, 1, 2] (hab) rfl rfl rfl rfl (by simp [go_sem, List.take_of_length_le, ren, ren1, okr, okr1, ChkN, BlkN, List.range_succ, nf, waveC] <;> with_reducible rfl) (by simp [go_sem, List.take_of_length_le, ren, ren1, okr, okr1, ChkN, BlkN, List.range_succ, nf, waveC]) (by simp [go_sem, List.take_of_length_le, ren, ren1, okr, okr1, ChkN, BlkN, List.range_succ, nf, waveC]) (by simp [List.range_succ, lb]) (ChkN.toB (by simp [go_sem, List.take_of_length_le, ren, ren1, okr, okr1, ChkN, BlkN, List.range_succ, nf, waveC])) (by decide) (by simp) rfl (.okw (by simp [waveC, okr, okr1]) (.nfr (by simp) (.nfr (by simp) (.nfr (by simp) .nil)))) (by simp [go_sem, List.take_of_length_le, ren, ren1, okr, okr1, ChkN, BlkN, List.range_succ, nf, waveC] <;> with_reducible rfl) ?_ | refine Gx.fnn [0, 1, 2] (hab) rfl rfl rfl rfl rfl (by simp [go_sem, List.take_of_length_le, ren, ren1, okr, okr1, ChkN, BlkN, List.range_succ, nf, waveC] <;> with_reducible rfl) (by simp [go_sem, List.take_of_length_le, ren, ren1, okr, okr1, ChkN, BlkN, List.range_succ, nf, waveC]) (by simp [go_sem, List.take_of_length_le, ren, ren1, okr, okr1, ChkN, BlkN, List.range_succ, nf, waveC]) (by simp [List.range_succ, lb]) (ChkN.toB (by simp [go_sem, List.take_of_length_le, ren, ren1, okr, okr1, ChkN, BlkN, List.range_succ, nf, waveC])) (by decide) (by simp) rfl (.okw (by simp [waveC, okr, okr1]) (.nfr (by simp) (.nfr (by simp) (.nfr (by simp) .nil)))) (by simp [go_sem, List.take_of_length_le, ren, ren1, okr, okr1, ChkN, BlkN, List.range_succ, nf, waveC]) (by simp [go_sem, List.take_of_length_le, ren, ren1, okr, okr1, ChkN, BlkN, List.range_succ, nf, waveC] <;> with_reducible rfl) ?_
    repeat' first
      | refine Holds.seq ?_
      | refine Holds.skip ?_
      | refine Holds.exit ?_
      | refine Holds.ret ?_
      | refine thenA_normal ?_
      | refine thenA_exit ?_
      | refine thenA_ret ?_
      | refine inB_normal ?_
      | refine inB_ret ?_
      | refine inB_here ?_
      | (refine inB_past ?_ ?_; (· exact rfl))
      | refine Holds.reg ?_
      | refine Holds.block ?_
      | refine GS.nil ?_
      | refine Gd.nil ?_
      | (refine Holds.any mixed ?_ ?_; (· kernel_rfl))
      | (refine GS.step (s' := ?_) ?_ ?_ ?_; rotate_left; (· exact rfl); (· (simp [go_sem, List.take_of_length_le] <;> with_reducible rfl)))
      | (refine GS.skip ?_ ?_ ?_; (· exact rfl); (· exact rfl))
      | (refine Gd.go (s' := ?_) ?_ ?_ ?_; rotate_left; (· exact rfl); (· (simp [go_sem, List.take_of_length_le] <;> with_reducible rfl)))
      | (refine Gd.skip ?_ ?_ ?_; (· exact rfl); (· exact rfl))
      | refine Gx.nil ?_
      | (refine Gx.go (s' := ?_) rfl ?_ ?_ ?_; rotate_left; (· exact rfl); (· (simp [go_sem, List.take_of_length_le] <;> with_reducible rfl)))
      | (refine Gx.skip rfl ?_ ?_ ?_; (· exact rfl); (· exact rfl))
      | (refine Gx.skipW rfl ?_ ?_ ?_; (· exact rfl); (· exact rfl))
      | (refine Gx.skipH rfl ?_ ?_ ?_; (· exact rfl); (· exact rfl))
      | (refine Gx.hid (r := ?_) rfl ?_ ?_ ?_ ?_; rotate_left; (· exact rfl); (· exact rfl); (· (simp [go_sem, List.take_of_length_le] <;> with_reducible rfl)))
      | (refine Gx.wr (s' := ?_) rfl ?_ ?_ ?_ ?_; rotate_left; (· exact rfl); (· (simp [go_sem, List.take_of_length_le] <;> with_reducible rfl)); (· (simp [go_sem, List.take_of_length_le])))
      | fail
    refine Out.mk (xs := ?_) ?_ ?_ (by first | exact .inr rfl | exact .inl rfl)
    rotate_left
    · simp [go_sem, List.take_of_length_le] <;> with_reducible rfl
    exact Fz.cl rfl
end Go.Proofs.Ytbapglkldnlckaa.En
