/- Walks of IsWave: the specification. -/
import Derived.Test.YtbapglkldnlckaaWq
namespace Go.Proofs.Ytbapglkldnlckaa.En
open Go.RowKit
set_option linter.unusedSimpArgs false
set_option linter.unusedVariables false
set_option maxHeartbeats 4000000
theorem eqDone4 : EqT Try.prog 110 4 := EqT.mk (by kernel_rfl) (by kernel_rfl) (by kernel_rfl) (by kernel_rfl) (by kernel_rfl)
def done4 (d : DoneT) : List Int := [d.1, d.2.1, d.2.2.1, d.2.2.2]
theorem done4_ext {a b : DoneT} : done4 a = done4 b ↔ a = b := by
  obtain ⟨a1, a2, a3, a4⟩ := a
  obtain ⟨b1, b2, b3, b4⟩ := b
  simp [done4]
/-- Are these steps those of a wave? -/
def waveOk (n : Nat) : Nat → List (Nat × Bool) → List DoneT → Bool
  | long, hs, [] => (((readyL n long hs).length : Int) == 0)
  | long, hs, d :: ds => hasN (readyL n long hs) d.1 && decide ((stepS n long hs d.1.toNat).1 = d) && waveOk n (goLong long (stepS n long hs d.1.toNat).2) (goHs (stepS n long hs d.1.toNat).2) ds
theorem idxs_mem {α : Type} (p : α → Bool) : ∀ (xs : List α) (k : Nat) (z : Int), z ∈ idxs p k xs → ∃ j : Nat, z = ((k + j : Nat) : Int) ∧ j < xs.length
  | [], k, z, h => by simp [idxs] at h
  | x :: xs, k, z, h => by
    have key : z ∈ idxs p (k + 1) xs → ∃ j : Nat, z = ((k + j : Nat) : Int) ∧ j < (x :: xs).length := fun h => by
      obtain ⟨j, h1, h2⟩ := idxs_mem p xs (k + 1) z h
      exact ⟨j + 1, by rw [h1]; congr 1; omega, by simpa using h2⟩
    unfold idxs at h
    split at h
    · rcases List.mem_cons.1 h with rfl | h
      · exact ⟨0, by simp, by simp⟩
      · exact key h
    · exact key h
theorem hasN_mem {xs : List Int} {n : Int} (h : hasN xs n = true) : n ∈ xs := by simpa [hasN] using h
theorem ready_lt {n long : Nat} {hs : List (Nat × Bool)} {z : Int} (h : hasN (readyL n long hs) z = true) : ∃ k : Nat, z = k ∧ k < hs.length := by
  obtain ⟨j, h1, h2⟩ := idxs_mem _ _ _ _ (hasN_mem h)
  exact ⟨j, by simpa using h1, h2⟩
/-- What hands keep to. -/
def okHs (H : Nat) (hs : List (Nat × Bool)) : Prop := hs.length = H ∧ ∀ h ∈ hs, h.1 ≤ 11
theorem okHs.step {H n long k : Nat} {hs : List (Nat × Bool)} (h : okHs H hs) (hn : n ≤ 10) (hk : k < hs.length) : okHs H (stepS n long hs k).2 := by
  have hg : hs.getD k (0, false) = hs[k] := by simp [hk]
  have h0 := h.2 _ (List.getElem_mem hk)
  unfold stepS
  rw [hg]
  dsimp only
  split
  · rename_i hc
    have h3 : hs[k].1 ≤ hs[k].1 * hs.length := Nat.le_mul_of_pos_right _ (by omega)
    refine ⟨by simpa using h.1, fun x hx => ?_⟩
    rcases List.mem_or_eq_of_mem_set hx with g | rfl
    · exact h.2 x g
    · show hs[k].1 + 1 ≤ 11
      omega
  · refine ⟨by simpa using h.1, fun x hx => ?_⟩
    rcases List.mem_or_eq_of_mem_set hx with g | rfl
    · exact h.2 x g
    · exact h0
theorem okHs.go {H : Nat} {hs : List (Nat × Bool)} (h : okHs H hs) : okHs H (goHs hs) := by
  unfold goHs
  split
  · exact ⟨by simpa using h.1, fun x hx => by rw [List.mem_map] at hx; obtain ⟨_, _, rfl⟩ := hx; exact Nat.zero_le _⟩
  · exact h
theorem goLong_le (long : Nat) (hs : List (Nat × Bool)) : goLong long hs ≤ long + 1 := by unfold goLong; split <;> omega
def startHs (H : Nat) : List (Nat × Bool) := List.replicate H (0, false)
theorem okHs.start (H : Nat) : okHs H (startHs H) := ⟨by simp [startHs], fun x hx => by simp [startHs] at hx; rw [hx.2]; exact Nat.zero_le _⟩
def isWaveV (n m : Int) (log : List DoneT) : Bool × Bool :=
  if inR n 0 10 && inR m 1 4 && decide (log.length ≤ 200) then (waveOk n.toNat 1 (startHs m.toNat) log, true) else (false, false)
theorem specIsWave (n m : Int) (log : List DoneT) (hx : log.length < 4611686018427387904) : Pure Try.prog 28 [.v (.int .i64 n), .v (.int .i64 m), .im 4 (dones log)] (.tu [.v (.bool (isWaveV n m log).1), .v (.bool (isWaveV n m log).2)]) := by
  refine Pure.mk (rs := [.tmp 6, .tmp 7]) (nt := 52) Try.func28 (by kernel_rfl) rfl rfl rfl (by simp) ?_
  simp only [sl]
  repeat' first
    | refine Holds.seq ?_
    | refine Holds.skip ?_
    | refine Holds.exit ?_
    | refine Holds.ret ?_
    | refine thenA_normal ?_
    | refine thenA_exit ?_
    | refine thenA_ret ?_
    | refine inB_normal ?_
    | refine inB_ret ?_
    | refine inB_here ?_
    | (refine inB_past ?_ ?_; (· exact rfl))
    | refine Holds.reg ?_
    | refine Holds.block ?_
    | refine GS.nil ?_
    | refine Gd.nil ?_
    | (refine Holds.any mixed ?_ ?_; (· kernel_rfl))
    | (refine GS.step (s' := ?_) ?_ ?_ ?_; rotate_left; (· exact rfl); (· (simp [go_sem, List.take_of_length_le] <;> with_reducible rfl)))
    | (refine GS.skip ?_ ?_ ?_; (· exact rfl); (· exact rfl))
    | (refine Gd.go (s' := ?_) ?_ ?_ ?_; rotate_left; (· exact rfl); (· (simp [go_sem, List.take_of_length_le] <;> with_reducible rfl)))
    | (refine Gd.skip ?_ ?_ ?_; (· exact rfl); (· exact rfl))
    | refine Gx.nil ?_
    | (refine Gx.go (s' := ?_) rfl ?_ ?_ ?_; rotate_left; (· exact rfl); (· (simp [go_sem, List.take_of_length_le] <;> with_reducible rfl)))
    | (refine Gx.skip rfl ?_ ?_ ?_; (· exact rfl); (· exact rfl))
    | (refine Gx.skipW rfl ?_ ?_ ?_; (· exact rfl); (· exact rfl))
    | (refine Gx.skipH rfl ?_ ?_ ?_; (· exact rfl); (· exact rfl))
    | (refine Gx.hid (r := ?_) rfl ?_ ?_ ?_ ?_; rotate_left; (· exact rfl); (· exact rfl); (· (simp [go_sem, List.take_of_length_le] <;> with_reducible rfl)))
    | (refine Gx.wr (s' := ?_) rfl ?_ ?_ ?_ ?_; rotate_left; (· exact rfl); (· (simp [go_sem, List.take_of_length_le] <;> with_reducible rfl)); (· (simp [go_sem, List.take_of_length_le])))
    | fail
  first | refine GS.cc (l8Hands n m) rfl rfl rfl rfl (by simp [go_sem, List.take_of_length_le] <;> with_reducible rfl) rfl (by simp [go_sem, List.take_of_length_le]) ?_ | refine Gd.cc (l8Hands n m) rfl rfl rfl rfl (by simp [go_sem, List.take_of_length_le] <;> with_reducible rfl) rfl (by simp [go_sem, List.take_of_length_le]) ?_ | refine Gx.cc (l8Hands n m) rfl rfl rfl rfl rfl (by simp [go_sem, List.take_of_length_le] <;> with_reducible rfl) rfl (by simp [go_sem, List.take_of_length_le]) ?_
  generalize hg : (inR n 0 10 && inR m 1 4) = g
  repeat' first
    | refine Holds.seq ?_
    | refine Holds.skip ?_
    | refine Holds.exit ?_
    | refine Holds.ret ?_
    | refine thenA_normal ?_
    | refine thenA_exit ?_
    | refine thenA_ret ?_
    | refine inB_normal ?_
    | refine inB_ret ?_
    | refine inB_here ?_
    | (refine inB_past ?_ ?_; (· exact rfl))
    | refine Holds.reg ?_
    | refine Holds.block ?_
    | refine GS.nil ?_
    | refine Gd.nil ?_
    | (refine Holds.any mixed ?_ ?_; (· kernel_rfl))
    | (refine GS.step (s' := ?_) ?_ ?_ ?_; rotate_left; (· exact rfl); (· (simp [go_sem, List.take_of_length_le] <;> with_reducible rfl)))
    | (refine GS.skip ?_ ?_ ?_; (· exact rfl); (· exact rfl))
    | (refine Gd.go (s' := ?_) ?_ ?_ ?_; rotate_left; (· exact rfl); (· (simp [go_sem, List.take_of_length_le] <;> with_reducible rfl)))
    | (refine Gd.skip ?_ ?_ ?_; (· exact rfl); (· exact rfl))
    | refine Gx.nil ?_
    | (refine Gx.go (s' := ?_) rfl ?_ ?_ ?_; rotate_left; (· exact rfl); (· (simp [go_sem, List.take_of_length_le] <;> with_reducible rfl)))
    | (refine Gx.skip rfl ?_ ?_ ?_; (· exact rfl); (· exact rfl))
    | (refine Gx.skipW rfl ?_ ?_ ?_; (· exact rfl); (· exact rfl))
    | (refine Gx.skipH rfl ?_ ?_ ?_; (· exact rfl); (· exact rfl))
    | (refine Gx.hid (r := ?_) rfl ?_ ?_ ?_ ?_; rotate_left; (· exact rfl); (· exact rfl); (· (simp [go_sem, List.take_of_length_le] <;> with_reducible rfl)))
    | (refine Gx.wr (s' := ?_) rfl ?_ ?_ ?_ ?_; rotate_left; (· exact rfl); (· (simp [go_sem, List.take_of_length_le] <;> with_reducible rfl)); (· (simp [go_sem, List.take_of_length_le])))
    | fail
  refine GS.guard (t := 15) rfl (fun h => ?_) (fun h => ?_)
  · have h : g = false := by simpa using h
    subst h
    rw [show isWaveV n m log = (false, false) by unfold isWaveV; rw [hg]; rfl]
    repeat' first
      | refine Holds.seq ?_
      | refine Holds.skip ?_
      | refine Holds.exit ?_
      | refine Holds.ret ?_
      | refine thenA_normal ?_
      | refine thenA_exit ?_
      | refine thenA_ret ?_
      | refine inB_normal ?_
      | refine inB_ret ?_
      | refine inB_here ?_
      | (refine inB_past ?_ ?_; (· exact rfl))
      | refine Holds.reg ?_
      | refine Holds.block ?_
      | refine GS.nil ?_
      | refine Gd.nil ?_
      | (refine Holds.any mixed ?_ ?_; (· kernel_rfl))
      | (refine GS.step (s' := ?_) ?_ ?_ ?_; rotate_left; (· exact rfl); (· (simp [go_sem, List.take_of_length_le] <;> with_reducible rfl)))
      | (refine GS.skip ?_ ?_ ?_; (· exact rfl); (· exact rfl))
      | (refine Gd.go (s' := ?_) ?_ ?_ ?_; rotate_left; (· exact rfl); (· (simp [go_sem, List.take_of_length_le] <;> with_reducible rfl)))
      | (refine Gd.skip ?_ ?_ ?_; (· exact rfl); (· exact rfl))
      | refine Gx.nil ?_
      | (refine Gx.go (s' := ?_) rfl ?_ ?_ ?_; rotate_left; (· exact rfl); (· (simp [go_sem, List.take_of_length_le] <;> with_reducible rfl)))
      | (refine Gx.skip rfl ?_ ?_ ?_; (· exact rfl); (· exact rfl))
      | (refine Gx.skipW rfl ?_ ?_ ?_; (· exact rfl); (· exact rfl))
      | (refine Gx.skipH rfl ?_ ?_ ?_; (· exact rfl); (· exact rfl))
      | (refine Gx.hid (r := ?_) rfl ?_ ?_ ?_ ?_; rotate_left; (· exact rfl); (· exact rfl); (· (simp [go_sem, List.take_of_length_le] <;> with_reducible rfl)))
      | (refine Gx.wr (s' := ?_) rfl ?_ ?_ ?_ ?_; rotate_left; (· exact rfl); (· (simp [go_sem, List.take_of_length_le] <;> with_reducible rfl)); (· (simp [go_sem, List.take_of_length_le])))
      | fail
    refine Holds.cond rfl (fun h => ?_) (fun h => ?_)
    · repeat' first
        | refine Holds.seq ?_
        | refine Holds.skip ?_
        | refine Holds.exit ?_
        | refine Holds.ret ?_
        | refine thenA_normal ?_
        | refine thenA_exit ?_
        | refine thenA_ret ?_
        | refine inB_normal ?_
        | refine inB_ret ?_
        | refine inB_here ?_
        | (refine inB_past ?_ ?_; (· exact rfl))
        | refine Holds.reg ?_
        | refine Holds.block ?_
        | refine GS.nil ?_
        | refine Gd.nil ?_
        | (refine Holds.any mixed ?_ ?_; (· kernel_rfl))
        | (refine GS.step (s' := ?_) ?_ ?_ ?_; rotate_left; (· exact rfl); (· (simp [go_sem, List.take_of_length_le] <;> with_reducible rfl)))
        | (refine GS.skip ?_ ?_ ?_; (· exact rfl); (· exact rfl))
        | (refine Gd.go (s' := ?_) ?_ ?_ ?_; rotate_left; (· exact rfl); (· (simp [go_sem, List.take_of_length_le] <;> with_reducible rfl)))
        | (refine Gd.skip ?_ ?_ ?_; (· exact rfl); (· exact rfl))
        | refine Gx.nil ?_
        | (refine Gx.go (s' := ?_) rfl ?_ ?_ ?_; rotate_left; (· exact rfl); (· (simp [go_sem, List.take_of_length_le] <;> with_reducible rfl)))
        | (refine Gx.skip rfl ?_ ?_ ?_; (· exact rfl); (· exact rfl))
        | (refine Gx.skipW rfl ?_ ?_ ?_; (· exact rfl); (· exact rfl))
        | (refine Gx.skipH rfl ?_ ?_ ?_; (· exact rfl); (· exact rfl))
        | (refine Gx.hid (r := ?_) rfl ?_ ?_ ?_ ?_; rotate_left; (· exact rfl); (· exact rfl); (· (simp [go_sem, List.take_of_length_le] <;> with_reducible rfl)))
        | (refine Gx.wr (s' := ?_) rfl ?_ ?_ ?_ ?_; rotate_left; (· exact rfl); (· (simp [go_sem, List.take_of_length_le] <;> with_reducible rfl)); (· (simp [go_sem, List.take_of_length_le])))
        | fail
      refine Out.mk (xs := ?_) ?_ ?_ (by first | exact .inr rfl | exact .inl rfl)
      rotate_left
      · simp [go_sem, List.take_of_length_le] <;> with_reducible rfl
      exact Fz.cl rfl
    · cases h
  have hA : (inR n 0 10 && inR m 1 4) = true := by rw [hg]; simpa using h
  clear hg
  repeat' first
    | refine Holds.seq ?_
    | refine Holds.skip ?_
    | refine Holds.exit ?_
    | refine Holds.ret ?_
    | refine thenA_normal ?_
    | refine thenA_exit ?_
    | refine thenA_ret ?_
    | refine inB_normal ?_
    | refine inB_ret ?_
    | refine inB_here ?_
    | (refine inB_past ?_ ?_; (· exact rfl))
    | refine Holds.reg ?_
    | refine Holds.block ?_
    | refine GS.nil ?_
    | refine Gd.nil ?_
    | (refine Holds.any mixed ?_ ?_; (· kernel_rfl))
    | (refine GS.step (s' := ?_) ?_ ?_ ?_; rotate_left; (· exact rfl); (· (simp [go_sem, List.take_of_length_le] <;> with_reducible rfl)))
    | (refine GS.skip ?_ ?_ ?_; (· exact rfl); (· exact rfl))
    | (refine Gd.go (s' := ?_) ?_ ?_ ?_; rotate_left; (· exact rfl); (· (simp [go_sem, List.take_of_length_le] <;> with_reducible rfl)))
    | (refine Gd.skip ?_ ?_ ?_; (· exact rfl); (· exact rfl))
    | refine Gx.nil ?_
    | (refine Gx.go (s' := ?_) rfl ?_ ?_ ?_; rotate_left; (· exact rfl); (· (simp [go_sem, List.take_of_length_le] <;> with_reducible rfl)))
    | (refine Gx.skip rfl ?_ ?_ ?_; (· exact rfl); (· exact rfl))
    | (refine Gx.skipW rfl ?_ ?_ ?_; (· exact rfl); (· exact rfl))
    | (refine Gx.skipH rfl ?_ ?_ ?_; (· exact rfl); (· exact rfl))
    | (refine Gx.hid (r := ?_) rfl ?_ ?_ ?_ ?_; rotate_left; (· exact rfl); (· exact rfl); (· (simp [go_sem, List.take_of_length_le] <;> with_reducible rfl)))
    | (refine Gx.wr (s' := ?_) rfl ?_ ?_ ?_ ?_; rotate_left; (· exact rfl); (· (simp [go_sem, List.take_of_length_le] <;> with_reducible rfl)); (· (simp [go_sem, List.take_of_length_le])))
    | fail
  refine Holds.cond rfl (fun h2 => ?_) (fun h2 => ?_)
  · have h2 : ¬ log.length ≤ 200 := by simp at h2; omega
    rw [show isWaveV n m log = (false, false) by unfold isWaveV; rw [hA]; simp [h2]]
    repeat' first
      | refine Holds.seq ?_
      | refine Holds.skip ?_
      | refine Holds.exit ?_
      | refine Holds.ret ?_
      | refine thenA_normal ?_
      | refine thenA_exit ?_
      | refine thenA_ret ?_
      | refine inB_normal ?_
      | refine inB_ret ?_
      | refine inB_here ?_
      | (refine inB_past ?_ ?_; (· exact rfl))
      | refine Holds.reg ?_
      | refine Holds.block ?_
      | refine GS.nil ?_
      | refine Gd.nil ?_
      | (refine Holds.any mixed ?_ ?_; (· kernel_rfl))
      | (refine GS.step (s' := ?_) ?_ ?_ ?_; rotate_left; (· exact rfl); (· (simp [go_sem, List.take_of_length_le] <;> with_reducible rfl)))
      | (refine GS.skip ?_ ?_ ?_; (· exact rfl); (· exact rfl))
      | (refine Gd.go (s' := ?_) ?_ ?_ ?_; rotate_left; (· exact rfl); (· (simp [go_sem, List.take_of_length_le] <;> with_reducible rfl)))
      | (refine Gd.skip ?_ ?_ ?_; (· exact rfl); (· exact rfl))
      | refine Gx.nil ?_
      | (refine Gx.go (s' := ?_) rfl ?_ ?_ ?_; rotate_left; (· exact rfl); (· (simp [go_sem, List.take_of_length_le] <;> with_reducible rfl)))
      | (refine Gx.skip rfl ?_ ?_ ?_; (· exact rfl); (· exact rfl))
      | (refine Gx.skipW rfl ?_ ?_ ?_; (· exact rfl); (· exact rfl))
      | (refine Gx.skipH rfl ?_ ?_ ?_; (· exact rfl); (· exact rfl))
      | (refine Gx.hid (r := ?_) rfl ?_ ?_ ?_ ?_; rotate_left; (· exact rfl); (· exact rfl); (· (simp [go_sem, List.take_of_length_le] <;> with_reducible rfl)))
      | (refine Gx.wr (s' := ?_) rfl ?_ ?_ ?_ ?_; rotate_left; (· exact rfl); (· (simp [go_sem, List.take_of_length_le] <;> with_reducible rfl)); (· (simp [go_sem, List.take_of_length_le])))
      | fail
    refine Out.mk (xs := ?_) ?_ ?_ (by first | exact .inr rfl | exact .inl rfl)
    rotate_left
    · simp [go_sem, List.take_of_length_le] <;> with_reducible rfl
    exact Fz.cl rfl
  have hlog : log.length ≤ 200 := by simp at h2; omega
  rw [show isWaveV n m log = (waveOk n.toNat 1 (startHs m.toNat) log, true) by unfold isWaveV; rw [hA]; simp [hlog]]
  simp [inR] at hA
  obtain ⟨n, rfl⟩ : ∃ k : Nat, n = k := ⟨n.toNat, by omega⟩
  obtain ⟨m, rfl⟩ : ∃ k : Nat, m = k := ⟨m.toNat, by omega⟩
  have hn : n ≤ 10 := by omega
  have hm0 : 1 ≤ m := by omega
  have hm : m ≤ 4 := by omega
  clear hA h h2
  simp only [Int.toNat_natCast]
  repeat' first
    | refine Holds.seq ?_
    | refine Holds.skip ?_
    | refine Holds.exit ?_
    | refine Holds.ret ?_
    | refine thenA_normal ?_
    | refine thenA_exit ?_
    | refine thenA_ret ?_
    | refine inB_normal ?_
    | refine inB_ret ?_
    | refine inB_here ?_
    | (refine inB_past ?_ ?_; (· exact rfl))
    | refine Holds.reg ?_
    | refine Holds.block ?_
    | refine GS.nil ?_
    | refine Gd.nil ?_
    | (refine Holds.any mixed ?_ ?_; (· kernel_rfl))
    | (refine GS.step (s' := ?_) ?_ ?_ ?_; rotate_left; (· exact rfl); (· (simp [go_sem, List.take_of_length_le] <;> with_reducible rfl)))
    | (refine GS.skip ?_ ?_ ?_; (· exact rfl); (· exact rfl))
    | (refine Gd.go (s' := ?_) ?_ ?_ ?_; rotate_left; (· exact rfl); (· (simp [go_sem, List.take_of_length_le] <;> with_reducible rfl)))
    | (refine Gd.skip ?_ ?_ ?_; (· exact rfl); (· exact rfl))
    | refine Gx.nil ?_
    | (refine Gx.go (s' := ?_) rfl ?_ ?_ ?_; rotate_left; (· exact rfl); (· (simp [go_sem, List.take_of_length_le] <;> with_reducible rfl)))
    | (refine Gx.skip rfl ?_ ?_ ?_; (· exact rfl); (· exact rfl))
    | (refine Gx.skipW rfl ?_ ?_ ?_; (· exact rfl); (· exact rfl))
    | (refine Gx.skipH rfl ?_ ?_ ?_; (· exact rfl); (· exact rfl))
    | (refine Gx.hid (r := ?_) rfl ?_ ?_ ?_ ?_; rotate_left; (· exact rfl); (· exact rfl); (· (simp [go_sem, List.take_of_length_le] <;> with_reducible rfl)))
    | (refine Gx.wr (s' := ?_) rfl ?_ ?_ ?_ ?_; rotate_left; (· exact rfl); (· (simp [go_sem, List.take_of_length_le] <;> with_reducible rfl)); (· (simp [go_sem, List.take_of_length_le])))
    | fail
  first | refine GS.fnn [] (l8Start m hm) rfl rfl rfl rfl (by simp [go_sem, List.take_of_length_le, ren, ren1, okr, okr1, ChkN, BlkN, List.range_succ, nf] <;> with_reducible rfl) (by simp [go_sem, List.take_of_length_le, ren, ren1, okr, okr1, ChkN, BlkN, List.range_succ, nf]) (by simp [go_sem, List.take_of_length_le, ren, ren1, okr, okr1, ChkN, BlkN, List.range_succ, nf]) (by simp [List.range_succ, lb]) (ChkN.toB (by simp [go_sem, List.take_of_length_le, ren, ren1, okr, okr1, ChkN, BlkN, List.range_succ, nf])) (by decide) (by simp) rfl (.nfr (by simp) .nil) (by simp [go_sem, List.take_of_length_le, ren, ren1, okr, okr1, ChkN, BlkN, List.range_succ, nf] <;> with_reducible rfl) ?_ | refine Gx.fnn [] (l8Start m hm) rfl rfl rfl rfl rfl (by simp [go_sem, List.take_of_length_le, ren, ren1, okr, okr1, ChkN, BlkN, List.range_succ, nf] <;> with_reducible rfl) (by simp [go_sem, List.take_of_length_le, ren, ren1, okr, okr1, ChkN, BlkN, List.range_succ, nf]) (by simp [go_sem, List.take_of_length_le, ren, ren1, okr, okr1, ChkN, BlkN, List.range_succ, nf]) (by simp [List.range_succ, lb]) (ChkN.toB (by simp [go_sem, List.take_of_length_le, ren, ren1, okr, okr1, ChkN, BlkN, List.range_succ, nf])) (by decide) (by simp) rfl (.nfr (by simp) .nil) (by simp [go_sem, List.take_of_length_le, ren, ren1, okr, okr1, ChkN, BlkN, List.range_succ, nf]) (by simp [go_sem, List.take_of_length_le, ren, ren1, okr, okr1, ChkN, BlkN, List.range_succ, nf] <;> with_reducible rfl) ?_
  repeat' first
    | refine Holds.seq ?_
    | refine Holds.skip ?_
    | refine Holds.exit ?_
    | refine Holds.ret ?_
    | refine thenA_normal ?_
    | refine thenA_exit ?_
    | refine thenA_ret ?_
    | refine inB_normal ?_
    | refine inB_ret ?_
    | refine inB_here ?_
    | (refine inB_past ?_ ?_; (· exact rfl))
    | refine Holds.reg ?_
    | refine Holds.block ?_
    | refine GS.nil ?_
    | refine Gd.nil ?_
    | (refine Holds.any mixed ?_ ?_; (· kernel_rfl))
    | (refine GS.step (s' := ?_) ?_ ?_ ?_; rotate_left; (· exact rfl); (· (simp [go_sem, List.take_of_length_le] <;> with_reducible rfl)))
    | (refine GS.skip ?_ ?_ ?_; (· exact rfl); (· exact rfl))
    | (refine Gd.go (s' := ?_) ?_ ?_ ?_; rotate_left; (· exact rfl); (· (simp [go_sem, List.take_of_length_le] <;> with_reducible rfl)))
    | (refine Gd.skip ?_ ?_ ?_; (· exact rfl); (· exact rfl))
    | refine Gx.nil ?_
    | (refine Gx.go (s' := ?_) rfl ?_ ?_ ?_; rotate_left; (· exact rfl); (· (simp [go_sem, List.take_of_length_le] <;> with_reducible rfl)))
    | (refine Gx.skip rfl ?_ ?_ ?_; (· exact rfl); (· exact rfl))
    | (refine Gx.skipW rfl ?_ ?_ ?_; (· exact rfl); (· exact rfl))
    | (refine Gx.skipH rfl ?_ ?_ ?_; (· exact rfl); (· exact rfl))
    | (refine Gx.hid (r := ?_) rfl ?_ ?_ ?_ ?_; rotate_left; (· exact rfl); (· exact rfl); (· (simp [go_sem, List.take_of_length_le] <;> with_reducible rfl)))
    | (refine Gx.wr (s' := ?_) rfl ?_ ?_ ?_ ?_; rotate_left; (· exact rfl); (· (simp [go_sem, List.take_of_length_le] <;> with_reducible rfl)); (· (simp [go_sem, List.take_of_length_le])))
    | fail
  refine Holds.loop (ι := Nat × Nat × List (Nat × Bool)) (fun i => ⟨[(0, .v (.int .i64 n)), (8, .own 0 3 0 m), (22, .im 4 (dones log)), (23, .v (.int .i64 log.length)), (24, .v (.int .i64 i.1))], [(0, ⟨165, 3, hands i.2.1 i.2.2⟩)], 1⟩)
    (fun i => i.1 ≤ log.length ∧ i.2.1 ≤ 1 + i.1 ∧ okHs m i.2.2 ∧ waveOk n i.2.1 i.2.2 (log.drop i.1) = waveOk n 1 (startHs m) log) (fun i => log.length - i.1) (0, 1, startHs m) ⟨Nat.zero_le _, Nat.le_refl _, okHs.start m, rfl⟩ ?_ ?_
  · exact Cov.ofn (id) rfl (by simp [go_sem, List.take_of_length_le, ren, ren1, okr, okr1, ChkT, ChkN, BlkN, nf, startHs]) (by simp [go_sem, List.take_of_length_le, ren, ren1, okr, okr1, ChkT, ChkN, BlkN, nf, startHs])
  rintro ⟨i, long, hs⟩ ⟨hi, hlong, hok, hw⟩
  dsimp only at hi hlong hok hw ⊢
  obtain rfl := hok.1
  rw [← hw]
  repeat' first
    | refine Holds.seq ?_
    | refine Holds.skip ?_
    | refine Holds.exit ?_
    | refine Holds.ret ?_
    | refine thenA_normal ?_
    | refine thenA_exit ?_
    | refine thenA_ret ?_
    | refine inB_normal ?_
    | refine inB_ret ?_
    | refine inB_here ?_
    | (refine inB_past ?_ ?_; (· exact rfl))
    | refine Holds.reg ?_
    | refine Holds.block ?_
    | refine GS.nil ?_
    | refine Gd.nil ?_
    | (refine Holds.any mixed ?_ ?_; (· kernel_rfl))
    | (refine GS.step (s' := ?_) ?_ ?_ ?_; rotate_left; (· exact rfl); (· (simp [go_sem, List.take_of_length_le] <;> with_reducible rfl)))
    | (refine GS.skip ?_ ?_ ?_; (· exact rfl); (· exact rfl))
    | (refine Gd.go (s' := ?_) ?_ ?_ ?_; rotate_left; (· exact rfl); (· (simp [go_sem, List.take_of_length_le] <;> with_reducible rfl)))
    | (refine Gd.skip ?_ ?_ ?_; (· exact rfl); (· exact rfl))
    | refine Gx.nil ?_
    | (refine Gx.go (s' := ?_) rfl ?_ ?_ ?_; rotate_left; (· exact rfl); (· (simp [go_sem, List.take_of_length_le] <;> with_reducible rfl)))
    | (refine Gx.skip rfl ?_ ?_ ?_; (· exact rfl); (· exact rfl))
    | (refine Gx.skipW rfl ?_ ?_ ?_; (· exact rfl); (· exact rfl))
    | (refine Gx.skipH rfl ?_ ?_ ?_; (· exact rfl); (· exact rfl))
    | (refine Gx.hid (r := ?_) rfl ?_ ?_ ?_ ?_; rotate_left; (· exact rfl); (· exact rfl); (· (simp [go_sem, List.take_of_length_le] <;> with_reducible rfl)))
    | (refine Gx.wr (s' := ?_) rfl ?_ ?_ ?_ ?_; rotate_left; (· exact rfl); (· (simp [go_sem, List.take_of_length_le] <;> with_reducible rfl)); (· (simp [go_sem, List.take_of_length_le])))
    | fail
  refine Holds.cond rfl (fun hl => ?_) (fun hl => ?_)
  · have hlt : i < log.length := by simpa using hl
    have hxi : log[i]? = some log[i] := List.getElem?_eq_getElem hlt
    rw [List.drop_eq_getElem_cons hlt]
    simp only [waveOk]
    repeat' first
      | refine Holds.seq ?_
      | refine Holds.skip ?_
      | refine Holds.exit ?_
      | refine Holds.ret ?_
      | refine thenA_normal ?_
      | refine thenA_exit ?_
      | refine thenA_ret ?_
      | refine inB_normal ?_
      | refine inB_ret ?_
      | refine inB_here ?_
      | (refine inB_past ?_ ?_; (· exact rfl))
      | refine Holds.reg ?_
      | refine Holds.block ?_
      | refine GS.nil ?_
      | refine Gd.nil ?_
      | (refine GS.step (s' := ?_) ?_ ?_ ?_; rotate_left; (· exact rfl); (· (simp [go_sem, List.take_of_length_le, hxi, doneC] <;> with_reducible rfl)))
      | (refine GS.skip ?_ ?_ ?_; (· exact rfl); (· exact rfl))
      | (refine Gd.go (s' := ?_) ?_ ?_ ?_; rotate_left; (· exact rfl); (· (simp [go_sem, List.take_of_length_le, hxi, doneC] <;> with_reducible rfl)))
      | (refine Gd.skip ?_ ?_ ?_; (· exact rfl); (· exact rfl))
      | refine Gx.nil ?_
      | (refine Gx.go (s' := ?_) rfl ?_ ?_ ?_; rotate_left; (· exact rfl); (· (simp [go_sem, List.take_of_length_le, hxi, doneC] <;> with_reducible rfl)))
      | (refine Gx.skip rfl ?_ ?_ ?_; (· exact rfl); (· exact rfl))
      | (refine Gx.skipW rfl ?_ ?_ ?_; (· exact rfl); (· exact rfl))
      | (refine Gx.skipH rfl ?_ ?_ ?_; (· exact rfl); (· exact rfl))
      | (refine Gx.hid (r := ?_) rfl ?_ ?_ ?_ ?_; rotate_left; (· exact rfl); (· exact rfl); (· (simp [go_sem, List.take_of_length_le, hxi, doneC] <;> with_reducible rfl)))
      | (refine Gx.wr (s' := ?_) rfl ?_ ?_ ?_ ?_; rotate_left; (· exact rfl); (· (simp [go_sem, List.take_of_length_le, hxi, doneC] <;> with_reducible rfl)); (· (simp [go_sem, List.take_of_length_le, hxi, doneC])))
      | fail
    refine Holds.anx [2, 12] [3, 4, 13] (fun n => n != 1) mixed ?_ ?_ ?_; (· kernel_rfl); (· kernel_rfl)
    repeat' first
      | refine Holds.seq ?_
      | refine Holds.skip ?_
      | refine Holds.exit ?_
      | refine Holds.ret ?_
      | refine thenA_normal ?_
      | refine thenA_exit ?_
      | refine thenA_ret ?_
      | refine inB_normal ?_
      | refine inB_ret ?_
      | refine inB_here ?_
      | (refine inB_past ?_ ?_; (· exact rfl))
      | refine Holds.reg ?_
      | refine Holds.block ?_
      | refine GS.nil ?_
      | refine Gd.nil ?_
      | (refine Holds.any mixed ?_ ?_; (· kernel_rfl))
      | (refine GS.step (s' := ?_) ?_ ?_ ?_; rotate_left; (· exact rfl); (· (simp [go_sem, List.take_of_length_le, hxi, doneC] <;> with_reducible rfl)))
      | (refine GS.skip ?_ ?_ ?_; (· exact rfl); (· exact rfl))
      | (refine Gd.go (s' := ?_) ?_ ?_ ?_; rotate_left; (· exact rfl); (· (simp [go_sem, List.take_of_length_le, hxi, doneC] <;> with_reducible rfl)))
      | (refine Gd.skip ?_ ?_ ?_; (· exact rfl); (· exact rfl))
      | refine Gx.nil ?_
      | (refine Gx.go (s' := ?_) rfl ?_ ?_ ?_; rotate_left; (· exact rfl); (· (simp [go_sem, List.take_of_length_le, hxi, doneC] <;> with_reducible rfl)))
      | (refine Gx.skip rfl ?_ ?_ ?_; (· exact rfl); (· exact rfl))
      | (refine Gx.skipW rfl ?_ ?_ ?_; (· exact rfl); (· exact rfl))
      | (refine Gx.skipH rfl ?_ ?_ ?_; (· exact rfl); (· exact rfl))
      | (refine Gx.hid (r := ?_) rfl ?_ ?_ ?_ ?_; rotate_left; (· exact rfl); (· exact rfl); (· (simp [go_sem, List.take_of_length_le, hxi, doneC] <;> with_reducible rfl)))
      | (refine Gx.wr (s' := ?_) rfl ?_ ?_ ?_ ?_; rotate_left; (· exact rfl); (· (simp [go_sem, List.take_of_length_le, hxi, doneC] <;> with_reducible rfl)); (· (simp [go_sem, List.take_of_length_le, hxi, doneC])))
      | fail
    first | refine GS.fnn [0] (l8Ready n long hs hm) rfl rfl rfl rfl (by simp [go_sem, List.take_of_length_le, ren, ren1, okr, okr1, ChkN, BlkN, List.range_succ, nf] <;> with_reducible rfl) (by simp [go_sem, List.take_of_length_le, ren, ren1, okr, okr1, ChkN, BlkN, List.range_succ, nf]) (by simp [go_sem, List.take_of_length_le, ren, ren1, okr, okr1, ChkN, BlkN, List.range_succ, nf]) (by simp [List.range_succ, lb]) (ChkN.toB (by simp [go_sem, List.take_of_length_le, ren, ren1, okr, okr1, ChkN, BlkN, List.range_succ, nf])) (by decide) (by simp) rfl (.nfr (by simp) (.nfr (by simp) .nil)) (by simp [go_sem, List.take_of_length_le, ren, ren1, okr, okr1, ChkN, BlkN, List.range_succ, nf] <;> with_reducible rfl) ?_ | refine Gx.fnn [0] (l8Ready n long hs hm) rfl rfl rfl rfl rfl (by simp [go_sem, List.take_of_length_le, ren, ren1, okr, okr1, ChkN, BlkN, List.range_succ, nf] <;> with_reducible rfl) (by simp [go_sem, List.take_of_length_le, ren, ren1, okr, okr1, ChkN, BlkN, List.range_succ, nf]) (by simp [go_sem, List.take_of_length_le, ren, ren1, okr, okr1, ChkN, BlkN, List.range_succ, nf]) (by simp [List.range_succ, lb]) (ChkN.toB (by simp [go_sem, List.take_of_length_le, ren, ren1, okr, okr1, ChkN, BlkN, List.range_succ, nf])) (by decide) (by simp) rfl (.nfr (by simp) (.nfr (by simp) .nil)) (by simp [go_sem, List.take_of_length_le, ren, ren1, okr, okr1, ChkN, BlkN, List.range_succ, nf]) (by simp [go_sem, List.take_of_length_le, ren, ren1, okr, okr1, ChkN, BlkN, List.range_succ, nf] <;> with_reducible rfl) ?_
    repeat' first
      | refine Holds.seq ?_
      | refine Holds.skip ?_
      | refine Holds.exit ?_
      | refine Holds.ret ?_
      | refine thenA_normal ?_
      | refine thenA_exit ?_
      | refine thenA_ret ?_
      | refine inB_normal ?_
      | refine inB_ret ?_
      | refine inB_here ?_
      | (refine inB_past ?_ ?_; (· exact rfl))
      | refine Holds.reg ?_
      | refine Holds.block ?_
      | refine GS.nil ?_
      | refine Gd.nil ?_
      | (refine Holds.any mixed ?_ ?_; (· kernel_rfl))
      | (refine GS.step (s' := ?_) ?_ ?_ ?_; rotate_left; (· exact rfl); (· (simp [go_sem, List.take_of_length_le, doneC] <;> with_reducible rfl)))
      | (refine GS.skip ?_ ?_ ?_; (· exact rfl); (· exact rfl))
      | (refine Gd.go (s' := ?_) ?_ ?_ ?_; rotate_left; (· exact rfl); (· (simp [go_sem, List.take_of_length_le, doneC] <;> with_reducible rfl)))
      | (refine Gd.skip ?_ ?_ ?_; (· exact rfl); (· exact rfl))
      | refine Gx.nil ?_
      | (refine Gx.go (s' := ?_) rfl ?_ ?_ ?_; rotate_left; (· exact rfl); (· (simp [go_sem, List.take_of_length_le, doneC] <;> with_reducible rfl)))
      | (refine Gx.skip rfl ?_ ?_ ?_; (· exact rfl); (· exact rfl))
      | (refine Gx.skipW rfl ?_ ?_ ?_; (· exact rfl); (· exact rfl))
      | (refine Gx.skipH rfl ?_ ?_ ?_; (· exact rfl); (· exact rfl))
      | (refine Gx.hid (r := ?_) rfl ?_ ?_ ?_ ?_; rotate_left; (· exact rfl); (· exact rfl); (· (simp [go_sem, List.take_of_length_le, doneC] <;> with_reducible rfl)))
      | (refine Gx.wr (s' := ?_) rfl ?_ ?_ ?_ ?_; rotate_left; (· exact rfl); (· (simp [go_sem, List.take_of_length_le, doneC] <;> with_reducible rfl)); (· (simp [go_sem, List.take_of_length_le, doneC])))
      | fail
    first | refine GS.cd (l1Has (readyL n long hs) log[i].1 (by have := idxs_len (readyP n long) hs 0; unfold readyL; omega)) rfl rfl rfl rfl (by simp [go_sem, List.take_of_length_le] <;> with_reducible rfl) rfl (by exact .cons (Fz.all rfl rfl (by simp) rfl (ints_cl _)) (.cons (.v _) .nil)) rfl ?_ | refine Gd.cd (l1Has (readyL n long hs) log[i].1 (by have := idxs_len (readyP n long) hs 0; unfold readyL; omega)) rfl rfl rfl rfl (by simp [go_sem, List.take_of_length_le] <;> with_reducible rfl) rfl (by exact .cons (Fz.all rfl rfl (by simp) rfl (ints_cl _)) (.cons (.v _) .nil)) rfl ?_ | refine Gx.cd (l1Has (readyL n long hs) log[i].1 (by have := idxs_len (readyP n long) hs 0; unfold readyL; omega)) rfl rfl rfl rfl rfl (by simp [go_sem, List.take_of_length_le] <;> with_reducible rfl) rfl (by exact .cons (Fz.all rfl rfl (by simp) rfl (ints_cl _)) (.cons (.v _) .nil)) rfl ?_
    repeat' first
      | refine Holds.seq ?_
      | refine Holds.skip ?_
      | refine Holds.exit ?_
      | refine Holds.ret ?_
      | refine thenA_normal ?_
      | refine thenA_exit ?_
      | refine thenA_ret ?_
      | refine inB_normal ?_
      | refine inB_ret ?_
      | refine inB_here ?_
      | (refine inB_past ?_ ?_; (· exact rfl))
      | refine Holds.reg ?_
      | refine Holds.block ?_
      | refine GS.nil ?_
      | refine Gd.nil ?_
      | (refine Holds.any mixed ?_ ?_; (· kernel_rfl))
      | (refine GS.step (s' := ?_) ?_ ?_ ?_; rotate_left; (· exact rfl); (· (simp [go_sem, List.take_of_length_le, doneC] <;> with_reducible rfl)))
      | (refine GS.skip ?_ ?_ ?_; (· exact rfl); (· exact rfl))
      | (refine Gd.go (s' := ?_) ?_ ?_ ?_; rotate_left; (· exact rfl); (· (simp [go_sem, List.take_of_length_le, doneC] <;> with_reducible rfl)))
      | (refine Gd.skip ?_ ?_ ?_; (· exact rfl); (· exact rfl))
      | refine Gx.nil ?_
      | (refine Gx.go (s' := ?_) rfl ?_ ?_ ?_; rotate_left; (· exact rfl); (· (simp [go_sem, List.take_of_length_le, doneC] <;> with_reducible rfl)))
      | (refine Gx.skip rfl ?_ ?_ ?_; (· exact rfl); (· exact rfl))
      | (refine Gx.skipW rfl ?_ ?_ ?_; (· exact rfl); (· exact rfl))
      | (refine Gx.skipH rfl ?_ ?_ ?_; (· exact rfl); (· exact rfl))
      | (refine Gx.hid (r := ?_) rfl ?_ ?_ ?_ ?_; rotate_left; (· exact rfl); (· exact rfl); (· (simp [go_sem, List.take_of_length_le, doneC] <;> with_reducible rfl)))
      | (refine Gx.wr (s' := ?_) rfl ?_ ?_ ?_ ?_; rotate_left; (· exact rfl); (· (simp [go_sem, List.take_of_length_le, doneC] <;> with_reducible rfl)); (· (simp [go_sem, List.take_of_length_le, doneC])))
      | fail
    refine Gx.guard (t := 35) rfl (fun h => ?_) (fun h => ?_)
    · have h : hasN (readyL n long hs) log[i].1 = false := by simpa using h
      rw [h]
      repeat' first
        | refine Holds.seq ?_
        | refine Holds.skip ?_
        | refine Holds.exit ?_
        | refine Holds.ret ?_
        | refine thenA_normal ?_
        | refine thenA_exit ?_
        | refine thenA_ret ?_
        | refine inB_normal ?_
        | refine inB_ret ?_
        | refine inB_here ?_
        | (refine inB_past ?_ ?_; (· exact rfl))
        | refine Holds.reg ?_
        | refine Holds.block ?_
        | refine GS.nil ?_
        | refine Gd.nil ?_
        | (refine Holds.any mixed ?_ ?_; (· kernel_rfl))
        | (refine GS.step (s' := ?_) ?_ ?_ ?_; rotate_left; (· exact rfl); (· (simp [go_sem, List.take_of_length_le, doneC] <;> with_reducible rfl)))
        | (refine GS.skip ?_ ?_ ?_; (· exact rfl); (· exact rfl))
        | (refine Gd.go (s' := ?_) ?_ ?_ ?_; rotate_left; (· exact rfl); (· (simp [go_sem, List.take_of_length_le, doneC] <;> with_reducible rfl)))
        | (refine Gd.skip ?_ ?_ ?_; (· exact rfl); (· exact rfl))
        | refine Gx.nil ?_
        | (refine Gx.go (s' := ?_) rfl ?_ ?_ ?_; rotate_left; (· exact rfl); (· (simp [go_sem, List.take_of_length_le, doneC] <;> with_reducible rfl)))
        | (refine Gx.skip rfl ?_ ?_ ?_; (· exact rfl); (· exact rfl))
        | (refine Gx.skipW rfl ?_ ?_ ?_; (· exact rfl); (· exact rfl))
        | (refine Gx.skipH rfl ?_ ?_ ?_; (· exact rfl); (· exact rfl))
        | (refine Gx.hid (r := ?_) rfl ?_ ?_ ?_ ?_; rotate_left; (· exact rfl); (· exact rfl); (· (simp [go_sem, List.take_of_length_le, doneC] <;> with_reducible rfl)))
        | (refine Gx.wr (s' := ?_) rfl ?_ ?_ ?_ ?_; rotate_left; (· exact rfl); (· (simp [go_sem, List.take_of_length_le, doneC] <;> with_reducible rfl)); (· (simp [go_sem, List.take_of_length_le, doneC])))
        | fail
      refine Holds.cond rfl (fun h => ?_) (fun h => ?_)
      · repeat' first
          | refine Holds.seq ?_
          | refine Holds.skip ?_
          | refine Holds.exit ?_
          | refine Holds.ret ?_
          | refine thenA_normal ?_
          | refine thenA_exit ?_
          | refine thenA_ret ?_
          | refine inB_normal ?_
          | refine inB_ret ?_
          | refine inB_here ?_
          | (refine inB_past ?_ ?_; (· exact rfl))
          | refine Holds.reg ?_
          | refine Holds.block ?_
          | refine GS.nil ?_
          | refine Gd.nil ?_
          | (refine Holds.any mixed ?_ ?_; (· kernel_rfl))
          | (refine GS.step (s' := ?_) ?_ ?_ ?_; rotate_left; (· exact rfl); (· (simp [go_sem, List.take_of_length_le] <;> with_reducible rfl)))
          | (refine GS.skip ?_ ?_ ?_; (· exact rfl); (· exact rfl))
          | (refine Gd.go (s' := ?_) ?_ ?_ ?_; rotate_left; (· exact rfl); (· (simp [go_sem, List.take_of_length_le] <;> with_reducible rfl)))
          | (refine Gd.skip ?_ ?_ ?_; (· exact rfl); (· exact rfl))
          | refine Gx.nil ?_
          | (refine Gx.go (s' := ?_) rfl ?_ ?_ ?_; rotate_left; (· exact rfl); (· (simp [go_sem, List.take_of_length_le] <;> with_reducible rfl)))
          | (refine Gx.skip rfl ?_ ?_ ?_; (· exact rfl); (· exact rfl))
          | (refine Gx.skipW rfl ?_ ?_ ?_; (· exact rfl); (· exact rfl))
          | (refine Gx.skipH rfl ?_ ?_ ?_; (· exact rfl); (· exact rfl))
          | (refine Gx.hid (r := ?_) rfl ?_ ?_ ?_ ?_; rotate_left; (· exact rfl); (· exact rfl); (· (simp [go_sem, List.take_of_length_le] <;> with_reducible rfl)))
          | (refine Gx.wr (s' := ?_) rfl ?_ ?_ ?_ ?_; rotate_left; (· exact rfl); (· (simp [go_sem, List.take_of_length_le] <;> with_reducible rfl)); (· (simp [go_sem, List.take_of_length_le])))
          | fail
        refine Out.mk (xs := ?_) ?_ ?_ (by first | exact .inr rfl | exact .inl rfl)
        rotate_left
        · simp [go_sem, List.take_of_length_le] <;> with_reducible rfl
        exact Fz.cl rfl
      · cases h
    have hh : hasN (readyL n long hs) log[i].1 = true := by simpa using h
    rw [hh]
    obtain ⟨k, hk, hklt⟩ := ready_lt hh
    rw [hk, Int.toNat_natCast]
    repeat' first
      | refine Holds.seq ?_
      | refine Holds.skip ?_
      | refine Holds.exit ?_
      | refine Holds.ret ?_
      | refine thenA_normal ?_
      | refine thenA_exit ?_
      | refine thenA_ret ?_
      | refine inB_normal ?_
      | refine inB_ret ?_
      | refine inB_here ?_
      | (refine inB_past ?_ ?_; (· exact rfl))
      | refine Holds.reg ?_
      | refine Holds.block ?_
      | refine GS.nil ?_
      | refine Gd.nil ?_
      | (refine Holds.any mixed ?_ ?_; (· kernel_rfl))
      | (refine GS.step (s' := ?_) ?_ ?_ ?_; rotate_left; (· exact rfl); (· (simp [go_sem, List.take_of_length_le, doneC, hk] <;> with_reducible rfl)))
      | (refine GS.skip ?_ ?_ ?_; (· exact rfl); (· exact rfl))
      | (refine Gd.go (s' := ?_) ?_ ?_ ?_; rotate_left; (· exact rfl); (· (simp [go_sem, List.take_of_length_le, doneC, hk] <;> with_reducible rfl)))
      | (refine Gd.skip ?_ ?_ ?_; (· exact rfl); (· exact rfl))
      | refine Gx.nil ?_
      | (refine Gx.go (s' := ?_) rfl ?_ ?_ ?_; rotate_left; (· exact rfl); (· (simp [go_sem, List.take_of_length_le, doneC, hk] <;> with_reducible rfl)))
      | (refine Gx.skip rfl ?_ ?_ ?_; (· exact rfl); (· exact rfl))
      | (refine Gx.skipW rfl ?_ ?_ ?_; (· exact rfl); (· exact rfl))
      | (refine Gx.skipH rfl ?_ ?_ ?_; (· exact rfl); (· exact rfl))
      | (refine Gx.hid (r := ?_) rfl ?_ ?_ ?_ ?_; rotate_left; (· exact rfl); (· exact rfl); (· (simp [go_sem, List.take_of_length_le, doneC, hk] <;> with_reducible rfl)))
      | (refine Gx.wr (s' := ?_) rfl ?_ ?_ ?_ ?_; rotate_left; (· exact rfl); (· (simp [go_sem, List.take_of_length_le, doneC, hk] <;> with_reducible rfl)); (· (simp [go_sem, List.take_of_length_le, doneC, hk])))
      | fail
    first | refine GS.fnn [0] (l8Step n long hs k hn (by omega) hm hklt hok.2) rfl rfl rfl rfl (by simp [go_sem, List.take_of_length_le, ren, ren1, okr, okr1, ChkN, BlkN, List.range_succ, nf, doneC] <;> with_reducible rfl) (by simp [go_sem, List.take_of_length_le, ren, ren1, okr, okr1, ChkN, BlkN, List.range_succ, nf, doneC]) (by simp [go_sem, List.take_of_length_le, ren, ren1, okr, okr1, ChkN, BlkN, List.range_succ, nf, doneC]) (by simp [List.range_succ, lb]) (ChkN.toB (by simp [go_sem, List.take_of_length_le, ren, ren1, okr, okr1, ChkN, BlkN, List.range_succ, nf, doneC])) (by decide) (by simp) rfl (.nfr (by simp) .nil) (by simp [go_sem, List.take_of_length_le, ren, ren1, okr, okr1, ChkN, BlkN, List.range_succ, nf, doneC] <;> with_reducible rfl) ?_ | refine Gx.fnn [0] (l8Step n long hs k hn (by omega) hm hklt hok.2) rfl rfl rfl rfl rfl (by simp [go_sem, List.take_of_length_le, ren, ren1, okr, okr1, ChkN, BlkN, List.range_succ, nf, doneC] <;> with_reducible rfl) (by simp [go_sem, List.take_of_length_le, ren, ren1, okr, okr1, ChkN, BlkN, List.range_succ, nf, doneC]) (by simp [go_sem, List.take_of_length_le, ren, ren1, okr, okr1, ChkN, BlkN, List.range_succ, nf, doneC]) (by simp [List.range_succ, lb]) (ChkN.toB (by simp [go_sem, List.take_of_length_le, ren, ren1, okr, okr1, ChkN, BlkN, List.range_succ, nf, doneC])) (by decide) (by simp) rfl (.nfr (by simp) .nil) (by simp [go_sem, List.take_of_length_le, ren, ren1, okr, okr1, ChkN, BlkN, List.range_succ, nf, doneC]) (by simp [go_sem, List.take_of_length_le, ren, ren1, okr, okr1, ChkN, BlkN, List.range_succ, nf, doneC] <;> with_reducible rfl) ?_
    repeat' first
      | refine Holds.seq ?_
      | refine Holds.skip ?_
      | refine Holds.exit ?_
      | refine Holds.ret ?_
      | refine thenA_normal ?_
      | refine thenA_exit ?_
      | refine thenA_ret ?_
      | refine inB_normal ?_
      | refine inB_ret ?_
      | refine inB_here ?_
      | (refine inB_past ?_ ?_; (· exact rfl))
      | refine Holds.reg ?_
      | refine Holds.block ?_
      | refine GS.nil ?_
      | refine Gd.nil ?_
      | (refine Holds.any mixed ?_ ?_; (· kernel_rfl))
      | (refine GS.step (s' := ?_) ?_ ?_ ?_; rotate_left; (· exact rfl); (· (simp [go_sem, List.take_of_length_le, doneC, hk] <;> with_reducible rfl)))
      | (refine GS.skip ?_ ?_ ?_; (· exact rfl); (· exact rfl))
      | (refine Gd.go (s' := ?_) ?_ ?_ ?_; rotate_left; (· exact rfl); (· (simp [go_sem, List.take_of_length_le, doneC, hk] <;> with_reducible rfl)))
      | (refine Gd.skip ?_ ?_ ?_; (· exact rfl); (· exact rfl))
      | refine Gx.nil ?_
      | (refine Gx.go (s' := ?_) rfl ?_ ?_ ?_; rotate_left; (· exact rfl); (· (simp [go_sem, List.take_of_length_le, doneC, hk] <;> with_reducible rfl)))
      | (refine Gx.skip rfl ?_ ?_ ?_; (· exact rfl); (· exact rfl))
      | (refine Gx.skipW rfl ?_ ?_ ?_; (· exact rfl); (· exact rfl))
      | (refine Gx.skipH rfl ?_ ?_ ?_; (· exact rfl); (· exact rfl))
      | (refine Gx.hid (r := ?_) rfl ?_ ?_ ?_ ?_; rotate_left; (· exact rfl); (· exact rfl); (· (simp [go_sem, List.take_of_length_le, doneC, hk] <;> with_reducible rfl)))
      | (refine Gx.wr (s' := ?_) rfl ?_ ?_ ?_ ?_; rotate_left; (· exact rfl); (· (simp [go_sem, List.take_of_length_le, doneC, hk] <;> with_reducible rfl)); (· (simp [go_sem, List.take_of_length_le, doneC, hk])))
      | fail
    have hk4 : done4 log[i] = [(k : Int), log[i].2.1, log[i].2.2.1, log[i].2.2.2] := by simp [done4, hk]
    refine Gx.calm rfl rfl rfl (.neS (xs := done4 (stepS n long hs k).1) (ys := [(k : Int), log[i].2.1, log[i].2.2.1, log[i].2.2.2]) rfl eqDone4 rfl rfl rfl rfl rfl) ?_
    rw [← hk4]
    repeat' first
      | refine Holds.seq ?_
      | refine Holds.skip ?_
      | refine Holds.exit ?_
      | refine Holds.ret ?_
      | refine thenA_normal ?_
      | refine thenA_exit ?_
      | refine thenA_ret ?_
      | refine inB_normal ?_
      | refine inB_ret ?_
      | refine inB_here ?_
      | (refine inB_past ?_ ?_; (· exact rfl))
      | refine Holds.reg ?_
      | refine Holds.block ?_
      | refine GS.nil ?_
      | refine Gd.nil ?_
      | (refine Holds.any mixed ?_ ?_; (· kernel_rfl))
      | (refine GS.step (s' := ?_) ?_ ?_ ?_; rotate_left; (· exact rfl); (· (simp [go_sem, List.take_of_length_le] <;> with_reducible rfl)))
      | (refine GS.skip ?_ ?_ ?_; (· exact rfl); (· exact rfl))
      | (refine Gd.go (s' := ?_) ?_ ?_ ?_; rotate_left; (· exact rfl); (· (simp [go_sem, List.take_of_length_le] <;> with_reducible rfl)))
      | (refine Gd.skip ?_ ?_ ?_; (· exact rfl); (· exact rfl))
      | refine Gx.nil ?_
      | (refine Gx.go (s' := ?_) rfl ?_ ?_ ?_; rotate_left; (· exact rfl); (· (simp [go_sem, List.take_of_length_le] <;> with_reducible rfl)))
      | (refine Gx.skip rfl ?_ ?_ ?_; (· exact rfl); (· exact rfl))
      | (refine Gx.skipW rfl ?_ ?_ ?_; (· exact rfl); (· exact rfl))
      | (refine Gx.skipH rfl ?_ ?_ ?_; (· exact rfl); (· exact rfl))
      | (refine Gx.hid (r := ?_) rfl ?_ ?_ ?_ ?_; rotate_left; (· exact rfl); (· exact rfl); (· (simp [go_sem, List.take_of_length_le] <;> with_reducible rfl)))
      | (refine Gx.wr (s' := ?_) rfl ?_ ?_ ?_ ?_; rotate_left; (· exact rfl); (· (simp [go_sem, List.take_of_length_le] <;> with_reducible rfl)); (· (simp [go_sem, List.take_of_length_le])))
      | fail
    refine Holds.cond rfl (fun h => ?_) (fun h => ?_)
    · have hne : ¬ (stepS n long hs k).1 = log[i] := fun e => by rw [e] at h; simp at h
      rw [decide_eq_false hne]
      repeat' first
        | refine Holds.seq ?_
        | refine Holds.skip ?_
        | refine Holds.exit ?_
        | refine Holds.ret ?_
        | refine thenA_normal ?_
        | refine thenA_exit ?_
        | refine thenA_ret ?_
        | refine inB_normal ?_
        | refine inB_ret ?_
        | refine inB_here ?_
        | (refine inB_past ?_ ?_; (· exact rfl))
        | refine Holds.reg ?_
        | refine Holds.block ?_
        | refine GS.nil ?_
        | refine Gd.nil ?_
        | (refine Holds.any mixed ?_ ?_; (· kernel_rfl))
        | (refine GS.step (s' := ?_) ?_ ?_ ?_; rotate_left; (· exact rfl); (· (simp [go_sem, List.take_of_length_le] <;> with_reducible rfl)))
        | (refine GS.skip ?_ ?_ ?_; (· exact rfl); (· exact rfl))
        | (refine Gd.go (s' := ?_) ?_ ?_ ?_; rotate_left; (· exact rfl); (· (simp [go_sem, List.take_of_length_le] <;> with_reducible rfl)))
        | (refine Gd.skip ?_ ?_ ?_; (· exact rfl); (· exact rfl))
        | refine Gx.nil ?_
        | (refine Gx.go (s' := ?_) rfl ?_ ?_ ?_; rotate_left; (· exact rfl); (· (simp [go_sem, List.take_of_length_le] <;> with_reducible rfl)))
        | (refine Gx.skip rfl ?_ ?_ ?_; (· exact rfl); (· exact rfl))
        | (refine Gx.skipW rfl ?_ ?_ ?_; (· exact rfl); (· exact rfl))
        | (refine Gx.skipH rfl ?_ ?_ ?_; (· exact rfl); (· exact rfl))
        | (refine Gx.hid (r := ?_) rfl ?_ ?_ ?_ ?_; rotate_left; (· exact rfl); (· exact rfl); (· (simp [go_sem, List.take_of_length_le] <;> with_reducible rfl)))
        | (refine Gx.wr (s' := ?_) rfl ?_ ?_ ?_ ?_; rotate_left; (· exact rfl); (· (simp [go_sem, List.take_of_length_le] <;> with_reducible rfl)); (· (simp [go_sem, List.take_of_length_le])))
        | fail
      refine Out.mk (xs := ?_) ?_ ?_ (by first | exact .inr rfl | exact .inl rfl)
      rotate_left
      · simp [go_sem, List.take_of_length_le] <;> with_reducible rfl
      exact Fz.cl rfl
    · have he : (stepS n long hs k).1 = log[i] := done4_ext.1 (by simpa using h)
      rw [decide_eq_true he]
      have hok2 := hok.step (long := long) hn hklt
      have hgo := l8Go long (stepS n long hs k).2 (by omega) (by rw [hok2.1]; exact hm)
      rw [hok2.1] at hgo
      repeat' first
        | refine Holds.seq ?_
        | refine Holds.skip ?_
        | refine Holds.exit ?_
        | refine Holds.ret ?_
        | refine thenA_normal ?_
        | refine thenA_exit ?_
        | refine thenA_ret ?_
        | refine inB_normal ?_
        | refine inB_ret ?_
        | refine inB_here ?_
        | (refine inB_past ?_ ?_; (· exact rfl))
        | refine Holds.reg ?_
        | refine Holds.block ?_
        | refine GS.nil ?_
        | refine Gd.nil ?_
        | (refine Holds.any mixed ?_ ?_; (· kernel_rfl))
        | (refine GS.step (s' := ?_) ?_ ?_ ?_; rotate_left; (· exact rfl); (· (simp [go_sem, List.take_of_length_le] <;> with_reducible rfl)))
        | (refine GS.skip ?_ ?_ ?_; (· exact rfl); (· exact rfl))
        | (refine Gd.go (s' := ?_) ?_ ?_ ?_; rotate_left; (· exact rfl); (· (simp [go_sem, List.take_of_length_le] <;> with_reducible rfl)))
        | (refine Gd.skip ?_ ?_ ?_; (· exact rfl); (· exact rfl))
        | refine Gx.nil ?_
        | (refine Gx.go (s' := ?_) rfl ?_ ?_ ?_; rotate_left; (· exact rfl); (· (simp [go_sem, List.take_of_length_le] <;> with_reducible rfl)))
        | (refine Gx.skip rfl ?_ ?_ ?_; (· exact rfl); (· exact rfl))
        | (refine Gx.skipW rfl ?_ ?_ ?_; (· exact rfl); (· exact rfl))
        | (refine Gx.skipH rfl ?_ ?_ ?_; (· exact rfl); (· exact rfl))
        | (refine Gx.hid (r := ?_) rfl ?_ ?_ ?_ ?_; rotate_left; (· exact rfl); (· exact rfl); (· (simp [go_sem, List.take_of_length_le] <;> with_reducible rfl)))
        | (refine Gx.wr (s' := ?_) rfl ?_ ?_ ?_ ?_; rotate_left; (· exact rfl); (· (simp [go_sem, List.take_of_length_le] <;> with_reducible rfl)); (· (simp [go_sem, List.take_of_length_le])))
        | fail
      first | refine GS.fnn [0] (hgo) rfl rfl rfl rfl (by simp [go_sem, List.take_of_length_le, ren, ren1, okr, okr1, ChkN, BlkN, List.range_succ, nf] <;> with_reducible rfl) (by simp [go_sem, List.take_of_length_le, ren, ren1, okr, okr1, ChkN, BlkN, List.range_succ, nf]) (by simp [go_sem, List.take_of_length_le, ren, ren1, okr, okr1, ChkN, BlkN, List.range_succ, nf]) (by simp [List.range_succ, lb]) (ChkN.toB (by simp [go_sem, List.take_of_length_le, ren, ren1, okr, okr1, ChkN, BlkN, List.range_succ, nf])) (by decide) (by simp) rfl (.nfr (by simp) .nil) (by simp [go_sem, List.take_of_length_le, ren, ren1, okr, okr1, ChkN, BlkN, List.range_succ, nf] <;> with_reducible rfl) ?_ | refine Gx.fnn [0] (hgo) rfl rfl rfl rfl rfl (by simp [go_sem, List.take_of_length_le, ren, ren1, okr, okr1, ChkN, BlkN, List.range_succ, nf] <;> with_reducible rfl) (by simp [go_sem, List.take_of_length_le, ren, ren1, okr, okr1, ChkN, BlkN, List.range_succ, nf]) (by simp [go_sem, List.take_of_length_le, ren, ren1, okr, okr1, ChkN, BlkN, List.range_succ, nf]) (by simp [List.range_succ, lb]) (ChkN.toB (by simp [go_sem, List.take_of_length_le, ren, ren1, okr, okr1, ChkN, BlkN, List.range_succ, nf])) (by decide) (by simp) rfl (.nfr (by simp) .nil) (by simp [go_sem, List.take_of_length_le, ren, ren1, okr, okr1, ChkN, BlkN, List.range_succ, nf]) (by simp [go_sem, List.take_of_length_le, ren, ren1, okr, okr1, ChkN, BlkN, List.range_succ, nf] <;> with_reducible rfl) ?_
      repeat' first
        | refine Holds.seq ?_
        | refine Holds.skip ?_
        | refine Holds.exit ?_
        | refine Holds.ret ?_
        | refine thenA_normal ?_
        | refine thenA_exit ?_
        | refine thenA_ret ?_
        | refine inB_normal ?_
        | refine inB_ret ?_
        | refine inB_here ?_
        | (refine inB_past ?_ ?_; (· exact rfl))
        | refine Holds.reg ?_
        | refine Holds.block ?_
        | refine GS.nil ?_
        | refine Gd.nil ?_
        | (refine Holds.any mixed ?_ ?_; (· kernel_rfl))
        | (refine GS.step (s' := ?_) ?_ ?_ ?_; rotate_left; (· exact rfl); (· (simp [go_sem, List.take_of_length_le] <;> with_reducible rfl)))
        | (refine GS.skip ?_ ?_ ?_; (· exact rfl); (· exact rfl))
        | (refine Gd.go (s' := ?_) ?_ ?_ ?_; rotate_left; (· exact rfl); (· (simp [go_sem, List.take_of_length_le] <;> with_reducible rfl)))
        | (refine Gd.skip ?_ ?_ ?_; (· exact rfl); (· exact rfl))
        | refine Gx.nil ?_
        | (refine Gx.go (s' := ?_) rfl ?_ ?_ ?_; rotate_left; (· exact rfl); (· (simp [go_sem, List.take_of_length_le] <;> with_reducible rfl)))
        | (refine Gx.skip rfl ?_ ?_ ?_; (· exact rfl); (· exact rfl))
        | (refine Gx.skipW rfl ?_ ?_ ?_; (· exact rfl); (· exact rfl))
        | (refine Gx.skipH rfl ?_ ?_ ?_; (· exact rfl); (· exact rfl))
        | (refine Gx.hid (r := ?_) rfl ?_ ?_ ?_ ?_; rotate_left; (· exact rfl); (· exact rfl); (· (simp [go_sem, List.take_of_length_le] <;> with_reducible rfl)))
        | (refine Gx.wr (s' := ?_) rfl ?_ ?_ ?_ ?_; rotate_left; (· exact rfl); (· (simp [go_sem, List.take_of_length_le] <;> with_reducible rfl)); (· (simp [go_sem, List.take_of_length_le])))
        | fail
      refine ⟨(i + 1, goLong long (stepS n long hs k).2, goHs (stepS n long hs k).2), ⟨hlt, ?_, hok2.go, by simp⟩, by show log.length - (i + 1) < log.length - i; omega, ?_⟩
      · have := goLong_le long (stepS n long hs k).2
        show goLong long (stepS n long hs k).2 ≤ 1 + (i + 1)
        omega
      rw [wr64_id (by omega) (by omega)]
      exact Cov.ofn (nm [0]) rfl (by simp [go_sem, List.take_of_length_le, ren, ren1, okr, okr1, ChkT, ChkN, BlkN, nf]) (by simp [go_sem, List.take_of_length_le, ren, ren1, okr, okr1, ChkT, ChkN, BlkN, nf])
  · have hle : i = log.length := by
      have : ¬ i < log.length := by simpa using hl
      omega
    subst hle
    rw [List.drop_length]
    simp only [waveOk]
    repeat' first
      | refine Holds.seq ?_
      | refine Holds.skip ?_
      | refine Holds.exit ?_
      | refine Holds.ret ?_
      | refine thenA_normal ?_
      | refine thenA_exit ?_
      | refine thenA_ret ?_
      | refine inB_normal ?_
      | refine inB_ret ?_
      | refine inB_here ?_
      | (refine inB_past ?_ ?_; (· exact rfl))
      | refine Holds.reg ?_
      | refine Holds.block ?_
      | refine GS.nil ?_
      | refine Gd.nil ?_
      | (refine Holds.any mixed ?_ ?_; (· kernel_rfl))
      | (refine GS.step (s' := ?_) ?_ ?_ ?_; rotate_left; (· exact rfl); (· (simp [go_sem, List.take_of_length_le] <;> with_reducible rfl)))
      | (refine GS.skip ?_ ?_ ?_; (· exact rfl); (· exact rfl))
      | (refine Gd.go (s' := ?_) ?_ ?_ ?_; rotate_left; (· exact rfl); (· (simp [go_sem, List.take_of_length_le] <;> with_reducible rfl)))
      | (refine Gd.skip ?_ ?_ ?_; (· exact rfl); (· exact rfl))
      | refine Gx.nil ?_
      | (refine Gx.go (s' := ?_) rfl ?_ ?_ ?_; rotate_left; (· exact rfl); (· (simp [go_sem, List.take_of_length_le] <;> with_reducible rfl)))
      | (refine Gx.skip rfl ?_ ?_ ?_; (· exact rfl); (· exact rfl))
      | (refine Gx.skipW rfl ?_ ?_ ?_; (· exact rfl); (· exact rfl))
      | (refine Gx.skipH rfl ?_ ?_ ?_; (· exact rfl); (· exact rfl))
      | (refine Gx.hid (r := ?_) rfl ?_ ?_ ?_ ?_; rotate_left; (· exact rfl); (· exact rfl); (· (simp [go_sem, List.take_of_length_le] <;> with_reducible rfl)))
      | (refine Gx.wr (s' := ?_) rfl ?_ ?_ ?_ ?_; rotate_left; (· exact rfl); (· (simp [go_sem, List.take_of_length_le] <;> with_reducible rfl)); (· (simp [go_sem, List.take_of_length_le])))
      | fail
    first | refine GS.fnn [0] (l8Ready n long hs hm) rfl rfl rfl rfl (by simp [go_sem, List.take_of_length_le, ren, ren1, okr, okr1, ChkN, BlkN, List.range_succ, nf] <;> with_reducible rfl) (by simp [go_sem, List.take_of_length_le, ren, ren1, okr, okr1, ChkN, BlkN, List.range_succ, nf]) (by simp [go_sem, List.take_of_length_le, ren, ren1, okr, okr1, ChkN, BlkN, List.range_succ, nf]) (by simp [List.range_succ, lb]) (ChkN.toB (by simp [go_sem, List.take_of_length_le, ren, ren1, okr, okr1, ChkN, BlkN, List.range_succ, nf])) (by decide) (by simp) rfl (.nfr (by simp) (.nfr (by simp) .nil)) (by simp [go_sem, List.take_of_length_le, ren, ren1, okr, okr1, ChkN, BlkN, List.range_succ, nf] <;> with_reducible rfl) ?_ | refine Gx.fnn [0] (l8Ready n long hs hm) rfl rfl rfl rfl rfl (by simp [go_sem, List.take_of_length_le, ren, ren1, okr, okr1, ChkN, BlkN, List.range_succ, nf] <;> with_reducible rfl) (by simp [go_sem, List.take_of_length_le, ren, ren1, okr, okr1, ChkN, BlkN, List.range_succ, nf]) (by simp [go_sem, List.take_of_length_le, ren, ren1, okr, okr1, ChkN, BlkN, List.range_succ, nf]) (by simp [List.range_succ, lb]) (ChkN.toB (by simp [go_sem, List.take_of_length_le, ren, ren1, okr, okr1, ChkN, BlkN, List.range_succ, nf])) (by decide) (by simp) rfl (.nfr (by simp) (.nfr (by simp) .nil)) (by simp [go_sem, List.take_of_length_le, ren, ren1, okr, okr1, ChkN, BlkN, List.range_succ, nf]) (by simp [go_sem, List.take_of_length_le, ren, ren1, okr, okr1, ChkN, BlkN, List.range_succ, nf] <;> with_reducible rfl) ?_
    repeat' first
      | refine Holds.seq ?_
      | refine Holds.skip ?_
      | refine Holds.exit ?_
      | refine Holds.ret ?_
      | refine thenA_normal ?_
      | refine thenA_exit ?_
      | refine thenA_ret ?_
      | refine inB_normal ?_
      | refine inB_ret ?_
      | refine inB_here ?_
      | (refine inB_past ?_ ?_; (· exact rfl))
      | refine Holds.reg ?_
      | refine Holds.block ?_
      | refine GS.nil ?_
      | refine Gd.nil ?_
      | (refine Holds.any mixed ?_ ?_; (· kernel_rfl))
      | (refine GS.step (s' := ?_) ?_ ?_ ?_; rotate_left; (· exact rfl); (· (simp [go_sem, List.take_of_length_le] <;> with_reducible rfl)))
      | (refine GS.skip ?_ ?_ ?_; (· exact rfl); (· exact rfl))
      | (refine Gd.go (s' := ?_) ?_ ?_ ?_; rotate_left; (· exact rfl); (· (simp [go_sem, List.take_of_length_le] <;> with_reducible rfl)))
      | (refine Gd.skip ?_ ?_ ?_; (· exact rfl); (· exact rfl))
      | refine Gx.nil ?_
      | (refine Gx.go (s' := ?_) rfl ?_ ?_ ?_; rotate_left; (· exact rfl); (· (simp [go_sem, List.take_of_length_le] <;> with_reducible rfl)))
      | (refine Gx.skip rfl ?_ ?_ ?_; (· exact rfl); (· exact rfl))
      | (refine Gx.skipW rfl ?_ ?_ ?_; (· exact rfl); (· exact rfl))
      | (refine Gx.skipH rfl ?_ ?_ ?_; (· exact rfl); (· exact rfl))
      | (refine Gx.hid (r := ?_) rfl ?_ ?_ ?_ ?_; rotate_left; (· exact rfl); (· exact rfl); (· (simp [go_sem, List.take_of_length_le] <;> with_reducible rfl)))
      | (refine Gx.wr (s' := ?_) rfl ?_ ?_ ?_ ?_; rotate_left; (· exact rfl); (· (simp [go_sem, List.take_of_length_le] <;> with_reducible rfl)); (· (simp [go_sem, List.take_of_length_le])))
      | fail
    refine Out.mk (xs := ?_) ?_ ?_ (by first | exact .inr rfl | exact .inl rfl)
    rotate_left
    · simp [go_sem, List.take_of_length_le] <;> with_reducible rfl
    exact Fz.cl rfl
end Go.Proofs.Ytbapglkldnlckaa.En
