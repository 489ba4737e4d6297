/- Own words and walks of this claim, part 4: what the program's functions compute, for all the arguments that are named; no further conditions. -/
import Derived.Test.YtjgeklhocjcgjaaM3
import Derived.Test.YtjgeklhocjcgjaaM2
import Derived.WideMake
section
namespace Go.Proofs.Ytjgeklhocjcgjaa.En
open Go.RowKit
set_option linter.unusedSimpArgs false
set_option linter.unusedVariables false
set_option maxHeartbeats 8000000
theorem specGoodG (g : GrammarT) (hx : g.2.2.length < 4611686018427387904) (hs : ∀ e ∈ g.2.2, e.2.length < 4611686018427387904) : Pure Try.prog 23 [.ag (grammarC g)] (.v (.bool (goodG g))) := by
  refine Pure.mk (rs := [.tmp 2]) (nt := 72) Try.func23 (by kernel_rfl) rfl rfl rfl (by simp) ?_
  simp only [sl, grammarC]
  repeat' first
    | refine Holds.seq ?_
    | refine Holds.skip ?_
    | refine Holds.exit ?_
    | refine Holds.ret ?_
    | refine thenA_normal ?_
    | refine thenA_exit ?_
    | refine thenA_ret ?_
    | refine inB_normal ?_
    | refine inB_ret ?_
    | refine inB_here ?_
    | (refine inB_past ?_ ?_; (· exact rfl))
    | refine Holds.reg ?_
    | refine Holds.block ?_
    | refine GS.nil ?_
    | (refine GS.step (s' := ?_) ?_ ?_ ?_; rotate_left; (· exact rfl); (· (simp [go_sem, List.take_of_length_le] <;> with_reducible rfl)))
    | (refine GS.skip ?_ ?_ ?_; (· exact rfl); (· exact rfl))
    | fail
  refine GS.cc (l1In g.1 1 6) rfl rfl rfl rfl (by simp [go_sem, List.take_of_length_le] <;> with_reducible rfl) rfl (by simp [go_sem, List.take_of_length_le]) ?_
  generalize hg1 : inR g.1 1 6 = b1
  repeat' first
    | refine Holds.seq ?_
    | refine Holds.skip ?_
    | refine Holds.exit ?_
    | refine Holds.ret ?_
    | refine thenA_normal ?_
    | refine thenA_exit ?_
    | refine thenA_ret ?_
    | refine inB_normal ?_
    | refine inB_ret ?_
    | refine inB_here ?_
    | (refine inB_past ?_ ?_; (· exact rfl))
    | refine Holds.reg ?_
    | refine Holds.block ?_
    | refine GS.nil ?_
    | (refine GS.step (s' := ?_) ?_ ?_ ?_; rotate_left; (· exact rfl); (· (simp [go_sem, List.take_of_length_le] <;> with_reducible rfl)))
    | (refine GS.skip ?_ ?_ ?_; (· exact rfl); (· exact rfl))
    | fail
  refine GS.guard (t := 13) rfl (fun h => ?_) (fun h => ?_)
  · have h : b1 = false := by simpa using h
    subst h
    rw [show goodG g = false by rw [goodG, hg1]; rfl]
    repeat' first
      | refine Holds.seq ?_
      | refine Holds.skip ?_
      | refine Holds.exit ?_
      | refine Holds.ret ?_
      | refine thenA_normal ?_
      | refine thenA_exit ?_
      | refine thenA_ret ?_
      | refine inB_normal ?_
      | refine inB_ret ?_
      | refine inB_here ?_
      | (refine inB_past ?_ ?_; (· exact rfl))
      | refine Holds.reg ?_
      | refine Holds.block ?_
      | refine GS.nil ?_
      | (refine GS.step (s' := ?_) ?_ ?_ ?_; rotate_left; (· exact rfl); (· (simp [go_sem, List.take_of_length_le] <;> with_reducible rfl)))
      | (refine GS.skip ?_ ?_ ?_; (· exact rfl); (· exact rfl))
      | fail
    refine Holds.cond rfl (fun h => ?_) (fun h => ?_)
    · repeat' first
        | refine Holds.seq ?_
        | refine Holds.skip ?_
        | refine Holds.exit ?_
        | refine Holds.ret ?_
        | refine thenA_normal ?_
        | refine thenA_exit ?_
        | refine thenA_ret ?_
        | refine inB_normal ?_
        | refine inB_ret ?_
        | refine inB_here ?_
        | (refine inB_past ?_ ?_; (· exact rfl))
        | refine Holds.reg ?_
        | refine Holds.block ?_
        | refine GS.nil ?_
        | (refine GS.step (s' := ?_) ?_ ?_ ?_; rotate_left; (· exact rfl); (· (simp [go_sem, List.take_of_length_le] <;> with_reducible rfl)))
        | (refine GS.skip ?_ ?_ ?_; (· exact rfl); (· exact rfl))
        | fail
      refine Out.mk (xs := ?_) ?_ ?_ (by first | exact .inr rfl | exact .inl rfl)
      rotate_left
      · simp [go_sem, List.take_of_length_le] <;> with_reducible rfl
      exact .v _
    · cases h
  have hA : inR g.1 1 6 = true := by rw [hg1]; simpa using h
  have hA' : 1 ≤ g.1 ∧ g.1 ≤ 6 := by simpa [inR] using hA
  have hw : wr64 (g.1 - 1) = g.1 - 1 := wr64_id (by omega) (by omega)
  clear hg1 h
  repeat' first
    | refine Holds.seq ?_
    | refine Holds.skip ?_
    | refine Holds.exit ?_
    | refine Holds.ret ?_
    | refine thenA_normal ?_
    | refine thenA_exit ?_
    | refine thenA_ret ?_
    | refine inB_normal ?_
    | refine inB_ret ?_
    | refine inB_here ?_
    | (refine inB_past ?_ ?_; (· exact rfl))
    | refine Holds.reg ?_
    | refine Holds.block ?_
    | refine GS.nil ?_
    | (refine GS.step (s' := ?_) ?_ ?_ ?_; rotate_left; (· exact rfl); (· (simp [go_sem, List.take_of_length_le] <;> with_reducible rfl)))
    | (refine GS.skip ?_ ?_ ?_; (· exact rfl); (· exact rfl))
    | fail
  refine GS.cc (l1In g.2.1 1 4) rfl rfl rfl rfl (by simp [go_sem, List.take_of_length_le] <;> with_reducible rfl) rfl (by simp [go_sem, List.take_of_length_le]) ?_
  generalize hg1 : inR g.2.1 1 4 = b1
  repeat' first
    | refine Holds.seq ?_
    | refine Holds.skip ?_
    | refine Holds.exit ?_
    | refine Holds.ret ?_
    | refine thenA_normal ?_
    | refine thenA_exit ?_
    | refine thenA_ret ?_
    | refine inB_normal ?_
    | refine inB_ret ?_
    | refine inB_here ?_
    | (refine inB_past ?_ ?_; (· exact rfl))
    | refine Holds.reg ?_
    | refine Holds.block ?_
    | refine GS.nil ?_
    | (refine GS.step (s' := ?_) ?_ ?_ ?_; rotate_left; (· exact rfl); (· (simp [go_sem, List.take_of_length_le] <;> with_reducible rfl)))
    | (refine GS.skip ?_ ?_ ?_; (· exact rfl); (· exact rfl))
    | fail
  refine GS.guard (t := 19) rfl (fun h => ?_) (fun h => ?_)
  · have h : b1 = false := by simpa using h
    subst h
    rw [show goodG g = false by rw [goodG, hA, hg1]; rfl]
    repeat' first
      | refine Holds.seq ?_
      | refine Holds.skip ?_
      | refine Holds.exit ?_
      | refine Holds.ret ?_
      | refine thenA_normal ?_
      | refine thenA_exit ?_
      | refine thenA_ret ?_
      | refine inB_normal ?_
      | refine inB_ret ?_
      | refine inB_here ?_
      | (refine inB_past ?_ ?_; (· exact rfl))
      | refine Holds.reg ?_
      | refine Holds.block ?_
      | refine GS.nil ?_
      | (refine GS.step (s' := ?_) ?_ ?_ ?_; rotate_left; (· exact rfl); (· (simp [go_sem, List.take_of_length_le] <;> with_reducible rfl)))
      | (refine GS.skip ?_ ?_ ?_; (· exact rfl); (· exact rfl))
      | fail
    refine Holds.cond rfl (fun h => ?_) (fun h => ?_)
    · repeat' first
        | refine Holds.seq ?_
        | refine Holds.skip ?_
        | refine Holds.exit ?_
        | refine Holds.ret ?_
        | refine thenA_normal ?_
        | refine thenA_exit ?_
        | refine thenA_ret ?_
        | refine inB_normal ?_
        | refine inB_ret ?_
        | refine inB_here ?_
        | (refine inB_past ?_ ?_; (· exact rfl))
        | refine Holds.reg ?_
        | refine Holds.block ?_
        | refine GS.nil ?_
        | (refine GS.step (s' := ?_) ?_ ?_ ?_; rotate_left; (· exact rfl); (· (simp [go_sem, List.take_of_length_le] <;> with_reducible rfl)))
        | (refine GS.skip ?_ ?_ ?_; (· exact rfl); (· exact rfl))
        | fail
      refine Out.mk (xs := ?_) ?_ ?_ (by first | exact .inr rfl | exact .inl rfl)
      rotate_left
      · simp [go_sem, List.take_of_length_le] <;> with_reducible rfl
      exact .v _
    · cases h
  have hB : inR g.2.1 1 4 = true := by rw [hg1]; simpa using h
  have hB' : 1 ≤ g.2.1 ∧ g.2.1 ≤ 4 := by simpa [inR] using hB
  clear hg1 h
  repeat' first
    | refine Holds.seq ?_
    | refine Holds.skip ?_
    | refine Holds.exit ?_
    | refine Holds.ret ?_
    | refine thenA_normal ?_
    | refine thenA_exit ?_
    | refine thenA_ret ?_
    | refine inB_normal ?_
    | refine inB_ret ?_
    | refine inB_here ?_
    | (refine inB_past ?_ ?_; (· exact rfl))
    | refine Holds.reg ?_
    | refine Holds.block ?_
    | refine GS.nil ?_
    | (refine GS.step (s' := ?_) ?_ ?_ ?_; rotate_left; (· exact rfl); (· (simp [go_sem, List.take_of_length_le] <;> with_reducible rfl)))
    | (refine GS.skip ?_ ?_ ?_; (· exact rfl); (· exact rfl))
    | fail
  refine Holds.cond rfl (fun h => ?_) (fun h => ?_)
  · rw [show goodG g = false by have h : ¬ g.2.2.length ≤ 16 := (by simp at h; omega); rw [goodG, hA, hB, decide_eq_false h]; rfl]
    repeat' first
      | refine Holds.seq ?_
      | refine Holds.skip ?_
      | refine Holds.exit ?_
      | refine Holds.ret ?_
      | refine thenA_normal ?_
      | refine thenA_exit ?_
      | refine thenA_ret ?_
      | refine inB_normal ?_
      | refine inB_ret ?_
      | refine inB_here ?_
      | (refine inB_past ?_ ?_; (· exact rfl))
      | refine Holds.reg ?_
      | refine Holds.block ?_
      | refine GS.nil ?_
      | (refine GS.step (s' := ?_) ?_ ?_ ?_; rotate_left; (· exact rfl); (· (simp [go_sem, List.take_of_length_le] <;> with_reducible rfl)))
      | (refine GS.skip ?_ ?_ ?_; (· exact rfl); (· exact rfl))
      | fail
    refine Out.mk (xs := ?_) ?_ ?_ (by first | exact .inr rfl | exact .inl rfl)
    rotate_left
    · simp [go_sem, List.take_of_length_le] <;> with_reducible rfl
    exact .v _
  have hC : g.2.2.length ≤ 16 := by simp at h; omega
  have hG : goodG g = allB (goodAtG g) g.2.2.length := by rw [goodG, hA, hB, decide_eq_true hC]; rfl
  rw [hG]
  clear h
  repeat' first
    | refine Holds.seq ?_
    | refine Holds.skip ?_
    | refine Holds.exit ?_
    | refine Holds.ret ?_
    | refine thenA_normal ?_
    | refine thenA_exit ?_
    | refine thenA_ret ?_
    | refine inB_normal ?_
    | refine inB_ret ?_
    | refine inB_here ?_
    | (refine inB_past ?_ ?_; (· exact rfl))
    | refine Holds.reg ?_
    | refine Holds.block ?_
    | refine GS.nil ?_
    | (refine GS.step (s' := ?_) ?_ ?_ ?_; rotate_left; (· exact rfl); (· (simp [go_sem, List.take_of_length_le] <;> with_reducible rfl)))
    | (refine GS.skip ?_ ?_ ?_; (· exact rfl); (· exact rfl))
    | fail
  refine Holds.loop (ι := Nat) (fun i => ⟨[(1, .pb 0 3 0 0), (26, .im 2 (rules g.2.2)), (27, .v (.int .i64 g.2.2.length)), (28, .v (.int .i64 i))], [(0, ⟨36, 3, [[.v (.int .i64 g.1), .v (.int .i64 g.2.1), .im 2 (rules g.2.2)]]⟩)], 1⟩) (fun i => i ≤ g.2.2.length ∧ allB (goodAtG g) i = true) (fun i => g.2.2.length - i) 0 ⟨Nat.zero_le _, rfl⟩ ?_ ?_
  · exact Cov.ofn (id) rfl (by simp [go_sem, List.take_of_length_le, ren, ren1, ren2, okr, okr1, okr2, ChkT, ChkN, BlkN, nf]) (by simp [go_sem, List.take_of_length_le, ren, ren1, ren2, okr, okr1, okr2, ChkT, ChkN, BlkN, nf])
  rintro i ⟨hi, hall⟩
  repeat' first
    | refine Holds.seq ?_
    | refine Holds.skip ?_
    | refine Holds.exit ?_
    | refine Holds.ret ?_
    | refine thenA_normal ?_
    | refine thenA_exit ?_
    | refine thenA_ret ?_
    | refine inB_normal ?_
    | refine inB_ret ?_
    | refine inB_here ?_
    | (refine inB_past ?_ ?_; (· exact rfl))
    | refine Holds.reg ?_
    | refine Holds.block ?_
    | refine GS.nil ?_
    | (refine GS.step (s' := ?_) ?_ ?_ ?_; rotate_left; (· exact rfl); (· (simp [go_sem, List.take_of_length_le] <;> with_reducible rfl)))
    | (refine GS.skip ?_ ?_ ?_; (· exact rfl); (· exact rfl))
    | fail
  refine Holds.cond rfl (fun hl => ?_) (fun hl => ?_)
  · have hlt : i < g.2.2.length := by simpa using hl
    have hxi : g.2.2[i]? = some g.2.2[i] := List.getElem?_eq_getElem hlt
    have hd : g.2.2.getD i (0, []) = g.2.2[i] := by simp [hlt]
    have no : goodAtG g i = false → Out Try.prog [.tmp 2] (.v (.bool (allB (goodAtG g) g.2.2.length))) = Out Try.prog [.tmp 2] (.v (.bool false)) := fun h => by rw [allB_no hlt h]
    have hlen := hs _ (List.getElem_mem hlt)
    have hgA : goodAtG g i = (inR g.2.2[i].1 0 (g.1 - 1) && decide (g.2.2[i].2.length ≤ 4) && g.2.2[i].2.all (symOk g.1 g.2.1) && !(g.2.2.take i).any (fun s => decide (s = g.2.2[i]))) := by simp only [goodAtG, hd]
    repeat' first
      | refine Holds.seq ?_
      | refine Holds.skip ?_
      | refine Holds.exit ?_
      | refine Holds.ret ?_
      | refine thenA_normal ?_
      | refine thenA_exit ?_
      | refine thenA_ret ?_
      | refine inB_normal ?_
      | refine inB_ret ?_
      | refine inB_here ?_
      | (refine inB_past ?_ ?_; (· exact rfl))
      | refine Holds.reg ?_
      | refine Holds.block ?_
      | refine GS.nil ?_
      | (refine GS.step (s' := ?_) ?_ ?_ ?_; rotate_left; (· exact rfl); (· (simp [go_sem, List.take_of_length_le, hxi, ruleC, hw] <;> with_reducible rfl)))
      | (refine GS.skip ?_ ?_ ?_; (· exact rfl); (· exact rfl))
      | fail
    refine GS.cc (l1In g.2.2[i].1 0 (g.1 - 1)) rfl rfl rfl rfl (by simp [go_sem, List.take_of_length_le] <;> with_reducible rfl) rfl (by simp [go_sem, List.take_of_length_le]) ?_
    generalize hg1 : inR g.2.2[i].1 0 (g.1 - 1) = b1
    rw [hg1] at hgA
    repeat' first
      | refine Holds.seq ?_
      | refine Holds.skip ?_
      | refine Holds.exit ?_
      | refine Holds.ret ?_
      | refine thenA_normal ?_
      | refine thenA_exit ?_
      | refine thenA_ret ?_
      | refine inB_normal ?_
      | refine inB_ret ?_
      | refine inB_here ?_
      | (refine inB_past ?_ ?_; (· exact rfl))
      | refine Holds.reg ?_
      | refine Holds.block ?_
      | refine GS.nil ?_
      | (refine GS.step (s' := ?_) ?_ ?_ ?_; rotate_left; (· exact rfl); (· (simp [go_sem, List.take_of_length_le] <;> with_reducible rfl)))
      | (refine GS.skip ?_ ?_ ?_; (· exact rfl); (· exact rfl))
      | fail
    refine GS.guard (t := 40) rfl (fun h => ?_) (fun h => ?_)
    · have h : b1 = false := by simpa using h
      subst h
      rw [no (by rw [hgA]; rfl)]
      repeat' first
        | refine Holds.seq ?_
        | refine Holds.skip ?_
        | refine Holds.exit ?_
        | refine Holds.ret ?_
        | refine thenA_normal ?_
        | refine thenA_exit ?_
        | refine thenA_ret ?_
        | refine inB_normal ?_
        | refine inB_ret ?_
        | refine inB_here ?_
        | (refine inB_past ?_ ?_; (· exact rfl))
        | refine Holds.reg ?_
        | refine Holds.block ?_
        | refine GS.nil ?_
        | (refine GS.step (s' := ?_) ?_ ?_ ?_; rotate_left; (· exact rfl); (· (simp [go_sem, List.take_of_length_le] <;> with_reducible rfl)))
        | (refine GS.skip ?_ ?_ ?_; (· exact rfl); (· exact rfl))
        | fail
      refine Holds.cond rfl (fun h => ?_) (fun h => ?_)
      · repeat' first
          | refine Holds.seq ?_
          | refine Holds.skip ?_
          | refine Holds.exit ?_
          | refine Holds.ret ?_
          | refine thenA_normal ?_
          | refine thenA_exit ?_
          | refine thenA_ret ?_
          | refine inB_normal ?_
          | refine inB_ret ?_
          | refine inB_here ?_
          | (refine inB_past ?_ ?_; (· exact rfl))
          | refine Holds.reg ?_
          | refine Holds.block ?_
          | refine GS.nil ?_
          | (refine GS.step (s' := ?_) ?_ ?_ ?_; rotate_left; (· exact rfl); (· (simp [go_sem, List.take_of_length_le] <;> with_reducible rfl)))
          | (refine GS.skip ?_ ?_ ?_; (· exact rfl); (· exact rfl))
          | fail
        refine Out.mk (xs := ?_) ?_ ?_ (by first | exact .inr rfl | exact .inl rfl)
        rotate_left
        · simp [go_sem, List.take_of_length_le] <;> with_reducible rfl
        exact .v _
      · cases h
    have h : b1 = true := by simpa using h
    subst h
    repeat' first
      | refine Holds.seq ?_
      | refine Holds.skip ?_
      | refine Holds.exit ?_
      | refine Holds.ret ?_
      | refine thenA_normal ?_
      | refine thenA_exit ?_
      | refine thenA_ret ?_
      | refine inB_normal ?_
      | refine inB_ret ?_
      | refine inB_here ?_
      | (refine inB_past ?_ ?_; (· exact rfl))
      | refine Holds.reg ?_
      | refine Holds.block ?_
      | refine GS.nil ?_
      | (refine GS.step (s' := ?_) ?_ ?_ ?_; rotate_left; (· exact rfl); (· (simp [go_sem, List.take_of_length_le] <;> with_reducible rfl)))
      | (refine GS.skip ?_ ?_ ?_; (· exact rfl); (· exact rfl))
      | fail
    refine Holds.cond rfl (fun h => ?_) (fun h => ?_)
    · have h : ¬ g.2.2[i].2.length ≤ 4 := by simp at h; omega
      rw [no (by rw [hgA, decide_eq_false h]; rfl)]
      repeat' first
        | refine Holds.seq ?_
        | refine Holds.skip ?_
        | refine Holds.exit ?_
        | refine Holds.ret ?_
        | refine thenA_normal ?_
        | refine thenA_exit ?_
        | refine thenA_ret ?_
        | refine inB_normal ?_
        | refine inB_ret ?_
        | refine inB_here ?_
        | (refine inB_past ?_ ?_; (· exact rfl))
        | refine Holds.reg ?_
        | refine Holds.block ?_
        | refine GS.nil ?_
        | (refine GS.step (s' := ?_) ?_ ?_ ?_; rotate_left; (· exact rfl); (· (simp [go_sem, List.take_of_length_le] <;> with_reducible rfl)))
        | (refine GS.skip ?_ ?_ ?_; (· exact rfl); (· exact rfl))
        | fail
      refine Out.mk (xs := ?_) ?_ ?_ (by first | exact .inr rfl | exact .inl rfl)
      rotate_left
      · simp [go_sem, List.take_of_length_le] <;> with_reducible rfl
      exact .v _
    have h4 : g.2.2[i].2.length ≤ 4 := by simp at h; omega
    rw [decide_eq_true h4] at hgA
    repeat' first
      | refine Holds.seq ?_
      | refine Holds.skip ?_
      | refine Holds.exit ?_
      | refine Holds.ret ?_
      | refine thenA_normal ?_
      | refine thenA_exit ?_
      | refine thenA_ret ?_
      | refine inB_normal ?_
      | refine inB_ret ?_
      | refine inB_here ?_
      | (refine inB_past ?_ ?_; (· exact rfl))
      | refine Holds.reg ?_
      | refine Holds.block ?_
      | refine GS.nil ?_
      | (refine GS.step (s' := ?_) ?_ ?_ ?_; rotate_left; (· exact rfl); (· (simp [go_sem, List.take_of_length_le] <;> with_reducible rfl)))
      | (refine GS.skip ?_ ?_ ?_; (· exact rfl); (· exact rfl))
      | fail
    refine Holds.loop (ι := Nat) (fun j => ⟨[(1, .pb 0 3 0 0), (26, .im 2 (rules g.2.2)), (27, .v (.int .i64 g.2.2.length)), (28, .v (.int .i64 i)), (3, .v (.int .i64 i)), (4, .pb 1 2 0 0), (47, .im 1 (ints g.2.2[i].2)), (48, .v (.int .i64 g.2.2[i].2.length)), (49, .v (.int .i64 j))], [(0, ⟨36, 3, [[.v (.int .i64 g.1), .v (.int .i64 g.2.1), .im 2 (rules g.2.2)]]⟩), (1, ⟨77, 2, [[.v (.int .i64 g.2.2[i].1), .im 1 (ints g.2.2[i].2)]]⟩)], 2⟩) (fun j => j ≤ g.2.2[i].2.length ∧ (g.2.2[i].2.take j).all (symOk g.1 g.2.1) = true) (fun j => g.2.2[i].2.length - j) 0 ⟨Nat.zero_le _, rfl⟩ ?_ ?_
    · exact Cov.ofn (id) rfl (by simp [go_sem, List.take_of_length_le, ren, ren1, ren2, okr, okr1, okr2, ChkT, ChkN, BlkN, nf]) (by simp [go_sem, List.take_of_length_le, ren, ren1, ren2, okr, okr1, okr2, ChkT, ChkN, BlkN, nf])
    rintro j ⟨hj, hsy⟩
    repeat' first
      | refine Holds.seq ?_
      | refine Holds.skip ?_
      | refine Holds.exit ?_
      | refine Holds.ret ?_
      | refine thenA_normal ?_
      | refine thenA_exit ?_
      | refine thenA_ret ?_
      | refine inB_normal ?_
      | refine inB_ret ?_
      | refine inB_here ?_
      | (refine inB_past ?_ ?_; (· exact rfl))
      | refine Holds.reg ?_
      | refine Holds.block ?_
      | refine GS.nil ?_
      | (refine GS.step (s' := ?_) ?_ ?_ ?_; rotate_left; (· exact rfl); (· (simp [go_sem, List.take_of_length_le] <;> with_reducible rfl)))
      | (refine GS.skip ?_ ?_ ?_; (· exact rfl); (· exact rfl))
      | fail
    refine Holds.cond rfl (fun hl2 => ?_) (fun hl2 => ?_)
    · have hjt : j < g.2.2[i].2.length := by simpa using hl2
      have hxj : g.2.2[i].2[j]? = some g.2.2[i].2[j] := List.getElem?_eq_getElem hjt
      repeat' first
        | refine Holds.seq ?_
        | refine Holds.skip ?_
        | refine Holds.exit ?_
        | refine Holds.ret ?_
        | refine thenA_normal ?_
        | refine thenA_exit ?_
        | refine thenA_ret ?_
        | refine inB_normal ?_
        | refine inB_ret ?_
        | refine inB_here ?_
        | (refine inB_past ?_ ?_; (· exact rfl))
        | refine Holds.reg ?_
        | refine Holds.block ?_
        | refine GS.nil ?_
        | (refine GS.step (s' := ?_) ?_ ?_ ?_; rotate_left; (· exact rfl); (· (simp [go_sem, List.take_of_length_le, hxj] <;> with_reducible rfl)))
        | (refine GS.skip ?_ ?_ ?_; (· exact rfl); (· exact rfl))
        | fail
      refine GS.cc (l1Symbol g g.2.2[i].2[j] hA'.1 hA'.2 hB'.1 hB'.2) rfl rfl rfl rfl (by simp [go_sem, List.take_of_length_le, grammarC] <;> with_reducible rfl) rfl (by simp [go_sem, List.take_of_length_le, grammarC]) ?_
      generalize hg2 : symOk g.1 g.2.1 g.2.2[i].2[j] = b2
      repeat' first
        | refine Holds.seq ?_
        | refine Holds.skip ?_
        | refine Holds.exit ?_
        | refine Holds.ret ?_
        | refine thenA_normal ?_
        | refine thenA_exit ?_
        | refine thenA_ret ?_
        | refine inB_normal ?_
        | refine inB_ret ?_
        | refine inB_here ?_
        | (refine inB_past ?_ ?_; (· exact rfl))
        | refine Holds.reg ?_
        | refine Holds.block ?_
        | refine GS.nil ?_
        | (refine GS.step (s' := ?_) ?_ ?_ ?_; rotate_left; (· exact rfl); (· (simp [go_sem, List.take_of_length_le] <;> with_reducible rfl)))
        | (refine GS.skip ?_ ?_ ?_; (· exact rfl); (· exact rfl))
        | fail
      refine Holds.cond rfl (fun h => ?_) (fun h => ?_)
      · have h : b2 = false := by simpa using h
        subst h
        rw [no (by rw [hgA, all_at hxj hg2]; rfl)]
        repeat' first
          | refine Holds.seq ?_
          | refine Holds.skip ?_
          | refine Holds.exit ?_
          | refine Holds.ret ?_
          | refine thenA_normal ?_
          | refine thenA_exit ?_
          | refine thenA_ret ?_
          | refine inB_normal ?_
          | refine inB_ret ?_
          | refine inB_here ?_
          | (refine inB_past ?_ ?_; (· exact rfl))
          | refine Holds.reg ?_
          | refine Holds.block ?_
          | refine GS.nil ?_
          | (refine GS.step (s' := ?_) ?_ ?_ ?_; rotate_left; (· exact rfl); (· (simp [go_sem, List.take_of_length_le] <;> with_reducible rfl)))
          | (refine GS.skip ?_ ?_ ?_; (· exact rfl); (· exact rfl))
          | fail
        refine Out.mk (xs := ?_) ?_ ?_ (by first | exact .inr rfl | exact .inl rfl)
        rotate_left
        · simp [go_sem, List.take_of_length_le] <;> with_reducible rfl
        exact .v _
      · have h : b2 = true := by simpa using h
        subst h
        repeat' first
          | refine Holds.seq ?_
          | refine Holds.skip ?_
          | refine Holds.exit ?_
          | refine Holds.ret ?_
          | refine thenA_normal ?_
          | refine thenA_exit ?_
          | refine thenA_ret ?_
          | refine inB_normal ?_
          | refine inB_ret ?_
          | refine inB_here ?_
          | (refine inB_past ?_ ?_; (· exact rfl))
          | refine Holds.reg ?_
          | refine Holds.block ?_
          | refine GS.nil ?_
          | (refine GS.step (s' := ?_) ?_ ?_ ?_; rotate_left; (· exact rfl); (· (simp [go_sem, List.take_of_length_le] <;> with_reducible rfl)))
          | (refine GS.skip ?_ ?_ ?_; (· exact rfl); (· exact rfl))
          | fail
        refine ⟨j + 1, ⟨by omega, ?_⟩, by omega, ?_⟩
        · rw [List.take_add_one, hxj, List.all_append, hsy]; simp [hg2]
        rw [wr64_id (by omega) (by omega)]
        exact Cov.ofn (id) rfl (by simp [go_sem, List.take_of_length_le, ren, ren1, ren2, okr, okr1, okr2, ChkT, ChkN, BlkN, nf]) (by simp [go_sem, List.take_of_length_le, ren, ren1, ren2, okr, okr1, okr2, ChkT, ChkN, BlkN, nf])
    have hje : j = g.2.2[i].2.length := by
      have : ¬ j < g.2.2[i].2.length := by simpa using hl2
      omega
    subst hje
    rw [List.take_length] at hsy
    rw [hsy] at hgA
    have htk : (rules g.2.2).take i = rules (g.2.2.take i) := by simp [rules, List.map_take]
    have hil : (g.2.2.take i).length = i := by rw [List.length_take]; omega
    clear hl2 hj
    repeat' first
      | refine Holds.seq ?_
      | refine Holds.skip ?_
      | refine Holds.exit ?_
      | refine Holds.ret ?_
      | refine thenA_normal ?_
      | refine thenA_exit ?_
      | refine thenA_ret ?_
      | refine inB_normal ?_
      | refine inB_ret ?_
      | refine inB_here ?_
      | (refine inB_past ?_ ?_; (· exact rfl))
      | refine Holds.reg ?_
      | refine Holds.block ?_
      | refine GS.nil ?_
      | (refine GS.step (s' := ?_) ?_ ?_ ?_; rotate_left; (· exact rfl); (· (simp [go_sem, List.take_of_length_le, htk, show i ≤ g.2.2.length by omega] <;> with_reducible rfl)))
      | (refine GS.skip ?_ ?_ ?_; (· exact rfl); (· exact rfl))
      | fail
    refine Holds.loop (ι := Nat) (fun j => ⟨[(1, .pb 0 3 0 0), (26, .im 2 (rules g.2.2)), (27, .v (.int .i64 g.2.2.length)), (28, .v (.int .i64 i)), (4, .pb 1 2 0 0), (61, .im 2 (rules (g.2.2.take i))), (62, .v (.int .i64 i)), (63, .v (.int .i64 j))], [(0, ⟨36, 3, [[.v (.int .i64 g.1), .v (.int .i64 g.2.1), .im 2 (rules g.2.2)]]⟩), (1, ⟨77, 2, [[.v (.int .i64 g.2.2[i].1), .im 1 (ints g.2.2[i].2)]]⟩)], 2⟩) (fun j => j ≤ i ∧ ((g.2.2.take i).take j).any (fun s => decide (s = g.2.2[i])) = false) (fun j => i - j) 0 ⟨Nat.zero_le _, rfl⟩ ?_ ?_
    · exact Cov.ofn (id) rfl (by simp [go_sem, List.take_of_length_le, ren, ren1, ren2, okr, okr1, okr2, ChkT, ChkN, BlkN, nf, htk, hil, Nat.min_eq_left hi]) (by simp [go_sem, List.take_of_length_le, ren, ren1, ren2, okr, okr1, okr2, ChkT, ChkN, BlkN, nf, htk, hil, Nat.min_eq_left hi])
    rintro j ⟨hj, hsy⟩
    repeat' first
      | refine Holds.seq ?_
      | refine Holds.skip ?_
      | refine Holds.exit ?_
      | refine Holds.ret ?_
      | refine thenA_normal ?_
      | refine thenA_exit ?_
      | refine thenA_ret ?_
      | refine inB_normal ?_
      | refine inB_ret ?_
      | refine inB_here ?_
      | (refine inB_past ?_ ?_; (· exact rfl))
      | refine Holds.reg ?_
      | refine Holds.block ?_
      | refine GS.nil ?_
      | (refine GS.step (s' := ?_) ?_ ?_ ?_; rotate_left; (· exact rfl); (· (simp [go_sem, List.take_of_length_le] <;> with_reducible rfl)))
      | (refine GS.skip ?_ ?_ ?_; (· exact rfl); (· exact rfl))
      | fail
    refine Holds.cond rfl (fun hl2 => ?_) (fun hl2 => ?_)
    · have hjt : j < i := by simpa using hl2
      have hjl : j < (g.2.2.take i).length := by omega
      have hxj : (g.2.2.take i)[j]? = some (g.2.2.take i)[j] := List.getElem?_eq_getElem hjl
      generalize (g.2.2.take i)[j] = q at hxj
      have hsr := l1SameRule g.2.2[i] q hlen
      rw [show decide (g.2.2[i] = q) = decide (q = g.2.2[i]) by simp [eq_comm]] at hsr
      generalize hg3 : decide (q = g.2.2[i]) = b3 at hsr
      repeat' first
        | refine Holds.seq ?_
        | refine Holds.skip ?_
        | refine Holds.exit ?_
        | refine Holds.ret ?_
        | refine thenA_normal ?_
        | refine thenA_exit ?_
        | refine thenA_ret ?_
        | refine inB_normal ?_
        | refine inB_ret ?_
        | refine inB_here ?_
        | (refine inB_past ?_ ?_; (· exact rfl))
        | refine Holds.reg ?_
        | refine Holds.block ?_
        | refine GS.nil ?_
        | (refine GS.step (s' := ?_) ?_ ?_ ?_; rotate_left; (· exact rfl); (· (simp [go_sem, List.take_of_length_le, hxj, ruleC] <;> with_reducible rfl)))
        | (refine GS.skip ?_ ?_ ?_; (· exact rfl); (· exact rfl))
        | fail
      refine GS.cc (hsr) rfl rfl rfl rfl (by simp [go_sem, List.take_of_length_le, ruleC] <;> with_reducible rfl) rfl (by simp [go_sem, List.take_of_length_le, ruleC]) ?_
      repeat' first
        | refine Holds.seq ?_
        | refine Holds.skip ?_
        | refine Holds.exit ?_
        | refine Holds.ret ?_
        | refine thenA_normal ?_
        | refine thenA_exit ?_
        | refine thenA_ret ?_
        | refine inB_normal ?_
        | refine inB_ret ?_
        | refine inB_here ?_
        | (refine inB_past ?_ ?_; (· exact rfl))
        | refine Holds.reg ?_
        | refine Holds.block ?_
        | refine GS.nil ?_
        | (refine GS.step (s' := ?_) ?_ ?_ ?_; rotate_left; (· exact rfl); (· (simp [go_sem, List.take_of_length_le] <;> with_reducible rfl)))
        | (refine GS.skip ?_ ?_ ?_; (· exact rfl); (· exact rfl))
        | fail
      refine Holds.cond rfl (fun h => ?_) (fun h => ?_)
      · have h : b3 = true := by simpa using h
        subst h
        rw [no (by rw [hgA, any_at hxj hg3]; rfl)]
        repeat' first
          | refine Holds.seq ?_
          | refine Holds.skip ?_
          | refine Holds.exit ?_
          | refine Holds.ret ?_
          | refine thenA_normal ?_
          | refine thenA_exit ?_
          | refine thenA_ret ?_
          | refine inB_normal ?_
          | refine inB_ret ?_
          | refine inB_here ?_
          | (refine inB_past ?_ ?_; (· exact rfl))
          | refine Holds.reg ?_
          | refine Holds.block ?_
          | refine GS.nil ?_
          | (refine GS.step (s' := ?_) ?_ ?_ ?_; rotate_left; (· exact rfl); (· (simp [go_sem, List.take_of_length_le] <;> with_reducible rfl)))
          | (refine GS.skip ?_ ?_ ?_; (· exact rfl); (· exact rfl))
          | fail
        refine Out.mk (xs := ?_) ?_ ?_ (by first | exact .inr rfl | exact .inl rfl)
        rotate_left
        · simp [go_sem, List.take_of_length_le] <;> with_reducible rfl
        exact .v _
      · have h : b3 = false := by simpa using h
        subst h
        repeat' first
          | refine Holds.seq ?_
          | refine Holds.skip ?_
          | refine Holds.exit ?_
          | refine Holds.ret ?_
          | refine thenA_normal ?_
          | refine thenA_exit ?_
          | refine thenA_ret ?_
          | refine inB_normal ?_
          | refine inB_ret ?_
          | refine inB_here ?_
          | (refine inB_past ?_ ?_; (· exact rfl))
          | refine Holds.reg ?_
          | refine Holds.block ?_
          | refine GS.nil ?_
          | (refine GS.step (s' := ?_) ?_ ?_ ?_; rotate_left; (· exact rfl); (· (simp [go_sem, List.take_of_length_le] <;> with_reducible rfl)))
          | (refine GS.skip ?_ ?_ ?_; (· exact rfl); (· exact rfl))
          | fail
        refine ⟨j + 1, ⟨by omega, ?_⟩, by omega, ?_⟩
        · rw [List.take_add_one, hxj, List.any_append, hsy]; simp [hg3]
        rw [wr64_id (by omega) (by omega)]
        exact Cov.ofn (id) rfl (by simp [go_sem, List.take_of_length_le, ren, ren1, ren2, okr, okr1, okr2, ChkT, ChkN, BlkN, nf]) (by simp [go_sem, List.take_of_length_le, ren, ren1, ren2, okr, okr1, okr2, ChkT, ChkN, BlkN, nf])
    have hje : j = i := by
      have : ¬ j < i := by simpa using hl2
      omega
    subst hje
    rw [List.take_of_length_le (by omega)] at hsy
    have hgood : goodAtG g j = true := by rw [hgA, hsy]; rfl
    repeat' first
      | refine Holds.seq ?_
      | refine Holds.skip ?_
      | refine Holds.exit ?_
      | refine Holds.ret ?_
      | refine thenA_normal ?_
      | refine thenA_exit ?_
      | refine thenA_ret ?_
      | refine inB_normal ?_
      | refine inB_ret ?_
      | refine inB_here ?_
      | (refine inB_past ?_ ?_; (· exact rfl))
      | refine Holds.reg ?_
      | refine Holds.block ?_
      | refine GS.nil ?_
      | (refine GS.step (s' := ?_) ?_ ?_ ?_; rotate_left; (· exact rfl); (· (simp [go_sem, List.take_of_length_le] <;> with_reducible rfl)))
      | (refine GS.skip ?_ ?_ ?_; (· exact rfl); (· exact rfl))
      | fail
    refine ⟨j + 1, ⟨by omega, by unfold allB; rw [hall, hgood]; rfl⟩, by omega, ?_⟩
    rw [wr64_id (by omega) (by omega)]
    exact Cov.ofn (id) rfl (by simp [go_sem, List.take_of_length_le, ren, ren1, ren2, okr, okr1, okr2, ChkT, ChkN, BlkN, nf]) (by simp [go_sem, List.take_of_length_le, ren, ren1, ren2, okr, okr1, okr2, ChkT, ChkN, BlkN, nf])
  · have hle : i = g.2.2.length := by
      have : ¬ i < g.2.2.length := by simpa using hl
      omega
    subst hle
    rw [hall]
    repeat' first
      | refine Holds.seq ?_
      | refine Holds.skip ?_
      | refine Holds.exit ?_
      | refine Holds.ret ?_
      | refine thenA_normal ?_
      | refine thenA_exit ?_
      | refine thenA_ret ?_
      | refine inB_normal ?_
      | refine inB_ret ?_
      | refine inB_here ?_
      | (refine inB_past ?_ ?_; (· exact rfl))
      | refine Holds.reg ?_
      | refine Holds.block ?_
      | refine GS.nil ?_
      | (refine GS.step (s' := ?_) ?_ ?_ ?_; rotate_left; (· exact rfl); (· (simp [go_sem, List.take_of_length_le] <;> with_reducible rfl)))
      | (refine GS.skip ?_ ?_ ?_; (· exact rfl); (· exact rfl))
      | fail
    refine Out.mk (xs := ?_) ?_ ?_ (by first | exact .inr rfl | exact .inl rfl)
    rotate_left
    · simp [go_sem, List.take_of_length_le] <;> with_reducible rfl
    exact .v _
end Go.Proofs.Ytjgeklhocjcgjaa.En
end
section
namespace Go.Proofs.Ytjgeklhocjcgjaa.En
open Go.RowKit
set_option linter.unusedSimpArgs false
set_option linter.unusedVariables false
section
attribute [local semireducible] G Gq Holds GS Pure Out Fn OutF

/-- Speaks of no row that nobody writes. -/
inductive Ony : AV → Prop
  | v (x : Value) : Ony (.v x)
  | own (n sz off len : Nat) : Ony (.own n sz off len)
  | pb (n sz j i : Nat) : Ony (.pb n sz j i)
  | ag (xs : List AV) (h : ∀ x ∈ xs, Ony x) : Ony (.ag xs)
  | tu (xs : List AV) (h : ∀ x ∈ xs, Ony x) : Ony (.tu xs)
  | ow (e : TypeId) (sz : Nat) (xs : List (List AV)) (h : ∀ row ∈ xs, ∀ x ∈ row, Ony x) : Ony (.ow e sz xs)
def onyR (xs : List (List AV)) : Prop := ∀ row ∈ xs, ∀ x ∈ row, Ony x
@[simp] theorem onyR_nil : onyR [] := fun _ h => by cases h
@[simp] theorem Ony_v (x : Value) : Ony (.v x) := .v x
@[simp] theorem Ony_own (n sz off len : Nat) : Ony (.own n sz off len) := .own n sz off len
@[simp] theorem Ony_ag (xs : List AV) : Ony (.ag xs) ↔ ∀ x ∈ xs, Ony x := ⟨fun h => by cases h; assumption, .ag xs⟩
@[simp] theorem Ony_tu (xs : List AV) : Ony (.tu xs) ↔ ∀ x ∈ xs, Ony x := ⟨fun h => by cases h; assumption, .tu xs⟩
@[simp] theorem Ony_ow (e : TypeId) (sz : Nat) (xs : List (List AV)) : Ony (.ow e sz xs) ↔ onyR xs := ⟨fun h => by cases h; assumption, .ow e sz xs⟩
theorem Ony.agL {xs : List AV} (h : ∀ x ∈ xs, Ony x) : Ony (.ag xs) := .ag xs h

theorem Rep.ony {w : World} {S S2 : Nat → Prop} {Ow : Owners} {L : Names} {p : Path} {x : AV} {u : Value} (h : Rep w S Ow L p x u) (ho : Ony x) : Rep w S2 Ow L p x u := by
  induction h with
  | v x h => exact .v x h
  | ag xs us h _ ih =>
    cases ho with
    | ag _ ho => exact .ag xs us h fun i x u hx hu => ih i x u hx hu (ho x (List.mem_of_getElem? hx))
  | tu xs us h _ ih =>
    cases ho with
    | tu _ ho => exact .tu xs us h fun i x u hx hu => ih i x u hx hu (ho x (List.mem_of_getElem? hx))
  | im => cases ho
  | ow e sz xs b o cap cs us ho' hh hs hc hz hcell _ ih =>
    cases ho with
    | ow _ _ _ ho => exact .ow e sz xs b o cap cs us ho' hh hs hc hz hcell fun j row i x hj hi => ih j row i x hj hi (ho row (List.mem_of_getElem? hj) x (List.mem_of_getElem? hi))
  | ow_nil e sz A => exact .ow_nil e sz A
  | own n sz off len b o cap h hl => exact .own n sz off len b o cap h hl
  | own_end n sz off b o cap a h hl => exact .own_end n sz off b o cap a h hl
  | own_nil n sz A h => exact .own_nil n sz A h
  | own_gone n sz off len u h h1 => exact .own_gone n sz off len u h h1
  | pb n sz j i b o cap h => exact .pb n sz j i b o cap h
  | pb_gone n sz j i u h h1 => exact .pb_gone n sz j i u h h1
  | pi => cases ho
  | fn => cases ho
theorem BlkRep.ony {w : World} {S S2 : Nat → Prop} {Ow : Owners} {L : Names} {n : Nat} {k : Blk} {loc : Loc} (h : BlkRep w S Ow L n k loc) (ho : onyR k.xs) : BlkRep w S2 Ow L n k loc := by
  cases loc with
  | none => exact h
  | some p =>
    obtain ⟨h1, cs, us, h2, h3, h4, h5, h6, h7⟩ := h
    exact ⟨h1, cs, us, h2, h3, h4, h5, h6, fun j row i x hj hi => (h7 j row i x hj hi).ony (ho row (List.mem_of_getElem? hj) x (List.mem_of_getElem? hi))⟩

variable {P : Program} {nt : NT} {s s' : AS} {ops : Array Oper} {K : AS → Prop} {i : Nat} {o : Oper} {l : List Oper}

/-- Behind a call that yields new rows: they are put in. -/
def aft0 (s : AS) (m : Nat) (bl' : List (Nat × Blk)) : AS := ⟨s.tm, bl' ++ s.bl, s.nx + m⟩

theorem fn0_enter {w : World} {S1 : Nat → Prop} (hlt : ∀ k, S1 k → k < w.heap.size) : RelX ⟨w, fun _ => False, S1, ⟨0, 0⟩, fixOf 0 noName⟩ ⟨[], [], 0⟩ a0 w S1 noOwner noName :=
  { fix := fun n loc hn => absurd (fixOf_eq (k := 0) (L := noName) (n := n) (loc := loc) |>.1 hn).1 (Nat.not_lt_zero n)
    keep := Keep.refl _ _, inS := fun _ h => h, upS := fun _ h => .inl h, ltS := hlt, owS := fun _ _ => rfl, ow := fun b p hb => by cases hb
    ow0 := fun b q hb => by cases hb
    blk := fun n kk hn => by cases hn
    fresh := fun n _ => rfl, named := fun n hn => by cases hn
    freshO := fun b n q hb => by cases hb
    slot := fun t x hx => by cases hx
    size := rfl, defers := rfl }

theorem fnd_wp {Q : Exit → Act → World → Prop} {K : Act → World → Prop} {C : Ctx} {a : Act} {w : World} {S : Nat → Prop} {Ow : Owners} {L : Names} {c : Operand} {aas : Array Operand} {ts : Array TypeId} {f : FuncId} {xs cap args : List AV} {m : Nat} {outs bl' : List (Nat × Blk)} {r : AV} (ho : ops[i]? = some o) (hg : gd ops s o = some true) (hop : o.op = .call ⟨.value c, aas, ts⟩) (hd : okd nt.n o.dst = true)
    (hc : ev s c = some (.fn f cap)) (he : aas.toList.mapM (ev s) = some xs) (hf : FzL s.bl (xs ++ cap) args) (hom : outs.all (fun p => decide (p.1 < m)) = true)
    (hp : Fn P f 0 args [] r m outs) (hor : Ony r) (hoo : ∀ p ∈ outs, onyR p.2.xs) (hr : okr m r = true) (hren : RenB (fun n => s.nx + n) m outs bl') (hn : C.nt = nt) (hR : RelX C s a w S Ow L) (hK : ∀ a' w' S' Ow' L', RelX C (put (aft0 s m bl') o.dst (En.ren (fun n => s.nx + n) r)) a' w' S' Ow' L' → K a' w') : wpOp P ops Q i K a w := by
  subst hn
  unfold wpOp
  simp only [ho]
  rw [gd_sound hR hg]
  simp only [if_true]
  left
  have hcr := ev_rep hR hc
  obtain ⟨us0, e, hl0, hr0⟩ := hcr.fn_inv
  rw [e] at hcr
  obtain ⟨hlen, hrep⟩ := args_rep hR he hcr hf
  unfold Oper.wp
  rw [exec_call hop e hp.1]
  refine Calls.mono (hp.2 w (fun _ => False) (lent S Ow) noOwner noName _ (fn0_enter (lent_lt hR)) hlen (fun i x u hx hu => (hrep i x u hx hu).any)) fun e' w' => ?_
  rintro ⟨v, rfl, S', Ow', L', hX, hv⟩
  have hB : Below w.heap.size w w' := hX.keep.below
  have hR1 := hR.grown hB
  have hsize : w.heap.size ≤ w'.heap.size := hB.size
  have hlow : C.W.heap.size ≤ w.heap.size := hR.keep.size
  have new : ∀ b p, Ow' b = some p → w.heap.size ≤ b ∧ b < w'.heap.size := fun b p hb => by
    obtain ⟨g1, g2⟩ := hX.ow b p hb
    rcases g1 with g | g
    · exact ⟨g, g2⟩
    · exact absurd g (fun h => h)
  have oldn : ∀ b, b < w.heap.size → Ow' b = none := fun b hb => by
    cases e : Ow' b with
    | none => rfl
    | some p => have := (new b p e).1; omega
  let ρ : Nat → Nat := fun n => s.nx + n
  have inj' : ∀ i j, i < m → j < m → ρ i = ρ j → i = j := fun i j _ _ e => by simp only [ρ] at e; omega
  let L2 : Names := fun n => if n < s.nx then L n else L' (n - s.nx)
  have L2r : ∀ n, n < m → L2 (ρ n) = L' n := fun n _ => by
    have : ¬ s.nx + n < s.nx := by omega
    simp only [L2, ρ, if_neg this]; congr 1; omega
  have L2n : ∀ n, L n = .free ∨ L2 n = L n ∨ L2 n = .gone := fun n => by
    rcases Nat.lt_or_ge n s.nx with g | g
    · exact .inr (.inl (by simp only [L2, if_pos g]))
    · exact .inl (hR.fresh n g)
  let Ow2 : Owners := fun b => match Ow' b with
    | some ((n + 1) :: q) => some ((ρ n + 1) :: q)
    | _ => Ow b
  have O1 : ∀ b n q, Ow' b = some ((n + 1) :: q) → Ow2 b = some ((ρ n + 1) :: q) := fun b n q hb => by simp only [Ow2, hb]
  have O2 : ∀ b p, Ow2 b = some p → (∃ n q, Ow' b = some ((n + 1) :: q) ∧ p = (ρ n + 1) :: q) ∨ Ow b = some p := fun b p hb => by
    simp only [Ow2] at hb
    split at hb
    · rename_i n q e; cases hb; exact .inl ⟨n, q, e, rfl⟩
    · exact .inr hb
  have O3 : ∀ b p, Ow b = some p → Ow2 b = some p := fun b p hb => by
    have := oldn b (hR.ow b p hb).2
    simp only [Ow2, this]; exact hb
  have hbl : ∀ n kk, lb (bl' ++ s.bl) n = some kk → (∃ j k0, j < m ∧ ρ j = n ∧ lb outs j = some k0 ∧ BlkC ρ m k0 kk) ∨ lb s.bl n = some kk := fun n kk hn => by
    rw [lb_append] at hn
    split at hn
    · rename_i k1 e
      cases hn
      exact .inl (hren.get hom inj' e)
    · exact .inr hn
  have hR2 : RelX C (aft0 s m bl') a w' S Ow2 L2 := by
    refine { fix := fix_of hR.fix L2n, keep := hR1.keep, inS := hR1.inS, upS := hR1.upS, ltS := hR1.ltS, owS := fun b hb => ?_, ow := fun b p hb => ?_, ow0 := fun b q hb => ?_, blk := fun n kk hn => ?_, fresh := fun n hn => ?_, named := fun n hn => ?_, freshO := fun b n q hb => ?_, slot := fun t x hx => ?_, size := hR1.size, defers := hR1.defers }
    · have := oldn b (hR.ltS b hb)
      simp only [Ow2, this]; exact hR.owS b hb
    · rcases O2 b p hb with ⟨n, q, h1, rfl⟩ | h3
      · obtain ⟨g1, g2⟩ := new b _ h1
        exact ⟨.inl (by omega), g2⟩
      · exact ⟨(hR.ow b p h3).1, by have := (hR.ow b p h3).2; omega⟩
    · rcases O2 b _ hb with ⟨n, q', h1, e⟩ | h3
      · cases e
      · exact hR.ow0 b q h3
    · rcases hbl n kk hn with ⟨j, k0, h1, rfl, h3, h4⟩ | h3
      · obtain ⟨loc, hl, hBk⟩ := hX.blk j k0 h3
        exact ⟨loc, by rw [L2r j h1]; exact hl, (hBk.ony (hoo (j, k0) (lb_mem h3))).fwd h4 L2r (fun b q hb => O1 b j q hb)⟩
      · obtain ⟨loc, hl, hBk⟩ := hR1.blk n kk h3
        have hnx : n < s.nx := by
          rcases Nat.lt_or_ge n s.nx with g | g
          · exact g
          · rw [hR.fresh n g] at hl; cases hl
        exact ⟨loc, by simp only [L2, if_pos hnx]; exact hl, hBk.names L2n (fun b q hb => O3 b _ hb)⟩
    · have hn' : s.nx + m ≤ n := hn
      simp only [L2, if_neg (show ¬ n < s.nx by omega)]
      exact hX.fresh _ (show m ≤ n - s.nx by omega)
    · have hn' : n < s.nx + m := hn
      rcases Nat.lt_or_ge n s.nx with g | g
      · simp only [L2, if_pos g]; exact hR.named n g
      · simp only [L2, if_neg (Nat.not_lt.2 g)]; exact hX.named _ (show n - s.nx < m by omega)
    · show n ≤ s.nx + m
      rcases O2 b _ hb with ⟨n', q', h1, e⟩ | h3
      · cases e
        have : n' + 1 ≤ m := hX.freshO b _ _ h1
        simp only [ρ]; omega
      · have := hR.freshO b _ _ h3; omega
    · obtain ⟨u, hu, hRp⟩ := hR1.slot t x hx
      exact ⟨u, hu, hRp.names L2n (fun b q hb => absurd hb (hR.ow0 b q))⟩
  have hv2 : Rep w' S Ow2 L2 [0] (En.ren ρ r) v := (hv.ony hor).fwd L2r (fun b q hb => absurd hb (hX.ow0 b q)) hr
  exact hK _ _ _ _ _ (hR2.put o.dst hd hv2)
/-- A call of a function that is lent rows to look at, and yields new rows. -/
theorem GS.fnd {c : Operand} {aas : Array Operand} {ts : Array TypeId} {f : FuncId} {xs cap args : List AV} {m : Nat} {outs bl' : List (Nat × Blk)} {r : AV} (hp : Fn P f 0 args [] r m outs) (hop : o.op = .call ⟨.value c, aas, ts⟩) (hg : gd ops s o = some true) (hd : okd nt.n o.dst = true)
    (hc : ev s c = some (.fn f cap)) (he : aas.toList.mapM (ev s) = some xs) (hf : FzL s.bl (xs ++ cap) args) (hom : outs.all (fun p => decide (p.1 < m)) = true)
    (hor : Ony r) (hoo : ∀ p ∈ outs, onyR p.2.xs) (hr : okr m r = true) (hren : RenB (fun n => s.nx + n) m outs bl') (h : GS P nt ops K l (i + 1) (put (aft0 s m bl') o.dst (En.ren (fun n => s.nx + n) r))) : GS P nt ops K (o :: l) i s :=
  GS.cons (fun ho r' hr' => fun C a w S Ow L Q hn hR hQ => by
    rw [wpOps_cons]
    exact fnd_wp ho hg hop hd hc he hf hom hp hor hoo hr hren hn hR fun a' w' S' Ow' L' hR' => hr' C _ _ _ _ _ Q hn hR' hQ) h
/-- What yields new rows may be taken to yield rows that nobody writes. -/
theorem Fn.pure {f : FuncId} {args : List AV} {m : Nat} {outs : List (Nat × Blk)} {r r' : AV} (hp : Fn P f 0 args [] r m outs) (hf : Fz outs r r') : Pure P f args r' := by
  refine ⟨hp.1, fun W S us hlt hl hrep => ?_⟩
  refine Calls.mono (hp.2 W (fun _ => False) S noOwner noName us (fn0_enter hlt) hl (fun i x u hx hu => (hrep i x u hx hu).any)) fun e w' => ?_
  rintro ⟨v, rfl, S', Ow', L', hX, hv⟩
  refine ⟨v, rfl, hX.keep.below, lent S' Ow', fun k hk => .inl (hX.inS k hk), fun k hk => ⟨lent_lt hX k hk, ?_⟩, hv.fz hX hf⟩
  rcases hk with hk | hk
  · rcases hX.upS k hk with g | g | g
    · exact .inl g
    · exact .inr g
    · exact absurd g (fun h => h)
  · cases e : Ow' k with
    | none => exact absurd e hk
    | some p =>
      rcases (hX.ow k p e).1 with g | g
      · exact .inr g
      · exact absurd g (fun h => h)

/-! #### an inner row is closed again -/
theorem Rep.nf {w : World} {S : Nat → Prop} {Ow Ow' : Owners} {L L' : Names} {p p' : Path} {x : AV} {u : Value} (h : Rep w S Ow L p x u) (hx : En.nf x = true) (hO : ∀ k q, Ow k = some (p ++ q) → Ow' k = some (p' ++ q)) : Rep w S Ow' L' p' x u := by
  have e : En.ren1 id x = x := by cases x <;> simp_all [En.nf, En.ren1]
  exact Rep.ren1 (nx := 0) (ρ := id) (fun n hn => absurd hn (Nat.not_lt_zero n)) hO (by cases x <;> simp_all [En.nf, okr1]) (by rw [e]; exact h)
def reclo (n j i m : Nat) : Path → Path
  | a :: r => if a = m + 1 then (n + 1) :: j :: i :: r else a :: r
  | [] => []
/-- The state in which the row m is an inner row of the row n again. -/
def clo (s : AS) (n j i : Nat) : AS := match lb s.bl n with
  | some b => match b.xs[j]? with
    | some row => match row[i]? with
      | some (.own m z 0 len) => match lb s.bl m with
        | some k => ⟨s.tm, st (rm s.bl m) n { b with xs := b.xs.set j (row.set i (.ow k.e k.sz k.xs)) }, s.nx⟩
        | none => s
      | _ => s
    | none => s
  | none => s
theorem RelX.close {C : Ctx} {a : Act} {w : World} {S : Nat → Prop} {Ow : Owners} {L : Names} (h : RelX C s a w S Ow L) {n j i m z len : Nat} {b k : Blk} {row : List AV} (hb : lb s.bl n = some b) (hrow : b.xs[j]? = some row) (hi : row[i]? = some (.own m z 0 len)) (hm : lb s.bl m = some k) (hmn : m ≠ n) (hz : k.sz = z) (hlen : len = k.xs.length) (hnf : nfr k.xs) :
    ∃ Ow' L', RelX C ⟨s.tm, st (rm s.bl m) n { b with xs := b.xs.set j (row.set i (.ow k.e k.sz k.xs)) }, s.nx⟩ a w S Ow' L' := by
  subst hz hlen
  obtain ⟨loc, hl, hB⟩ := h.blk n b hb
  obtain ⟨loc2, hl2, hB2⟩ := h.blk m k hm
  obtain ⟨b', o', cap, rfl, hob, hrl, cs, us, hh, hfit, hcell, hrep⟩ := blk_row hB hrow
  have hlt : ∀ {x : Nat} {lc : Loc}, L x = .at lc → x < s.nx := fun {x lc} e => by
    rcases Nat.lt_or_ge x s.nx with g | g
    · exact g
    · rw [h.fresh x g] at e; cases e
  have hnx := hlt hl
  let L' : Names := fun x => if x = m then .gone else L x
  let Ow' : Owners := fun c => (Ow c).map (reclo n j i m)
  have hLn : ∀ x, L x = .free ∨ L' x = L x ∨ L' x = .gone := fun x => by
    by_cases e : x = m
    · exact .inr (.inr (by simp [L', e]))
    · exact .inr (.inl (by simp [L', e]))
  have hOs : ∀ c x q, x ≠ m → Ow c = some ((x + 1) :: q) → Ow' c = some ((x + 1) :: q) := fun c x q hx hc => by simp [Ow', hc, reclo, hx]
  have hOm : ∀ c q, Ow c = some ((m + 1) :: q) → Ow' c = some ((n + 1) :: j :: i :: q) := fun c q hc => by simp [Ow', hc, reclo]
  have hOe : ∀ c p, Ow' c = some p → ∃ p0, Ow c = some p0 ∧ p = reclo n j i m p0 := fun c p hc => by
    simp only [Ow', Option.map_eq_some_iff] at hc
    obtain ⟨p0, h1, h2⟩ := hc
    exact ⟨p0, h1, h2.symm⟩
  have key : ∀ u, Rep w S Ow L [n + 1, j, i] (.own m k.sz 0 k.xs.length) u → Rep w S Ow' L' [n + 1, j, i] (.ow k.e k.sz k.xs) u := fun u hu => by
    rcases own_inv hu with ⟨b2, o2, cap2, hL, hle, rfl⟩ | ⟨b2, o2, cap2, ad, hL, hle, h0, rfl⟩ | ⟨hL, _, h0, A, rfl⟩ | hg
    · rw [hl2] at hL
      cases hL
      obtain ⟨g1, cs2, us2, g2, g3, g4, g5, g6, g7⟩ := hB2
      have := Rep.ow (w := w) (S := S) (Ow := Ow') (L := L') (p := [n + 1, j, i]) k.e k.sz k.xs b2 o2 cap2 cs2 us2 (hOm _ _ g1) g2 g3 g4 g5 g6 (fun j' row' i' x hj' hi' => (g7 j' row' i' x hj' hi').nf (hnf row' (List.mem_of_getElem? hj') x (List.mem_of_getElem? hi')) (fun c q hc => hOm c _ hc))
      simpa using this
    · have : k.xs = [] := List.eq_nil_of_length_eq_zero h0
      rw [this]
      exact .ow_nil _ _ _
    · have : k.xs = [] := List.eq_nil_of_length_eq_zero h0
      rw [this]
      exact .ow_nil _ _ _
    · rw [hl2] at hg; cases hg
  refine ⟨Ow', L', { fix := fix_of h.fix hLn, keep := h.keep, inS := h.inS, upS := h.upS, ltS := h.ltS, owS := fun c hc => by simp [Ow', h.owS c hc], ow := fun c p hc => ?_, ow0 := fun c q hc => ?_, blk := ?_, fresh := fun x hx => ?_, named := fun x hx => ?_, freshO := fun c x q hc => ?_, slot := fun t x hx => ?_, size := h.size, defers := h.defers }⟩
  · obtain ⟨p0, h1, _⟩ := hOe c p hc
    exact h.ow c p0 h1
  · obtain ⟨p0, h1, h2⟩ := hOe c _ hc
    unfold reclo at h2
    split at h2
    · split at h2
      · cases h2
      · exact h.ow0 c q (by rw [h1, h2])
    · cases h2
  · intro x kk hx
    simp only [lb_st, lb_rm] at hx
    by_cases e : n = x
    · subst e
      rw [if_pos rfl, if_neg hmn, hb] at hx
      simp only [Option.map_some, Option.some.injEq] at hx
      subst hx
      refine ⟨some (b', o', cap), by simp only [L']; rw [if_neg (fun e => hmn e.symm)]; exact hl, ?_⟩
      obtain ⟨g1, cs', us', g2, g3, g4, g5, g6, g7⟩ := hB
      have hcs : cs' = cs := by rw [g2] at hh; cases hh; rfl
      subst hcs
      refine ⟨hOs _ _ _ (fun e => hmn e.symm) g1, cs', us', g2, g3, by simpa using g4, fun j' row' hj' => ?_, fun j' row' i' x hj' hi' => ?_, fun j' row' i' x hj' hi' => ?_⟩
      · rw [List.getElem?_set] at hj'
        split at hj'
        · split at hj'
          · cases hj'; simpa using hrl
          · cases hj'
        · exact g5 j' row' hj'
      · rw [List.getElem?_set] at hj'
        split at hj'
        · rename_i ej
          subst ej
          split at hj'
          · cases hj'
            have hlt' : i' < row.length := by have := (List.getElem?_eq_some_iff.1 hi').1; simpa using this
            exact g6 j row i' row[i'] hrow (List.getElem?_eq_getElem hlt')
          · cases hj'
        · exact g6 j' row' i' x hj' hi'
      · have other : ∀ (j2 i2 : Nat) (x2 : AV) (u2 : Value), Rep w S Ow L [n + 1, j2, i2] x2 u2 → Rep w S Ow' L' [n + 1, j2, i2] x2 u2 := fun j2 i2 x2 u2 hr2 =>
          hr2.names hLn (fun c q hc => hOs c n _ (fun e => hmn e.symm) hc)
        rw [List.getElem?_set] at hj'
        split at hj'
        · rename_i ej
          subst ej
          split at hj'
          · cases hj'
            rw [List.getElem?_set] at hi'
            split at hi'
            · rename_i ei
              subst ei
              split at hi'
              · cases hi'
                exact key _ (g7 j row i _ hrow hi)
              · cases hi'
            · exact other j i' x _ (g7 j row i' x hrow hi')
          · cases hj'
        · exact other j' i' x _ (g7 j' row' i' x hj' hi')
    · rw [if_neg e] at hx
      by_cases e2 : m = x
      · rw [if_pos e2] at hx; cases hx
      · rw [if_neg e2] at hx
        obtain ⟨loc3, hl3, hB3⟩ := h.blk x kk hx
        exact ⟨loc3, by simp only [L']; rw [if_neg (fun e => e2 e.symm)]; exact hl3, hB3.names hLn (fun c q hc => hOs c x _ (fun e => e2 e.symm) hc)⟩
  · have : x ≠ m := fun e => by have := hlt hl2; rw [← e] at this; exact Nat.lt_irrefl _ (Nat.lt_of_lt_of_le this hx)
    simp only [L', if_neg this]; exact h.fresh x hx
  · by_cases e : x = m
    · simp [L', e]
    · simp only [L', if_neg e]; exact h.named x hx
  · obtain ⟨p0, h1, h2⟩ := hOe c _ hc
    unfold reclo at h2
    split at h2
    · split at h2
      · cases h2; exact hnx
      · cases h2; exact h.freshO c _ _ h1
    · cases h2
  · obtain ⟨v, hv, hR⟩ := h.slot t x hx
    exact ⟨v, hv, hR.names hLn (fun c q hc => absurd hc (h.ow0 c q))⟩
theorem Cov.close {q : Nat} (n j i : Nat) {m z len : Nat} {b k : Blk} {row : List AV} (hb : lb s.bl n = some b) (hrow : b.xs[j]? = some row) (hi : row[i]? = some (.own m z 0 len)) (hm : lb s.bl m = some k) (hmn : (m == n) = false) (hz : k.sz = z) (hlen : len = k.xs.length) (hnf : nfr k.xs) : Cov q ⟨s.tm, st (rm s.bl m) n { b with xs := b.xs.set j (row.set i (.ow k.e k.sz k.xs)) }, s.nx⟩ s :=
  fun _ _ _ S _ _ _ h => ⟨S, h.close hb hrow hi hm (by simpa using hmn) hz hlen hnf⟩
theorem GS.close (n j i : Nat) {m z len : Nat} {b k : Blk} {row : List AV} (hb : lb s.bl n = some b) (hrow : b.xs[j]? = some row) (hi : row[i]? = some (.own m z 0 len)) (hm : lb s.bl m = some k) (hmn : (m == n) = false) (hz : k.sz = z) (hlen : len = k.xs.length) (hnf : nfr k.xs) (hs : (⟨s.tm, st (rm s.bl m) n { b with xs := b.xs.set j (row.set i (.ow k.e k.sz k.xs)) }, s.nx⟩ : AS) = s') {p : Nat} (h : GS P nt ops K l p s') : GS P nt ops K l p s :=
  GS.cov (Cov.close n j i hb hrow hi hm hmn hz hlen hnf) (by rw [hs]; exact h)
theorem Holds.close {c : Code} {Q : Exit → AS → Prop} (n j i : Nat) {m z len : Nat} {b k : Blk} {row : List AV} (hb : lb s.bl n = some b) (hrow : b.xs[j]? = some row) (hi : row[i]? = some (.own m z 0 len)) (hm : lb s.bl m = some k) (hmn : (m == n) = false) (hz : k.sz = z) (hlen : len = k.xs.length) (hnf : nfr k.xs) (hs : (⟨s.tm, st (rm s.bl m) n { b with xs := b.xs.set j (row.set i (.ow k.e k.sz k.xs)) }, s.nx⟩ : AS) = s') (h : Holds P nt c Q s') : Holds P nt c Q s :=
  Holds.cov (Cov.close n j i hb hrow hi hm hmn hz hlen hnf) (by rw [hs]; exact h)
theorem GS.fnnd {c : Operand} {aas : Array Operand} {ts : Array TypeId} {f : FuncId} {xs cap args : List AV} {m : Nat} {outs bl' : List (Nat × Blk)} {r : AV} {s1 : AS} (hp : Fn P f 0 args [] r m outs) (hop : o.op = .call ⟨.value c, aas, ts⟩) (hg : gd ops s o = some true) (hd : okd nt.n o.dst = true)
    (hc : ev s c = some (.fn f cap)) (he : aas.toList.mapM (ev s) = some xs) (hf : FzL s.bl (xs ++ cap) args) (hom : outs.all (fun p => decide (p.1 < m)) = true)
    (hor : Ony r) (hoo : ∀ p ∈ outs, onyR p.2.xs) (hr : okr m r = true) (hren : RenB (fun n => s.nx + n) m outs bl') (hs1 : put (aft0 s m bl') o.dst (En.ren (fun n => s.nx + n) r) = s1) (h : GS P nt ops K l (i + 1) s1) : GS P nt ops K (o :: l) i s := by
  subst hs1
  exact GS.fnd hp hop hg hd hc he hf hom hor hoo hr hren h
end
attribute [go_sem] aft0
end Go.Proofs.Ytjgeklhocjcgjaa.En
end
section
namespace Go.Proofs.Ytjgeklhocjcgjaa.En
open Go.RowKit
set_option linter.unusedSimpArgs false
set_option linter.unusedVariables false
set_option maxHeartbeats 4000000
/-- Two rows, the first i elements of the one, behind them the other's. -/
def mid {α : Type} (ys xs : List α) (i : Nat) : List α := ys.take i ++ xs.drop i
@[simp] theorem mid_zero {α : Type} (ys xs : List α) : mid ys xs 0 = xs := by simp [mid]
theorem mid_all {α : Type} {ys xs : List α} {n : Nat} (h1 : ys.length = n) (h2 : xs.length = n) : mid ys xs n = ys := by
  unfold mid; rw [List.take_of_length_le (by omega), List.drop_eq_nil_of_le (by omega), List.append_nil]
theorem mid_len {α : Type} {ys xs : List α} {i : Nat} (h : ys.length = xs.length) : (mid ys xs i).length = xs.length := by
  simp only [mid, List.length_append, List.length_take, List.length_drop]; omega
theorem mid_get {α : Type} {ys xs : List α} {i : Nat} (h : ys.length = xs.length) (hi : i < xs.length) : (mid ys xs i)[i]? = xs[i]? := by
  unfold mid
  rw [List.getElem?_append_right (by simp; omega), List.getElem?_drop]
  congr 1; simp; omega
theorem mid_set {α : Type} {ys xs : List α} {i : Nat} (h : ys.length = xs.length) (hi : i < xs.length) {y : α} (hy : ys[i]? = some y) : (mid ys xs i).set i y = mid ys xs (i + 1) := by
  unfold mid
  rw [List.set_append_right _ _ (by simp; omega), List.take_add_one, hy, List.drop_eq_getElem_cons hi]
  have e2 : i - (ys.take i).length = 0 := by simp; omega
  rw [e2, List.set_cons_zero]
  simp
/-- How many marks a row takes; the row marked from k on. -/
def wtL {α : Type} (w : α → Nat) : List α → Nat
  | [] => 0
  | x :: xs => w x + wtL w xs
def mkL {α : Type} (w : α → Nat) (f : Int → α → α) : Int → List α → List α
  | _, [] => []
  | k, x :: xs => f k x :: mkL w f (k + w x) xs
@[simp] theorem mkL_len {α : Type} (w : α → Nat) (f : Int → α → α) : ∀ (xs : List α) (k : Int), (mkL w f k xs).length = xs.length
  | [], _ => rfl
  | x :: xs, k => by simp [mkL, mkL_len w f xs]
theorem mkL_get {α : Type} (w : α → Nat) (f : Int → α → α) : ∀ (xs : List α) (k : Int) (i : Nat), (mkL w f k xs)[i]? = (xs[i]?).map (f (k + wtL w (xs.take i)))
  | [], _, i => by simp [mkL]
  | x :: xs, k, 0 => by simp [mkL, wtL]
  | x :: xs, k, i + 1 => by
    simp only [mkL, List.getElem?_cons_succ, mkL_get w f xs, List.take_succ_cons, wtL]
    congr 2; omega
theorem wtL_next {α : Type} (w : α → Nat) : ∀ {xs : List α} {i : Nat} {x : α}, xs[i]? = some x → wtL w (xs.take (i + 1)) = wtL w (xs.take i) + w x
  | [], i, x, h => by simp at h
  | y :: ys, 0, x, h => by simp at h; subst h; simp [wtL]
  | y :: ys, i + 1, x, h => by
    simp only [List.getElem?_cons_succ] at h
    simp only [List.take_succ_cons, wtL, wtL_next w h]; omega
theorem wtL_le {α : Type} (w : α → Nat) : ∀ (xs : List α) (i : Nat), wtL w (xs.take i) ≤ wtL w xs
  | [], i => by simp
  | y :: ys, 0 => by simp [wtL]
  | y :: ys, i + 1 => by have := wtL_le w ys i; simp only [List.take_succ_cons, wtL]; omega
theorem wtL_mk {α : Type} (w : α → Nat) (f : Int → α → α) (h : ∀ k x, w (f k x) = w x) : ∀ (xs : List α) (k : Int), wtL w (mkL w f k xs) = wtL w xs
  | [], _ => rfl
  | x :: xs, k => by simp [mkL, wtL, h, wtL_mk w f h xs]
def w1 (_ : Int) : Nat := 1
def m1 (k : Int) (_ : Int) : Int := k
@[simp] theorem wtL_w1 : ∀ xs : List Int, wtL w1 xs = xs.length
  | [] => rfl
  | x :: xs => by simp [wtL, w1, wtL_w1 xs]; omega
/-- The marks from k on, as many as there are elements. -/
def cnt (k : Int) (xs : List Int) : List Int := mkL w1 m1 k xs
@[simp] theorem cnt_len (k : Int) (xs : List Int) : (cnt k xs).length = xs.length := mkL_len _ _ _ _
theorem cnt_get (k : Int) (xs : List Int) {i : Nat} (h : i < xs.length) : (cnt k xs)[i]? = some (k + i) := by
  unfold cnt
  rw [mkL_get, List.getElem?_eq_getElem h, wtL_w1, List.length_take]
  simp [m1]; omega
@[simp] theorem cnt_gE (k : Int) (xs : List Int) (i : Nat) (h : i < (cnt k xs).length) : (cnt k xs)[i] = k + i := by
  have := cnt_get k xs (i := i) (by simpa using h)
  rw [List.getElem?_eq_getElem h] at this
  exact Option.some.inj this
@[simp] theorem onyR_ints (xs : List Int) : onyR (ints xs) := fun row hr x hx => by
  simp only [ints, List.mem_map] at hr
  obtain ⟨n, _, rfl⟩ := hr
  simp at hx; subst hx; exact .v _
theorem get_E {α : Type} {l : List α} {i : Nat} {a : α} (h : l[i]? = some a) : ∀ g : i < l.length, l[i] = a := fun g => by
  rw [List.getElem?_eq_getElem g] at h; exact Option.some.inj h
theorem set_get {α : Type} {l : List α} {i : Nat} {a b : α} (h : l[i]? = some b) : (l.set i a)[i]? = some a := by
  have := (List.getElem?_eq_some_iff.1 h).1
  simp [this]
theorem nfr_mid {ys xs : List (List AV)} {i : Nat} (h1 : nfr ys) (h2 : nfr xs) : nfr (mid ys xs i) := by
  unfold mid; rw [nfr_append]; exact ⟨h1.take i, h2.drop i⟩
/-- Rows of one's own as they are seen: flat ones inside memory; rows of rows. -/
theorem Fz.owI {bl : List (Nat × Blk)} {e : TypeId} {sz : Nat} {xs : List (List AV)} (h : ∀ row ∈ xs, ∀ x ∈ row, En.cl1 x = true) : Fz bl (.ow e sz xs) (.im sz xs) :=
  .ow e sz xs xs rfl (fun j r r' h1 h2 => by rw [h1] at h2; cases h2; rfl) fun j r r' i x y h1 h2 h3 h4 => by
    rw [h1] at h2; cases h2
    rw [h3] at h4; cases h4
    exact .cl1 (h r (List.mem_of_getElem? h1) x (List.mem_of_getElem? h3))
theorem map_both {α β γ : Type} {xs : List α} {f : α → β} {g : α → γ} {j : Nat} {b : β} {c : γ} (h1 : (xs.map f)[j]? = some b) (h2 : (xs.map g)[j]? = some c) : ∃ x ∈ xs, b = f x ∧ c = g x := by
  simp only [List.getElem?_map, Option.map_eq_some_iff] at h1 h2
  obtain ⟨x, hx, rfl⟩ := h1
  obtain ⟨y, hy, rfl⟩ := h2
  rw [hx] at hy; cases hy
  exact ⟨x, List.mem_of_getElem? hx, rfl, rfl⟩
theorem Fz.rowsW {bl : List (Nat × Blk)} {α : Type} {e : TypeId} {sz : Nat} (l : List α) (fO fI : α → List AV) (hz : ∀ x ∈ l, FzL bl (fO x) (fI x)) : Fz bl (.ow e sz (l.map fO)) (.im sz (l.map fI)) :=
  .ow e sz _ _ (by simp) (fun j r r' h1 h2 => by obtain ⟨x, hx, rfl, rfl⟩ := map_both h1 h2; exact (hz x hx).len) fun j r r' i x y h1 h2 h3 h4 => by
    obtain ⟨x, hx, rfl, rfl⟩ := map_both h1 h2
    exact (hz x hx).get i _ _ h3 h4
theorem Fz.rowsO {bl : List (Nat × Blk)} {α : Type} {n sz len : Nat} {k : Blk} (l : List α) (fO fI : α → List AV) (hk : lb bl n = some k) (hx : k.xs = l.map fO) (hs : k.sz = sz) (hz : ∀ x ∈ l, FzL bl (fO x) (fI x)) (hl : len = l.length) : Fz bl (.own n sz 0 len) (.im sz (l.map fI)) := by
  subst hs hl
  refine .own n 0 l.length k (l.map fI) _ hk (by simp [hx]) (fun j r r' h1 h2 => ?_) (fun j r r' i x y h1 h2 h3 h4 => ?_) (by simp) (by simp [List.take_of_length_le])
  · rw [hx] at h1
    obtain ⟨x, hx, rfl, rfl⟩ := map_both h1 h2
    exact (hz x hx).len
  · rw [hx] at h1
    obtain ⟨x, hx, rfl, rfl⟩ := map_both h1 h2
    exact (hz x hx).get i _ _ h3 h4
theorem ints_mid (ys xs : List Int) (i : Nat) : mid (ints ys) (ints xs) i = ints (mid ys xs i) := by simp [mid, ints]

theorem toIntSO (xs : List Int) (hx : xs.length < 35184372088832) : Fn Try.prog 61 0 [.im 1 (ints xs)] [] (.own 0 1 0 xs.length) 1 [(0, ⟨3, 1, ints xs⟩)] := by
  refine Fn.mk (rs := [.tmp 2]) (nt := 22) Try.func61 (by kernel_rfl) rfl rfl rfl (by simp) ?_
  simp only [sl]
  repeat' first
    | refine Holds.seq ?_
    | refine Holds.skip ?_
    | refine Holds.exit ?_
    | refine Holds.ret ?_
    | refine thenA_normal ?_
    | refine thenA_exit ?_
    | refine thenA_ret ?_
    | refine inB_normal ?_
    | refine inB_ret ?_
    | refine inB_here ?_
    | (refine inB_past ?_ ?_; (· exact rfl))
    | refine Holds.reg ?_
    | refine Holds.block ?_
    | refine GS.nil ?_
    | (refine GS.step (s' := ?_) ?_ ?_ ?_; rotate_left; (· exact rfl); (· (simp [go_sem, List.take_of_length_le, (show (0:Int) ≤ (xs.length : Int) by omega), (show (8:Int) * xs.length ≤ 281474976710656 by omega), (show (xs.length : Int) ≤ 281474976710656 by omega)] <;> with_reducible rfl)))
    | (refine GS.skip ?_ ?_ ?_; (· exact rfl); (· exact rfl))
    | fail
  refine Holds.loop (ι := Nat) (fun i => ⟨[(0, .im 1 (ints xs)), (3, .own 0 1 0 xs.length), (4, .v (.int .i64 i))], [(0, ⟨3, 1, ints (half xs 0 i)⟩)], 1⟩) (fun i => i ≤ xs.length) (fun i => xs.length - i) 0 (Nat.zero_le _) ?_ ?_
  · exact Cov.ofn (id) rfl (by simp [go_sem, List.take_of_length_le, ren, ren1, ren2, okr, okr1, okr2, ChkT, ChkN, BlkN, nf, half]) (by simp [go_sem, List.take_of_length_le, ren, ren1, ren2, okr, okr1, okr2, ChkT, ChkN, BlkN, nf, half])
  intro i hi
  repeat' first
    | refine Holds.seq ?_
    | refine Holds.skip ?_
    | refine Holds.exit ?_
    | refine Holds.ret ?_
    | refine thenA_normal ?_
    | refine thenA_exit ?_
    | refine thenA_ret ?_
    | refine inB_normal ?_
    | refine inB_ret ?_
    | refine inB_here ?_
    | (refine inB_past ?_ ?_; (· exact rfl))
    | refine Holds.reg ?_
    | refine Holds.block ?_
    | refine GS.nil ?_
    | (refine GS.step (s' := ?_) ?_ ?_ ?_; rotate_left; (· exact rfl); (· (simp [go_sem, List.take_of_length_le] <;> with_reducible rfl)))
    | (refine GS.skip ?_ ?_ ?_; (· exact rfl); (· exact rfl))
    | fail
  refine Holds.cond rfl (fun hl => ?_) (fun hl => ?_)
  · have hlt : i < xs.length := by simpa using hl
    have hxi : xs[i]? = some xs[i] := List.getElem?_eq_getElem hlt
    have hhi := half_get xs 0 i hlt
    have hhs := half_set xs 0 i hlt _ hxi
    repeat' first
      | refine Holds.seq ?_
      | refine Holds.skip ?_
      | refine Holds.exit ?_
      | refine Holds.ret ?_
      | refine thenA_normal ?_
      | refine thenA_exit ?_
      | refine thenA_ret ?_
      | refine inB_normal ?_
      | refine inB_ret ?_
      | refine inB_here ?_
      | (refine inB_past ?_ ?_; (· exact rfl))
      | refine Holds.reg ?_
      | refine Holds.block ?_
      | refine GS.nil ?_
      | (refine GS.step (s' := ?_) ?_ ?_ ?_; rotate_left; (· exact rfl); (· (simp [go_sem, List.take_of_length_le, hxi, hlt, hhi, hhs] <;> with_reducible rfl)))
      | (refine GS.skip ?_ ?_ ?_; (· exact rfl); (· exact rfl))
      | fail
    refine ⟨i + 1, by omega, by omega, ?_⟩
    rw [wr64_id (by omega) (by omega)]
    exact Cov.ofn (id) rfl (by simp [go_sem, List.take_of_length_le, ren, ren1, ren2, okr, okr1, okr2, ChkT, ChkN, BlkN, nf]) (by simp [go_sem, List.take_of_length_le, ren, ren1, ren2, okr, okr1, okr2, ChkT, ChkN, BlkN, nf])
  · have hle : i = xs.length := by
      have : ¬ i < xs.length := by simpa using hl
      omega
    subst hle
    rw [half_all]
    repeat' first
      | refine Holds.seq ?_
      | refine Holds.skip ?_
      | refine Holds.exit ?_
      | refine Holds.ret ?_
      | refine thenA_normal ?_
      | refine thenA_exit ?_
      | refine thenA_ret ?_
      | refine inB_normal ?_
      | refine inB_ret ?_
      | refine inB_here ?_
      | (refine inB_past ?_ ?_; (· exact rfl))
      | refine Holds.reg ?_
      | refine Holds.block ?_
      | refine GS.nil ?_
      | (refine GS.step (s' := ?_) ?_ ?_ ?_; rotate_left; (· exact rfl); (· (simp [go_sem, List.take_of_length_le] <;> with_reducible rfl)))
      | (refine GS.skip ?_ ?_ ?_; (· exact rfl); (· exact rfl))
      | fail
    refine OutF.mkn (xs := ?_) (nm [0]) ?_ ?_ ?_ ?_ ?_ (by first | exact .inr rfl | exact .inl rfl)
    rotate_left
    · simp [go_sem, List.take_of_length_le] <;> with_reducible rfl
    · simp [go_sem, List.take_of_length_le, ren, ren1, ren2, okr, okr1, okr2, ChkN, BlkN, List.range_succ, nf]
    · simp [go_sem, List.take_of_length_le, ren, ren1, ren2, okr, okr1, okr2, ChkN, BlkN, List.range_succ, nf]
    · simp [go_sem, List.take_of_length_le, ren, ren1, ren2, okr, okr1, okr2, ChkN, BlkN, List.range_succ, nf]
    · rfl
theorem markIntS (xs : List Int) (k : Int) (h0 : 0 ≤ k) (h1 : k + wtL w1 xs ≤ 4611686018427387904) : Fn Try.prog 16 1 [.own 0 1 0 xs.length, .v (.int .i64 k)] [(0, ⟨3, 1, ints xs⟩)] (.v (.int .i64 (k + wtL w1 xs))) 1 [(0, ⟨3, 1, ints (cnt k xs)⟩)] := by
  rw [wtL_w1] at h1 ⊢
  have hl0 : (cnt k xs).length = xs.length := cnt_len k xs
  refine Fn.mk (rs := [.tmp 4]) (nt := 19) Try.func16 (by kernel_rfl) rfl rfl rfl (by simp) ?_
  simp only [sl]
  repeat' first
    | refine Holds.seq ?_
    | refine Holds.skip ?_
    | refine Holds.exit ?_
    | refine Holds.ret ?_
    | refine thenA_normal ?_
    | refine thenA_exit ?_
    | refine thenA_ret ?_
    | refine inB_normal ?_
    | refine inB_ret ?_
    | refine inB_here ?_
    | (refine inB_past ?_ ?_; (· exact rfl))
    | refine Holds.reg ?_
    | refine Holds.block ?_
    | refine GS.nil ?_
    | (refine GS.step (s' := ?_) ?_ ?_ ?_; rotate_left; (· exact rfl); (· (simp [go_sem, List.take_of_length_le] <;> with_reducible rfl)))
    | (refine GS.skip ?_ ?_ ?_; (· exact rfl); (· exact rfl))
    | fail
  refine Holds.loop (ι := Nat) (fun i => ⟨[(0, .own 0 1 0 xs.length), (1, .v (.int .i64 (k + i))), (5, .v (.int .i64 i))], [(0, ⟨3, 1, ints (mid (cnt k xs) xs i)⟩)], 1⟩) (fun i => i ≤ xs.length) (fun i => xs.length - i) 0 (Nat.zero_le _) ?_ ?_
  · exact Cov.ofn (id) rfl (by simp [go_sem, List.take_of_length_le, ren, ren1, ren2, okr, okr1, okr2, ChkT, ChkN, BlkN, nf]) (by simp [go_sem, List.take_of_length_le, ren, ren1, ren2, okr, okr1, okr2, ChkT, ChkN, BlkN, nf])
  intro i hi
  have hml := mid_len (i := i) hl0
  repeat' first
    | refine Holds.seq ?_
    | refine Holds.skip ?_
    | refine Holds.exit ?_
    | refine Holds.ret ?_
    | refine thenA_normal ?_
    | refine thenA_exit ?_
    | refine thenA_ret ?_
    | refine inB_normal ?_
    | refine inB_ret ?_
    | refine inB_here ?_
    | (refine inB_past ?_ ?_; (· exact rfl))
    | refine Holds.reg ?_
    | refine Holds.block ?_
    | refine GS.nil ?_
    | (refine GS.step (s' := ?_) ?_ ?_ ?_; rotate_left; (· exact rfl); (· (simp [go_sem, List.take_of_length_le, hml] <;> with_reducible rfl)))
    | (refine GS.skip ?_ ?_ ?_; (· exact rfl); (· exact rfl))
    | fail
  refine Holds.cond rfl (fun hl => ?_) (fun hl => ?_)
  · have hlt : i < xs.length := by simpa using hl
    have hxi : xs[i]? = some xs[i] := List.getElem?_eq_getElem hlt
    have hhi := (mid_get hl0 hlt).trans hxi
    have hhs := mid_set hl0 hlt (cnt_get k xs hlt)
    repeat' first
      | refine Holds.seq ?_
      | refine Holds.skip ?_
      | refine Holds.exit ?_
      | refine Holds.ret ?_
      | refine thenA_normal ?_
      | refine thenA_exit ?_
      | refine thenA_ret ?_
      | refine inB_normal ?_
      | refine inB_ret ?_
      | refine inB_here ?_
      | (refine inB_past ?_ ?_; (· exact rfl))
      | refine Holds.reg ?_
      | refine Holds.block ?_
      | refine GS.nil ?_
      | (refine GS.step (s' := ?_) ?_ ?_ ?_; rotate_left; (· exact rfl); (· (simp [go_sem, List.take_of_length_le, hml, hxi, hlt, hhi, hhs] <;> with_reducible rfl)))
      | (refine GS.skip ?_ ?_ ?_; (· exact rfl); (· exact rfl))
      | fail
    refine ⟨i + 1, by omega, by omega, ?_⟩
    rw [wr64_id (by omega) (by omega), wr64_id (by omega) (by omega), show k + (i : Int) + 1 = k + ((i + 1 : Nat) : Int) by omega]
    exact Cov.ofn (id) rfl (by simp [go_sem, List.take_of_length_le, ren, ren1, ren2, okr, okr1, okr2, ChkT, ChkN, BlkN, nf]) (by simp [go_sem, List.take_of_length_le, ren, ren1, ren2, okr, okr1, okr2, ChkT, ChkN, BlkN, nf])
  · have hle : i = xs.length := by
      have : ¬ i < xs.length := by simpa using hl
      omega
    subst hle
    rw [mid_all hl0 rfl]
    repeat' first
      | refine Holds.seq ?_
      | refine Holds.skip ?_
      | refine Holds.exit ?_
      | refine Holds.ret ?_
      | refine thenA_normal ?_
      | refine thenA_exit ?_
      | refine thenA_ret ?_
      | refine inB_normal ?_
      | refine inB_ret ?_
      | refine inB_here ?_
      | (refine inB_past ?_ ?_; (· exact rfl))
      | refine Holds.reg ?_
      | refine Holds.block ?_
      | refine GS.nil ?_
      | (refine GS.step (s' := ?_) ?_ ?_ ?_; rotate_left; (· exact rfl); (· (simp [go_sem, List.take_of_length_le] <;> with_reducible rfl)))
      | (refine GS.skip ?_ ?_ ?_; (· exact rfl); (· exact rfl))
      | fail
    refine OutF.mkn (xs := ?_) (nm [0]) ?_ ?_ ?_ ?_ ?_ (by first | exact .inr rfl | exact .inl rfl)
    rotate_left
    · simp [go_sem, List.take_of_length_le] <;> with_reducible rfl
    · simp [go_sem, List.take_of_length_le, ren, ren1, ren2, okr, okr1, okr2, ChkN, BlkN, List.range_succ, nf]
    · simp [go_sem, List.take_of_length_le, ren, ren1, ren2, okr, okr1, okr2, ChkN, BlkN, List.range_succ, nf]
    · simp [go_sem, List.take_of_length_le, ren, ren1, ren2, okr, okr1, okr2, ChkN, BlkN, List.range_succ, nf]
    · rfl
theorem heldIntS (xs : List Int) (k : Int) (h0 : 0 ≤ k) (h1 : k + wtL w1 xs ≤ 4611686018427387904) : Pure Try.prog 17 [.im 1 (ints (cnt k xs)), .v (.int .i64 k)] (.v (.int .i64 (k + wtL w1 xs))) := by
  rw [wtL_w1] at h1 ⊢
  refine Pure.mk (rs := [.tmp 4]) (nt := 21) Try.func17 (by kernel_rfl) rfl rfl rfl (by simp) ?_
  simp only [sl]
  repeat' first
    | refine Holds.seq ?_
    | refine Holds.skip ?_
    | refine Holds.exit ?_
    | refine Holds.ret ?_
    | refine thenA_normal ?_
    | refine thenA_exit ?_
    | refine thenA_ret ?_
    | refine inB_normal ?_
    | refine inB_ret ?_
    | refine inB_here ?_
    | (refine inB_past ?_ ?_; (· exact rfl))
    | refine Holds.reg ?_
    | refine Holds.block ?_
    | refine GS.nil ?_
    | (refine GS.step (s' := ?_) ?_ ?_ ?_; rotate_left; (· exact rfl); (· (simp [go_sem, List.take_of_length_le] <;> with_reducible rfl)))
    | (refine GS.skip ?_ ?_ ?_; (· exact rfl); (· exact rfl))
    | fail
  refine Holds.loop (ι := Nat) (fun i => ⟨[(0, .im 1 (ints (cnt k xs))), (1, .v (.int .i64 (k + i))), (5, .v (.int .i64 i))], [], 0⟩) (fun i => i ≤ xs.length) (fun i => xs.length - i) 0 (Nat.zero_le _) ?_ ?_
  · exact Cov.ofn (id) rfl (by simp [go_sem, List.take_of_length_le, ren, ren1, ren2, okr, okr1, okr2, ChkT, ChkN, BlkN, nf]) (by simp [go_sem, List.take_of_length_le, ren, ren1, ren2, okr, okr1, okr2, ChkT, ChkN, BlkN, nf])
  intro i hi
  repeat' first
    | refine Holds.seq ?_
    | refine Holds.skip ?_
    | refine Holds.exit ?_
    | refine Holds.ret ?_
    | refine thenA_normal ?_
    | refine thenA_exit ?_
    | refine thenA_ret ?_
    | refine inB_normal ?_
    | refine inB_ret ?_
    | refine inB_here ?_
    | (refine inB_past ?_ ?_; (· exact rfl))
    | refine Holds.reg ?_
    | refine Holds.block ?_
    | refine GS.nil ?_
    | (refine GS.step (s' := ?_) ?_ ?_ ?_; rotate_left; (· exact rfl); (· (simp [go_sem, List.take_of_length_le] <;> with_reducible rfl)))
    | (refine GS.skip ?_ ?_ ?_; (· exact rfl); (· exact rfl))
    | fail
  refine Holds.cond rfl (fun hl => ?_) (fun hl => ?_)
  · have hlt : i < xs.length := by simpa using hl
    have hxi := cnt_get k xs hlt
    repeat' first
      | refine Holds.seq ?_
      | refine Holds.skip ?_
      | refine Holds.exit ?_
      | refine Holds.ret ?_
      | refine thenA_normal ?_
      | refine thenA_exit ?_
      | refine thenA_ret ?_
      | refine inB_normal ?_
      | refine inB_ret ?_
      | refine inB_here ?_
      | (refine inB_past ?_ ?_; (· exact rfl))
      | refine Holds.reg ?_
      | refine Holds.block ?_
      | refine GS.nil ?_
      | (refine GS.step (s' := ?_) ?_ ?_ ?_; rotate_left; (· exact rfl); (· (simp [go_sem, List.take_of_length_le, hxi, hlt] <;> with_reducible rfl)))
      | (refine GS.skip ?_ ?_ ?_; (· exact rfl); (· exact rfl))
      | fail
    refine Holds.cond rfl (fun hl => absurd hl (by simp)) (fun hl => ?_)
    repeat' first
      | refine Holds.seq ?_
      | refine Holds.skip ?_
      | refine Holds.exit ?_
      | refine Holds.ret ?_
      | refine thenA_normal ?_
      | refine thenA_exit ?_
      | refine thenA_ret ?_
      | refine inB_normal ?_
      | refine inB_ret ?_
      | refine inB_here ?_
      | (refine inB_past ?_ ?_; (· exact rfl))
      | refine Holds.reg ?_
      | refine Holds.block ?_
      | refine GS.nil ?_
      | (refine GS.step (s' := ?_) ?_ ?_ ?_; rotate_left; (· exact rfl); (· (simp [go_sem, List.take_of_length_le] <;> with_reducible rfl)))
      | (refine GS.skip ?_ ?_ ?_; (· exact rfl); (· exact rfl))
      | fail
    refine ⟨i + 1, by omega, by omega, ?_⟩
    rw [wr64_id (by omega) (by omega), wr64_id (by omega) (by omega), show k + (i : Int) + 1 = k + ((i + 1 : Nat) : Int) by omega]
    exact Cov.ofn (id) rfl (by simp [go_sem, List.take_of_length_le, ren, ren1, ren2, okr, okr1, okr2, ChkT, ChkN, BlkN, nf]) (by simp [go_sem, List.take_of_length_le, ren, ren1, ren2, okr, okr1, okr2, ChkT, ChkN, BlkN, nf])
  · have hle : i = xs.length := by
      have : ¬ i < xs.length := by simpa using hl
      omega
    subst hle
    repeat' first
      | refine Holds.seq ?_
      | refine Holds.skip ?_
      | refine Holds.exit ?_
      | refine Holds.ret ?_
      | refine thenA_normal ?_
      | refine thenA_exit ?_
      | refine thenA_ret ?_
      | refine inB_normal ?_
      | refine inB_ret ?_
      | refine inB_here ?_
      | (refine inB_past ?_ ?_; (· exact rfl))
      | refine Holds.reg ?_
      | refine Holds.block ?_
      | refine GS.nil ?_
      | (refine GS.step (s' := ?_) ?_ ?_ ?_; rotate_left; (· exact rfl); (· (simp [go_sem, List.take_of_length_le] <;> with_reducible rfl)))
      | (refine GS.skip ?_ ?_ ?_; (· exact rfl); (· exact rfl))
      | fail
    refine Out.mk (xs := ?_) ?_ ?_ (by first | exact .inr rfl | exact .inl rfl)
    rotate_left
    · simp [go_sem, List.take_of_length_le] <;> with_reducible rfl
    exact .v _
end Go.Proofs.Ytjgeklhocjcgjaa.En
end
section
namespace Go.Proofs.Ytjgeklhocjcgjaa.En
open Go.RowKit
set_option linter.unusedSimpArgs false
set_option linter.unusedVariables false
set_option maxHeartbeats 4000000
def wRule (x : RuleT) : Nat := 1 + wtL w1 x.2
def mRule (k : Int) (x : RuleT) : RuleT := ((k), cnt (k + 1) x.2)
theorem wRule_m (k : Int) (x : RuleT) : wRule (mRule k x) = wRule x := by simp [wRule, mRule]
def ruleO (x : RuleT) : List AV := [.v (.int .i64 x.1), .ow 3 1 (ints x.2)]
def rulesO (l : List RuleT) : List (List AV) := l.map ruleO
@[simp] theorem rulesO_len (l : List (RuleT)) : (rulesO l).length = l.length := by simp [rulesO]
@[simp] theorem rulesO_get (l : List (RuleT)) (i : Nat) : (rulesO l)[i]? = (l[i]?).map ruleO := by simp [rulesO]
@[simp] theorem rulesO_gE (l : List (RuleT)) (i : Nat) (h : i < (rulesO l).length) : (rulesO l)[i] = ruleO (l[i]'(by simpa using h)) := by simp [rulesO]
theorem rulesO_all (p : AV → Prop) (l : List (RuleT)) (h : ∀ x ∈ l, ∀ y ∈ ruleO x, p y) : ∀ row ∈ rulesO l, ∀ y ∈ row, p y := by
  intro row hr y hy
  simp only [rulesO, List.mem_map] at hr
  obtain ⟨n, hn, rfl⟩ := hr
  exact h n hn y hy
@[simp] theorem nfr_rulesO (l : List (RuleT)) : nfr (rulesO l) := rulesO_all _ l fun x _ y hy => by simp only [ruleO, List.mem_cons, List.not_mem_nil, or_false] at hy; rcases hy with rfl | rfl <;> rfl
@[simp] theorem onyR_rulesO (l : List (RuleT)) : onyR (rulesO l) := rulesO_all _ l fun x _ y hy => by simp only [ruleO, List.mem_cons, List.not_mem_nil, or_false] at hy; rcases hy with rfl | rfl <;> simp
theorem fz_rulesO {bl : List (Nat × Blk)} {n len : Nat} {e : TypeId} (l : List (RuleT)) (hk : lb bl n = some ⟨e, 2, rulesO l⟩) (hl : len = l.length) : Fz bl (.own n 2 0 len) (.im 2 (rules l)) := Fz.rowsO l ruleO ruleC hk rfl rfl (fun x _ => show FzL bl (ruleO x) (ruleC x) from by simp only [ruleO, ruleC]; exact .cons (.v _) (.cons (Fz.owI (ints_cl _)) (.nil))) hl
theorem fzw_rulesO {bl : List (Nat × Blk)} {e : TypeId} (l : List (RuleT)) : Fz bl (.ow e 2 (rulesO l)) (.im 2 (rules l)) := Fz.rowsW l ruleO ruleC (fun x _ => show FzL bl (ruleO x) (ruleC x) from by simp only [ruleO, ruleC]; exact .cons (.v _) (.cons (Fz.owI (ints_cl _)) (.nil)))
theorem toRuleO (x : RuleT) (h0 : (x.2).length < 35184372088832) : Fn Try.prog 47 0 [.ag (ruleC x)] [] (.ag [.v (.int .i64 x.1), .own 0 1 0 (x.2).length]) 1 [(0, ⟨3, 1, ints x.2⟩)] := by
  refine Fn.mk (rs := [.cell 2 77]) (nt := 12) Try.func47 (by kernel_rfl) rfl rfl rfl (by simp) ?_
  simp only [sl, ruleC]
  repeat' first
    | refine Holds.seq ?_
    | refine Holds.skip ?_
    | refine Holds.exit ?_
    | refine Holds.ret ?_
    | refine thenA_normal ?_
    | refine thenA_exit ?_
    | refine thenA_ret ?_
    | refine inB_normal ?_
    | refine inB_ret ?_
    | refine inB_here ?_
    | (refine inB_past ?_ ?_; (· exact rfl))
    | refine Holds.reg ?_
    | refine Holds.block ?_
    | refine GS.nil ?_
    | (refine GS.step (s' := ?_) ?_ ?_ ?_; rotate_left; (· exact rfl); (· (simp [go_sem, List.take_of_length_le] <;> with_reducible rfl)))
    | (refine GS.skip ?_ ?_ ?_; (· exact rfl); (· exact rfl))
    | fail
  refine GS.fnn [] (toIntSO x.2 h0) rfl rfl rfl rfl (by simp [go_sem, List.take_of_length_le, ren, ren1, ren2, okr, okr1, okr2, ChkN, BlkN, List.range_succ, nf, ruleC] <;> with_reducible rfl) (by simp [go_sem, List.take_of_length_le, ren, ren1, ren2, okr, okr1, okr2, ChkN, BlkN, List.range_succ, nf, ruleC]) (by simp [go_sem, List.take_of_length_le, ren, ren1, ren2, okr, okr1, okr2, ChkN, BlkN, List.range_succ, nf, ruleC]) (by simp [List.range_succ, lb]) (ChkN.toB (by simp [go_sem, List.take_of_length_le, ren, ren1, ren2, okr, okr1, okr2, ChkN, BlkN, List.range_succ, nf, ruleC])) (by decide) (by simp) rfl (.nfr (by simp) .nil) (by simp [go_sem, List.take_of_length_le, ren, ren1, ren2, okr, okr1, okr2, ChkN, BlkN, List.range_succ, nf, ruleC] <;> with_reducible rfl) ?_
  repeat' first
    | refine Holds.seq ?_
    | refine Holds.skip ?_
    | refine Holds.exit ?_
    | refine Holds.ret ?_
    | refine thenA_normal ?_
    | refine thenA_exit ?_
    | refine thenA_ret ?_
    | refine inB_normal ?_
    | refine inB_ret ?_
    | refine inB_here ?_
    | (refine inB_past ?_ ?_; (· exact rfl))
    | refine Holds.reg ?_
    | refine Holds.block ?_
    | refine GS.nil ?_
    | (refine GS.step (s' := ?_) ?_ ?_ ?_; rotate_left; (· exact rfl); (· (simp [go_sem, List.take_of_length_le] <;> with_reducible rfl)))
    | (refine GS.skip ?_ ?_ ?_; (· exact rfl); (· exact rfl))
    | fail
  refine OutF.mkn (xs := ?_) (nm [3]) ?_ ?_ ?_ ?_ ?_ (by first | exact .inr rfl | exact .inl rfl)
  rotate_left
  · simp [go_sem, List.take_of_length_le, ruleC] <;> with_reducible rfl
  · simp [go_sem, List.take_of_length_le, ren, ren1, ren2, okr, okr1, okr2, ChkN, BlkN, List.range_succ, nf, ruleC]
  · simp [go_sem, List.take_of_length_le, ren, ren1, ren2, okr, okr1, okr2, ChkN, BlkN, List.range_succ, nf, ruleC]
  · simp [go_sem, List.take_of_length_le, ren, ren1, ren2, okr, okr1, okr2, ChkN, BlkN, List.range_succ, nf, ruleC]
  · rfl
theorem toRuleSO (l : List (RuleT)) (h0 : l.length < 8796093022208) (h1 : ∀ q ∈ l, (q.2).length < 35184372088832) : Fn Try.prog 27 0 [.im 2 (rules l)] [] (.own 0 2 0 l.length) 1 [(0, ⟨77, 2, rulesO l⟩)] := by
  refine Fn.mk (rs := [.tmp 2]) (nt := 23) Try.func27 (by kernel_rfl) rfl rfl rfl (by simp) ?_
  simp only [sl]
  repeat' first
    | refine Holds.seq ?_
    | refine Holds.skip ?_
    | refine Holds.exit ?_
    | refine Holds.ret ?_
    | refine thenA_normal ?_
    | refine thenA_exit ?_
    | refine thenA_ret ?_
    | refine inB_normal ?_
    | refine inB_ret ?_
    | refine inB_here ?_
    | (refine inB_past ?_ ?_; (· exact rfl))
    | refine Holds.reg ?_
    | refine Holds.block ?_
    | refine GS.nil ?_
    | (refine GS.step (s' := ?_) ?_ ?_ ?_; rotate_left; (· exact rfl); (· (simp [go_sem, List.take_of_length_le, (show (0:Int) ≤ (l.length : Int) by omega), (show (32:Int) * l.length ≤ 281474976710656 by omega), (show (l.length : Int) ≤ 281474976710656 by omega)] <;> with_reducible rfl)))
    | (refine GS.skip ?_ ?_ ?_; (· exact rfl); (· exact rfl))
    | fail
  refine Holds.loop (ι := Nat) (fun i => ⟨[(0, .im 2 (rules l)), (3, .own 0 2 0 l.length), (4, .v (.int .i64 i))], [(0, ⟨77, 2, half (rulesO l) [.v (.int .i64 0), .v (.slice none 0 0)] i⟩)], 1⟩) (fun i => i ≤ l.length) (fun i => l.length - i) 0 (Nat.zero_le _) ?_ ?_
  · have hnf0 : nfr (List.replicate l.length ([.v (.int .i64 0), .v (.slice none 0 0)] : List AV)) := .rep (by simp [nf])
    exact Cov.ofn (id) rfl (by simp [go_sem, List.take_of_length_le, ren, ren1, ren2, okr, okr1, okr2, ChkT, ChkN, BlkN, nf, half, hnf0]) (by simp [go_sem, List.take_of_length_le, ren, ren1, ren2, okr, okr1, okr2, ChkT, ChkN, BlkN, nf, half, hnf0])
  intro i hi
  repeat' first
    | refine Holds.seq ?_
    | refine Holds.skip ?_
    | refine Holds.exit ?_
    | refine Holds.ret ?_
    | refine thenA_normal ?_
    | refine thenA_exit ?_
    | refine thenA_ret ?_
    | refine inB_normal ?_
    | refine inB_ret ?_
    | refine inB_here ?_
    | (refine inB_past ?_ ?_; (· exact rfl))
    | refine Holds.reg ?_
    | refine Holds.block ?_
    | refine GS.nil ?_
    | (refine GS.step (s' := ?_) ?_ ?_ ?_; rotate_left; (· exact rfl); (· (simp [go_sem, List.take_of_length_le] <;> with_reducible rfl)))
    | (refine GS.skip ?_ ?_ ?_; (· exact rfl); (· exact rfl))
    | fail
  refine Holds.cond rfl (fun hl => ?_) (fun hl => ?_)
  · have hlt : i < l.length := by simpa using hl
    have hxi : l[i]? = some l[i] := List.getElem?_eq_getElem hlt
    have hhi := half_get (rulesO l) [.v (.int .i64 0), .v (.slice none 0 0)] i (by simpa using hlt)
    have hhs := half_set (rulesO l) [.v (.int .i64 0), .v (.slice none 0 0)] i (by simpa using hlt) (ruleO l[i]) (by simp [hxi])
    have hnf : nfr (half (rulesO l) [.v (.int .i64 0), .v (.slice none 0 0)] i) := nfr_half (by simp) (by simp [nf])
    have hnf1 : nfr (half (rulesO l) [.v (.int .i64 0), .v (.slice none 0 0)] (i + 1)) := nfr_half (by simp) (by simp [nf])
    simp only [ruleO] at hhs
    repeat' first
      | refine Holds.seq ?_
      | refine Holds.skip ?_
      | refine Holds.exit ?_
      | refine Holds.ret ?_
      | refine thenA_normal ?_
      | refine thenA_exit ?_
      | refine thenA_ret ?_
      | refine inB_normal ?_
      | refine inB_ret ?_
      | refine inB_here ?_
      | (refine inB_past ?_ ?_; (· exact rfl))
      | refine Holds.reg ?_
      | refine Holds.block ?_
      | refine GS.nil ?_
      | (refine GS.step (s' := ?_) ?_ ?_ ?_; rotate_left; (· exact rfl); (· (simp [go_sem, List.take_of_length_le, hxi, hlt, ruleC] <;> with_reducible rfl)))
      | (refine GS.skip ?_ ?_ ?_; (· exact rfl); (· exact rfl))
      | fail
    refine GS.fnn [] (toRuleO l[i] (h1 _ (List.getElem_mem hlt))) rfl rfl rfl rfl (by simp [go_sem, List.take_of_length_le, ren, ren1, ren2, okr, okr1, okr2, ChkN, BlkN, List.range_succ, nf, ruleC] <;> with_reducible rfl) (by simp [go_sem, List.take_of_length_le, ren, ren1, ren2, okr, okr1, okr2, ChkN, BlkN, List.range_succ, nf, ruleC]) (by simp [go_sem, List.take_of_length_le, ren, ren1, ren2, okr, okr1, okr2, ChkN, BlkN, List.range_succ, nf, ruleC]) (by simp [List.range_succ, lb]) (ChkN.toB (by simp [go_sem, List.take_of_length_le, ren, ren1, ren2, okr, okr1, okr2, ChkN, BlkN, List.range_succ, nf, ruleC])) (by decide) (by simp) rfl (.nfr (by simp) .nil) (by simp [go_sem, List.take_of_length_le, ren, ren1, ren2, okr, okr1, okr2, ChkN, BlkN, List.range_succ, nf, ruleC] <;> with_reducible rfl) ?_
    repeat' first
      | refine Holds.seq ?_
      | refine Holds.skip ?_
      | refine Holds.exit ?_
      | refine Holds.ret ?_
      | refine thenA_normal ?_
      | refine thenA_exit ?_
      | refine thenA_ret ?_
      | refine inB_normal ?_
      | refine inB_ret ?_
      | refine inB_here ?_
      | (refine inB_past ?_ ?_; (· exact rfl))
      | refine Holds.reg ?_
      | refine Holds.block ?_
      | refine GS.nil ?_
      | (refine GS.step (s' := ?_) ?_ ?_ ?_; rotate_left; (· exact rfl); (· (simp [go_sem, List.take_of_length_le, hxi, hlt, hhi, hhs, ruleC] <;> with_reducible rfl)))
      | (refine GS.skip ?_ ?_ ?_; (· exact rfl); (· exact rfl))
      | fail
    refine ⟨i + 1, by omega, by omega, ?_⟩
    rw [wr64_id (by omega) (by omega)]
    refine Cov.trans ?_ (Cov.close 0 i 1 rfl (set_get hhi) rfl rfl rfl rfl (by first | rfl | simp) (by simp))
    simp only [rm, st, List.set_set, List.set_cons_zero, List.set_cons_succ, hhs]
    exact Cov.ofn (id) rfl (by simp [go_sem, List.take_of_length_le, ren, ren1, ren2, okr, okr1, okr2, ChkT, ChkN, BlkN, nf, hnf, hnf1]) (by simp [go_sem, List.take_of_length_le, ren, ren1, ren2, okr, okr1, okr2, ChkT, ChkN, BlkN, nf, hnf, hnf1])
  · have hle : i = l.length := by
      have : ¬ i < l.length := by simpa using hl
      omega
    subst hle
    rw [show half (rulesO l) [.v (.int .i64 0), .v (.slice none 0 0)] l.length = rulesO l by have := half_all (rulesO l) ([.v (.int .i64 0), .v (.slice none 0 0)] : List AV); rwa [show (rulesO l).length = l.length by simp] at this]
    repeat' first
      | refine Holds.seq ?_
      | refine Holds.skip ?_
      | refine Holds.exit ?_
      | refine Holds.ret ?_
      | refine thenA_normal ?_
      | refine thenA_exit ?_
      | refine thenA_ret ?_
      | refine inB_normal ?_
      | refine inB_ret ?_
      | refine inB_here ?_
      | (refine inB_past ?_ ?_; (· exact rfl))
      | refine Holds.reg ?_
      | refine Holds.block ?_
      | refine GS.nil ?_
      | (refine GS.step (s' := ?_) ?_ ?_ ?_; rotate_left; (· exact rfl); (· (simp [go_sem, List.take_of_length_le] <;> with_reducible rfl)))
      | (refine GS.skip ?_ ?_ ?_; (· exact rfl); (· exact rfl))
      | fail
    refine OutF.mkn (xs := ?_) (nm [0]) ?_ ?_ ?_ ?_ ?_ (by first | exact .inr rfl | exact .inl rfl)
    rotate_left
    · simp [go_sem, List.take_of_length_le] <;> with_reducible rfl
    · simp [go_sem, List.take_of_length_le, ren, ren1, ren2, okr, okr1, okr2, ChkN, BlkN, List.range_succ, nf]
    · simp [go_sem, List.take_of_length_le, ren, ren1, ren2, okr, okr1, okr2, ChkN, BlkN, List.range_succ, nf]
    · simp [go_sem, List.take_of_length_le, ren, ren1, ren2, okr, okr1, okr2, ChkN, BlkN, List.range_succ, nf]
    · rfl
theorem markRuleS (l : List (RuleT)) (k : Int) (h0 : 0 ≤ k) (h1 : k + wtL wRule l ≤ 4611686018427387904) (h2 : l.length ≤ 4611686018427387904) : Fn Try.prog 36 1 [.own 0 2 0 l.length, .v (.int .i64 k)] [(0, ⟨77, 2, rulesO l⟩)] (.v (.int .i64 (k + wtL wRule l))) 1 [(0, ⟨77, 2, rulesO (mkL wRule mRule k l)⟩)] := by
  have hl0 : (rulesO (mkL wRule mRule k l)).length = (rulesO l).length := by simp
  have hl1 : (rulesO l).length = l.length := by simp
  refine Fn.mk (rs := [.tmp 4]) (nt := 27) Try.func36 (by kernel_rfl) rfl rfl rfl (by simp) ?_
  simp only [sl]
  repeat' first
    | refine Holds.seq ?_
    | refine Holds.skip ?_
    | refine Holds.exit ?_
    | refine Holds.ret ?_
    | refine thenA_normal ?_
    | refine thenA_exit ?_
    | refine thenA_ret ?_
    | refine inB_normal ?_
    | refine inB_ret ?_
    | refine inB_here ?_
    | (refine inB_past ?_ ?_; (· exact rfl))
    | refine Holds.reg ?_
    | refine Holds.block ?_
    | refine GS.nil ?_
    | (refine GS.step (s' := ?_) ?_ ?_ ?_; rotate_left; (· exact rfl); (· (simp [go_sem, List.take_of_length_le] <;> with_reducible rfl)))
    | (refine GS.skip ?_ ?_ ?_; (· exact rfl); (· exact rfl))
    | fail
  refine Holds.loop (ι := Nat) (fun i => ⟨[(0, .own 0 2 0 l.length), (1, .v (.int .i64 (k + wtL wRule (l.take i)))), (5, .v (.int .i64 i))], [(0, ⟨77, 2, mid (rulesO (mkL wRule mRule k l)) (rulesO l) i⟩)], 1⟩) (fun i => i ≤ l.length) (fun i => l.length - i) 0 (Nat.zero_le _) ?_ ?_
  · exact Cov.ofn (id) rfl (by simp [go_sem, List.take_of_length_le, ren, ren1, ren2, okr, okr1, okr2, ChkT, ChkN, BlkN, nf, wtL]) (by simp [go_sem, List.take_of_length_le, ren, ren1, ren2, okr, okr1, okr2, ChkT, ChkN, BlkN, nf, wtL])
  intro i hi
  have hml := (mid_len (i := i) hl0).trans hl1
  repeat' first
    | refine Holds.seq ?_
    | refine Holds.skip ?_
    | refine Holds.exit ?_
    | refine Holds.ret ?_
    | refine thenA_normal ?_
    | refine thenA_exit ?_
    | refine thenA_ret ?_
    | refine inB_normal ?_
    | refine inB_ret ?_
    | refine inB_here ?_
    | (refine inB_past ?_ ?_; (· exact rfl))
    | refine Holds.reg ?_
    | refine Holds.block ?_
    | refine GS.nil ?_
    | (refine GS.step (s' := ?_) ?_ ?_ ?_; rotate_left; (· exact rfl); (· (simp [go_sem, List.take_of_length_le, hml] <;> with_reducible rfl)))
    | (refine GS.skip ?_ ?_ ?_; (· exact rfl); (· exact rfl))
    | fail
  refine Holds.cond rfl (fun hl => ?_) (fun hl => ?_)
  · have hlt : i < l.length := by simpa using hl
    have hxi : l[i]? = some l[i] := List.getElem?_eq_getElem hlt
    have hwn := wtL_next wRule hxi
    have hwl := wtL_le wRule l (i + 1)
    have hmk : (mkL wRule mRule k l)[i]? = some (mRule (k + wtL wRule (l.take i)) l[i]) := by rw [mkL_get, hxi]; rfl
    have hhi := (mid_get hl0 (i := i) (by simpa using hlt)).trans (show (rulesO l)[i]? = some (ruleO l[i]) by simp [hxi])
    have hhs := mid_set hl0 (i := i) (by simpa using hlt) (show (rulesO (mkL wRule mRule k l))[i]? = some (ruleO (mRule (k + wtL wRule (l.take i)) l[i])) by simp [hmk])
    have hnf : nfr (mid (rulesO (mkL wRule mRule k l)) (rulesO l) i) := nfr_mid (by simp) (by simp)
    have hnf1 : nfr (mid (rulesO (mkL wRule mRule k l)) (rulesO l) (i + 1)) := nfr_mid (by simp) (by simp)
    have hW0 : (0 : Int) ≤ (wtL wRule (l.take i) : Int) := Int.natCast_nonneg _
    generalize wtL wRule (l.take i) = W at hwn hmk hhs hW0 ⊢
    generalize hX : l[i] = x at hxi hwn hmk hhi hhs
    simp only [wRule] at hwn
    simp only [ruleO, mRule] at hhs
    simp only [ruleO] at hhi
    have hhe := get_E hhi
    have hw0 : wr64 ((k + W : Int) + 1) = (k + W : Int) + 1 := wr64_id (by omega) (by omega)
    repeat' first
      | refine Holds.seq ?_
      | refine Holds.skip ?_
      | refine Holds.exit ?_
      | refine Holds.ret ?_
      | refine thenA_normal ?_
      | refine thenA_exit ?_
      | refine thenA_ret ?_
      | refine inB_normal ?_
      | refine inB_ret ?_
      | refine inB_here ?_
      | (refine inB_past ?_ ?_; (· exact rfl))
      | refine Holds.reg ?_
      | refine Holds.block ?_
      | refine GS.nil ?_
      | (refine GS.step (s' := ?_) ?_ ?_ ?_; rotate_left; (· exact rfl); (· (simp [go_sem, List.take_of_length_le, hml, hhi, hhe, hlt, hl0, hw0] <;> with_reducible rfl)))
      | (refine GS.skip ?_ ?_ ?_; (· exact rfl); (· exact rfl))
      | fail
    refine GS.fnn [1] (markIntS x.2 ((k + W : Int) + 1) (by omega) (by omega)) rfl rfl rfl rfl (by simp [go_sem, List.take_of_length_le, ren, ren1, ren2, okr, okr1, okr2, ChkN, BlkN, List.range_succ, nf, hml, hhi, hhe, hlt, hl0, hw0] <;> with_reducible rfl) (by simp [go_sem, List.take_of_length_le, ren, ren1, ren2, okr, okr1, okr2, ChkN, BlkN, List.range_succ, nf, hml, hhi, hhe, hlt, hl0, hw0]) (by simp [go_sem, List.take_of_length_le, ren, ren1, ren2, okr, okr1, okr2, ChkN, BlkN, List.range_succ, nf, hml, hhi, hhe, hlt, hl0, hw0]) (by simp [List.range_succ, lb]) (ChkN.toB (by simp [go_sem, List.take_of_length_le, ren, ren1, ren2, okr, okr1, okr2, ChkN, BlkN, List.range_succ, nf, hml, hhi, hhe, hlt, hl0, hw0])) (by decide) (by simp) rfl (.nfr (by simp) .nil) (by simp [go_sem, List.take_of_length_le, ren, ren1, ren2, okr, okr1, okr2, ChkN, BlkN, List.range_succ, nf, hml, hhi, hhe, hlt, hl0, hw0] <;> with_reducible rfl) ?_
    repeat' first
      | refine Holds.seq ?_
      | refine Holds.skip ?_
      | refine Holds.exit ?_
      | refine Holds.ret ?_
      | refine thenA_normal ?_
      | refine thenA_exit ?_
      | refine thenA_ret ?_
      | refine inB_normal ?_
      | refine inB_ret ?_
      | refine inB_here ?_
      | (refine inB_past ?_ ?_; (· exact rfl))
      | refine Holds.reg ?_
      | refine Holds.block ?_
      | refine GS.nil ?_
      | (refine GS.step (s' := ?_) ?_ ?_ ?_; rotate_left; (· exact rfl); (· (simp [go_sem, List.take_of_length_le, hml, hhi, hhe, hlt, hl0, hw0] <;> with_reducible rfl)))
      | (refine GS.skip ?_ ?_ ?_; (· exact rfl); (· exact rfl))
      | fail
    refine ⟨i + 1, by omega, by omega, ?_⟩
    rw [show wr64 ((i : Int) + 1) = ((i + 1 : Nat) : Int) from wr64_id (by omega) (by omega), hwn]
    refine Cov.trans ?_ (Cov.close 0 i 1 rfl (set_get hhi) rfl rfl rfl rfl (by first | rfl | simp) (by simp))
    simp only [rm, st, List.set_set, List.set_cons_zero, List.set_cons_succ]
    exact Cov.ofn (id) rfl (by simp [go_sem, List.take_of_length_le, ren, ren1, ren2, okr, okr1, okr2, ChkT, ChkN, BlkN, nf, hhs, hnf, hnf1, Int.add_assoc]) (by simp [go_sem, List.take_of_length_le, ren, ren1, ren2, okr, okr1, okr2, ChkT, ChkN, BlkN, nf, hhs, hnf, hnf1])
  · have hle : i = l.length := by
      have : ¬ i < l.length := by simpa using hl
      omega
    subst hle
    rw [mid_all (by simp) (by simp), List.take_length]
    repeat' first
      | refine Holds.seq ?_
      | refine Holds.skip ?_
      | refine Holds.exit ?_
      | refine Holds.ret ?_
      | refine thenA_normal ?_
      | refine thenA_exit ?_
      | refine thenA_ret ?_
      | refine inB_normal ?_
      | refine inB_ret ?_
      | refine inB_here ?_
      | (refine inB_past ?_ ?_; (· exact rfl))
      | refine Holds.reg ?_
      | refine Holds.block ?_
      | refine GS.nil ?_
      | (refine GS.step (s' := ?_) ?_ ?_ ?_; rotate_left; (· exact rfl); (· (simp [go_sem, List.take_of_length_le] <;> with_reducible rfl)))
      | (refine GS.skip ?_ ?_ ?_; (· exact rfl); (· exact rfl))
      | fail
    refine OutF.mkn (xs := ?_) (nm [0]) ?_ ?_ ?_ ?_ ?_ (by first | exact .inr rfl | exact .inl rfl)
    rotate_left
    · simp [go_sem, List.take_of_length_le] <;> with_reducible rfl
    · simp [go_sem, List.take_of_length_le, ren, ren1, ren2, okr, okr1, okr2, ChkN, BlkN, List.range_succ, nf]
    · simp [go_sem, List.take_of_length_le, ren, ren1, ren2, okr, okr1, okr2, ChkN, BlkN, List.range_succ, nf]
    · simp [go_sem, List.take_of_length_le, ren, ren1, ren2, okr, okr1, okr2, ChkN, BlkN, List.range_succ, nf]
    · rfl
theorem toGrammarO (x : GrammarT) (h0 : (x.2.2).length < 8796093022208) (h1 : ∀ q ∈ (x.2.2), (q.2).length < 35184372088832) : Fn Try.prog 8 0 [.ag (grammarC x)] [] (.ag [.v (.int .i64 x.1), .v (.int .i64 x.2.1), .own 0 2 0 (x.2.2).length]) 1 [(0, ⟨77, 2, rulesO x.2.2⟩)] := by
  refine Fn.mk (rs := [.cell 2 36]) (nt := 15) Try.func8 (by kernel_rfl) rfl rfl rfl (by simp) ?_
  simp only [sl, grammarC]
  repeat' first
    | refine Holds.seq ?_
    | refine Holds.skip ?_
    | refine Holds.exit ?_
    | refine Holds.ret ?_
    | refine thenA_normal ?_
    | refine thenA_exit ?_
    | refine thenA_ret ?_
    | refine inB_normal ?_
    | refine inB_ret ?_
    | refine inB_here ?_
    | (refine inB_past ?_ ?_; (· exact rfl))
    | refine Holds.reg ?_
    | refine Holds.block ?_
    | refine GS.nil ?_
    | (refine GS.step (s' := ?_) ?_ ?_ ?_; rotate_left; (· exact rfl); (· (simp [go_sem, List.take_of_length_le] <;> with_reducible rfl)))
    | (refine GS.skip ?_ ?_ ?_; (· exact rfl); (· exact rfl))
    | fail
  refine GS.fnn [] (toRuleSO x.2.2 h0 h1) rfl rfl rfl rfl (by simp [go_sem, List.take_of_length_le, ren, ren1, ren2, okr, okr1, okr2, ChkN, BlkN, List.range_succ, nf, grammarC] <;> with_reducible rfl) (by simp [go_sem, List.take_of_length_le, ren, ren1, ren2, okr, okr1, okr2, ChkN, BlkN, List.range_succ, nf, grammarC]) (by simp [go_sem, List.take_of_length_le, ren, ren1, ren2, okr, okr1, okr2, ChkN, BlkN, List.range_succ, nf, grammarC]) (by simp [List.range_succ, lb]) (ChkN.toB (by simp [go_sem, List.take_of_length_le, ren, ren1, ren2, okr, okr1, okr2, ChkN, BlkN, List.range_succ, nf, grammarC])) (by decide) (by simp) rfl (.nfr (by simp) .nil) (by simp [go_sem, List.take_of_length_le, ren, ren1, ren2, okr, okr1, okr2, ChkN, BlkN, List.range_succ, nf, grammarC] <;> with_reducible rfl) ?_
  repeat' first
    | refine Holds.seq ?_
    | refine Holds.skip ?_
    | refine Holds.exit ?_
    | refine Holds.ret ?_
    | refine thenA_normal ?_
    | refine thenA_exit ?_
    | refine thenA_ret ?_
    | refine inB_normal ?_
    | refine inB_ret ?_
    | refine inB_here ?_
    | (refine inB_past ?_ ?_; (· exact rfl))
    | refine Holds.reg ?_
    | refine Holds.block ?_
    | refine GS.nil ?_
    | (refine GS.step (s' := ?_) ?_ ?_ ?_; rotate_left; (· exact rfl); (· (simp [go_sem, List.take_of_length_le] <;> with_reducible rfl)))
    | (refine GS.skip ?_ ?_ ?_; (· exact rfl); (· exact rfl))
    | fail
  refine OutF.mkn (xs := ?_) (nm [3]) ?_ ?_ ?_ ?_ ?_ (by first | exact .inr rfl | exact .inl rfl)
  rotate_left
  · simp [go_sem, List.take_of_length_le, grammarC] <;> with_reducible rfl
  · simp [go_sem, List.take_of_length_le, ren, ren1, ren2, okr, okr1, okr2, ChkN, BlkN, List.range_succ, nf, grammarC]
  · simp [go_sem, List.take_of_length_le, ren, ren1, ren2, okr, okr1, okr2, ChkN, BlkN, List.range_succ, nf, grammarC]
  · simp [go_sem, List.take_of_length_le, ren, ren1, ren2, okr, okr1, okr2, ChkN, BlkN, List.range_succ, nf, grammarC]
  · rfl
def wGrammar (x : GrammarT) : Nat := wtL wRule x.2.2
def mGrammar (k : Int) (x : GrammarT) : GrammarT := (x.1, x.2.1, mkL wRule mRule (k) x.2.2)
theorem markGrammar (x : GrammarT) (k : Int) (h0 : 0 ≤ k) (h1 : k + wGrammar x ≤ 4611686018427387904) (g20 : x.2.2.length ≤ 4611686018427387904) : Fn Try.prog 14 1 [.ag [.v (.int .i64 x.1), .v (.int .i64 x.2.1), .own 0 2 0 (x.2.2).length], .v (.int .i64 k)] [(0, ⟨77, 2, rulesO x.2.2⟩)] (.v (.int .i64 (k + wGrammar x))) 1 [(0, ⟨77, 2, rulesO (mGrammar k x).2.2⟩)] := by
  simp only [wGrammar] at h1
  simp only [wGrammar, mGrammar]
  refine Fn.mk (rs := [.tmp 4]) (nt := 10) Try.func14 (by kernel_rfl) rfl rfl rfl (by simp) ?_
  simp only [sl]
  repeat' first
    | refine Holds.seq ?_
    | refine Holds.skip ?_
    | refine Holds.exit ?_
    | refine Holds.ret ?_
    | refine thenA_normal ?_
    | refine thenA_exit ?_
    | refine thenA_ret ?_
    | refine inB_normal ?_
    | refine inB_ret ?_
    | refine inB_here ?_
    | (refine inB_past ?_ ?_; (· exact rfl))
    | refine Holds.reg ?_
    | refine Holds.block ?_
    | refine GS.nil ?_
    | (refine GS.step (s' := ?_) ?_ ?_ ?_; rotate_left; (· exact rfl); (· (simp [go_sem, List.take_of_length_le] <;> with_reducible rfl)))
    | (refine GS.skip ?_ ?_ ?_; (· exact rfl); (· exact rfl))
    | fail
  refine GS.fnn [0] (markRuleS x.2.2 (k) (by omega) (by omega) g20) rfl rfl rfl rfl (by simp [go_sem, List.take_of_length_le, ren, ren1, ren2, okr, okr1, okr2, ChkN, BlkN, List.range_succ, nf] <;> with_reducible rfl) (by simp [go_sem, List.take_of_length_le, ren, ren1, ren2, okr, okr1, okr2, ChkN, BlkN, List.range_succ, nf]) (by simp [go_sem, List.take_of_length_le, ren, ren1, ren2, okr, okr1, okr2, ChkN, BlkN, List.range_succ, nf]) (by simp [List.range_succ, lb]) (ChkN.toB (by simp [go_sem, List.take_of_length_le, ren, ren1, ren2, okr, okr1, okr2, ChkN, BlkN, List.range_succ, nf])) (by decide) (by simp) rfl (.nfr (by simp) .nil) (by simp [go_sem, List.take_of_length_le, ren, ren1, ren2, okr, okr1, okr2, ChkN, BlkN, List.range_succ, nf] <;> with_reducible rfl) ?_
  repeat' first
    | refine Holds.seq ?_
    | refine Holds.skip ?_
    | refine Holds.exit ?_
    | refine Holds.ret ?_
    | refine thenA_normal ?_
    | refine thenA_exit ?_
    | refine thenA_ret ?_
    | refine inB_normal ?_
    | refine inB_ret ?_
    | refine inB_here ?_
    | (refine inB_past ?_ ?_; (· exact rfl))
    | refine Holds.reg ?_
    | refine Holds.block ?_
    | refine GS.nil ?_
    | (refine GS.step (s' := ?_) ?_ ?_ ?_; rotate_left; (· exact rfl); (· (simp [go_sem, List.take_of_length_le] <;> with_reducible rfl)))
    | (refine GS.skip ?_ ?_ ?_; (· exact rfl); (· exact rfl))
    | fail
  refine OutF.mkn (xs := ?_) (nm [0]) ?_ ?_ ?_ ?_ ?_ (by first | exact .inr rfl | exact .inl rfl)
  rotate_left
  · simp [go_sem, List.take_of_length_le, Int.add_assoc, cnt] <;> with_reducible rfl
  · simp [go_sem, List.take_of_length_le, ren, ren1, ren2, okr, okr1, okr2, ChkN, BlkN, List.range_succ, nf, Int.add_assoc, cnt]
  · simp [go_sem, List.take_of_length_le, ren, ren1, ren2, okr, okr1, okr2, ChkN, BlkN, List.range_succ, nf, Int.add_assoc, cnt]
  · simp [go_sem, List.take_of_length_le, ren, ren1, ren2, okr, okr1, okr2, ChkN, BlkN, List.range_succ, nf, Int.add_assoc, cnt]
  · rfl
end Go.Proofs.Ytjgeklhocjcgjaa.En
end
section
namespace Go.Proofs.Ytjgeklhocjcgjaa.En
open Go.RowKit
set_option linter.unusedSimpArgs false
set_option linter.unusedVariables false
theorem less_wt {n : Int} {k : Nat} (h : 0 ≤ less n k) : less n k + (k : Int) ≤ n := by
  unfold less at h ⊢
  split at h
  · omega
  · rename_i g; rw [if_neg g]; omega
theorem szL_wt {α : Type} {f : Int → α → Int} {w : α → Nat} (hf : ∀ n x, 0 ≤ f n x → f n x + (w x : Int) ≤ n) : ∀ (es : List α) (n : Int), 0 ≤ szL f n es → szL f n es + (wtL w es : Int) ≤ n
  | [], n, h => by simp [szL, wtL]
  | e :: es, n, h => by
    unfold szL at h ⊢
    split at h
    · omega
    · rename_i g
      rw [if_neg g]
      have h1 := hf n e (by omega)
      have h2 := szL_wt hf es _ h
      simp only [wtL]; omega
theorem szLA_wt {α : Type} {f : Int → α → Int} {w : α → Nat} (hf : ∀ n x, 0 ≤ f n x → f n x + (w x : Int) ≤ n) {es : List α} {n : Int} (h : 0 ≤ szLA f n es) : szLA f n es + (es.length : Int) + (wtL w es : Int) ≤ n := by
  unfold szLA at h ⊢
  split at h
  · omega
  · rename_i g
    rw [if_neg g]
    have := szL_wt hf es _ h
    omega
theorem wtL_add {α : Type} (u v : α → Nat) : ∀ es : List α, wtL (fun x => u x + v x) es = wtL u es + wtL v es
  | [] => rfl
  | e :: es => by simp only [wtL, wtL_add u v es]; omega
theorem wtL_const {α : Type} (c : Nat) : ∀ es : List α, wtL (fun _ => c) es = c * es.length
  | [] => rfl
  | e :: es => by simp only [wtL, wtL_const c es, List.length_cons, Nat.mul_succ]; omega
theorem szGrammar_wt {n : Int} {g : GrammarT} (h : 0 ≤ szGrammarF n g) : (wGrammar g : Int) ≤ n := by
  unfold szGrammarF at h
  have := szLA_wt (f := szRuleF) (w := fun x => x.2.length) (fun n x hx => less_wt hx) h
  have e : wGrammar g = g.2.2.length + wtL (fun x : RuleT => x.2.length) g.2.2 := by
    unfold wGrammar
    rw [show wRule = fun x : RuleT => (fun _ => 1) x + (fun y : RuleT => y.2.length) x from funext fun x => by simp [wRule], wtL_add, wtL_const]; simp
  omega
end Go.Proofs.Ytjgeklhocjcgjaa.En
end
section
namespace Go.Proofs.Ytjgeklhocjcgjaa.En
open Go.RowKit
set_option linter.unusedSimpArgs false
set_option linter.unusedVariables false
@[simp] theorem nfr_nodes (l : List Node3) : nfr (nodes l) := nfr_of_ok (nodes_ok l)
@[simp] theorem nfr_edges (l : List Edge3) : nfr (edges l) := nfr_of_ok (edges_ok l)
abbrev ForestT := List Node3 × List Edge3
def forestC (x : ForestT) : List AV := [.im 3 (nodes x.1), .im 3 (edges x.2)]
theorem toForestX (x : ForestT) (h0 : x.1.length < 5864062014806) (h1 : x.2.length < 5864062014806) (h2 : ∀ e ∈ x.2, e.2.2.length < 35184372088832) : Pure Try.prog 9 [.ag (forestC x)] (.ag (forestC x)) := toForest x.1 x.2 h0 h1 h2
theorem eqForestX (x : ForestT) (h0 : x.1.length < 5864062014806) (h1 : x.2.length < 5864062014806) (h2 : ∀ e ∈ x.2, e.2.2.length < 35184372088832) : Pure Try.prog 13 [.ag (forestC x), .ag (forestC x)] (.v (.bool true)) := by
  have := eqForest x.1 x.1 x.2 x.2 (by omega) (by omega) (fun e he => by have := h2 e he; omega)
  simp only [and_self, decide_true] at this
  exact this
def szForestF (n : Int) (x : ForestT) : Int := szF n x.1 x.2
theorem szForestF_in {n : Int} {x : ForestT} (h1 : n ≤ 1048576) : -1 ≤ szForestF n x ∧ szForestF n x ≤ 1048576 := by
  unfold szForestF szF
  have := less_in (k := x.1.length) h1
  split
  · omega
  · exact szEsAll_in _ this.1 this.2
theorem szForestX (x : ForestT) (n : Int) (g0 : -1 ≤ n) (g1 : n ≤ 1048576) (h0 : x.1.length < 5864062014806) (h1 : x.2.length < 5864062014806) (h2 : ∀ e ∈ x.2, e.2.2.length < 35184372088832) : Pure Try.prog 6 [.ag (forestC x), .v (.int .i64 n)] (.v (.int .i64 (szForestF n x))) :=
  szForest x.1 x.2 n g0 g1 (by omega) (by omega) (fun e he => by have := h2 e he; omega)
end Go.Proofs.Ytjgeklhocjcgjaa.En
end
section
namespace Go.Proofs.Ytjgeklhocjcgjaa.En
open Go.RowKit
set_option linter.unusedSimpArgs false
set_option linter.unusedVariables false
set_option maxHeartbeats 4000000
def wNode (x : Node3) : Nat := 1 + 1 + 1
def mNode (k : Int) (x : Node3) : Node3 := ((k), (k + 1), (k + 1 + 1))
theorem wNode_m (k : Int) (x : Node3) : wNode (mNode k x) = wNode x := by simp [wNode, mNode]
@[simp] theorem onyR_nodes (l : List (Node3)) : onyR (nodes l) := fun row hr x hx => by
  have := nodes_ok l row hr x hx
  simp only [nodes, List.mem_map] at hr
  obtain ⟨n, _, rfl⟩ := hr
  simp only [nodeC, List.mem_cons, List.not_mem_nil, or_false] at hx
  rcases hx with rfl | rfl | rfl <;> simp
theorem fzw_nodes {bl : List (Nat × Blk)} {e : TypeId} (l : List (Node3)) : Fz bl (.ow e 3 (nodes l)) (.im 3 (nodes l)) := Fz.owI (nodes_ok l)
theorem toNodeSO (l : List (Node3)) (h0 : l.length < 5864062014806) : Fn Try.prog 28 0 [.im 3 (nodes l)] [] (.own 0 3 0 l.length) 1 [(0, ⟨82, 3, nodes l⟩)] := by
  refine Fn.mk (rs := [.tmp 2]) (nt := 23) Try.func28 (by kernel_rfl) rfl rfl rfl (by simp) ?_
  simp only [sl]
  repeat' first
    | refine Holds.seq ?_
    | refine Holds.skip ?_
    | refine Holds.exit ?_
    | refine Holds.ret ?_
    | refine thenA_normal ?_
    | refine thenA_exit ?_
    | refine thenA_ret ?_
    | refine inB_normal ?_
    | refine inB_ret ?_
    | refine inB_here ?_
    | (refine inB_past ?_ ?_; (· exact rfl))
    | refine Holds.reg ?_
    | refine Holds.block ?_
    | refine GS.nil ?_
    | (refine GS.step (s' := ?_) ?_ ?_ ?_; rotate_left; (· exact rfl); (· (simp [go_sem, List.take_of_length_le, (show (0:Int) ≤ (l.length : Int) by omega), (show (24:Int) * l.length ≤ 281474976710656 by omega), (show (l.length : Int) ≤ 281474976710656 by omega)] <;> with_reducible rfl)))
    | (refine GS.skip ?_ ?_ ?_; (· exact rfl); (· exact rfl))
    | fail
  refine Holds.loop (ι := Nat) (fun i => ⟨[(0, .im 3 (nodes l)), (3, .own 0 3 0 l.length), (4, .v (.int .i64 i))], [(0, ⟨82, 3, half (nodes l) [.v (.int .i64 0), .v (.int .i64 0), .v (.int .i64 0)] i⟩)], 1⟩) (fun i => i ≤ l.length) (fun i => l.length - i) 0 (Nat.zero_le _) ?_ ?_
  · have hnf0 : nfr (List.replicate l.length ([.v (.int .i64 0), .v (.int .i64 0), .v (.int .i64 0)] : List AV)) := .rep (by simp [nf])
    exact Cov.ofn (id) rfl (by simp [go_sem, List.take_of_length_le, ren, ren1, ren2, okr, okr1, okr2, ChkT, ChkN, BlkN, nf, half, hnf0]) (by simp [go_sem, List.take_of_length_le, ren, ren1, ren2, okr, okr1, okr2, ChkT, ChkN, BlkN, nf, half, hnf0])
  intro i hi
  repeat' first
    | refine Holds.seq ?_
    | refine Holds.skip ?_
    | refine Holds.exit ?_
    | refine Holds.ret ?_
    | refine thenA_normal ?_
    | refine thenA_exit ?_
    | refine thenA_ret ?_
    | refine inB_normal ?_
    | refine inB_ret ?_
    | refine inB_here ?_
    | (refine inB_past ?_ ?_; (· exact rfl))
    | refine Holds.reg ?_
    | refine Holds.block ?_
    | refine GS.nil ?_
    | (refine GS.step (s' := ?_) ?_ ?_ ?_; rotate_left; (· exact rfl); (· (simp [go_sem, List.take_of_length_le] <;> with_reducible rfl)))
    | (refine GS.skip ?_ ?_ ?_; (· exact rfl); (· exact rfl))
    | fail
  refine Holds.cond rfl (fun hl => ?_) (fun hl => ?_)
  · have hlt : i < l.length := by simpa using hl
    have hxi : l[i]? = some l[i] := List.getElem?_eq_getElem hlt
    have hhi := half_get (nodes l) [.v (.int .i64 0), .v (.int .i64 0), .v (.int .i64 0)] i (by simpa using hlt)
    have hhs := half_set (nodes l) [.v (.int .i64 0), .v (.int .i64 0), .v (.int .i64 0)] i (by simpa using hlt) (nodeC l[i]) (by simp [hxi])
    have hnf : nfr (half (nodes l) [.v (.int .i64 0), .v (.int .i64 0), .v (.int .i64 0)] i) := nfr_half (by simp) (by simp [nf])
    have hnf1 : nfr (half (nodes l) [.v (.int .i64 0), .v (.int .i64 0), .v (.int .i64 0)] (i + 1)) := nfr_half (by simp) (by simp [nf])
    simp only [nodeC] at hhs
    repeat' first
      | refine Holds.seq ?_
      | refine Holds.skip ?_
      | refine Holds.exit ?_
      | refine Holds.ret ?_
      | refine thenA_normal ?_
      | refine thenA_exit ?_
      | refine thenA_ret ?_
      | refine inB_normal ?_
      | refine inB_ret ?_
      | refine inB_here ?_
      | (refine inB_past ?_ ?_; (· exact rfl))
      | refine Holds.reg ?_
      | refine Holds.block ?_
      | refine GS.nil ?_
      | (refine GS.step (s' := ?_) ?_ ?_ ?_; rotate_left; (· exact rfl); (· (simp [go_sem, List.take_of_length_le, hxi, hlt, nodeC] <;> with_reducible rfl)))
      | (refine GS.skip ?_ ?_ ?_; (· exact rfl); (· exact rfl))
      | fail
    refine GS.cc (toNode l[i]) rfl rfl rfl rfl (by simp [go_sem, List.take_of_length_le, nodeC] <;> with_reducible rfl) rfl (by simp [go_sem, List.take_of_length_le, nodeC]) ?_
    repeat' first
      | refine Holds.seq ?_
      | refine Holds.skip ?_
      | refine Holds.exit ?_
      | refine Holds.ret ?_
      | refine thenA_normal ?_
      | refine thenA_exit ?_
      | refine thenA_ret ?_
      | refine inB_normal ?_
      | refine inB_ret ?_
      | refine inB_here ?_
      | (refine inB_past ?_ ?_; (· exact rfl))
      | refine Holds.reg ?_
      | refine Holds.block ?_
      | refine GS.nil ?_
      | (refine GS.step (s' := ?_) ?_ ?_ ?_; rotate_left; (· exact rfl); (· (simp [go_sem, List.take_of_length_le, hxi, hlt, hhi, hhs, nodeC] <;> with_reducible rfl)))
      | (refine GS.skip ?_ ?_ ?_; (· exact rfl); (· exact rfl))
      | fail
    refine ⟨i + 1, by omega, by omega, ?_⟩
    rw [wr64_id (by omega) (by omega)]
    exact Cov.ofn (id) rfl (by simp [go_sem, List.take_of_length_le, ren, ren1, ren2, okr, okr1, okr2, ChkT, ChkN, BlkN, nf, hnf, hnf1]) (by simp [go_sem, List.take_of_length_le, ren, ren1, ren2, okr, okr1, okr2, ChkT, ChkN, BlkN, nf, hnf, hnf1])
  · have hle : i = l.length := by
      have : ¬ i < l.length := by simpa using hl
      omega
    subst hle
    rw [show half (nodes l) [.v (.int .i64 0), .v (.int .i64 0), .v (.int .i64 0)] l.length = nodes l by have := half_all (nodes l) ([.v (.int .i64 0), .v (.int .i64 0), .v (.int .i64 0)] : List AV); rwa [show (nodes l).length = l.length by simp] at this]
    repeat' first
      | refine Holds.seq ?_
      | refine Holds.skip ?_
      | refine Holds.exit ?_
      | refine Holds.ret ?_
      | refine thenA_normal ?_
      | refine thenA_exit ?_
      | refine thenA_ret ?_
      | refine inB_normal ?_
      | refine inB_ret ?_
      | refine inB_here ?_
      | (refine inB_past ?_ ?_; (· exact rfl))
      | refine Holds.reg ?_
      | refine Holds.block ?_
      | refine GS.nil ?_
      | (refine GS.step (s' := ?_) ?_ ?_ ?_; rotate_left; (· exact rfl); (· (simp [go_sem, List.take_of_length_le] <;> with_reducible rfl)))
      | (refine GS.skip ?_ ?_ ?_; (· exact rfl); (· exact rfl))
      | fail
    refine OutF.mkn (xs := ?_) (nm [0]) ?_ ?_ ?_ ?_ ?_ (by first | exact .inr rfl | exact .inl rfl)
    rotate_left
    · simp [go_sem, List.take_of_length_le] <;> with_reducible rfl
    · simp [go_sem, List.take_of_length_le, ren, ren1, ren2, okr, okr1, okr2, ChkN, BlkN, List.range_succ, nf]
    · simp [go_sem, List.take_of_length_le, ren, ren1, ren2, okr, okr1, okr2, ChkN, BlkN, List.range_succ, nf]
    · simp [go_sem, List.take_of_length_le, ren, ren1, ren2, okr, okr1, okr2, ChkN, BlkN, List.range_succ, nf]
    · rfl
theorem markNodeS (l : List (Node3)) (k : Int) (h0 : 0 ≤ k) (h1 : k + wtL wNode l ≤ 4611686018427387904) (h2 : l.length ≤ 4611686018427387904) : Fn Try.prog 37 1 [.own 0 3 0 l.length, .v (.int .i64 k)] [(0, ⟨82, 3, nodes l⟩)] (.v (.int .i64 (k + wtL wNode l))) 1 [(0, ⟨82, 3, nodes (mkL wNode mNode k l)⟩)] := by
  have hl0 : (nodes (mkL wNode mNode k l)).length = (nodes l).length := by simp
  have hl1 : (nodes l).length = l.length := by simp
  refine Fn.mk (rs := [.tmp 4]) (nt := 34) Try.func37 (by kernel_rfl) rfl rfl rfl (by simp) ?_
  simp only [sl]
  repeat' first
    | refine Holds.seq ?_
    | refine Holds.skip ?_
    | refine Holds.exit ?_
    | refine Holds.ret ?_
    | refine thenA_normal ?_
    | refine thenA_exit ?_
    | refine thenA_ret ?_
    | refine inB_normal ?_
    | refine inB_ret ?_
    | refine inB_here ?_
    | (refine inB_past ?_ ?_; (· exact rfl))
    | refine Holds.reg ?_
    | refine Holds.block ?_
    | refine GS.nil ?_
    | (refine GS.step (s' := ?_) ?_ ?_ ?_; rotate_left; (· exact rfl); (· (simp [go_sem, List.take_of_length_le] <;> with_reducible rfl)))
    | (refine GS.skip ?_ ?_ ?_; (· exact rfl); (· exact rfl))
    | fail
  refine Holds.loop (ι := Nat) (fun i => ⟨[(0, .own 0 3 0 l.length), (1, .v (.int .i64 (k + wtL wNode (l.take i)))), (5, .v (.int .i64 i))], [(0, ⟨82, 3, mid (nodes (mkL wNode mNode k l)) (nodes l) i⟩)], 1⟩) (fun i => i ≤ l.length) (fun i => l.length - i) 0 (Nat.zero_le _) ?_ ?_
  · exact Cov.ofn (id) rfl (by simp [go_sem, List.take_of_length_le, ren, ren1, ren2, okr, okr1, okr2, ChkT, ChkN, BlkN, nf, wtL]) (by simp [go_sem, List.take_of_length_le, ren, ren1, ren2, okr, okr1, okr2, ChkT, ChkN, BlkN, nf, wtL])
  intro i hi
  have hml := (mid_len (i := i) hl0).trans hl1
  repeat' first
    | refine Holds.seq ?_
    | refine Holds.skip ?_
    | refine Holds.exit ?_
    | refine Holds.ret ?_
    | refine thenA_normal ?_
    | refine thenA_exit ?_
    | refine thenA_ret ?_
    | refine inB_normal ?_
    | refine inB_ret ?_
    | refine inB_here ?_
    | (refine inB_past ?_ ?_; (· exact rfl))
    | refine Holds.reg ?_
    | refine Holds.block ?_
    | refine GS.nil ?_
    | (refine GS.step (s' := ?_) ?_ ?_ ?_; rotate_left; (· exact rfl); (· (simp [go_sem, List.take_of_length_le, hml] <;> with_reducible rfl)))
    | (refine GS.skip ?_ ?_ ?_; (· exact rfl); (· exact rfl))
    | fail
  refine Holds.cond rfl (fun hl => ?_) (fun hl => ?_)
  · have hlt : i < l.length := by simpa using hl
    have hxi : l[i]? = some l[i] := List.getElem?_eq_getElem hlt
    have hwn := wtL_next wNode hxi
    have hwl := wtL_le wNode l (i + 1)
    have hmk : (mkL wNode mNode k l)[i]? = some (mNode (k + wtL wNode (l.take i)) l[i]) := by rw [mkL_get, hxi]; rfl
    have hhi := (mid_get hl0 (i := i) (by simpa using hlt)).trans (show (nodes l)[i]? = some (nodeC l[i]) by simp [hxi])
    have hhs := mid_set hl0 (i := i) (by simpa using hlt) (show (nodes (mkL wNode mNode k l))[i]? = some (nodeC (mNode (k + wtL wNode (l.take i)) l[i])) by simp [hmk])
    have hnf : nfr (mid (nodes (mkL wNode mNode k l)) (nodes l) i) := nfr_mid (by simp) (by simp)
    have hnf1 : nfr (mid (nodes (mkL wNode mNode k l)) (nodes l) (i + 1)) := nfr_mid (by simp) (by simp)
    have hW0 : (0 : Int) ≤ (wtL wNode (l.take i) : Int) := Int.natCast_nonneg _
    generalize wtL wNode (l.take i) = W at hwn hmk hhs hW0 ⊢
    generalize hX : l[i] = x at hxi hwn hmk hhi hhs
    simp only [wNode] at hwn
    simp only [nodeC, mNode] at hhs
    simp only [nodeC] at hhi
    have hhe := get_E hhi
    have hw0 : wr64 ((k + W : Int) + 1) = (k + W : Int) + 1 := wr64_id (by omega) (by omega)
    have hw1 : wr64 ((k + W : Int) + 1 + 1) = (k + W : Int) + 1 + 1 := wr64_id (by omega) (by omega)
    have hw2 : wr64 ((k + W : Int) + 1 + 1 + 1) = (k + W : Int) + 1 + 1 + 1 := wr64_id (by omega) (by omega)
    repeat' first
      | refine Holds.seq ?_
      | refine Holds.skip ?_
      | refine Holds.exit ?_
      | refine Holds.ret ?_
      | refine thenA_normal ?_
      | refine thenA_exit ?_
      | refine thenA_ret ?_
      | refine inB_normal ?_
      | refine inB_ret ?_
      | refine inB_here ?_
      | (refine inB_past ?_ ?_; (· exact rfl))
      | refine Holds.reg ?_
      | refine Holds.block ?_
      | refine GS.nil ?_
      | (refine GS.step (s' := ?_) ?_ ?_ ?_; rotate_left; (· exact rfl); (· (simp [go_sem, List.take_of_length_le, hml, hhi, hhe, hlt, hl0, hw0, hw1, hw2] <;> with_reducible rfl)))
      | (refine GS.skip ?_ ?_ ?_; (· exact rfl); (· exact rfl))
      | fail
    refine ⟨i + 1, by omega, by omega, ?_⟩
    rw [show wr64 ((i : Int) + 1) = ((i + 1 : Nat) : Int) from wr64_id (by omega) (by omega), hwn]
    exact Cov.ofn (id) rfl (by simp [go_sem, List.take_of_length_le, ren, ren1, ren2, okr, okr1, okr2, ChkT, ChkN, BlkN, nf, hhs, hnf, hnf1, Int.add_assoc]) (by simp [go_sem, List.take_of_length_le, ren, ren1, ren2, okr, okr1, okr2, ChkT, ChkN, BlkN, nf, hhs, hnf, hnf1])
  · have hle : i = l.length := by
      have : ¬ i < l.length := by simpa using hl
      omega
    subst hle
    rw [mid_all (by simp) (by simp), List.take_length]
    repeat' first
      | refine Holds.seq ?_
      | refine Holds.skip ?_
      | refine Holds.exit ?_
      | refine Holds.ret ?_
      | refine thenA_normal ?_
      | refine thenA_exit ?_
      | refine thenA_ret ?_
      | refine inB_normal ?_
      | refine inB_ret ?_
      | refine inB_here ?_
      | (refine inB_past ?_ ?_; (· exact rfl))
      | refine Holds.reg ?_
      | refine Holds.block ?_
      | refine GS.nil ?_
      | (refine GS.step (s' := ?_) ?_ ?_ ?_; rotate_left; (· exact rfl); (· (simp [go_sem, List.take_of_length_le] <;> with_reducible rfl)))
      | (refine GS.skip ?_ ?_ ?_; (· exact rfl); (· exact rfl))
      | fail
    refine OutF.mkn (xs := ?_) (nm [0]) ?_ ?_ ?_ ?_ ?_ (by first | exact .inr rfl | exact .inl rfl)
    rotate_left
    · simp [go_sem, List.take_of_length_le] <;> with_reducible rfl
    · simp [go_sem, List.take_of_length_le, ren, ren1, ren2, okr, okr1, okr2, ChkN, BlkN, List.range_succ, nf]
    · simp [go_sem, List.take_of_length_le, ren, ren1, ren2, okr, okr1, okr2, ChkN, BlkN, List.range_succ, nf]
    · simp [go_sem, List.take_of_length_le, ren, ren1, ren2, okr, okr1, okr2, ChkN, BlkN, List.range_succ, nf]
    · rfl
def wEdge (x : Edge3) : Nat := 1 + 1 + wtL w1 x.2.2
def mEdge (k : Int) (x : Edge3) : Edge3 := ((k), (k + 1), cnt (k + 1 + 1) x.2.2)
theorem wEdge_m (k : Int) (x : Edge3) : wEdge (mEdge k x) = wEdge x := by simp [wEdge, mEdge]
def edgeO (x : Edge3) : List AV := [.v (.int .i64 x.1), .v (.int .i64 x.2.1), .ow 3 1 (ints x.2.2)]
def edgesO (l : List Edge3) : List (List AV) := l.map edgeO
@[simp] theorem edgesO_len (l : List (Edge3)) : (edgesO l).length = l.length := by simp [edgesO]
@[simp] theorem edgesO_get (l : List (Edge3)) (i : Nat) : (edgesO l)[i]? = (l[i]?).map edgeO := by simp [edgesO]
@[simp] theorem edgesO_gE (l : List (Edge3)) (i : Nat) (h : i < (edgesO l).length) : (edgesO l)[i] = edgeO (l[i]'(by simpa using h)) := by simp [edgesO]
theorem edgesO_all (p : AV → Prop) (l : List (Edge3)) (h : ∀ x ∈ l, ∀ y ∈ edgeO x, p y) : ∀ row ∈ edgesO l, ∀ y ∈ row, p y := by
  intro row hr y hy
  simp only [edgesO, List.mem_map] at hr
  obtain ⟨n, hn, rfl⟩ := hr
  exact h n hn y hy
@[simp] theorem nfr_edgesO (l : List (Edge3)) : nfr (edgesO l) := edgesO_all _ l fun x _ y hy => by simp only [edgeO, List.mem_cons, List.not_mem_nil, or_false] at hy; rcases hy with rfl | rfl | rfl <;> rfl
@[simp] theorem onyR_edgesO (l : List (Edge3)) : onyR (edgesO l) := edgesO_all _ l fun x _ y hy => by simp only [edgeO, List.mem_cons, List.not_mem_nil, or_false] at hy; rcases hy with rfl | rfl | rfl <;> simp
theorem fz_edgesO {bl : List (Nat × Blk)} {n len : Nat} {e : TypeId} (l : List (Edge3)) (hk : lb bl n = some ⟨e, 3, edgesO l⟩) (hl : len = l.length) : Fz bl (.own n 3 0 len) (.im 3 (edges l)) := Fz.rowsO l edgeO edgeC hk rfl rfl (fun x _ => show FzL bl (edgeO x) (edgeC x) from by simp only [edgeO, edgeC]; exact .cons (.v _) (.cons (.v _) (.cons (Fz.owI (ints_cl _)) (.nil)))) hl
theorem fzw_edgesO {bl : List (Nat × Blk)} {e : TypeId} (l : List (Edge3)) : Fz bl (.ow e 3 (edgesO l)) (.im 3 (edges l)) := Fz.rowsW l edgeO edgeC (fun x _ => show FzL bl (edgeO x) (edgeC x) from by simp only [edgeO, edgeC]; exact .cons (.v _) (.cons (.v _) (.cons (Fz.owI (ints_cl _)) (.nil))))
theorem toEdgeO (x : Edge3) (h0 : (x.2.2).length < 35184372088832) : Fn Try.prog 49 0 [.ag (edgeC x)] [] (.ag [.v (.int .i64 x.1), .v (.int .i64 x.2.1), .own 0 1 0 (x.2.2).length]) 1 [(0, ⟨3, 1, ints x.2.2⟩)] := by
  refine Fn.mk (rs := [.cell 2 61]) (nt := 15) Try.func49 (by kernel_rfl) rfl rfl rfl (by simp) ?_
  simp only [sl, edgeC]
  repeat' first
    | refine Holds.seq ?_
    | refine Holds.skip ?_
    | refine Holds.exit ?_
    | refine Holds.ret ?_
    | refine thenA_normal ?_
    | refine thenA_exit ?_
    | refine thenA_ret ?_
    | refine inB_normal ?_
    | refine inB_ret ?_
    | refine inB_here ?_
    | (refine inB_past ?_ ?_; (· exact rfl))
    | refine Holds.reg ?_
    | refine Holds.block ?_
    | refine GS.nil ?_
    | (refine GS.step (s' := ?_) ?_ ?_ ?_; rotate_left; (· exact rfl); (· (simp [go_sem, List.take_of_length_le] <;> with_reducible rfl)))
    | (refine GS.skip ?_ ?_ ?_; (· exact rfl); (· exact rfl))
    | fail
  refine GS.fnn [] (toIntSO x.2.2 h0) rfl rfl rfl rfl (by simp [go_sem, List.take_of_length_le, ren, ren1, ren2, okr, okr1, okr2, ChkN, BlkN, List.range_succ, nf, edgeC] <;> with_reducible rfl) (by simp [go_sem, List.take_of_length_le, ren, ren1, ren2, okr, okr1, okr2, ChkN, BlkN, List.range_succ, nf, edgeC]) (by simp [go_sem, List.take_of_length_le, ren, ren1, ren2, okr, okr1, okr2, ChkN, BlkN, List.range_succ, nf, edgeC]) (by simp [List.range_succ, lb]) (ChkN.toB (by simp [go_sem, List.take_of_length_le, ren, ren1, ren2, okr, okr1, okr2, ChkN, BlkN, List.range_succ, nf, edgeC])) (by decide) (by simp) rfl (.nfr (by simp) .nil) (by simp [go_sem, List.take_of_length_le, ren, ren1, ren2, okr, okr1, okr2, ChkN, BlkN, List.range_succ, nf, edgeC] <;> with_reducible rfl) ?_
  repeat' first
    | refine Holds.seq ?_
    | refine Holds.skip ?_
    | refine Holds.exit ?_
    | refine Holds.ret ?_
    | refine thenA_normal ?_
    | refine thenA_exit ?_
    | refine thenA_ret ?_
    | refine inB_normal ?_
    | refine inB_ret ?_
    | refine inB_here ?_
    | (refine inB_past ?_ ?_; (· exact rfl))
    | refine Holds.reg ?_
    | refine Holds.block ?_
    | refine GS.nil ?_
    | (refine GS.step (s' := ?_) ?_ ?_ ?_; rotate_left; (· exact rfl); (· (simp [go_sem, List.take_of_length_le] <;> with_reducible rfl)))
    | (refine GS.skip ?_ ?_ ?_; (· exact rfl); (· exact rfl))
    | fail
  refine OutF.mkn (xs := ?_) (nm [3]) ?_ ?_ ?_ ?_ ?_ (by first | exact .inr rfl | exact .inl rfl)
  rotate_left
  · simp [go_sem, List.take_of_length_le, edgeC] <;> with_reducible rfl
  · simp [go_sem, List.take_of_length_le, ren, ren1, ren2, okr, okr1, okr2, ChkN, BlkN, List.range_succ, nf, edgeC]
  · simp [go_sem, List.take_of_length_le, ren, ren1, ren2, okr, okr1, okr2, ChkN, BlkN, List.range_succ, nf, edgeC]
  · simp [go_sem, List.take_of_length_le, ren, ren1, ren2, okr, okr1, okr2, ChkN, BlkN, List.range_succ, nf, edgeC]
  · rfl
theorem toEdgeSO (l : List (Edge3)) (h0 : l.length < 5864062014806) (h1 : ∀ q ∈ l, (q.2.2).length < 35184372088832) : Fn Try.prog 29 0 [.im 3 (edges l)] [] (.own 0 3 0 l.length) 1 [(0, ⟨61, 3, edgesO l⟩)] := by
  refine Fn.mk (rs := [.tmp 2]) (nt := 23) Try.func29 (by kernel_rfl) rfl rfl rfl (by simp) ?_
  simp only [sl]
  repeat' first
    | refine Holds.seq ?_
    | refine Holds.skip ?_
    | refine Holds.exit ?_
    | refine Holds.ret ?_
    | refine thenA_normal ?_
    | refine thenA_exit ?_
    | refine thenA_ret ?_
    | refine inB_normal ?_
    | refine inB_ret ?_
    | refine inB_here ?_
    | (refine inB_past ?_ ?_; (· exact rfl))
    | refine Holds.reg ?_
    | refine Holds.block ?_
    | refine GS.nil ?_
    | (refine GS.step (s' := ?_) ?_ ?_ ?_; rotate_left; (· exact rfl); (· (simp [go_sem, List.take_of_length_le, (show (0:Int) ≤ (l.length : Int) by omega), (show (40:Int) * l.length ≤ 281474976710656 by omega), (show (l.length : Int) ≤ 281474976710656 by omega)] <;> with_reducible rfl)))
    | (refine GS.skip ?_ ?_ ?_; (· exact rfl); (· exact rfl))
    | fail
  refine Holds.loop (ι := Nat) (fun i => ⟨[(0, .im 3 (edges l)), (3, .own 0 3 0 l.length), (4, .v (.int .i64 i))], [(0, ⟨61, 3, half (edgesO l) [.v (.int .i64 0), .v (.int .i64 0), .v (.slice none 0 0)] i⟩)], 1⟩) (fun i => i ≤ l.length) (fun i => l.length - i) 0 (Nat.zero_le _) ?_ ?_
  · have hnf0 : nfr (List.replicate l.length ([.v (.int .i64 0), .v (.int .i64 0), .v (.slice none 0 0)] : List AV)) := .rep (by simp [nf])
    exact Cov.ofn (id) rfl (by simp [go_sem, List.take_of_length_le, ren, ren1, ren2, okr, okr1, okr2, ChkT, ChkN, BlkN, nf, half, hnf0]) (by simp [go_sem, List.take_of_length_le, ren, ren1, ren2, okr, okr1, okr2, ChkT, ChkN, BlkN, nf, half, hnf0])
  intro i hi
  repeat' first
    | refine Holds.seq ?_
    | refine Holds.skip ?_
    | refine Holds.exit ?_
    | refine Holds.ret ?_
    | refine thenA_normal ?_
    | refine thenA_exit ?_
    | refine thenA_ret ?_
    | refine inB_normal ?_
    | refine inB_ret ?_
    | refine inB_here ?_
    | (refine inB_past ?_ ?_; (· exact rfl))
    | refine Holds.reg ?_
    | refine Holds.block ?_
    | refine GS.nil ?_
    | (refine GS.step (s' := ?_) ?_ ?_ ?_; rotate_left; (· exact rfl); (· (simp [go_sem, List.take_of_length_le] <;> with_reducible rfl)))
    | (refine GS.skip ?_ ?_ ?_; (· exact rfl); (· exact rfl))
    | fail
  refine Holds.cond rfl (fun hl => ?_) (fun hl => ?_)
  · have hlt : i < l.length := by simpa using hl
    have hxi : l[i]? = some l[i] := List.getElem?_eq_getElem hlt
    have hhi := half_get (edgesO l) [.v (.int .i64 0), .v (.int .i64 0), .v (.slice none 0 0)] i (by simpa using hlt)
    have hhs := half_set (edgesO l) [.v (.int .i64 0), .v (.int .i64 0), .v (.slice none 0 0)] i (by simpa using hlt) (edgeO l[i]) (by simp [hxi])
    have hnf : nfr (half (edgesO l) [.v (.int .i64 0), .v (.int .i64 0), .v (.slice none 0 0)] i) := nfr_half (by simp) (by simp [nf])
    have hnf1 : nfr (half (edgesO l) [.v (.int .i64 0), .v (.int .i64 0), .v (.slice none 0 0)] (i + 1)) := nfr_half (by simp) (by simp [nf])
    simp only [edgeO] at hhs
    repeat' first
      | refine Holds.seq ?_
      | refine Holds.skip ?_
      | refine Holds.exit ?_
      | refine Holds.ret ?_
      | refine thenA_normal ?_
      | refine thenA_exit ?_
      | refine thenA_ret ?_
      | refine inB_normal ?_
      | refine inB_ret ?_
      | refine inB_here ?_
      | (refine inB_past ?_ ?_; (· exact rfl))
      | refine Holds.reg ?_
      | refine Holds.block ?_
      | refine GS.nil ?_
      | (refine GS.step (s' := ?_) ?_ ?_ ?_; rotate_left; (· exact rfl); (· (simp [go_sem, List.take_of_length_le, hxi, hlt, edgeC] <;> with_reducible rfl)))
      | (refine GS.skip ?_ ?_ ?_; (· exact rfl); (· exact rfl))
      | fail
    refine GS.fnn [] (toEdgeO l[i] (h1 _ (List.getElem_mem hlt))) rfl rfl rfl rfl (by simp [go_sem, List.take_of_length_le, ren, ren1, ren2, okr, okr1, okr2, ChkN, BlkN, List.range_succ, nf, edgeC] <;> with_reducible rfl) (by simp [go_sem, List.take_of_length_le, ren, ren1, ren2, okr, okr1, okr2, ChkN, BlkN, List.range_succ, nf, edgeC]) (by simp [go_sem, List.take_of_length_le, ren, ren1, ren2, okr, okr1, okr2, ChkN, BlkN, List.range_succ, nf, edgeC]) (by simp [List.range_succ, lb]) (ChkN.toB (by simp [go_sem, List.take_of_length_le, ren, ren1, ren2, okr, okr1, okr2, ChkN, BlkN, List.range_succ, nf, edgeC])) (by decide) (by simp) rfl (.nfr (by simp) .nil) (by simp [go_sem, List.take_of_length_le, ren, ren1, ren2, okr, okr1, okr2, ChkN, BlkN, List.range_succ, nf, edgeC] <;> with_reducible rfl) ?_
    repeat' first
      | refine Holds.seq ?_
      | refine Holds.skip ?_
      | refine Holds.exit ?_
      | refine Holds.ret ?_
      | refine thenA_normal ?_
      | refine thenA_exit ?_
      | refine thenA_ret ?_
      | refine inB_normal ?_
      | refine inB_ret ?_
      | refine inB_here ?_
      | (refine inB_past ?_ ?_; (· exact rfl))
      | refine Holds.reg ?_
      | refine Holds.block ?_
      | refine GS.nil ?_
      | (refine GS.step (s' := ?_) ?_ ?_ ?_; rotate_left; (· exact rfl); (· (simp [go_sem, List.take_of_length_le, hxi, hlt, hhi, hhs, edgeC] <;> with_reducible rfl)))
      | (refine GS.skip ?_ ?_ ?_; (· exact rfl); (· exact rfl))
      | fail
    refine ⟨i + 1, by omega, by omega, ?_⟩
    rw [wr64_id (by omega) (by omega)]
    refine Cov.trans ?_ (Cov.close 0 i 2 rfl (set_get hhi) rfl rfl rfl rfl (by first | rfl | simp) (by simp))
    simp only [rm, st, List.set_set, List.set_cons_zero, List.set_cons_succ, hhs]
    exact Cov.ofn (id) rfl (by simp [go_sem, List.take_of_length_le, ren, ren1, ren2, okr, okr1, okr2, ChkT, ChkN, BlkN, nf, hnf, hnf1]) (by simp [go_sem, List.take_of_length_le, ren, ren1, ren2, okr, okr1, okr2, ChkT, ChkN, BlkN, nf, hnf, hnf1])
  · have hle : i = l.length := by
      have : ¬ i < l.length := by simpa using hl
      omega
    subst hle
    rw [show half (edgesO l) [.v (.int .i64 0), .v (.int .i64 0), .v (.slice none 0 0)] l.length = edgesO l by have := half_all (edgesO l) ([.v (.int .i64 0), .v (.int .i64 0), .v (.slice none 0 0)] : List AV); rwa [show (edgesO l).length = l.length by simp] at this]
    repeat' first
      | refine Holds.seq ?_
      | refine Holds.skip ?_
      | refine Holds.exit ?_
      | refine Holds.ret ?_
      | refine thenA_normal ?_
      | refine thenA_exit ?_
      | refine thenA_ret ?_
      | refine inB_normal ?_
      | refine inB_ret ?_
      | refine inB_here ?_
      | (refine inB_past ?_ ?_; (· exact rfl))
      | refine Holds.reg ?_
      | refine Holds.block ?_
      | refine GS.nil ?_
      | (refine GS.step (s' := ?_) ?_ ?_ ?_; rotate_left; (· exact rfl); (· (simp [go_sem, List.take_of_length_le] <;> with_reducible rfl)))
      | (refine GS.skip ?_ ?_ ?_; (· exact rfl); (· exact rfl))
      | fail
    refine OutF.mkn (xs := ?_) (nm [0]) ?_ ?_ ?_ ?_ ?_ (by first | exact .inr rfl | exact .inl rfl)
    rotate_left
    · simp [go_sem, List.take_of_length_le] <;> with_reducible rfl
    · simp [go_sem, List.take_of_length_le, ren, ren1, ren2, okr, okr1, okr2, ChkN, BlkN, List.range_succ, nf]
    · simp [go_sem, List.take_of_length_le, ren, ren1, ren2, okr, okr1, okr2, ChkN, BlkN, List.range_succ, nf]
    · simp [go_sem, List.take_of_length_le, ren, ren1, ren2, okr, okr1, okr2, ChkN, BlkN, List.range_succ, nf]
    · rfl
theorem markEdgeS (l : List (Edge3)) (k : Int) (h0 : 0 ≤ k) (h1 : k + wtL wEdge l ≤ 4611686018427387904) (h2 : l.length ≤ 4611686018427387904) : Fn Try.prog 38 1 [.own 0 3 0 l.length, .v (.int .i64 k)] [(0, ⟨61, 3, edgesO l⟩)] (.v (.int .i64 (k + wtL wEdge l))) 1 [(0, ⟨61, 3, edgesO (mkL wEdge mEdge k l)⟩)] := by
  have hl0 : (edgesO (mkL wEdge mEdge k l)).length = (edgesO l).length := by simp
  have hl1 : (edgesO l).length = l.length := by simp
  refine Fn.mk (rs := [.tmp 4]) (nt := 34) Try.func38 (by kernel_rfl) rfl rfl rfl (by simp) ?_
  simp only [sl]
  repeat' first
    | refine Holds.seq ?_
    | refine Holds.skip ?_
    | refine Holds.exit ?_
    | refine Holds.ret ?_
    | refine thenA_normal ?_
    | refine thenA_exit ?_
    | refine thenA_ret ?_
    | refine inB_normal ?_
    | refine inB_ret ?_
    | refine inB_here ?_
    | (refine inB_past ?_ ?_; (· exact rfl))
    | refine Holds.reg ?_
    | refine Holds.block ?_
    | refine GS.nil ?_
    | (refine GS.step (s' := ?_) ?_ ?_ ?_; rotate_left; (· exact rfl); (· (simp [go_sem, List.take_of_length_le] <;> with_reducible rfl)))
    | (refine GS.skip ?_ ?_ ?_; (· exact rfl); (· exact rfl))
    | fail
  refine Holds.loop (ι := Nat) (fun i => ⟨[(0, .own 0 3 0 l.length), (1, .v (.int .i64 (k + wtL wEdge (l.take i)))), (5, .v (.int .i64 i))], [(0, ⟨61, 3, mid (edgesO (mkL wEdge mEdge k l)) (edgesO l) i⟩)], 1⟩) (fun i => i ≤ l.length) (fun i => l.length - i) 0 (Nat.zero_le _) ?_ ?_
  · exact Cov.ofn (id) rfl (by simp [go_sem, List.take_of_length_le, ren, ren1, ren2, okr, okr1, okr2, ChkT, ChkN, BlkN, nf, wtL]) (by simp [go_sem, List.take_of_length_le, ren, ren1, ren2, okr, okr1, okr2, ChkT, ChkN, BlkN, nf, wtL])
  intro i hi
  have hml := (mid_len (i := i) hl0).trans hl1
  repeat' first
    | refine Holds.seq ?_
    | refine Holds.skip ?_
    | refine Holds.exit ?_
    | refine Holds.ret ?_
    | refine thenA_normal ?_
    | refine thenA_exit ?_
    | refine thenA_ret ?_
    | refine inB_normal ?_
    | refine inB_ret ?_
    | refine inB_here ?_
    | (refine inB_past ?_ ?_; (· exact rfl))
    | refine Holds.reg ?_
    | refine Holds.block ?_
    | refine GS.nil ?_
    | (refine GS.step (s' := ?_) ?_ ?_ ?_; rotate_left; (· exact rfl); (· (simp [go_sem, List.take_of_length_le, hml] <;> with_reducible rfl)))
    | (refine GS.skip ?_ ?_ ?_; (· exact rfl); (· exact rfl))
    | fail
  refine Holds.cond rfl (fun hl => ?_) (fun hl => ?_)
  · have hlt : i < l.length := by simpa using hl
    have hxi : l[i]? = some l[i] := List.getElem?_eq_getElem hlt
    have hwn := wtL_next wEdge hxi
    have hwl := wtL_le wEdge l (i + 1)
    have hmk : (mkL wEdge mEdge k l)[i]? = some (mEdge (k + wtL wEdge (l.take i)) l[i]) := by rw [mkL_get, hxi]; rfl
    have hhi := (mid_get hl0 (i := i) (by simpa using hlt)).trans (show (edgesO l)[i]? = some (edgeO l[i]) by simp [hxi])
    have hhs := mid_set hl0 (i := i) (by simpa using hlt) (show (edgesO (mkL wEdge mEdge k l))[i]? = some (edgeO (mEdge (k + wtL wEdge (l.take i)) l[i])) by simp [hmk])
    have hnf : nfr (mid (edgesO (mkL wEdge mEdge k l)) (edgesO l) i) := nfr_mid (by simp) (by simp)
    have hnf1 : nfr (mid (edgesO (mkL wEdge mEdge k l)) (edgesO l) (i + 1)) := nfr_mid (by simp) (by simp)
    have hW0 : (0 : Int) ≤ (wtL wEdge (l.take i) : Int) := Int.natCast_nonneg _
    generalize wtL wEdge (l.take i) = W at hwn hmk hhs hW0 ⊢
    generalize hX : l[i] = x at hxi hwn hmk hhi hhs
    simp only [wEdge] at hwn
    simp only [edgeO, mEdge] at hhs
    simp only [edgeO] at hhi
    have hhe := get_E hhi
    have hw0 : wr64 ((k + W : Int) + 1) = (k + W : Int) + 1 := wr64_id (by omega) (by omega)
    have hw1 : wr64 ((k + W : Int) + 1 + 1) = (k + W : Int) + 1 + 1 := wr64_id (by omega) (by omega)
    repeat' first
      | refine Holds.seq ?_
      | refine Holds.skip ?_
      | refine Holds.exit ?_
      | refine Holds.ret ?_
      | refine thenA_normal ?_
      | refine thenA_exit ?_
      | refine thenA_ret ?_
      | refine inB_normal ?_
      | refine inB_ret ?_
      | refine inB_here ?_
      | (refine inB_past ?_ ?_; (· exact rfl))
      | refine Holds.reg ?_
      | refine Holds.block ?_
      | refine GS.nil ?_
      | (refine GS.step (s' := ?_) ?_ ?_ ?_; rotate_left; (· exact rfl); (· (simp [go_sem, List.take_of_length_le, hml, hhi, hhe, hlt, hl0, hw0, hw1] <;> with_reducible rfl)))
      | (refine GS.skip ?_ ?_ ?_; (· exact rfl); (· exact rfl))
      | fail
    refine GS.fnn [1] (markIntS x.2.2 ((k + W : Int) + 1 + 1) (by omega) (by omega)) rfl rfl rfl rfl (by simp [go_sem, List.take_of_length_le, ren, ren1, ren2, okr, okr1, okr2, ChkN, BlkN, List.range_succ, nf, hml, hhi, hhe, hlt, hl0, hw0, hw1] <;> with_reducible rfl) (by simp [go_sem, List.take_of_length_le, ren, ren1, ren2, okr, okr1, okr2, ChkN, BlkN, List.range_succ, nf, hml, hhi, hhe, hlt, hl0, hw0, hw1]) (by simp [go_sem, List.take_of_length_le, ren, ren1, ren2, okr, okr1, okr2, ChkN, BlkN, List.range_succ, nf, hml, hhi, hhe, hlt, hl0, hw0, hw1]) (by simp [List.range_succ, lb]) (ChkN.toB (by simp [go_sem, List.take_of_length_le, ren, ren1, ren2, okr, okr1, okr2, ChkN, BlkN, List.range_succ, nf, hml, hhi, hhe, hlt, hl0, hw0, hw1])) (by decide) (by simp) rfl (.nfr (by simp) .nil) (by simp [go_sem, List.take_of_length_le, ren, ren1, ren2, okr, okr1, okr2, ChkN, BlkN, List.range_succ, nf, hml, hhi, hhe, hlt, hl0, hw0, hw1] <;> with_reducible rfl) ?_
    repeat' first
      | refine Holds.seq ?_
      | refine Holds.skip ?_
      | refine Holds.exit ?_
      | refine Holds.ret ?_
      | refine thenA_normal ?_
      | refine thenA_exit ?_
      | refine thenA_ret ?_
      | refine inB_normal ?_
      | refine inB_ret ?_
      | refine inB_here ?_
      | (refine inB_past ?_ ?_; (· exact rfl))
      | refine Holds.reg ?_
      | refine Holds.block ?_
      | refine GS.nil ?_
      | (refine GS.step (s' := ?_) ?_ ?_ ?_; rotate_left; (· exact rfl); (· (simp [go_sem, List.take_of_length_le, hml, hhi, hhe, hlt, hl0, hw0, hw1] <;> with_reducible rfl)))
      | (refine GS.skip ?_ ?_ ?_; (· exact rfl); (· exact rfl))
      | fail
    refine ⟨i + 1, by omega, by omega, ?_⟩
    rw [show wr64 ((i : Int) + 1) = ((i + 1 : Nat) : Int) from wr64_id (by omega) (by omega), hwn]
    refine Cov.trans ?_ (Cov.close 0 i 2 rfl (set_get hhi) rfl rfl rfl rfl (by first | rfl | simp) (by simp))
    simp only [rm, st, List.set_set, List.set_cons_zero, List.set_cons_succ]
    exact Cov.ofn (id) rfl (by simp [go_sem, List.take_of_length_le, ren, ren1, ren2, okr, okr1, okr2, ChkT, ChkN, BlkN, nf, hhs, hnf, hnf1, Int.add_assoc]) (by simp [go_sem, List.take_of_length_le, ren, ren1, ren2, okr, okr1, okr2, ChkT, ChkN, BlkN, nf, hhs, hnf, hnf1])
  · have hle : i = l.length := by
      have : ¬ i < l.length := by simpa using hl
      omega
    subst hle
    rw [mid_all (by simp) (by simp), List.take_length]
    repeat' first
      | refine Holds.seq ?_
      | refine Holds.skip ?_
      | refine Holds.exit ?_
      | refine Holds.ret ?_
      | refine thenA_normal ?_
      | refine thenA_exit ?_
      | refine thenA_ret ?_
      | refine inB_normal ?_
      | refine inB_ret ?_
      | refine inB_here ?_
      | (refine inB_past ?_ ?_; (· exact rfl))
      | refine Holds.reg ?_
      | refine Holds.block ?_
      | refine GS.nil ?_
      | (refine GS.step (s' := ?_) ?_ ?_ ?_; rotate_left; (· exact rfl); (· (simp [go_sem, List.take_of_length_le] <;> with_reducible rfl)))
      | (refine GS.skip ?_ ?_ ?_; (· exact rfl); (· exact rfl))
      | fail
    refine OutF.mkn (xs := ?_) (nm [0]) ?_ ?_ ?_ ?_ ?_ (by first | exact .inr rfl | exact .inl rfl)
    rotate_left
    · simp [go_sem, List.take_of_length_le] <;> with_reducible rfl
    · simp [go_sem, List.take_of_length_le, ren, ren1, ren2, okr, okr1, okr2, ChkN, BlkN, List.range_succ, nf]
    · simp [go_sem, List.take_of_length_le, ren, ren1, ren2, okr, okr1, okr2, ChkN, BlkN, List.range_succ, nf]
    · simp [go_sem, List.take_of_length_le, ren, ren1, ren2, okr, okr1, okr2, ChkN, BlkN, List.range_succ, nf]
    · rfl
theorem toForestO (x : ForestT) (h0 : (x.1).length < 5864062014806) (h1 : (x.2).length < 5864062014806) (h2 : ∀ q ∈ (x.2), (q.2.2).length < 35184372088832) : Fn Try.prog 9 0 [.ag (forestC x)] [] (.ag [.own 0 3 0 (x.1).length, .own 1 3 0 (x.2).length]) 2 [(0, ⟨82, 3, nodes x.1⟩), (1, ⟨61, 3, edgesO x.2⟩)] := by
  refine Fn.mk (rs := [.cell 2 41]) (nt := 13) Try.func9 (by kernel_rfl) rfl rfl rfl (by simp) ?_
  simp only [sl, forestC]
  repeat' first
    | refine Holds.seq ?_
    | refine Holds.skip ?_
    | refine Holds.exit ?_
    | refine Holds.ret ?_
    | refine thenA_normal ?_
    | refine thenA_exit ?_
    | refine thenA_ret ?_
    | refine inB_normal ?_
    | refine inB_ret ?_
    | refine inB_here ?_
    | (refine inB_past ?_ ?_; (· exact rfl))
    | refine Holds.reg ?_
    | refine Holds.block ?_
    | refine GS.nil ?_
    | (refine GS.step (s' := ?_) ?_ ?_ ?_; rotate_left; (· exact rfl); (· (simp [go_sem, List.take_of_length_le] <;> with_reducible rfl)))
    | (refine GS.skip ?_ ?_ ?_; (· exact rfl); (· exact rfl))
    | fail
  refine GS.fnn [] (toNodeSO x.1 h0) rfl rfl rfl rfl (by simp [go_sem, List.take_of_length_le, ren, ren1, ren2, okr, okr1, okr2, ChkN, BlkN, List.range_succ, nf, forestC] <;> with_reducible rfl) (by simp [go_sem, List.take_of_length_le, ren, ren1, ren2, okr, okr1, okr2, ChkN, BlkN, List.range_succ, nf, forestC]) (by simp [go_sem, List.take_of_length_le, ren, ren1, ren2, okr, okr1, okr2, ChkN, BlkN, List.range_succ, nf, forestC]) (by simp [List.range_succ, lb]) (ChkN.toB (by simp [go_sem, List.take_of_length_le, ren, ren1, ren2, okr, okr1, okr2, ChkN, BlkN, List.range_succ, nf, forestC])) (by decide) (by simp) rfl (.nfr (by simp) .nil) (by simp [go_sem, List.take_of_length_le, ren, ren1, ren2, okr, okr1, okr2, ChkN, BlkN, List.range_succ, nf, forestC] <;> with_reducible rfl) ?_
  repeat' first
    | refine Holds.seq ?_
    | refine Holds.skip ?_
    | refine Holds.exit ?_
    | refine Holds.ret ?_
    | refine thenA_normal ?_
    | refine thenA_exit ?_
    | refine thenA_ret ?_
    | refine inB_normal ?_
    | refine inB_ret ?_
    | refine inB_here ?_
    | (refine inB_past ?_ ?_; (· exact rfl))
    | refine Holds.reg ?_
    | refine Holds.block ?_
    | refine GS.nil ?_
    | (refine GS.step (s' := ?_) ?_ ?_ ?_; rotate_left; (· exact rfl); (· (simp [go_sem, List.take_of_length_le] <;> with_reducible rfl)))
    | (refine GS.skip ?_ ?_ ?_; (· exact rfl); (· exact rfl))
    | fail
  refine GS.fnn [] (toEdgeSO x.2 h1 h2) rfl rfl rfl rfl (by simp [go_sem, List.take_of_length_le, ren, ren1, ren2, okr, okr1, okr2, ChkN, BlkN, List.range_succ, nf, forestC] <;> with_reducible rfl) (by simp [go_sem, List.take_of_length_le, ren, ren1, ren2, okr, okr1, okr2, ChkN, BlkN, List.range_succ, nf, forestC]) (by simp [go_sem, List.take_of_length_le, ren, ren1, ren2, okr, okr1, okr2, ChkN, BlkN, List.range_succ, nf, forestC]) (by simp [List.range_succ, lb]) (ChkN.toB (by simp [go_sem, List.take_of_length_le, ren, ren1, ren2, okr, okr1, okr2, ChkN, BlkN, List.range_succ, nf, forestC])) (by decide) (by simp) rfl (.nfr (by simp) .nil) (by simp [go_sem, List.take_of_length_le, ren, ren1, ren2, okr, okr1, okr2, ChkN, BlkN, List.range_succ, nf, forestC] <;> with_reducible rfl) ?_
  repeat' first
    | refine Holds.seq ?_
    | refine Holds.skip ?_
    | refine Holds.exit ?_
    | refine Holds.ret ?_
    | refine thenA_normal ?_
    | refine thenA_exit ?_
    | refine thenA_ret ?_
    | refine inB_normal ?_
    | refine inB_ret ?_
    | refine inB_here ?_
    | (refine inB_past ?_ ?_; (· exact rfl))
    | refine Holds.reg ?_
    | refine Holds.block ?_
    | refine GS.nil ?_
    | (refine GS.step (s' := ?_) ?_ ?_ ?_; rotate_left; (· exact rfl); (· (simp [go_sem, List.take_of_length_le] <;> with_reducible rfl)))
    | (refine GS.skip ?_ ?_ ?_; (· exact rfl); (· exact rfl))
    | fail
  refine OutF.mkn (xs := ?_) (nm [3, 4]) ?_ ?_ ?_ ?_ ?_ (by first | exact .inr rfl | exact .inl rfl)
  rotate_left
  · simp [go_sem, List.take_of_length_le, forestC] <;> with_reducible rfl
  · simp [go_sem, List.take_of_length_le, ren, ren1, ren2, okr, okr1, okr2, ChkN, BlkN, List.range_succ, nf, forestC]
  · simp [go_sem, List.take_of_length_le, ren, ren1, ren2, okr, okr1, okr2, ChkN, BlkN, List.range_succ, nf, forestC]
  · simp [go_sem, List.take_of_length_le, ren, ren1, ren2, okr, okr1, okr2, ChkN, BlkN, List.range_succ, nf, forestC]
  · rfl
def wForest (x : ForestT) : Nat := wtL wNode x.1 + wtL wEdge x.2
def mForest (k : Int) (x : ForestT) : ForestT := (mkL wNode mNode (k) x.1, mkL wEdge mEdge (k + wtL wNode x.1) x.2)
theorem markForest (x : ForestT) (k : Int) (h0 : 0 ≤ k) (h1 : k + wForest x ≤ 4611686018427387904) (g00 : x.1.length ≤ 4611686018427387904) (g10 : x.2.length ≤ 4611686018427387904) : Fn Try.prog 15 2 [.ag [.own 0 3 0 (x.1).length, .own 1 3 0 (x.2).length], .v (.int .i64 k)] [(0, ⟨82, 3, nodes x.1⟩), (1, ⟨61, 3, edgesO x.2⟩)] (.v (.int .i64 (k + wForest x))) 2 [(0, ⟨82, 3, nodes (mForest k x).1⟩), (1, ⟨61, 3, edgesO (mForest k x).2⟩)] := by
  simp only [wForest] at h1
  simp only [wForest, mForest]
  refine Fn.mk (rs := [.tmp 4]) (nt := 14) Try.func15 (by kernel_rfl) rfl rfl rfl (by simp) ?_
  simp only [sl]
  repeat' first
    | refine Holds.seq ?_
    | refine Holds.skip ?_
    | refine Holds.exit ?_
    | refine Holds.ret ?_
    | refine thenA_normal ?_
    | refine thenA_exit ?_
    | refine thenA_ret ?_
    | refine inB_normal ?_
    | refine inB_ret ?_
    | refine inB_here ?_
    | (refine inB_past ?_ ?_; (· exact rfl))
    | refine Holds.reg ?_
    | refine Holds.block ?_
    | refine GS.nil ?_
    | (refine GS.step (s' := ?_) ?_ ?_ ?_; rotate_left; (· exact rfl); (· (simp [go_sem, List.take_of_length_le] <;> with_reducible rfl)))
    | (refine GS.skip ?_ ?_ ?_; (· exact rfl); (· exact rfl))
    | fail
  refine GS.fnn [0] (markNodeS x.1 (k) (by omega) (by omega) g00) rfl rfl rfl rfl (by simp [go_sem, List.take_of_length_le, ren, ren1, ren2, okr, okr1, okr2, ChkN, BlkN, List.range_succ, nf] <;> with_reducible rfl) (by simp [go_sem, List.take_of_length_le, ren, ren1, ren2, okr, okr1, okr2, ChkN, BlkN, List.range_succ, nf]) (by simp [go_sem, List.take_of_length_le, ren, ren1, ren2, okr, okr1, okr2, ChkN, BlkN, List.range_succ, nf]) (by simp [List.range_succ, lb]) (ChkN.toB (by simp [go_sem, List.take_of_length_le, ren, ren1, ren2, okr, okr1, okr2, ChkN, BlkN, List.range_succ, nf])) (by decide) (by simp) rfl (.nfr (by simp) .nil) (by simp [go_sem, List.take_of_length_le, ren, ren1, ren2, okr, okr1, okr2, ChkN, BlkN, List.range_succ, nf] <;> with_reducible rfl) ?_
  repeat' first
    | refine Holds.seq ?_
    | refine Holds.skip ?_
    | refine Holds.exit ?_
    | refine Holds.ret ?_
    | refine thenA_normal ?_
    | refine thenA_exit ?_
    | refine thenA_ret ?_
    | refine inB_normal ?_
    | refine inB_ret ?_
    | refine inB_here ?_
    | (refine inB_past ?_ ?_; (· exact rfl))
    | refine Holds.reg ?_
    | refine Holds.block ?_
    | refine GS.nil ?_
    | (refine GS.step (s' := ?_) ?_ ?_ ?_; rotate_left; (· exact rfl); (· (simp [go_sem, List.take_of_length_le] <;> with_reducible rfl)))
    | (refine GS.skip ?_ ?_ ?_; (· exact rfl); (· exact rfl))
    | fail
  refine GS.fnn [1] (markEdgeS x.2 (k + wtL wNode x.1) (by omega) (by omega) g10) rfl rfl rfl rfl (by simp [go_sem, List.take_of_length_le, ren, ren1, ren2, okr, okr1, okr2, ChkN, BlkN, List.range_succ, nf] <;> with_reducible rfl) (by simp [go_sem, List.take_of_length_le, ren, ren1, ren2, okr, okr1, okr2, ChkN, BlkN, List.range_succ, nf]) (by simp [go_sem, List.take_of_length_le, ren, ren1, ren2, okr, okr1, okr2, ChkN, BlkN, List.range_succ, nf]) (by simp [List.range_succ, lb]) (ChkN.toB (by simp [go_sem, List.take_of_length_le, ren, ren1, ren2, okr, okr1, okr2, ChkN, BlkN, List.range_succ, nf])) (by decide) (by simp) rfl (.nfr (by simp) .nil) (by simp [go_sem, List.take_of_length_le, ren, ren1, ren2, okr, okr1, okr2, ChkN, BlkN, List.range_succ, nf] <;> with_reducible rfl) ?_
  repeat' first
    | refine Holds.seq ?_
    | refine Holds.skip ?_
    | refine Holds.exit ?_
    | refine Holds.ret ?_
    | refine thenA_normal ?_
    | refine thenA_exit ?_
    | refine thenA_ret ?_
    | refine inB_normal ?_
    | refine inB_ret ?_
    | refine inB_here ?_
    | (refine inB_past ?_ ?_; (· exact rfl))
    | refine Holds.reg ?_
    | refine Holds.block ?_
    | refine GS.nil ?_
    | (refine GS.step (s' := ?_) ?_ ?_ ?_; rotate_left; (· exact rfl); (· (simp [go_sem, List.take_of_length_le] <;> with_reducible rfl)))
    | (refine GS.skip ?_ ?_ ?_; (· exact rfl); (· exact rfl))
    | fail
  refine OutF.mkn (xs := ?_) (nm [0, 1]) ?_ ?_ ?_ ?_ ?_ (by first | exact .inr rfl | exact .inl rfl)
  rotate_left
  · simp [go_sem, List.take_of_length_le, Int.add_assoc, cnt] <;> with_reducible rfl
  · simp [go_sem, List.take_of_length_le, ren, ren1, ren2, okr, okr1, okr2, ChkN, BlkN, List.range_succ, nf, Int.add_assoc, cnt]
  · simp [go_sem, List.take_of_length_le, ren, ren1, ren2, okr, okr1, okr2, ChkN, BlkN, List.range_succ, nf, Int.add_assoc, cnt]
  · simp [go_sem, List.take_of_length_le, ren, ren1, ren2, okr, okr1, okr2, ChkN, BlkN, List.range_succ, nf, Int.add_assoc, cnt]
  · rfl
end Go.Proofs.Ytjgeklhocjcgjaa.En
end
section
namespace Go.Proofs.Ytjgeklhocjcgjaa.En
open Go.RowKit
set_option linter.unusedSimpArgs false
set_option linter.unusedVariables false
set_option maxHeartbeats 4000000
/-- The first place of n (from k on), -1 where there is none. -/
def fstX {α : Type} [DecidableEq α] : List α → α → Nat → Int
  | [], _, _ => -1
  | x :: xs, n, k => if x = n then (k : Int) else fstX xs n (k + 1)
theorem fstX_at {α : Type} [DecidableEq α] {n : α} : ∀ (xs : List α) (i k : Nat), xs[i]? = some n → (∀ j, j < i → ∀ x, xs[j]? = some x → x ≠ n) → fstX xs n k = ((k + i : Nat) : Int)
  | [], i, k, h, _ => by simp at h
  | x :: xs, 0, k, h, _ => by simp at h; simp [fstX, h]
  | x :: xs, i + 1, k, h, hno => by
    have h0 : x ≠ n := hno 0 (by omega) x (by simp)
    unfold fstX
    rw [if_neg h0, fstX_at xs i (k + 1) (by simpa using h) fun j hj y hy => hno (j + 1) (by omega) y (by simpa using hy)]
    congr 1; omega
theorem fstX_no {α : Type} [DecidableEq α] {n : α} : ∀ (xs : List α) (k : Nat), n ∉ xs → fstX xs n k = -1
  | [], k, _ => rfl
  | x :: xs, k, h => by
    unfold fstX
    rw [if_neg (fun e => h (by simp [e])), fstX_no xs (k + 1) fun g => h (.tail _ g)]
theorem fstX_in {α : Type} [DecidableEq α] (n : α) : ∀ (xs : List α) (k : Nat), -1 ≤ fstX xs n k ∧ fstX xs n k ≤ (k : Int) + xs.length
  | [], k => by simp [fstX]
  | x :: xs, k => by
    unfold fstX
    have := fstX_in n xs (k + 1)
    split <;> simp only [List.length_cons] <;> omega
theorem not_memX {α : Type} {xs : List α} {n : α} (h : ∀ (i : Nat) (x : α), xs[i]? = some x → x ≠ n) : n ∉ xs := fun hm => by
  obtain ⟨i, hi⟩ := List.mem_iff_getElem?.1 hm
  exact h i n hi rfl
/-- The nodes of a rule's nonterminals between the cuts. -/
def nodesK (cuts : List Int) : Nat → List Int → List Node3
  | _, [] => []
  | k, x :: xs => if x < 0 then nodesK cuts (k + 1) xs else (x, cuts.getD k 0, cuts.getD (k + 1) 0) :: nodesK cuts (k + 1) xs
def findK (ns : List Node3) : List Node3 → List Int → Option (List Int)
  | [], acc => some acc
  | x :: xs, acc => if fstX ns x 0 < 0 then none else findK ns xs (acc ++ [fstX ns x 0])
theorem nodesK_drop {cuts right : List Int} {k : Nat} {x : Int} (h : right[k]? = some x) : nodesK cuts k (right.drop k) = if x < 0 then nodesK cuts (k + 1) (right.drop (k + 1)) else (x, cuts.getD k 0, cuts.getD (k + 1) 0) :: nodesK cuts (k + 1) (right.drop (k + 1)) := by
  obtain ⟨hk, e⟩ := List.getElem?_eq_some_iff.1 h
  rw [List.drop_eq_getElem_cons hk, e, nodesK]
theorem findK_drop {ns ks : List Node3} {k : Nat} {x : Node3} (acc : List Int) (h : ks[k]? = some x) : findK ns (ks.drop k) acc = if fstX ns x 0 < 0 then none else findK ns (ks.drop (k + 1)) (acc ++ [fstX ns x 0]) := by
  obtain ⟨hk, e⟩ := List.getElem?_eq_some_iff.1 h
  rw [List.drop_eq_getElem_cons hk, e, findK]
theorem nodesK_len (cuts : List Int) : ∀ (xs : List Int) (k : Nat), (nodesK cuts k xs).length ≤ xs.length
  | [], k => by simp [nodesK]
  | x :: xs, k => by
    unfold nodesK
    have := nodesK_len cuts xs (k + 1)
    split <;> simp only [List.length_cons] <;> omega
theorem findK_len (ns : List Node3) : ∀ (ks : List Node3) (acc l : List Int), findK ns ks acc = some l → l.length = acc.length + ks.length
  | [], acc, l, h => by cases h; simp
  | x :: xs, acc, l, h => by
    unfold findK at h
    split at h
    · cases h
    · have := findK_len ns xs _ l h
      simp only [List.length_append, List.length_cons, List.length_nil] at this ⊢
      omega
def ruleE (g : GrammarT) (e : Edge3) : RuleT := g.2.2.getD e.2.1.toNat (0, [])
def kidsE (g : GrammarT) (f : ForestT) (e : Edge3) : List Int × Bool :=
  if inR e.2.1 0 ((g.2.2.length : Int) - 1) && decide (e.2.2.length = (ruleE g e).2.length + 1) then
    match findK f.1 (nodesK e.2.2 0 (ruleE g e).2) [] with
    | some l => (l, true)
    | none => ([], false)
  else ([], false)
def childV (g : GrammarT) (f : ForestT) (edge : Int) : List Int × Bool :=
  if goodG g && (decide (f.1.length ≤ 600) && decide (f.2.length ≤ 600)) && inR edge 0 ((f.2.length : Int) - 1) then kidsE g f (f.2.getD edge.toNat (0, 0, [])) else ([], false)
theorem good_r4 {g : GrammarT} (h : goodG g = true) {i : Nat} {r : RuleT} (hr : g.2.2[i]? = some r) : g.2.2.length ≤ 16 ∧ r.2.length ≤ 4 := by
  obtain ⟨hk, e⟩ := List.getElem?_eq_some_iff.1 hr
  simp only [goodG, Bool.and_eq_true, decide_eq_true_eq] at h
  refine ⟨h.1.2, ?_⟩
  have ha : goodAtG g i = true := by
    cases e : goodAtG g i with
    | true => rfl
    | false => have := h.2; rw [allB_no hk e] at this; cases this
  have hd : g.2.2.getD i (0, []) = r := by rw [List.getD_eq_getElem?_getD, hr]; rfl
  simp only [goodAtG, hd, Bool.and_eq_true, decide_eq_true_eq] at ha
  exact ha.1.1.2
theorem kidsE_len {g : GrammarT} (h : goodG g = true) (f : ForestT) (e : Edge3) : (kidsE g f e).1.length ≤ 4 := by
  unfold kidsE
  split
  · rename_i hc
    have hr : (ruleE g e).2.length ≤ 4 := by
      unfold ruleE
      rw [List.getD_eq_getElem?_getD]
      cases hx : g.2.2[e.2.1.toNat]? with
      | none => simp
      | some r => exact (good_r4 h hx).2
    split
    · rename_i l hl
      have h1 := findK_len _ _ _ _ hl
      have h2 := nodesK_len e.2.2 (ruleE g e).2 0
      simp only [List.length_nil] at h1
      dsimp only; omega
    · simp
  · simp
theorem childV_len (g : GrammarT) (f : ForestT) (edge : Int) : (childV g f edge).1.length ≤ 4 := by
  unfold childV
  split
  · rename_i h
    simp only [Bool.and_eq_true] at h
    exact kidsE_len h.1.1 f _
  · simp
end Go.Proofs.Ytjgeklhocjcgjaa.En
end
section
namespace Go.Proofs.Ytjgeklhocjcgjaa.En
open Go.RowKit
set_option linter.unusedSimpArgs false
set_option linter.unusedVariables false
section
attribute [local semireducible] G Gq Holds GS Pure Out Fn OutF
variable {P : Program} {nt : NT} {s s' : AS} {ops : Array Oper} {K : AS → Prop} {i : Nat} {o : Oper} {l : List Oper}
/-- A name for a value of one cell of which nothing is known. -/
theorem RelX.opq {C : Ctx} {a : Act} {w : World} {S : Nat → Prop} {Ow : Owners} {L : Names} (h : RelX C s a w S Ow L) :
    ∃ L', RelX C ⟨s.tm, s.bl, s.nx + 1⟩ a w S Ow L' ∧ L' s.nx = .gone := by
  have hLn : ∀ n, L n = .free ∨ (if n = s.nx then NL.gone else L n) = L n ∨ (if n = s.nx then NL.gone else L n) = .gone := fun n => by
    by_cases e : n = s.nx
    · exact .inl (h.fresh n (by omega))
    · simp [e]
  refine ⟨fun n => if n = s.nx then .gone else L n, ?_, by simp⟩
  refine { fix := fix_of h.fix hLn, keep := h.keep, inS := h.inS, upS := h.upS, ltS := h.ltS, owS := h.owS, ow := h.ow, ow0 := h.ow0, blk := ?_, fresh := ?_, named := ?_, freshO := fun b n q hq => Nat.le_succ_of_le (h.freshO b n q hq), slot := ?_, size := h.size, defers := h.defers }
  · intro n kk hn
    obtain ⟨loc, hl, hB⟩ := h.blk n kk hn
    have e : n ≠ s.nx := fun e => by rw [e, h.fresh _ (Nat.le_refl _)] at hl; cases hl
    exact ⟨loc, by simp [e, hl], hB.names hLn (fun _ _ hq => hq)⟩
  · intro n hn
    have hn' : s.nx + 1 ≤ n := hn
    simp only [show n ≠ s.nx by omega, if_false]
    exact h.fresh n (by omega)
  · intro n hn
    have hn' : n < s.nx + 1 := hn
    by_cases e : n = s.nx
    · simp [e]
    · simp only [e, if_false]; exact h.named n (by omega)
  · intro t x hx
    obtain ⟨v, hv, hR⟩ := h.slot t x hx
    exact ⟨v, hv, hR.names hLn (fun _ _ hq => hq)⟩
theorem GS.mkMap {t : TypeId} {s1 : AS} (hop : o.op = .makeMap t none) (hg : gd ops s o = some true) (hd : okd nt.n o.dst = true) (hs1 : put ⟨s.tm, s.bl, s.nx + 1⟩ o.dst (.own s.nx 1 0 0) = s1) (h : GS P nt ops K l (i + 1) s1) : GS P nt ops K (o :: l) i s :=
  GS.cons (fun ho r' hr' => fun C ac w S Ow L Q hn hR hQ => by
    subst hn hs1
    rw [wpOps_cons]
    unfold wpOp
    simp only [ho]
    rw [gd_sound hR hg]
    simp only [if_true]
    left
    have hrun : (execOp ac.eval o).run P w = .ok (.value (.map (some w.heap.size))) (w.alloc (.map #[] 0)) := by
      unfold execOp
      simp [hop, run_makeMap_plain]
    unfold Oper.wp
    rw [hrun]
    have hb : Below w.heap.size w (w.alloc (.map #[] 0)) := ⟨rfl, rfl, rfl, by simp, fun k hk => heap_alloc_old w _ k hk⟩
    obtain ⟨L', h1, h2⟩ := (hR.grown hb).opq
    exact hr' C _ _ _ _ _ Q rfl (h1.put o.dst hd (.own_gone _ _ _ _ _ h2 rfl)) hQ) h
theorem Cov.open {q n j i : Nat} {b : Blk} {row : List AV} {e : TypeId} {z : Nat} {ys : List (List AV)} (hb : lb s.bl n = some b) (hrow : b.xs[j]? = some row) (hi : row[i]? = some (.ow e z ys)) :
    Cov q ⟨s.tm, (s.nx, ⟨e, z, ys⟩) :: st s.bl n { b with xs := b.xs.set j (row.set i (.own s.nx z 0 ys.length)) }, s.nx + 1⟩ s :=
  fun _ _ _ S _ _ _ h => by
    obtain ⟨Ow', L', u, h1, _⟩ := h.openOw hb hrow hi
    exact ⟨S, Ow', L', h1⟩
theorem Holds.open {c : Code} {Q : Exit → AS → Prop} (n j i : Nat) {b : Blk} {row : List AV} {e : TypeId} {z : Nat} {ys : List (List AV)} (hb : lb s.bl n = some b) (hrow : b.xs[j]? = some row) (hi : row[i]? = some (.ow e z ys))
    (hs : (⟨s.tm, (s.nx, ⟨e, z, ys⟩) :: st s.bl n { b with xs := b.xs.set j (row.set i (.own s.nx z 0 ys.length)) }, s.nx + 1⟩ : AS) = s') (h : Holds P nt c Q s') : Holds P nt c Q s := Holds.cov (Cov.open hb hrow hi) (by rw [hs]; exact h)
theorem GS.open (n j i : Nat) {b : Blk} {row : List AV} {e : TypeId} {z : Nat} {ys : List (List AV)} (hb : lb s.bl n = some b) (hrow : b.xs[j]? = some row) (hi : row[i]? = some (.ow e z ys))
    (hs : (⟨s.tm, (s.nx, ⟨e, z, ys⟩) :: st s.bl n { b with xs := b.xs.set j (row.set i (.own s.nx z 0 ys.length)) }, s.nx + 1⟩ : AS) = s') {p : Nat} (h : GS P nt ops K l p s') : GS P nt ops K l p s := GS.cov (Cov.open hb hrow hi) (by rw [hs]; exact h)
theorem GS.grd {g t : Nat} {b c : Bool} (d1 : gd ops s o = some true ∨ True) (d2 : gd ops s o = some false ∨ True) (ho : o.guard = some (g, b)) (ht : (ops[g]?).bind (·.dst) = some t) (hl : lk s.tm t = some (.v (.bool c))) (h1 : c = true → GS P nt ops K (o :: l) i (again s t (.v (.bool true)))) (h2 : c = false → GS P nt ops K (o :: l) i (again s t (.v (.bool false)))) : GS P nt ops K (o :: l) i s := GS.guard hl h1 h2
theorem Gd.grd {g t : Nat} {b c : Bool} (d1 : gd ops s o = some true ∨ True) (d2 : gd ops s o = some false ∨ True) (ho : o.guard = some (g, b)) (ht : (ops[g]?).bind (·.dst) = some t) (hl : lk s.tm t = some (.v (.bool c))) (h1 : c = true → Gd P nt ops K (o :: l) (again s t (.v (.bool true)))) (h2 : c = false → Gd P nt ops K (o :: l) (again s t (.v (.bool false)))) : Gd P nt ops K (o :: l) s := Gd.guard hl h1 h2
theorem Holds.condT {c : Operand} {x y : Code} {Q : Exit → AS → Prop} (hc : ev s c = some (.v (.bool true))) (h : Holds P nt x Q s) : Holds P nt (.cond c x y) Q s := Holds.cond hc (fun _ => h) (fun g => by cases g)
theorem Holds.condF {c : Operand} {x y : Code} {Q : Exit → AS → Prop} (hc : ev s c = some (.v (.bool false))) (h : Holds P nt y Q s) : Holds P nt (.cond c x y) Q s := Holds.cond hc (fun g => by cases g) (fun _ => h)
end
theorem Fz.ve {bl : List (Nat × Blk)} {x y : Value} (h : x = y) : Fz bl (.v x) (.v y) := by subst h; exact .v _
/-- The first cells of a variable in memory, lent to be looked at. -/
theorem Fz.pbP {bl : List (Nat × Blk)} {n sz : Nat} {k : Blk} {row zs : List AV} (hk : lb bl n = some k) (hx : k.xs = [row ++ zs]) (hz : k.sz = sz) (h : ∀ x ∈ row, En.cl1 x = true) : Fz bl (.pb n sz 0 0) (.pi row) := by
  subst hz
  refine .pb n 0 0 k (row ++ zs) row hk (by rw [hx]; rfl) (by simp) (fun q x y h1 h2 => ?_)
  rw [List.drop_zero, List.getElem?_append_left (List.getElem?_eq_some_iff.1 h2).1, h2] at h1
  have e := Option.some.inj h1
  subst e
  exact .cl1 (h _ (List.mem_of_getElem? h2))
end Go.Proofs.Ytjgeklhocjcgjaa.En
end
section
namespace Go.Proofs.Ytjgeklhocjcgjaa.En
open Go.RowKit
set_option linter.unusedSimpArgs false
set_option linter.unusedVariables false
set_option maxHeartbeats 8000000
theorem nodes_snoc (l : List Node3) (x : Node3) : nodes l ++ [nodeC x] = nodes (l ++ [x]) := by simp [nodes]
theorem l9At (ns : List Node3) (x : Node3) (hx : ns.length < 4611686018427387904) : Pure Try.prog 46 [.im 3 (nodes ns), .ag (nodeC x)] (.v (.int .i64 (fstX ns x 0))) := by
  refine Pure.mk (rs := [.tmp 4]) (nt := 19) Try.func46 (by kernel_rfl) rfl rfl rfl (by simp) ?_
  simp only [sl, nodeC]
  repeat' first
    | (refine Holds.condT ?_ ?_; (· (simp [go_sem, List.take_of_length_le] <;> with_reducible rfl)))
    | (refine Holds.condF ?_ ?_; (· (simp [go_sem, List.take_of_length_le] <;> with_reducible rfl)))
    | refine Holds.seq ?_
    | refine Holds.skip ?_
    | refine Holds.exit ?_
    | refine Holds.ret ?_
    | refine thenA_normal ?_
    | refine thenA_exit ?_
    | refine thenA_ret ?_
    | refine inB_normal ?_
    | refine inB_ret ?_
    | refine inB_here ?_
    | (refine inB_past ?_ ?_; (· exact rfl))
    | refine Holds.reg ?_
    | refine Holds.block ?_
    | refine GS.nil ?_
    | (refine GS.step (s' := ?_) ?_ ?_ ?_; rotate_left; (· exact rfl); (· (simp [go_sem, List.take_of_length_le] <;> with_reducible rfl)))
    | (refine GS.skip ?_ ?_ ?_; (· exact rfl); (· exact rfl))
    | fail
  refine Holds.loop (ι := Nat) (fun i => ⟨[(3, .pb 0 3 0 0), (7, .im 3 (nodes ns)), (8, .v (.int .i64 ns.length)), (9, .v (.int .i64 i))], [(0, ⟨82, 3, [nodeC x]⟩)], 1⟩) (fun i => i ≤ ns.length ∧ ∀ j, j < i → ∀ y, ns[j]? = some y → y ≠ x) (fun i => ns.length - i) 0 ⟨Nat.zero_le _, fun j hj => absurd hj (Nat.not_lt_zero j)⟩ ?_ ?_
  · exact Cov.ofn (id) rfl (by simp [go_sem, List.take_of_length_le, ren, ren1, ren2, okr, okr1, okr2, ChkT, ChkN, BlkN, nf, nodeC]) (by simp [go_sem, List.take_of_length_le, ren, ren1, ren2, okr, okr1, okr2, ChkT, ChkN, BlkN, nf, nodeC])
  rintro i ⟨hi, hno⟩
  repeat' first
    | (refine Holds.condT ?_ ?_; (· (simp [go_sem, List.take_of_length_le] <;> with_reducible rfl)))
    | (refine Holds.condF ?_ ?_; (· (simp [go_sem, List.take_of_length_le] <;> with_reducible rfl)))
    | refine Holds.seq ?_
    | refine Holds.skip ?_
    | refine Holds.exit ?_
    | refine Holds.ret ?_
    | refine thenA_normal ?_
    | refine thenA_exit ?_
    | refine thenA_ret ?_
    | refine inB_normal ?_
    | refine inB_ret ?_
    | refine inB_here ?_
    | (refine inB_past ?_ ?_; (· exact rfl))
    | refine Holds.reg ?_
    | refine Holds.block ?_
    | refine GS.nil ?_
    | (refine GS.step (s' := ?_) ?_ ?_ ?_; rotate_left; (· exact rfl); (· (simp [go_sem, List.take_of_length_le] <;> with_reducible rfl)))
    | (refine GS.skip ?_ ?_ ?_; (· exact rfl); (· exact rfl))
    | fail
  refine Holds.cond rfl (fun hl => ?_) (fun hl => ?_)
  · have hlt : i < ns.length := by simpa using hl
    have hxi : ns[i]? = some ns[i] := List.getElem?_eq_getElem hlt
    generalize ns[i] = y at hxi
    repeat' first
      | (refine Holds.condT ?_ ?_; (· (simp [go_sem, List.take_of_length_le, hxi, nodeC] <;> with_reducible rfl)))
      | (refine Holds.condF ?_ ?_; (· (simp [go_sem, List.take_of_length_le, hxi, nodeC] <;> with_reducible rfl)))
      | refine Holds.seq ?_
      | refine Holds.skip ?_
      | refine Holds.exit ?_
      | refine Holds.ret ?_
      | refine thenA_normal ?_
      | refine thenA_exit ?_
      | refine thenA_ret ?_
      | refine inB_normal ?_
      | refine inB_ret ?_
      | refine inB_here ?_
      | (refine inB_past ?_ ?_; (· exact rfl))
      | refine Holds.reg ?_
      | refine Holds.block ?_
      | refine GS.nil ?_
      | (refine GS.step (s' := ?_) ?_ ?_ ?_; rotate_left; (· exact rfl); (· (simp [go_sem, List.take_of_length_le, hxi, nodeC] <;> with_reducible rfl)))
      | (refine GS.skip ?_ ?_ ?_; (· exact rfl); (· exact rfl))
      | fail
    refine GS.calm1 rfl rfl (.eqS (n := 3) (xs := [y.1, y.2.1, y.2.2]) (ys := [x.1, x.2.1, x.2.2]) rfl eq135 rfl rfl rfl rfl rfl) ?_
    repeat' first
      | refine Holds.seq ?_
      | refine Holds.skip ?_
      | refine Holds.exit ?_
      | refine Holds.ret ?_
      | refine thenA_normal ?_
      | refine thenA_exit ?_
      | refine thenA_ret ?_
      | refine inB_normal ?_
      | refine inB_ret ?_
      | refine inB_here ?_
      | (refine inB_past ?_ ?_; (· exact rfl))
      | refine Holds.reg ?_
      | refine Holds.block ?_
      | refine GS.nil ?_
      | (refine GS.step (s' := ?_) ?_ ?_ ?_; rotate_left; (· exact rfl); (· (simp [go_sem, List.take_of_length_le] <;> with_reducible rfl)))
      | (refine GS.skip ?_ ?_ ?_; (· exact rfl); (· exact rfl))
      | fail
    refine Holds.cond rfl (fun hl => ?_) (fun hl => ?_)
    · have he : y = x := node_ext (by simpa using hl)
      rw [fstX_at ns i 0 (hxi.trans (by rw [he])) hno, Nat.zero_add]
      repeat' first
        | (refine Holds.condT ?_ ?_; (· (simp [go_sem, List.take_of_length_le] <;> with_reducible rfl)))
        | (refine Holds.condF ?_ ?_; (· (simp [go_sem, List.take_of_length_le] <;> with_reducible rfl)))
        | refine Holds.seq ?_
        | refine Holds.skip ?_
        | refine Holds.exit ?_
        | refine Holds.ret ?_
        | refine thenA_normal ?_
        | refine thenA_exit ?_
        | refine thenA_ret ?_
        | refine inB_normal ?_
        | refine inB_ret ?_
        | refine inB_here ?_
        | (refine inB_past ?_ ?_; (· exact rfl))
        | refine Holds.reg ?_
        | refine Holds.block ?_
        | refine GS.nil ?_
        | (refine GS.step (s' := ?_) ?_ ?_ ?_; rotate_left; (· exact rfl); (· (simp [go_sem, List.take_of_length_le] <;> with_reducible rfl)))
        | (refine GS.skip ?_ ?_ ?_; (· exact rfl); (· exact rfl))
        | fail
      refine Out.mk (xs := ?_) ?_ ?_ (by first | exact .inr rfl | exact .inl rfl)
      rotate_left
      · simp [go_sem, List.take_of_length_le] <;> with_reducible rfl
      exact .v _
    · have he : ¬ y = x := by rintro rfl; simp at hl
      repeat' first
        | (refine Holds.condT ?_ ?_; (· (simp [go_sem, List.take_of_length_le] <;> with_reducible rfl)))
        | (refine Holds.condF ?_ ?_; (· (simp [go_sem, List.take_of_length_le] <;> with_reducible rfl)))
        | refine Holds.seq ?_
        | refine Holds.skip ?_
        | refine Holds.exit ?_
        | refine Holds.ret ?_
        | refine thenA_normal ?_
        | refine thenA_exit ?_
        | refine thenA_ret ?_
        | refine inB_normal ?_
        | refine inB_ret ?_
        | refine inB_here ?_
        | (refine inB_past ?_ ?_; (· exact rfl))
        | refine Holds.reg ?_
        | refine Holds.block ?_
        | refine GS.nil ?_
        | (refine GS.step (s' := ?_) ?_ ?_ ?_; rotate_left; (· exact rfl); (· (simp [go_sem, List.take_of_length_le] <;> with_reducible rfl)))
        | (refine GS.skip ?_ ?_ ?_; (· exact rfl); (· exact rfl))
        | fail
      refine ⟨i + 1, ⟨by omega, fun j hj z hxj => ?_⟩, by omega, ?_⟩
      · by_cases e : j = i
        · subst e; rw [hxi] at hxj; cases hxj; exact he
        · exact hno j (by omega) z hxj
      rw [wr64_id (by omega) (by omega)]
      exact Cov.ofn (id) rfl (by simp [go_sem, List.take_of_length_le, ren, ren1, ren2, okr, okr1, okr2, ChkT, ChkN, BlkN, nf, nodeC]) (by simp [go_sem, List.take_of_length_le, ren, ren1, ren2, okr, okr1, okr2, ChkT, ChkN, BlkN, nf, nodeC])
  · have hle : i = ns.length := by
      have : ¬ i < ns.length := by simpa using hl
      omega
    rw [fstX_no ns 0 (not_memX fun j z hj => hno j (by have := (List.getElem?_eq_some_iff.1 hj).1; omega) z hj)]
    repeat' first
      | (refine Holds.condT ?_ ?_; (· (simp [go_sem, List.take_of_length_le] <;> with_reducible rfl)))
      | (refine Holds.condF ?_ ?_; (· (simp [go_sem, List.take_of_length_le] <;> with_reducible rfl)))
      | refine Holds.seq ?_
      | refine Holds.skip ?_
      | refine Holds.exit ?_
      | refine Holds.ret ?_
      | refine thenA_normal ?_
      | refine thenA_exit ?_
      | refine thenA_ret ?_
      | refine inB_normal ?_
      | refine inB_ret ?_
      | refine inB_here ?_
      | (refine inB_past ?_ ?_; (· exact rfl))
      | refine Holds.reg ?_
      | refine Holds.block ?_
      | refine GS.nil ?_
      | (refine GS.step (s' := ?_) ?_ ?_ ?_; rotate_left; (· exact rfl); (· (simp [go_sem, List.take_of_length_le] <;> with_reducible rfl)))
      | (refine GS.skip ?_ ?_ ?_; (· exact rfl); (· exact rfl))
      | fail
    refine Out.mk (xs := ?_) ?_ ?_ (by first | exact .inr rfl | exact .inl rfl)
    rotate_left
    · simp [go_sem, List.take_of_length_le] <;> with_reducible rfl
    exact .v _
theorem indexNode (ns : List Node3) (x : Node3) (hx : ns.length < 4611686018427387904) : Pure Try.prog 54 [.im 3 (nodes ns), .ag (nodeC x)] (.v (.int .i64 (fstX ns x 0))) := by
  refine Pure.mk (rs := [.tmp 4]) (nt := 19) Try.func54 (by kernel_rfl) rfl rfl rfl (by simp) ?_
  simp only [sl, nodeC]
  repeat' first
    | (refine Holds.condT ?_ ?_; (· (simp [go_sem, List.take_of_length_le] <;> with_reducible rfl)))
    | (refine Holds.condF ?_ ?_; (· (simp [go_sem, List.take_of_length_le] <;> with_reducible rfl)))
    | refine Holds.seq ?_
    | refine Holds.skip ?_
    | refine Holds.exit ?_
    | refine Holds.ret ?_
    | refine thenA_normal ?_
    | refine thenA_exit ?_
    | refine thenA_ret ?_
    | refine inB_normal ?_
    | refine inB_ret ?_
    | refine inB_here ?_
    | (refine inB_past ?_ ?_; (· exact rfl))
    | refine Holds.reg ?_
    | refine Holds.block ?_
    | refine GS.nil ?_
    | refine Gd.nil ?_
    | (refine Holds.any mixed ?_ ?_; (· kernel_rfl))
    | (refine GS.step (s' := ?_) ?_ ?_ ?_; rotate_left; (· exact rfl); (· (simp [go_sem, List.take_of_length_le] <;> with_reducible rfl)))
    | (refine GS.skip ?_ ?_ ?_; (· exact rfl); (· exact rfl))
    | (refine Gd.go (s' := ?_) ?_ ?_ ?_; rotate_left; (· exact rfl); (· (simp [go_sem, List.take_of_length_le] <;> with_reducible rfl)))
    | (refine Gd.skip ?_ ?_ ?_; (· exact rfl); (· exact rfl))
    | fail
  refine Holds.loop (ι := Nat) (fun i => ⟨[(0, .im 3 (nodes ns)), (3, .pb 0 3 0 0), (7, .v (.int .i64 ns.length)), (8, .v (.int .i64 i))], [(0, ⟨82, 3, [nodeC x]⟩)], 1⟩) (fun i => i ≤ ns.length ∧ ∀ j, j < i → ∀ y, ns[j]? = some y → y ≠ x) (fun i => ns.length - i) 0 ⟨Nat.zero_le _, fun j hj => absurd hj (Nat.not_lt_zero j)⟩ ?_ ?_
  · exact Cov.ofn (id) rfl (by simp [go_sem, List.take_of_length_le, ren, ren1, ren2, okr, okr1, okr2, ChkT, ChkN, BlkN, nf, nodeC]) (by simp [go_sem, List.take_of_length_le, ren, ren1, ren2, okr, okr1, okr2, ChkT, ChkN, BlkN, nf, nodeC])
  rintro i ⟨hi, hno⟩
  repeat' first
    | (refine Holds.condT ?_ ?_; (· (simp [go_sem, List.take_of_length_le] <;> with_reducible rfl)))
    | (refine Holds.condF ?_ ?_; (· (simp [go_sem, List.take_of_length_le] <;> with_reducible rfl)))
    | refine Holds.seq ?_
    | refine Holds.skip ?_
    | refine Holds.exit ?_
    | refine Holds.ret ?_
    | refine thenA_normal ?_
    | refine thenA_exit ?_
    | refine thenA_ret ?_
    | refine inB_normal ?_
    | refine inB_ret ?_
    | refine inB_here ?_
    | (refine inB_past ?_ ?_; (· exact rfl))
    | refine Holds.reg ?_
    | refine Holds.block ?_
    | refine GS.nil ?_
    | refine Gd.nil ?_
    | (refine Holds.any mixed ?_ ?_; (· kernel_rfl))
    | (refine GS.step (s' := ?_) ?_ ?_ ?_; rotate_left; (· exact rfl); (· (simp [go_sem, List.take_of_length_le] <;> with_reducible rfl)))
    | (refine GS.skip ?_ ?_ ?_; (· exact rfl); (· exact rfl))
    | (refine Gd.go (s' := ?_) ?_ ?_ ?_; rotate_left; (· exact rfl); (· (simp [go_sem, List.take_of_length_le] <;> with_reducible rfl)))
    | (refine Gd.skip ?_ ?_ ?_; (· exact rfl); (· exact rfl))
    | fail
  refine Holds.cond rfl (fun hl => ?_) (fun hl => ?_)
  · have hlt : i < ns.length := by simpa using hl
    have hxi : ns[i]? = some ns[i] := List.getElem?_eq_getElem hlt
    generalize ns[i] = y at hxi
    repeat' first
      | (refine Holds.condT ?_ ?_; (· (simp [go_sem, List.take_of_length_le, hxi, nodeC] <;> with_reducible rfl)))
      | (refine Holds.condF ?_ ?_; (· (simp [go_sem, List.take_of_length_le, hxi, nodeC] <;> with_reducible rfl)))
      | refine Holds.seq ?_
      | refine Holds.skip ?_
      | refine Holds.exit ?_
      | refine Holds.ret ?_
      | refine thenA_normal ?_
      | refine thenA_exit ?_
      | refine thenA_ret ?_
      | refine inB_normal ?_
      | refine inB_ret ?_
      | refine inB_here ?_
      | (refine inB_past ?_ ?_; (· exact rfl))
      | refine Holds.reg ?_
      | refine Holds.block ?_
      | refine GS.nil ?_
      | refine Gd.nil ?_
      | (refine Holds.any mixed ?_ ?_; (· kernel_rfl))
      | (refine GS.step (s' := ?_) ?_ ?_ ?_; rotate_left; (· exact rfl); (· (simp [go_sem, List.take_of_length_le, hxi, nodeC] <;> with_reducible rfl)))
      | (refine GS.skip ?_ ?_ ?_; (· exact rfl); (· exact rfl))
      | (refine Gd.go (s' := ?_) ?_ ?_ ?_; rotate_left; (· exact rfl); (· (simp [go_sem, List.take_of_length_le, hxi, nodeC] <;> with_reducible rfl)))
      | (refine Gd.skip ?_ ?_ ?_; (· exact rfl); (· exact rfl))
      | fail
    refine Gd.calm rfl rfl (.eqS (n := 3) (xs := [x.1, x.2.1, x.2.2]) (ys := [y.1, y.2.1, y.2.2]) rfl eq135 rfl rfl rfl rfl rfl) ?_
    repeat' first
      | refine Holds.seq ?_
      | refine Holds.skip ?_
      | refine Holds.exit ?_
      | refine Holds.ret ?_
      | refine thenA_normal ?_
      | refine thenA_exit ?_
      | refine thenA_ret ?_
      | refine inB_normal ?_
      | refine inB_ret ?_
      | refine inB_here ?_
      | (refine inB_past ?_ ?_; (· exact rfl))
      | refine Holds.reg ?_
      | refine Holds.block ?_
      | refine GS.nil ?_
      | refine Gd.nil ?_
      | (refine Holds.any mixed ?_ ?_; (· kernel_rfl))
      | (refine GS.step (s' := ?_) ?_ ?_ ?_; rotate_left; (· exact rfl); (· (simp [go_sem, List.take_of_length_le] <;> with_reducible rfl)))
      | (refine GS.skip ?_ ?_ ?_; (· exact rfl); (· exact rfl))
      | (refine Gd.go (s' := ?_) ?_ ?_ ?_; rotate_left; (· exact rfl); (· (simp [go_sem, List.take_of_length_le] <;> with_reducible rfl)))
      | (refine Gd.skip ?_ ?_ ?_; (· exact rfl); (· exact rfl))
      | fail
    refine Holds.cond rfl (fun hl => ?_) (fun hl => ?_)
    · have he : x = y := node_ext (by simpa using hl)
      rw [fstX_at ns i 0 (hxi.trans (by rw [he])) hno, Nat.zero_add]
      repeat' first
        | (refine Holds.condT ?_ ?_; (· (simp [go_sem, List.take_of_length_le] <;> with_reducible rfl)))
        | (refine Holds.condF ?_ ?_; (· (simp [go_sem, List.take_of_length_le] <;> with_reducible rfl)))
        | refine Holds.seq ?_
        | refine Holds.skip ?_
        | refine Holds.exit ?_
        | refine Holds.ret ?_
        | refine thenA_normal ?_
        | refine thenA_exit ?_
        | refine thenA_ret ?_
        | refine inB_normal ?_
        | refine inB_ret ?_
        | refine inB_here ?_
        | (refine inB_past ?_ ?_; (· exact rfl))
        | refine Holds.reg ?_
        | refine Holds.block ?_
        | refine GS.nil ?_
        | refine Gd.nil ?_
        | (refine Holds.any mixed ?_ ?_; (· kernel_rfl))
        | (refine GS.step (s' := ?_) ?_ ?_ ?_; rotate_left; (· exact rfl); (· (simp [go_sem, List.take_of_length_le] <;> with_reducible rfl)))
        | (refine GS.skip ?_ ?_ ?_; (· exact rfl); (· exact rfl))
        | (refine Gd.go (s' := ?_) ?_ ?_ ?_; rotate_left; (· exact rfl); (· (simp [go_sem, List.take_of_length_le] <;> with_reducible rfl)))
        | (refine Gd.skip ?_ ?_ ?_; (· exact rfl); (· exact rfl))
        | fail
      refine Out.mk (xs := ?_) ?_ ?_ (by first | exact .inr rfl | exact .inl rfl)
      rotate_left
      · simp [go_sem, List.take_of_length_le] <;> with_reducible rfl
      exact .v _
    · have he : ¬ y = x := by rintro rfl; simp at hl
      repeat' first
        | (refine Holds.condT ?_ ?_; (· (simp [go_sem, List.take_of_length_le] <;> with_reducible rfl)))
        | (refine Holds.condF ?_ ?_; (· (simp [go_sem, List.take_of_length_le] <;> with_reducible rfl)))
        | refine Holds.seq ?_
        | refine Holds.skip ?_
        | refine Holds.exit ?_
        | refine Holds.ret ?_
        | refine thenA_normal ?_
        | refine thenA_exit ?_
        | refine thenA_ret ?_
        | refine inB_normal ?_
        | refine inB_ret ?_
        | refine inB_here ?_
        | (refine inB_past ?_ ?_; (· exact rfl))
        | refine Holds.reg ?_
        | refine Holds.block ?_
        | refine GS.nil ?_
        | refine Gd.nil ?_
        | (refine Holds.any mixed ?_ ?_; (· kernel_rfl))
        | (refine GS.step (s' := ?_) ?_ ?_ ?_; rotate_left; (· exact rfl); (· (simp [go_sem, List.take_of_length_le] <;> with_reducible rfl)))
        | (refine GS.skip ?_ ?_ ?_; (· exact rfl); (· exact rfl))
        | (refine Gd.go (s' := ?_) ?_ ?_ ?_; rotate_left; (· exact rfl); (· (simp [go_sem, List.take_of_length_le] <;> with_reducible rfl)))
        | (refine Gd.skip ?_ ?_ ?_; (· exact rfl); (· exact rfl))
        | fail
      refine ⟨i + 1, ⟨by omega, fun j hj z hxj => ?_⟩, by omega, ?_⟩
      · by_cases e : j = i
        · subst e; rw [hxi] at hxj; cases hxj; exact he
        · exact hno j (by omega) z hxj
      rw [wr64_id (by omega) (by omega)]
      exact Cov.ofn (id) rfl (by simp [go_sem, List.take_of_length_le, ren, ren1, ren2, okr, okr1, okr2, ChkT, ChkN, BlkN, nf, nodeC]) (by simp [go_sem, List.take_of_length_le, ren, ren1, ren2, okr, okr1, okr2, ChkT, ChkN, BlkN, nf, nodeC])
  · have hle : i = ns.length := by
      have : ¬ i < ns.length := by simpa using hl
      omega
    rw [fstX_no ns 0 (not_memX fun j z hj => hno j (by have := (List.getElem?_eq_some_iff.1 hj).1; omega) z hj)]
    repeat' first
      | (refine Holds.condT ?_ ?_; (· (simp [go_sem, List.take_of_length_le] <;> with_reducible rfl)))
      | (refine Holds.condF ?_ ?_; (· (simp [go_sem, List.take_of_length_le] <;> with_reducible rfl)))
      | refine Holds.seq ?_
      | refine Holds.skip ?_
      | refine Holds.exit ?_
      | refine Holds.ret ?_
      | refine thenA_normal ?_
      | refine thenA_exit ?_
      | refine thenA_ret ?_
      | refine inB_normal ?_
      | refine inB_ret ?_
      | refine inB_here ?_
      | (refine inB_past ?_ ?_; (· exact rfl))
      | refine Holds.reg ?_
      | refine Holds.block ?_
      | refine GS.nil ?_
      | refine Gd.nil ?_
      | (refine Holds.any mixed ?_ ?_; (· kernel_rfl))
      | (refine GS.step (s' := ?_) ?_ ?_ ?_; rotate_left; (· exact rfl); (· (simp [go_sem, List.take_of_length_le] <;> with_reducible rfl)))
      | (refine GS.skip ?_ ?_ ?_; (· exact rfl); (· exact rfl))
      | (refine Gd.go (s' := ?_) ?_ ?_ ?_; rotate_left; (· exact rfl); (· (simp [go_sem, List.take_of_length_le] <;> with_reducible rfl)))
      | (refine Gd.skip ?_ ?_ ?_; (· exact rfl); (· exact rfl))
      | fail
    refine Out.mk (xs := ?_) ?_ ?_ (by first | exact .inr rfl | exact .inl rfl)
    rotate_left
    · simp [go_sem, List.take_of_length_le] <;> with_reducible rfl
    exact .v _
theorem l9Kids (g : GrammarT) (rule : Int) (cuts : List Int) {k0 : Nat} {r : RuleT} (hk0 : rule = k0) (hr : g.2.2[k0]? = some r) (h4 : r.2.length ≤ 4) (hc : cuts.length = r.2.length + 1) : Pure Try.prog 45 [.ag (grammarC g), .v (.int .i64 rule), .im 1 (ints cuts)] (.im 3 (nodes (nodesK cuts 0 r.2))) := by
  subst hk0
  refine Pure.mk (rs := [.tmp 6]) (nt := 40) Try.func45 (by kernel_rfl) rfl rfl rfl (by simp) ?_
  simp only [sl, grammarC]
  repeat' first
    | (refine Holds.condT ?_ ?_; (· (simp [go_sem, List.take_of_length_le, hr, ruleC] <;> with_reducible rfl)))
    | (refine Holds.condF ?_ ?_; (· (simp [go_sem, List.take_of_length_le, hr, ruleC] <;> with_reducible rfl)))
    | refine Holds.seq ?_
    | refine Holds.skip ?_
    | refine Holds.exit ?_
    | refine Holds.ret ?_
    | refine thenA_normal ?_
    | refine thenA_exit ?_
    | refine thenA_ret ?_
    | refine inB_normal ?_
    | refine inB_ret ?_
    | refine inB_here ?_
    | (refine inB_past ?_ ?_; (· exact rfl))
    | refine Holds.reg ?_
    | refine Holds.block ?_
    | refine GS.nil ?_
    | refine Gd.nil ?_
    | (refine Holds.any mixed ?_ ?_; (· kernel_rfl))
    | (refine GS.step (s' := ?_) ?_ ?_ ?_; rotate_left; (· exact rfl); (· (simp [go_sem, List.take_of_length_le, hr, ruleC] <;> with_reducible rfl)))
    | (refine GS.skip ?_ ?_ ?_; (· exact rfl); (· exact rfl))
    | (refine Gd.go (s' := ?_) ?_ ?_ ?_; rotate_left; (· exact rfl); (· (simp [go_sem, List.take_of_length_le, hr, ruleC] <;> with_reducible rfl)))
    | (refine Gd.skip ?_ ?_ ?_; (· exact rfl); (· exact rfl))
    | fail
  refine Holds.niw 7 82 3 rfl ?_
  refine Holds.loop (ι := Nat × List Node3) (fun i => ⟨[(2, .im 1 (ints cuts)), (3, .pb 0 3 0 0), (7, .own 1 3 0 i.2.length), (15, .im 1 (ints r.2)), (16, .v (.int .i64 r.2.length)), (17, .v (.int .i64 i.1))], [(1, ⟨82, 3, nodes i.2⟩), (0, ⟨36, 3, [grammarC g]⟩)], 2⟩)
    (fun i => i.1 ≤ r.2.length ∧ i.2.length ≤ i.1 ∧ i.2 ++ nodesK cuts i.1 (r.2.drop i.1) = nodesK cuts 0 r.2) (fun i => r.2.length - i.1) (0, []) ⟨Nat.zero_le _, Nat.le_refl _, rfl⟩ ?_ ?_
  · exact Cov.ofn (id) rfl (by simp [go_sem, List.take_of_length_le, ren, ren1, ren2, okr, okr1, okr2, ChkT, ChkN, BlkN, nf, niw, grammarC, nodes]) (by simp [go_sem, List.take_of_length_le, ren, ren1, ren2, okr, okr1, okr2, ChkT, ChkN, BlkN, nf, niw, grammarC, nodes])
  rintro ⟨k, L⟩ ⟨hk, hL, hfold⟩
  dsimp only at hk hL hfold ⊢
  have stepk : wr64 ((k : Int) + 1) = ((k + 1 : Nat) : Int) := wr64_id (by omega) (by omega)
  repeat' first
    | (refine Holds.condT ?_ ?_; (· (simp [go_sem, List.take_of_length_le] <;> with_reducible rfl)))
    | (refine Holds.condF ?_ ?_; (· (simp [go_sem, List.take_of_length_le] <;> with_reducible rfl)))
    | refine Holds.seq ?_
    | refine Holds.skip ?_
    | refine Holds.exit ?_
    | refine Holds.ret ?_
    | refine thenA_normal ?_
    | refine thenA_exit ?_
    | refine thenA_ret ?_
    | refine inB_normal ?_
    | refine inB_ret ?_
    | refine inB_here ?_
    | (refine inB_past ?_ ?_; (· exact rfl))
    | refine Holds.reg ?_
    | refine Holds.block ?_
    | refine GS.nil ?_
    | refine Gd.nil ?_
    | (refine Holds.any mixed ?_ ?_; (· kernel_rfl))
    | (refine GS.step (s' := ?_) ?_ ?_ ?_; rotate_left; (· exact rfl); (· (simp [go_sem, List.take_of_length_le] <;> with_reducible rfl)))
    | (refine GS.skip ?_ ?_ ?_; (· exact rfl); (· exact rfl))
    | (refine Gd.go (s' := ?_) ?_ ?_ ?_; rotate_left; (· exact rfl); (· (simp [go_sem, List.take_of_length_le] <;> with_reducible rfl)))
    | (refine Gd.skip ?_ ?_ ?_; (· exact rfl); (· exact rfl))
    | fail
  refine Holds.cond rfl (fun h => ?_) (fun h => ?_)
  · have hlt : k < r.2.length := by simp at h; omega
    have hxi : r.2[k]? = some r.2[k] := List.getElem?_eq_getElem hlt
    generalize r.2[k] = x at hxi
    rw [nodesK_drop hxi] at hfold
    have hl0 : k < cuts.length := by omega
    have hl1 : k + 1 < cuts.length := by omega
    have h01 : (0 : Int) ≤ (k : Int) + 1 := by omega
    rw [show cuts.getD k 0 = cuts[k] by simp [hl0], show cuts.getD (k + 1) 0 = cuts[k + 1] by simp [hl1]] at hfold
    by_cases hx : x < 0
    · rw [if_pos hx] at hfold
      have hx' : ¬ 0 ≤ x := by omega
      repeat' first
        | (refine Holds.condT ?_ ?_; (· (simp [go_sem, List.take_of_length_le, hxi, hx, hx'] <;> with_reducible rfl)))
        | (refine Holds.condF ?_ ?_; (· (simp [go_sem, List.take_of_length_le, hxi, hx, hx'] <;> with_reducible rfl)))
        | refine Holds.seq ?_
        | refine Holds.skip ?_
        | refine Holds.exit ?_
        | refine Holds.ret ?_
        | refine thenA_normal ?_
        | refine thenA_exit ?_
        | refine thenA_ret ?_
        | refine inB_normal ?_
        | refine inB_ret ?_
        | refine inB_here ?_
        | (refine inB_past ?_ ?_; (· exact rfl))
        | refine Holds.reg ?_
        | refine Holds.block ?_
        | refine GS.nil ?_
        | refine Gd.nil ?_
        | (refine Holds.any mixed ?_ ?_; (· kernel_rfl))
        | (refine GS.step (s' := ?_) ?_ ?_ ?_; rotate_left; (· exact rfl); (· (simp [go_sem, List.take_of_length_le, hxi, hx, hx'] <;> with_reducible rfl)))
        | (refine GS.skip ?_ ?_ ?_; (· exact rfl); (· exact rfl))
        | (refine Gd.go (s' := ?_) ?_ ?_ ?_; rotate_left; (· exact rfl); (· (simp [go_sem, List.take_of_length_le, hxi, hx, hx'] <;> with_reducible rfl)))
        | (refine Gd.skip ?_ ?_ ?_; (· exact rfl); (· exact rfl))
        | fail
      refine ⟨(k + 1, L), ⟨by dsimp only; omega, by dsimp only; omega, hfold⟩, by dsimp only; omega, ?_⟩
      rw [stepk]
      exact Cov.ofn (id) rfl (by simp [go_sem, List.take_of_length_le, ren, ren1, ren2, okr, okr1, okr2, ChkT, ChkN, BlkN, nf, grammarC]) (by simp [go_sem, List.take_of_length_le, ren, ren1, ren2, okr, okr1, okr2, ChkT, ChkN, BlkN, nf, grammarC])
    · rw [if_neg hx] at hfold
      have hx' : 0 ≤ x := by omega
      have hb : (L.length + 1) * 24 ≤ 140737488355328 := by omega
      repeat' first
        | (refine Holds.condT ?_ ?_; (· (simp [go_sem, List.take_of_length_le, hxi, hx, hx'] <;> with_reducible rfl)))
        | (refine Holds.condF ?_ ?_; (· (simp [go_sem, List.take_of_length_le, hxi, hx, hx'] <;> with_reducible rfl)))
        | refine Holds.seq ?_
        | refine Holds.skip ?_
        | refine Holds.exit ?_
        | refine Holds.ret ?_
        | refine thenA_normal ?_
        | refine thenA_exit ?_
        | refine thenA_ret ?_
        | refine inB_normal ?_
        | refine inB_ret ?_
        | refine inB_here ?_
        | (refine inB_past ?_ ?_; (· exact rfl))
        | refine Holds.reg ?_
        | refine Holds.block ?_
        | refine GS.nil ?_
        | refine Gd.nil ?_
        | (refine GS.step (s' := ?_) ?_ ?_ ?_; rotate_left; (· exact rfl); (· (simp [go_sem, List.take_of_length_le, hxi, hx, hx'] <;> with_reducible rfl)))
        | (refine GS.skip ?_ ?_ ?_; (· exact rfl); (· exact rfl))
        | (refine Gd.go (s' := ?_) ?_ ?_ ?_; rotate_left; (· exact rfl); (· (simp [go_sem, List.take_of_length_le, hxi, hx, hx'] <;> with_reducible rfl)))
        | (refine Gd.skip ?_ ?_ ?_; (· exact rfl); (· exact rfl))
        | fail
      refine Holds.anx [11, 12, 1013] [0] (fun n => decide (2 ≤ n)) mixed ?_ ?_ ?_; (· kernel_rfl); (· kernel_rfl)
      repeat' first
        | (refine Holds.condT ?_ ?_; (· (simp [go_sem, List.take_of_length_le, stepk, h01, hl0, hl1, hb] <;> with_reducible rfl)))
        | (refine Holds.condF ?_ ?_; (· (simp [go_sem, List.take_of_length_le, stepk, h01, hl0, hl1, hb] <;> with_reducible rfl)))
        | refine Holds.seq ?_
        | refine Holds.skip ?_
        | refine Holds.exit ?_
        | refine Holds.ret ?_
        | refine thenA_normal ?_
        | refine thenA_exit ?_
        | refine thenA_ret ?_
        | refine inB_normal ?_
        | refine inB_ret ?_
        | refine inB_here ?_
        | (refine inB_past ?_ ?_; (· exact rfl))
        | refine Holds.reg ?_
        | refine Holds.block ?_
        | refine GS.nil ?_
        | refine Gd.nil ?_
        | (refine GS.step (s' := ?_) ?_ ?_ ?_; rotate_left; (· exact rfl); (· (simp [go_sem, List.take_of_length_le, stepk, h01, hl0, hl1, hb] <;> with_reducible rfl)))
        | (refine GS.skip ?_ ?_ ?_; (· exact rfl); (· exact rfl))
        | (refine Gd.go (s' := ?_) ?_ ?_ ?_; rotate_left; (· exact rfl); (· (simp [go_sem, List.take_of_length_le, stepk, h01, hl0, hl1, hb] <;> with_reducible rfl)))
        | (refine Gd.skip ?_ ?_ ?_; (· exact rfl); (· exact rfl))
        | refine Gx.nil ?_
        | (refine Gx.go (s' := ?_) rfl ?_ ?_ ?_; rotate_left; (· exact rfl); (· (simp [go_sem, List.take_of_length_le, stepk, h01, hl0, hl1, hb] <;> with_reducible rfl)))
        | (refine Gx.skip rfl ?_ ?_ ?_; (· exact rfl); (· exact rfl))
        | (refine Gx.skipO rfl ?_ ?_ ?_; (· exact rfl); (· exact rfl))
        | (refine Gx.wo (s' := ?_) rfl ?_ ?_ ?_; rotate_left; (· exact rfl); (· (simp [go_sem, List.take_of_length_le, stepk, h01, hl0, hl1, hb] <;> with_reducible rfl)))
        | (refine Gx.skipW rfl ?_ ?_ ?_; (· exact rfl); (· exact rfl))
        | (refine Gx.skipH rfl ?_ ?_ ?_; (· exact rfl); (· exact rfl))
        | (refine Gx.hid (r := ?_) rfl ?_ ?_ ?_ ?_; rotate_left; (· exact rfl); (· exact rfl); (· (simp [go_sem, List.take_of_length_le, stepk, h01, hl0, hl1, hb] <;> with_reducible rfl)))
        | (refine Gx.wr (s' := ?_) rfl ?_ ?_ ?_ ?_; rotate_left; (· exact rfl); (· (simp [go_sem, List.take_of_length_le, stepk, h01, hl0, hl1, hb] <;> with_reducible rfl)); (· (simp [go_sem, List.take_of_length_le, stepk, h01, hl0, hl1, hb])))
        | fail
      refine ⟨(k + 1, L ++ [(x, cuts[k], cuts[k + 1])]), ⟨by dsimp only; omega, by simp; omega, by simpa using hfold⟩, by dsimp only; omega, ?_⟩
      dsimp only
      rw [← nodes_snoc]
      exact Cov.ofn (nm [0, 4]) rfl (by simp [go_sem, List.take_of_length_le, ren, ren1, ren2, okr, okr1, okr2, ChkT, ChkN, BlkN, nf, grammarC, nodeC]) (by simp [go_sem, List.take_of_length_le, ren, ren1, ren2, okr, okr1, okr2, ChkT, ChkN, BlkN, nf, grammarC, nodeC])
  · have hlt : k = r.2.length := by simp at h; omega
    subst hlt
    rw [List.drop_length, nodesK, List.append_nil] at hfold
    subst hfold
    repeat' first
      | (refine Holds.condT ?_ ?_; (· (simp [go_sem, List.take_of_length_le] <;> with_reducible rfl)))
      | (refine Holds.condF ?_ ?_; (· (simp [go_sem, List.take_of_length_le] <;> with_reducible rfl)))
      | refine Holds.seq ?_
      | refine Holds.skip ?_
      | refine Holds.exit ?_
      | refine Holds.ret ?_
      | refine thenA_normal ?_
      | refine thenA_exit ?_
      | refine thenA_ret ?_
      | refine inB_normal ?_
      | refine inB_ret ?_
      | refine inB_here ?_
      | (refine inB_past ?_ ?_; (· exact rfl))
      | refine Holds.reg ?_
      | refine Holds.block ?_
      | refine GS.nil ?_
      | refine Gd.nil ?_
      | (refine Holds.any mixed ?_ ?_; (· kernel_rfl))
      | (refine GS.step (s' := ?_) ?_ ?_ ?_; rotate_left; (· exact rfl); (· (simp [go_sem, List.take_of_length_le] <;> with_reducible rfl)))
      | (refine GS.skip ?_ ?_ ?_; (· exact rfl); (· exact rfl))
      | (refine Gd.go (s' := ?_) ?_ ?_ ?_; rotate_left; (· exact rfl); (· (simp [go_sem, List.take_of_length_le] <;> with_reducible rfl)))
      | (refine Gd.skip ?_ ?_ ?_; (· exact rfl); (· exact rfl))
      | refine Gx.nil ?_
      | (refine Gx.go (s' := ?_) rfl ?_ ?_ ?_; rotate_left; (· exact rfl); (· (simp [go_sem, List.take_of_length_le] <;> with_reducible rfl)))
      | (refine Gx.skip rfl ?_ ?_ ?_; (· exact rfl); (· exact rfl))
      | (refine Gx.skipO rfl ?_ ?_ ?_; (· exact rfl); (· exact rfl))
      | (refine Gx.wo (s' := ?_) rfl ?_ ?_ ?_; rotate_left; (· exact rfl); (· (simp [go_sem, List.take_of_length_le] <;> with_reducible rfl)))
      | (refine Gx.skipW rfl ?_ ?_ ?_; (· exact rfl); (· exact rfl))
      | (refine Gx.skipH rfl ?_ ?_ ?_; (· exact rfl); (· exact rfl))
      | (refine Gx.hid (r := ?_) rfl ?_ ?_ ?_ ?_; rotate_left; (· exact rfl); (· exact rfl); (· (simp [go_sem, List.take_of_length_le] <;> with_reducible rfl)))
      | (refine Gx.wr (s' := ?_) rfl ?_ ?_ ?_ ?_; rotate_left; (· exact rfl); (· (simp [go_sem, List.take_of_length_le] <;> with_reducible rfl)); (· (simp [go_sem, List.take_of_length_le])))
      | fail
    refine Out.mk (xs := ?_) ?_ ?_ (by first | exact .inr rfl | exact .inl rfl)
    rotate_left
    · simp [go_sem, List.take_of_length_le] <;> with_reducible rfl
    exact Fz.all rfl rfl (by simp) rfl (nodes_ok _)
end Go.Proofs.Ytjgeklhocjcgjaa.En
end
section
namespace Go.Proofs.Ytjgeklhocjcgjaa.En
open Go.RowKit
set_option linter.unusedSimpArgs false
set_option linter.unusedVariables false
theorem szEs_wt : ∀ (es : List Edge3) (n : Int), 0 ≤ szEs n es → szEs n es + (wtL (fun e : Edge3 => e.2.2.length) es : Int) ≤ n
  | [], n, h => by simp [szEs, wtL]
  | e :: es, n, h => by
    unfold szEs at h ⊢
    split at h
    · omega
    · rename_i g
      rw [if_neg g]
      have h1 := less_wt (n := n) (k := e.2.2.length) (by omega)
      have h2 := szEs_wt es _ h
      simp only [wtL]; omega
theorem szForest_wt {n : Int} {x : ForestT} (h : 0 ≤ szForestF n x) : (wForest x : Int) ≤ 3 * n := by
  unfold szForestF szF at h
  split at h
  · omega
  · rename_i g
    have h1 := less_wt (n := n) (k := x.1.length) (by omega)
    unfold szEsAll at h
    split at h
    · omega
    · have h2 := szEs_wt x.2 _ h
      have e1 : wtL wNode x.1 = 3 * x.1.length := by rw [show wNode = fun _ => 3 from funext fun _ => rfl, wtL_const]
      have e2 : wtL wEdge x.2 = 2 * x.2.length + wtL (fun e : Edge3 => e.2.2.length) x.2 := by
        rw [show wEdge = fun e : Edge3 => (fun _ => 2) e + (fun y : Edge3 => y.2.2.length) e from funext fun e => by simp [wEdge], wtL_add, wtL_const]
      unfold wForest
      rw [e1, e2]
      omega
end Go.Proofs.Ytjgeklhocjcgjaa.En
end
section
namespace Go.Proofs.Ytjgeklhocjcgjaa.En
open Go.RowKit
set_option linter.unusedSimpArgs false
set_option linter.unusedVariables false
set_option maxHeartbeats 8000000
theorem rule_at {g : GrammarT} {e : Edge3} (h : inR e.2.1 0 ((g.2.2.length : Int) - 1) = true) : ∃ k : Nat, e.2.1 = k ∧ k < g.2.2.length ∧ g.2.2[k]? = some (ruleE g e) := by
  have h' : 0 ≤ e.2.1 ∧ e.2.1 ≤ (g.2.2.length : Int) - 1 := by simpa [inR] using h
  refine ⟨e.2.1.toNat, by omega, by omega, ?_⟩
  rw [ruleE, List.getD_eq_getElem?_getD, List.getElem?_eq_getElem (by omega)]; rfl
theorem l9Sized' (f : ForestT) : Pure Try.prog 24 [.ag (forestC f)] (.v (.bool (decide (f.1.length ≤ 600) && decide (f.2.length ≤ 600)))) := by
  refine Pure.mk (rs := [.tmp 2]) (nt := 13) Try.func24 (by kernel_rfl) rfl rfl rfl (by simp) ?_
  simp only [sl, forestC]
  by_cases h1 : f.1.length ≤ 600
  · have h1' : (f.1.length : Int) ≤ 600 := by omega
    by_cases h2 : f.2.length ≤ 600
    · have h2' : (f.2.length : Int) ≤ 600 := by omega
      simp only [h1, h2, decide_true, Bool.and_self]
      repeat' first
        | (refine Holds.condT ?_ ?_; (· (simp [go_sem, List.take_of_length_le, h1, h1', h2, h2'] <;> with_reducible rfl)))
        | (refine Holds.condF ?_ ?_; (· (simp [go_sem, List.take_of_length_le, h1, h1', h2, h2'] <;> with_reducible rfl)))
        | refine Holds.seq ?_
        | refine Holds.skip ?_
        | refine Holds.exit ?_
        | refine Holds.ret ?_
        | refine thenA_normal ?_
        | refine thenA_exit ?_
        | refine thenA_ret ?_
        | refine inB_normal ?_
        | refine inB_ret ?_
        | refine inB_here ?_
        | (refine inB_past ?_ ?_; (· exact rfl))
        | refine Holds.reg ?_
        | refine Holds.block ?_
        | refine GS.nil ?_
        | (refine GS.step (s' := ?_) ?_ ?_ ?_; rotate_left; (· exact rfl); (· (simp [go_sem, List.take_of_length_le, h1, h1', h2, h2'] <;> with_reducible rfl)))
        | (refine GS.skip ?_ ?_ ?_; (· exact rfl); (· exact rfl))
        | fail
      refine Out.mk (xs := ?_) ?_ ?_ (by first | exact .inr rfl | exact .inl rfl)
      rotate_left
      · simp [go_sem, List.take_of_length_le] <;> with_reducible rfl
      exact .v _
    · have h2' : ¬ (f.2.length : Int) ≤ 600 := by omega
      simp only [h1, h2, decide_true, decide_false, Bool.and_false]
      repeat' first
        | (refine Holds.condT ?_ ?_; (· (simp [go_sem, List.take_of_length_le, h1, h1', h2, h2'] <;> with_reducible rfl)))
        | (refine Holds.condF ?_ ?_; (· (simp [go_sem, List.take_of_length_le, h1, h1', h2, h2'] <;> with_reducible rfl)))
        | refine Holds.seq ?_
        | refine Holds.skip ?_
        | refine Holds.exit ?_
        | refine Holds.ret ?_
        | refine thenA_normal ?_
        | refine thenA_exit ?_
        | refine thenA_ret ?_
        | refine inB_normal ?_
        | refine inB_ret ?_
        | refine inB_here ?_
        | (refine inB_past ?_ ?_; (· exact rfl))
        | refine Holds.reg ?_
        | refine Holds.block ?_
        | refine GS.nil ?_
        | (refine GS.step (s' := ?_) ?_ ?_ ?_; rotate_left; (· exact rfl); (· (simp [go_sem, List.take_of_length_le, h1, h1', h2, h2'] <;> with_reducible rfl)))
        | (refine GS.skip ?_ ?_ ?_; (· exact rfl); (· exact rfl))
        | fail
      refine Out.mk (xs := ?_) ?_ ?_ (by first | exact .inr rfl | exact .inl rfl)
      rotate_left
      · simp [go_sem, List.take_of_length_le] <;> with_reducible rfl
      exact .v _
  · have h1' : ¬ (f.1.length : Int) ≤ 600 := by omega
    simp only [h1, decide_false, Bool.false_and]
    repeat' first
      | (refine Holds.condT ?_ ?_; (· (simp [go_sem, List.take_of_length_le, h1, h1'] <;> with_reducible rfl)))
      | (refine Holds.condF ?_ ?_; (· (simp [go_sem, List.take_of_length_le, h1, h1'] <;> with_reducible rfl)))
      | refine Holds.seq ?_
      | refine Holds.skip ?_
      | refine Holds.exit ?_
      | refine Holds.ret ?_
      | refine thenA_normal ?_
      | refine thenA_exit ?_
      | refine thenA_ret ?_
      | refine inB_normal ?_
      | refine inB_ret ?_
      | refine inB_here ?_
      | (refine inB_past ?_ ?_; (· exact rfl))
      | refine Holds.reg ?_
      | refine Holds.block ?_
      | refine GS.nil ?_
      | (refine GS.step (s' := ?_) ?_ ?_ ?_; rotate_left; (· exact rfl); (· (simp [go_sem, List.take_of_length_le, h1, h1'] <;> with_reducible rfl)))
      | (refine GS.skip ?_ ?_ ?_; (· exact rfl); (· exact rfl))
      | fail
    refine Out.mk (xs := ?_) ?_ ?_ (by first | exact .inr rfl | exact .inl rfl)
    rotate_left
    · simp [go_sem, List.take_of_length_le] <;> with_reducible rfl
    exact .v _
theorem l9Children (g : GrammarT) (hg : goodG g = true) (f : ForestT) (e : Edge3) (hn : f.1.length ≤ 600) (hc : e.2.2.length < 35184372088832) : Pure Try.prog 26 [.ag (grammarC g), .ag (forestC f), .ag (edgeC e)] (.tu [.im 1 (ints (kidsE g f e).1), .v (.bool (kidsE g f e).2)]) := by
  have hG : g.2.2.length ≤ 16 := by simp only [goodG, Bool.and_eq_true, decide_eq_true_eq] at hg; exact hg.1.2
  have hw : wr64 ((g.2.2.length : Int) - 1) = (g.2.2.length : Int) - 1 := wr64_id (by omega) (by omega)
  have c1 := l1In e.2.1 0 ((g.2.2.length : Int) - 1)
  unfold kidsE
  refine Pure.mk (rs := [.tmp 6, .tmp 7]) (nt := 58) Try.func26 (by kernel_rfl) rfl rfl rfl (by simp) ?_
  simp only [sl, grammarC, forestC, edgeC]
  repeat' first
    | (refine Holds.condT ?_ ?_; (· (simp [go_sem, List.take_of_length_le, hw] <;> with_reducible rfl)))
    | (refine Holds.condF ?_ ?_; (· (simp [go_sem, List.take_of_length_le, hw] <;> with_reducible rfl)))
    | refine Holds.seq ?_
    | refine Holds.skip ?_
    | refine Holds.exit ?_
    | refine Holds.ret ?_
    | refine thenA_normal ?_
    | refine thenA_exit ?_
    | refine thenA_ret ?_
    | refine inB_normal ?_
    | refine inB_ret ?_
    | refine inB_here ?_
    | (refine inB_past ?_ ?_; (· exact rfl))
    | refine Holds.reg ?_
    | refine Holds.block ?_
    | refine GS.nil ?_
    | refine Gd.nil ?_
    | (refine Holds.any mixed ?_ ?_; (· kernel_rfl))
    | (refine GS.step (s' := ?_) ?_ ?_ ?_; rotate_left; (· exact rfl); (· (simp [go_sem, List.take_of_length_le, hw] <;> with_reducible rfl)))
    | (refine GS.skip ?_ ?_ ?_; (· exact rfl); (· exact rfl))
    | (refine Gd.go (s' := ?_) ?_ ?_ ?_; rotate_left; (· exact rfl); (· (simp [go_sem, List.take_of_length_le, hw] <;> with_reducible rfl)))
    | (refine Gd.skip ?_ ?_ ?_; (· exact rfl); (· exact rfl))
    | fail
  cases hi : inR e.2.1 0 ((g.2.2.length : Int) - 1) with
  | false =>
    rw [hi] at c1
    first | refine GS.cc (c1) rfl rfl rfl rfl (by simp [go_sem, List.take_of_length_le] <;> with_reducible rfl) rfl (by simp [go_sem, List.take_of_length_le]) ?_ | refine Gd.cc (c1) rfl rfl rfl rfl (by simp [go_sem, List.take_of_length_le] <;> with_reducible rfl) rfl (by simp [go_sem, List.take_of_length_le]) ?_
    repeat' first
      | (refine Holds.condT ?_ ?_; (· (simp [go_sem, List.take_of_length_le] <;> with_reducible rfl)))
      | (refine Holds.condF ?_ ?_; (· (simp [go_sem, List.take_of_length_le] <;> with_reducible rfl)))
      | refine Holds.seq ?_
      | refine Holds.skip ?_
      | refine Holds.exit ?_
      | refine Holds.ret ?_
      | refine thenA_normal ?_
      | refine thenA_exit ?_
      | refine thenA_ret ?_
      | refine inB_normal ?_
      | refine inB_ret ?_
      | refine inB_here ?_
      | (refine inB_past ?_ ?_; (· exact rfl))
      | refine Holds.reg ?_
      | refine Holds.block ?_
      | refine GS.nil ?_
      | refine Gd.nil ?_
      | (refine Holds.any mixed ?_ ?_; (· kernel_rfl))
      | (refine GS.step (s' := ?_) ?_ ?_ ?_; rotate_left; (· exact rfl); (· (simp [go_sem, List.take_of_length_le] <;> with_reducible rfl)))
      | (refine GS.skip ?_ ?_ ?_; (· exact rfl); (· exact rfl))
      | (refine Gd.go (s' := ?_) ?_ ?_ ?_; rotate_left; (· exact rfl); (· (simp [go_sem, List.take_of_length_le] <;> with_reducible rfl)))
      | (refine Gd.skip ?_ ?_ ?_; (· exact rfl); (· exact rfl))
      | fail
    refine Out.mk (xs := ?_) ?_ ?_ (by first | exact .inr rfl | exact .inl rfl)
    rotate_left
    · simp [go_sem, List.take_of_length_le] <;> with_reducible rfl
    exact Fz.tuL (.cons (.nl 1) (.cons (.v _) .nil))
  | true =>
    rw [hi] at c1
    obtain ⟨k0, hk0, hkl, hr⟩ := rule_at hi
    have hr4 := (good_r4 hg hr).2
    generalize ruleE g e = r at hr hr4 ⊢
    obtain ⟨eN, eR, cuts⟩ := e
    dsimp only at hk0 hc c1 ⊢
    subst hk0
    have hw1 : wr64 ((r.2.length : Int) + 1) = ((r.2.length + 1 : Nat) : Int) := wr64_id (by omega) (by omega)
    by_cases hcl : cuts.length = r.2.length + 1
    · have hcl' : (cuts.length : Int) = ((r.2.length + 1 : Nat) : Int) := by omega
      simp only [hcl, decide_true, Bool.true_and, if_true]
      first | refine GS.cc (c1) rfl rfl rfl rfl (by simp [go_sem, List.take_of_length_le] <;> with_reducible rfl) rfl (by simp [go_sem, List.take_of_length_le]) ?_ | refine Gd.cc (c1) rfl rfl rfl rfl (by simp [go_sem, List.take_of_length_le] <;> with_reducible rfl) rfl (by simp [go_sem, List.take_of_length_le]) ?_
      repeat' first
        | (refine Holds.condT ?_ ?_; (· (simp [go_sem, List.take_of_length_le, hr, ruleC, hw1, hcl, hcl'] <;> with_reducible rfl)))
        | (refine Holds.condF ?_ ?_; (· (simp [go_sem, List.take_of_length_le, hr, ruleC, hw1, hcl, hcl'] <;> with_reducible rfl)))
        | refine Holds.seq ?_
        | refine Holds.skip ?_
        | refine Holds.exit ?_
        | refine Holds.ret ?_
        | refine thenA_normal ?_
        | refine thenA_exit ?_
        | refine thenA_ret ?_
        | refine inB_normal ?_
        | refine inB_ret ?_
        | refine inB_here ?_
        | (refine inB_past ?_ ?_; (· exact rfl))
        | refine Holds.reg ?_
        | refine Holds.block ?_
        | refine GS.nil ?_
        | refine Gd.nil ?_
        | (refine Holds.any mixed ?_ ?_; (· kernel_rfl))
        | (refine GS.step (s' := ?_) ?_ ?_ ?_; rotate_left; (· exact rfl); (· (simp [go_sem, List.take_of_length_le, hr, ruleC, hw1, hcl, hcl'] <;> with_reducible rfl)))
        | (refine GS.skip ?_ ?_ ?_; (· exact rfl); (· exact rfl))
        | (refine Gd.go (s' := ?_) ?_ ?_ ?_; rotate_left; (· exact rfl); (· (simp [go_sem, List.take_of_length_le, hr, ruleC, hw1, hcl, hcl'] <;> with_reducible rfl)))
        | (refine Gd.skip ?_ ?_ ?_; (· exact rfl); (· exact rfl))
        | fail
      have ck := l9Kids g (k0 : Int) cuts rfl hr hr4 hcl
      have hkl2 := nodesK_len cuts r.2 0
      generalize nodesK cuts 0 r.2 = ks at ck hkl2 ⊢
      first | refine GS.cc (ck) rfl rfl rfl rfl (by simp [go_sem, List.take_of_length_le, grammarC] <;> with_reducible rfl) rfl (by simp [go_sem, List.take_of_length_le, grammarC]) ?_ | refine Gd.cc (ck) rfl rfl rfl rfl (by simp [go_sem, List.take_of_length_le, grammarC] <;> with_reducible rfl) rfl (by simp [go_sem, List.take_of_length_le, grammarC]) ?_
      generalize hR : findK f.1 ks [] = R
      repeat' first
        | (refine Holds.condT ?_ ?_; (· (simp [go_sem, List.take_of_length_le] <;> with_reducible rfl)))
        | (refine Holds.condF ?_ ?_; (· (simp [go_sem, List.take_of_length_le] <;> with_reducible rfl)))
        | refine Holds.seq ?_
        | refine Holds.skip ?_
        | refine Holds.exit ?_
        | refine Holds.ret ?_
        | refine thenA_normal ?_
        | refine thenA_exit ?_
        | refine thenA_ret ?_
        | refine inB_normal ?_
        | refine inB_ret ?_
        | refine inB_here ?_
        | (refine inB_past ?_ ?_; (· exact rfl))
        | refine Holds.reg ?_
        | refine Holds.block ?_
        | refine GS.nil ?_
        | refine Gd.nil ?_
        | (refine Holds.any mixed ?_ ?_; (· kernel_rfl))
        | (refine GS.step (s' := ?_) ?_ ?_ ?_; rotate_left; (· exact rfl); (· (simp [go_sem, List.take_of_length_le] <;> with_reducible rfl)))
        | (refine GS.skip ?_ ?_ ?_; (· exact rfl); (· exact rfl))
        | (refine Gd.go (s' := ?_) ?_ ?_ ?_; rotate_left; (· exact rfl); (· (simp [go_sem, List.take_of_length_le] <;> with_reducible rfl)))
        | (refine Gd.skip ?_ ?_ ?_; (· exact rfl); (· exact rfl))
        | fail
      refine Holds.niw 8 3 1 rfl ?_
      refine Holds.loop (ι := Nat × List Int) (fun i => ⟨[(4, .pb 1 2 0 0), (8, .own 3 1 0 i.2.length), (40, .im 3 (nodes ks)), (41, .v (.int .i64 ks.length)), (42, .v (.int .i64 i.1))], [(3, ⟨3, 1, ints i.2⟩), (1, ⟨41, 2, [forestC f]⟩)], 4⟩)
        (fun i => i.1 ≤ ks.length ∧ i.2.length ≤ i.1 ∧ findK f.1 (ks.drop i.1) i.2 = R) (fun i => ks.length - i.1) (0, []) ⟨Nat.zero_le _, Nat.le_refl _, hR⟩ ?_ ?_
      · exact Cov.ofn (id) rfl (by simp [go_sem, List.take_of_length_le, ren, ren1, ren2, okr, okr1, okr2, ChkT, ChkN, BlkN, nf, niw, forestC]) (by simp [go_sem, List.take_of_length_le, ren, ren1, ren2, okr, okr1, okr2, ChkT, ChkN, BlkN, nf, niw, forestC])
      rintro ⟨k, L⟩ ⟨hk, hL, hfold⟩
      dsimp only at hk hL hfold ⊢
      have stepk : wr64 ((k : Int) + 1) = ((k + 1 : Nat) : Int) := wr64_id (by omega) (by omega)
      repeat' first
        | (refine Holds.condT ?_ ?_; (· (simp [go_sem, List.take_of_length_le] <;> with_reducible rfl)))
        | (refine Holds.condF ?_ ?_; (· (simp [go_sem, List.take_of_length_le] <;> with_reducible rfl)))
        | refine Holds.seq ?_
        | refine Holds.skip ?_
        | refine Holds.exit ?_
        | refine Holds.ret ?_
        | refine thenA_normal ?_
        | refine thenA_exit ?_
        | refine thenA_ret ?_
        | refine inB_normal ?_
        | refine inB_ret ?_
        | refine inB_here ?_
        | (refine inB_past ?_ ?_; (· exact rfl))
        | refine Holds.reg ?_
        | refine Holds.block ?_
        | refine GS.nil ?_
        | refine Gd.nil ?_
        | (refine Holds.any mixed ?_ ?_; (· kernel_rfl))
        | (refine GS.step (s' := ?_) ?_ ?_ ?_; rotate_left; (· exact rfl); (· (simp [go_sem, List.take_of_length_le] <;> with_reducible rfl)))
        | (refine GS.skip ?_ ?_ ?_; (· exact rfl); (· exact rfl))
        | (refine Gd.go (s' := ?_) ?_ ?_ ?_; rotate_left; (· exact rfl); (· (simp [go_sem, List.take_of_length_le] <;> with_reducible rfl)))
        | (refine Gd.skip ?_ ?_ ?_; (· exact rfl); (· exact rfl))
        | fail
      refine Holds.cond rfl (fun h => ?_) (fun h => ?_)
      · have hlt : k < ks.length := by simp at h; omega
        have hxi : ks[k]? = some ks[k] := List.getElem?_eq_getElem hlt
        generalize ks[k] = x at hxi
        rw [findK_drop L hxi] at hfold
        have ca := l9At f.1 x (by omega)
        generalize fstX f.1 x 0 = q at ca hfold
        repeat' first
          | (refine Holds.condT ?_ ?_; (· (simp [go_sem, List.take_of_length_le, hxi, nodeC, forestC] <;> with_reducible rfl)))
          | (refine Holds.condF ?_ ?_; (· (simp [go_sem, List.take_of_length_le, hxi, nodeC, forestC] <;> with_reducible rfl)))
          | refine Holds.seq ?_
          | refine Holds.skip ?_
          | refine Holds.exit ?_
          | refine Holds.ret ?_
          | refine thenA_normal ?_
          | refine thenA_exit ?_
          | refine thenA_ret ?_
          | refine inB_normal ?_
          | refine inB_ret ?_
          | refine inB_here ?_
          | (refine inB_past ?_ ?_; (· exact rfl))
          | refine Holds.reg ?_
          | refine Holds.block ?_
          | refine GS.nil ?_
          | refine Gd.nil ?_
          | (refine Holds.any mixed ?_ ?_; (· kernel_rfl))
          | (refine GS.step (s' := ?_) ?_ ?_ ?_; rotate_left; (· exact rfl); (· (simp [go_sem, List.take_of_length_le, hxi, nodeC, forestC] <;> with_reducible rfl)))
          | (refine GS.skip ?_ ?_ ?_; (· exact rfl); (· exact rfl))
          | (refine Gd.go (s' := ?_) ?_ ?_ ?_; rotate_left; (· exact rfl); (· (simp [go_sem, List.take_of_length_le, hxi, nodeC, forestC] <;> with_reducible rfl)))
          | (refine Gd.skip ?_ ?_ ?_; (· exact rfl); (· exact rfl))
          | fail
        first | refine GS.cc (ca) rfl rfl rfl rfl (by simp [go_sem, List.take_of_length_le, nodeC] <;> with_reducible rfl) rfl (by simp [go_sem, List.take_of_length_le, nodeC]) ?_ | refine Gd.cc (ca) rfl rfl rfl rfl (by simp [go_sem, List.take_of_length_le, nodeC] <;> with_reducible rfl) rfl (by simp [go_sem, List.take_of_length_le, nodeC]) ?_
        have hb : (L.length + 1) * 8 ≤ 140737488355328 := by omega
        by_cases hq : q < 0
        · rw [if_pos hq] at hfold
          subst hfold
          repeat' first
            | (refine Holds.condT ?_ ?_; (· (simp [go_sem, List.take_of_length_le, hq] <;> with_reducible rfl)))
            | (refine Holds.condF ?_ ?_; (· (simp [go_sem, List.take_of_length_le, hq] <;> with_reducible rfl)))
            | refine Holds.seq ?_
            | refine Holds.skip ?_
            | refine Holds.exit ?_
            | refine Holds.ret ?_
            | refine thenA_normal ?_
            | refine thenA_exit ?_
            | refine thenA_ret ?_
            | refine inB_normal ?_
            | refine inB_ret ?_
            | refine inB_here ?_
            | (refine inB_past ?_ ?_; (· exact rfl))
            | refine Holds.reg ?_
            | refine Holds.block ?_
            | refine GS.nil ?_
            | refine Gd.nil ?_
            | (refine Holds.any mixed ?_ ?_; (· kernel_rfl))
            | (refine GS.step (s' := ?_) ?_ ?_ ?_; rotate_left; (· exact rfl); (· (simp [go_sem, List.take_of_length_le, hq] <;> with_reducible rfl)))
            | (refine GS.skip ?_ ?_ ?_; (· exact rfl); (· exact rfl))
            | (refine Gd.go (s' := ?_) ?_ ?_ ?_; rotate_left; (· exact rfl); (· (simp [go_sem, List.take_of_length_le, hq] <;> with_reducible rfl)))
            | (refine Gd.skip ?_ ?_ ?_; (· exact rfl); (· exact rfl))
            | fail
          refine Out.mk (xs := ?_) ?_ ?_ (by first | exact .inr rfl | exact .inl rfl)
          rotate_left
          · simp [go_sem, List.take_of_length_le] <;> with_reducible rfl
          exact Fz.tuL (.cons (.nl 1) (.cons (.v _) .nil))
        · rw [if_neg hq] at hfold
          repeat' first
            | (refine Holds.condT ?_ ?_; (· (simp [go_sem, List.take_of_length_le, hq, hb] <;> with_reducible rfl)))
            | (refine Holds.condF ?_ ?_; (· (simp [go_sem, List.take_of_length_le, hq, hb] <;> with_reducible rfl)))
            | refine Holds.seq ?_
            | refine Holds.skip ?_
            | refine Holds.exit ?_
            | refine Holds.ret ?_
            | refine thenA_normal ?_
            | refine thenA_exit ?_
            | refine thenA_ret ?_
            | refine inB_normal ?_
            | refine inB_ret ?_
            | refine inB_here ?_
            | (refine inB_past ?_ ?_; (· exact rfl))
            | refine Holds.reg ?_
            | refine Holds.block ?_
            | refine GS.nil ?_
            | refine Gd.nil ?_
            | (refine Holds.any mixed ?_ ?_; (· kernel_rfl))
            | (refine GS.step (s' := ?_) ?_ ?_ ?_; rotate_left; (· exact rfl); (· (simp [go_sem, List.take_of_length_le, hq, hb] <;> with_reducible rfl)))
            | (refine GS.skip ?_ ?_ ?_; (· exact rfl); (· exact rfl))
            | (refine Gd.go (s' := ?_) ?_ ?_ ?_; rotate_left; (· exact rfl); (· (simp [go_sem, List.take_of_length_le, hq, hb] <;> with_reducible rfl)))
            | (refine Gd.skip ?_ ?_ ?_; (· exact rfl); (· exact rfl))
            | fail
          refine ⟨(k + 1, L ++ [q]), ⟨by dsimp only; omega, by simp; omega, hfold⟩, by dsimp only; omega, ?_⟩
          rw [stepk]
          exact Cov.ofn (nm [0, 1, 2, 7]) rfl (by simp [go_sem, List.take_of_length_le, ren, ren1, ren2, okr, okr1, okr2, ChkT, ChkN, BlkN, nf, forestC, ints_snoc]) (by simp [go_sem, List.take_of_length_le, ren, ren1, ren2, okr, okr1, okr2, ChkT, ChkN, BlkN, nf, forestC, ints_snoc])
      · have hlt : k = ks.length := by simp at h; omega
        subst hlt
        rw [List.drop_length, findK] at hfold
        subst hfold
        repeat' first
          | (refine Holds.condT ?_ ?_; (· (simp [go_sem, List.take_of_length_le] <;> with_reducible rfl)))
          | (refine Holds.condF ?_ ?_; (· (simp [go_sem, List.take_of_length_le] <;> with_reducible rfl)))
          | refine Holds.seq ?_
          | refine Holds.skip ?_
          | refine Holds.exit ?_
          | refine Holds.ret ?_
          | refine thenA_normal ?_
          | refine thenA_exit ?_
          | refine thenA_ret ?_
          | refine inB_normal ?_
          | refine inB_ret ?_
          | refine inB_here ?_
          | (refine inB_past ?_ ?_; (· exact rfl))
          | refine Holds.reg ?_
          | refine Holds.block ?_
          | refine GS.nil ?_
          | refine Gd.nil ?_
          | (refine Holds.any mixed ?_ ?_; (· kernel_rfl))
          | (refine GS.step (s' := ?_) ?_ ?_ ?_; rotate_left; (· exact rfl); (· (simp [go_sem, List.take_of_length_le] <;> with_reducible rfl)))
          | (refine GS.skip ?_ ?_ ?_; (· exact rfl); (· exact rfl))
          | (refine Gd.go (s' := ?_) ?_ ?_ ?_; rotate_left; (· exact rfl); (· (simp [go_sem, List.take_of_length_le] <;> with_reducible rfl)))
          | (refine Gd.skip ?_ ?_ ?_; (· exact rfl); (· exact rfl))
          | fail
        refine Out.mk (xs := ?_) ?_ ?_ (by first | exact .inr rfl | exact .inl rfl)
        rotate_left
        · simp [go_sem, List.take_of_length_le] <;> with_reducible rfl
        exact Fz.tuL (.cons (Fz.all rfl rfl (by simp) rfl (ints_cl _)) (.cons (.v _) .nil))
    · have hcl' : ((cuts.length : Int) != (r.2.length : Int) + 1) = true := by simp; omega
      simp only [hcl, decide_false, Bool.and_false]
      first | refine GS.cc (c1) rfl rfl rfl rfl (by simp [go_sem, List.take_of_length_le] <;> with_reducible rfl) rfl (by simp [go_sem, List.take_of_length_le]) ?_ | refine Gd.cc (c1) rfl rfl rfl rfl (by simp [go_sem, List.take_of_length_le] <;> with_reducible rfl) rfl (by simp [go_sem, List.take_of_length_le]) ?_
      repeat' first
        | (refine Holds.condT ?_ ?_; (· (simp [go_sem, List.take_of_length_le, hr, ruleC, hw1, hcl, hcl'] <;> with_reducible rfl)))
        | (refine Holds.condF ?_ ?_; (· (simp [go_sem, List.take_of_length_le, hr, ruleC, hw1, hcl, hcl'] <;> with_reducible rfl)))
        | refine Holds.seq ?_
        | refine Holds.skip ?_
        | refine Holds.exit ?_
        | refine Holds.ret ?_
        | refine thenA_normal ?_
        | refine thenA_exit ?_
        | refine thenA_ret ?_
        | refine inB_normal ?_
        | refine inB_ret ?_
        | refine inB_here ?_
        | (refine inB_past ?_ ?_; (· exact rfl))
        | refine Holds.reg ?_
        | refine Holds.block ?_
        | refine GS.nil ?_
        | refine Gd.nil ?_
        | (refine Holds.any mixed ?_ ?_; (· kernel_rfl))
        | (refine GS.step (s' := ?_) ?_ ?_ ?_; rotate_left; (· exact rfl); (· (simp [go_sem, List.take_of_length_le, hr, ruleC, hw1, hcl, hcl'] <;> with_reducible rfl)))
        | (refine GS.skip ?_ ?_ ?_; (· exact rfl); (· exact rfl))
        | (refine Gd.go (s' := ?_) ?_ ?_ ?_; rotate_left; (· exact rfl); (· (simp [go_sem, List.take_of_length_le, hr, ruleC, hw1, hcl, hcl'] <;> with_reducible rfl)))
        | (refine Gd.skip ?_ ?_ ?_; (· exact rfl); (· exact rfl))
        | fail
      refine Out.mk (xs := ?_) ?_ ?_ (by first | exact .inr rfl | exact .inl rfl)
      rotate_left
      · simp [go_sem, List.take_of_length_le] <;> with_reducible rfl
      exact Fz.tuL (.cons (.nl 1) (.cons (.v _) .nil))
end Go.Proofs.Ytjgeklhocjcgjaa.En
end
