/- Walks of grammars: the specification's GoodGrammar. -/
import Derived.Test.YtaiefncpgkoniaaGb
namespace Go.Proofs.Ytaiefncpgkoniaa.En
open Go.RowKit
set_option linter.unusedSimpArgs false
set_option linter.unusedVariables false
set_option maxHeartbeats 8000000
theorem specGoodG (g : GrammarT) (hx : g.2.2.length < 4611686018427387904) (hs : ∀ e ∈ g.2.2, e.2.length < 4611686018427387904) : Pure Try.prog 36 [.ag (grammarC g)] (.v (.bool (goodG g))) := by
  refine Pure.mk (rs := [.tmp 2]) (nt := 72) Try.func36 (by kernel_rfl) rfl rfl rfl (by simp) ?_
  simp only [sl, grammarC]
  repeat' first
    | refine Holds.seq ?_
    | refine Holds.skip ?_
    | refine Holds.exit ?_
    | refine Holds.ret ?_
    | refine thenA_normal ?_
    | refine thenA_exit ?_
    | refine thenA_ret ?_
    | refine inB_normal ?_
    | refine inB_ret ?_
    | refine inB_here ?_
    | (refine inB_past ?_ ?_; (· exact rfl))
    | refine Holds.reg ?_
    | refine Holds.block ?_
    | refine GS.nil ?_
    | (refine GS.step (s' := ?_) ?_ ?_ ?_; rotate_left; (· exact rfl); (· (simp [go_sem, List.take_of_length_le] <;> with_reducible rfl)))
    | (refine GS.skip ?_ ?_ ?_; (· exact rfl); (· exact rfl))
    | fail
  refine GS.cc (l1In g.1 1 6) rfl rfl rfl rfl (by simp [go_sem, List.take_of_length_le] <;> with_reducible rfl) rfl (by simp [go_sem, List.take_of_length_le]) ?_
  generalize hg1 : inR g.1 1 6 = b1
  repeat' first
    | refine Holds.seq ?_
    | refine Holds.skip ?_
    | refine Holds.exit ?_
    | refine Holds.ret ?_
    | refine thenA_normal ?_
    | refine thenA_exit ?_
    | refine thenA_ret ?_
    | refine inB_normal ?_
    | refine inB_ret ?_
    | refine inB_here ?_
    | (refine inB_past ?_ ?_; (· exact rfl))
    | refine Holds.reg ?_
    | refine Holds.block ?_
    | refine GS.nil ?_
    | (refine GS.step (s' := ?_) ?_ ?_ ?_; rotate_left; (· exact rfl); (· (simp [go_sem, List.take_of_length_le] <;> with_reducible rfl)))
    | (refine GS.skip ?_ ?_ ?_; (· exact rfl); (· exact rfl))
    | fail
  refine GS.guard (t := 13) rfl (fun h => ?_) (fun h => ?_)
  · have h : b1 = false := by simpa using h
    subst h
    rw [show goodG g = false by rw [goodG, hg1]; rfl]
    repeat' first
      | refine Holds.seq ?_
      | refine Holds.skip ?_
      | refine Holds.exit ?_
      | refine Holds.ret ?_
      | refine thenA_normal ?_
      | refine thenA_exit ?_
      | refine thenA_ret ?_
      | refine inB_normal ?_
      | refine inB_ret ?_
      | refine inB_here ?_
      | (refine inB_past ?_ ?_; (· exact rfl))
      | refine Holds.reg ?_
      | refine Holds.block ?_
      | refine GS.nil ?_
      | (refine GS.step (s' := ?_) ?_ ?_ ?_; rotate_left; (· exact rfl); (· (simp [go_sem, List.take_of_length_le] <;> with_reducible rfl)))
      | (refine GS.skip ?_ ?_ ?_; (· exact rfl); (· exact rfl))
      | fail
    refine Holds.cond rfl (fun h => ?_) (fun h => ?_)
    · repeat' first
        | refine Holds.seq ?_
        | refine Holds.skip ?_
        | refine Holds.exit ?_
        | refine Holds.ret ?_
        | refine thenA_normal ?_
        | refine thenA_exit ?_
        | refine thenA_ret ?_
        | refine inB_normal ?_
        | refine inB_ret ?_
        | refine inB_here ?_
        | (refine inB_past ?_ ?_; (· exact rfl))
        | refine Holds.reg ?_
        | refine Holds.block ?_
        | refine GS.nil ?_
        | (refine GS.step (s' := ?_) ?_ ?_ ?_; rotate_left; (· exact rfl); (· (simp [go_sem, List.take_of_length_le] <;> with_reducible rfl)))
        | (refine GS.skip ?_ ?_ ?_; (· exact rfl); (· exact rfl))
        | fail
      refine Out.mk (xs := ?_) ?_ ?_ (by first | exact .inr rfl | exact .inl rfl)
      rotate_left
      · simp [go_sem, List.take_of_length_le] <;> with_reducible rfl
      exact .v _
    · cases h
  have hA : inR g.1 1 6 = true := by rw [hg1]; simpa using h
  have hA' : 1 ≤ g.1 ∧ g.1 ≤ 6 := by simpa [inR] using hA
  have hw : wr64 (g.1 - 1) = g.1 - 1 := wr64_id (by omega) (by omega)
  clear hg1 h
  repeat' first
    | refine Holds.seq ?_
    | refine Holds.skip ?_
    | refine Holds.exit ?_
    | refine Holds.ret ?_
    | refine thenA_normal ?_
    | refine thenA_exit ?_
    | refine thenA_ret ?_
    | refine inB_normal ?_
    | refine inB_ret ?_
    | refine inB_here ?_
    | (refine inB_past ?_ ?_; (· exact rfl))
    | refine Holds.reg ?_
    | refine Holds.block ?_
    | refine GS.nil ?_
    | (refine GS.step (s' := ?_) ?_ ?_ ?_; rotate_left; (· exact rfl); (· (simp [go_sem, List.take_of_length_le] <;> with_reducible rfl)))
    | (refine GS.skip ?_ ?_ ?_; (· exact rfl); (· exact rfl))
    | fail
  refine GS.cc (l1In g.2.1 1 4) rfl rfl rfl rfl (by simp [go_sem, List.take_of_length_le] <;> with_reducible rfl) rfl (by simp [go_sem, List.take_of_length_le]) ?_
  generalize hg1 : inR g.2.1 1 4 = b1
  repeat' first
    | refine Holds.seq ?_
    | refine Holds.skip ?_
    | refine Holds.exit ?_
    | refine Holds.ret ?_
    | refine thenA_normal ?_
    | refine thenA_exit ?_
    | refine thenA_ret ?_
    | refine inB_normal ?_
    | refine inB_ret ?_
    | refine inB_here ?_
    | (refine inB_past ?_ ?_; (· exact rfl))
    | refine Holds.reg ?_
    | refine Holds.block ?_
    | refine GS.nil ?_
    | (refine GS.step (s' := ?_) ?_ ?_ ?_; rotate_left; (· exact rfl); (· (simp [go_sem, List.take_of_length_le] <;> with_reducible rfl)))
    | (refine GS.skip ?_ ?_ ?_; (· exact rfl); (· exact rfl))
    | fail
  refine GS.guard (t := 19) rfl (fun h => ?_) (fun h => ?_)
  · have h : b1 = false := by simpa using h
    subst h
    rw [show goodG g = false by rw [goodG, hA, hg1]; rfl]
    repeat' first
      | refine Holds.seq ?_
      | refine Holds.skip ?_
      | refine Holds.exit ?_
      | refine Holds.ret ?_
      | refine thenA_normal ?_
      | refine thenA_exit ?_
      | refine thenA_ret ?_
      | refine inB_normal ?_
      | refine inB_ret ?_
      | refine inB_here ?_
      | (refine inB_past ?_ ?_; (· exact rfl))
      | refine Holds.reg ?_
      | refine Holds.block ?_
      | refine GS.nil ?_
      | (refine GS.step (s' := ?_) ?_ ?_ ?_; rotate_left; (· exact rfl); (· (simp [go_sem, List.take_of_length_le] <;> with_reducible rfl)))
      | (refine GS.skip ?_ ?_ ?_; (· exact rfl); (· exact rfl))
      | fail
    refine Holds.cond rfl (fun h => ?_) (fun h => ?_)
    · repeat' first
        | refine Holds.seq ?_
        | refine Holds.skip ?_
        | refine Holds.exit ?_
        | refine Holds.ret ?_
        | refine thenA_normal ?_
        | refine thenA_exit ?_
        | refine thenA_ret ?_
        | refine inB_normal ?_
        | refine inB_ret ?_
        | refine inB_here ?_
        | (refine inB_past ?_ ?_; (· exact rfl))
        | refine Holds.reg ?_
        | refine Holds.block ?_
        | refine GS.nil ?_
        | (refine GS.step (s' := ?_) ?_ ?_ ?_; rotate_left; (· exact rfl); (· (simp [go_sem, List.take_of_length_le] <;> with_reducible rfl)))
        | (refine GS.skip ?_ ?_ ?_; (· exact rfl); (· exact rfl))
        | fail
      refine Out.mk (xs := ?_) ?_ ?_ (by first | exact .inr rfl | exact .inl rfl)
      rotate_left
      · simp [go_sem, List.take_of_length_le] <;> with_reducible rfl
      exact .v _
    · cases h
  have hB : inR g.2.1 1 4 = true := by rw [hg1]; simpa using h
  have hB' : 1 ≤ g.2.1 ∧ g.2.1 ≤ 4 := by simpa [inR] using hB
  clear hg1 h
  repeat' first
    | refine Holds.seq ?_
    | refine Holds.skip ?_
    | refine Holds.exit ?_
    | refine Holds.ret ?_
    | refine thenA_normal ?_
    | refine thenA_exit ?_
    | refine thenA_ret ?_
    | refine inB_normal ?_
    | refine inB_ret ?_
    | refine inB_here ?_
    | (refine inB_past ?_ ?_; (· exact rfl))
    | refine Holds.reg ?_
    | refine Holds.block ?_
    | refine GS.nil ?_
    | (refine GS.step (s' := ?_) ?_ ?_ ?_; rotate_left; (· exact rfl); (· (simp [go_sem, List.take_of_length_le] <;> with_reducible rfl)))
    | (refine GS.skip ?_ ?_ ?_; (· exact rfl); (· exact rfl))
    | fail
  refine Holds.cond rfl (fun h => ?_) (fun h => ?_)
  · rw [show goodG g = false by have h : ¬ g.2.2.length ≤ 16 := (by simp at h; omega); rw [goodG, hA, hB, decide_eq_false h]; rfl]
    repeat' first
      | refine Holds.seq ?_
      | refine Holds.skip ?_
      | refine Holds.exit ?_
      | refine Holds.ret ?_
      | refine thenA_normal ?_
      | refine thenA_exit ?_
      | refine thenA_ret ?_
      | refine inB_normal ?_
      | refine inB_ret ?_
      | refine inB_here ?_
      | (refine inB_past ?_ ?_; (· exact rfl))
      | refine Holds.reg ?_
      | refine Holds.block ?_
      | refine GS.nil ?_
      | (refine GS.step (s' := ?_) ?_ ?_ ?_; rotate_left; (· exact rfl); (· (simp [go_sem, List.take_of_length_le] <;> with_reducible rfl)))
      | (refine GS.skip ?_ ?_ ?_; (· exact rfl); (· exact rfl))
      | fail
    refine Out.mk (xs := ?_) ?_ ?_ (by first | exact .inr rfl | exact .inl rfl)
    rotate_left
    · simp [go_sem, List.take_of_length_le] <;> with_reducible rfl
    exact .v _
  have hC : g.2.2.length ≤ 16 := by simp at h; omega
  have hG : goodG g = allB (goodAtG g) g.2.2.length := by rw [goodG, hA, hB, decide_eq_true hC]; rfl
  rw [hG]
  clear h
  repeat' first
    | refine Holds.seq ?_
    | refine Holds.skip ?_
    | refine Holds.exit ?_
    | refine Holds.ret ?_
    | refine thenA_normal ?_
    | refine thenA_exit ?_
    | refine thenA_ret ?_
    | refine inB_normal ?_
    | refine inB_ret ?_
    | refine inB_here ?_
    | (refine inB_past ?_ ?_; (· exact rfl))
    | refine Holds.reg ?_
    | refine Holds.block ?_
    | refine GS.nil ?_
    | (refine GS.step (s' := ?_) ?_ ?_ ?_; rotate_left; (· exact rfl); (· (simp [go_sem, List.take_of_length_le] <;> with_reducible rfl)))
    | (refine GS.skip ?_ ?_ ?_; (· exact rfl); (· exact rfl))
    | fail
  refine Holds.loop (ι := Nat) (fun i => ⟨[(1, .pb 0 3 0 0), (26, .im 2 (rules g.2.2)), (27, .v (.int .i64 g.2.2.length)), (28, .v (.int .i64 i))], [(0, ⟨31, 3, [[.v (.int .i64 g.1), .v (.int .i64 g.2.1), .im 2 (rules g.2.2)]]⟩)], 1⟩) (fun i => i ≤ g.2.2.length ∧ allB (goodAtG g) i = true) (fun i => g.2.2.length - i) 0 ⟨Nat.zero_le _, rfl⟩ ?_ ?_
  · exact Cov.ofn (id) rfl (by simp [go_sem, List.take_of_length_le, ren, ren1, okr, okr1, ChkT, ChkN, BlkN, nf]) (by simp [go_sem, List.take_of_length_le, ren, ren1, okr, okr1, ChkT, ChkN, BlkN, nf])
  rintro i ⟨hi, hall⟩
  repeat' first
    | refine Holds.seq ?_
    | refine Holds.skip ?_
    | refine Holds.exit ?_
    | refine Holds.ret ?_
    | refine thenA_normal ?_
    | refine thenA_exit ?_
    | refine thenA_ret ?_
    | refine inB_normal ?_
    | refine inB_ret ?_
    | refine inB_here ?_
    | (refine inB_past ?_ ?_; (· exact rfl))
    | refine Holds.reg ?_
    | refine Holds.block ?_
    | refine GS.nil ?_
    | (refine GS.step (s' := ?_) ?_ ?_ ?_; rotate_left; (· exact rfl); (· (simp [go_sem, List.take_of_length_le] <;> with_reducible rfl)))
    | (refine GS.skip ?_ ?_ ?_; (· exact rfl); (· exact rfl))
    | fail
  refine Holds.cond rfl (fun hl => ?_) (fun hl => ?_)
  · have hlt : i < g.2.2.length := by simpa using hl
    have hxi : g.2.2[i]? = some g.2.2[i] := List.getElem?_eq_getElem hlt
    have hd : g.2.2.getD i (0, []) = g.2.2[i] := by simp [hlt]
    have no : goodAtG g i = false → Out Try.prog [.tmp 2] (.v (.bool (allB (goodAtG g) g.2.2.length))) = Out Try.prog [.tmp 2] (.v (.bool false)) := fun h => by rw [allB_no hlt h]
    have hlen := hs _ (List.getElem_mem hlt)
    have hgA : goodAtG g i = (inR g.2.2[i].1 0 (g.1 - 1) && decide (g.2.2[i].2.length ≤ 4) && g.2.2[i].2.all (symOk g.1 g.2.1) && !(g.2.2.take i).any (fun s => decide (s = g.2.2[i]))) := by simp only [goodAtG, hd]
    repeat' first
      | refine Holds.seq ?_
      | refine Holds.skip ?_
      | refine Holds.exit ?_
      | refine Holds.ret ?_
      | refine thenA_normal ?_
      | refine thenA_exit ?_
      | refine thenA_ret ?_
      | refine inB_normal ?_
      | refine inB_ret ?_
      | refine inB_here ?_
      | (refine inB_past ?_ ?_; (· exact rfl))
      | refine Holds.reg ?_
      | refine Holds.block ?_
      | refine GS.nil ?_
      | (refine GS.step (s' := ?_) ?_ ?_ ?_; rotate_left; (· exact rfl); (· (simp [go_sem, List.take_of_length_le, hxi, ruleC, hw] <;> with_reducible rfl)))
      | (refine GS.skip ?_ ?_ ?_; (· exact rfl); (· exact rfl))
      | fail
    refine GS.cc (l1In g.2.2[i].1 0 (g.1 - 1)) rfl rfl rfl rfl (by simp [go_sem, List.take_of_length_le] <;> with_reducible rfl) rfl (by simp [go_sem, List.take_of_length_le]) ?_
    generalize hg1 : inR g.2.2[i].1 0 (g.1 - 1) = b1
    rw [hg1] at hgA
    repeat' first
      | refine Holds.seq ?_
      | refine Holds.skip ?_
      | refine Holds.exit ?_
      | refine Holds.ret ?_
      | refine thenA_normal ?_
      | refine thenA_exit ?_
      | refine thenA_ret ?_
      | refine inB_normal ?_
      | refine inB_ret ?_
      | refine inB_here ?_
      | (refine inB_past ?_ ?_; (· exact rfl))
      | refine Holds.reg ?_
      | refine Holds.block ?_
      | refine GS.nil ?_
      | (refine GS.step (s' := ?_) ?_ ?_ ?_; rotate_left; (· exact rfl); (· (simp [go_sem, List.take_of_length_le] <;> with_reducible rfl)))
      | (refine GS.skip ?_ ?_ ?_; (· exact rfl); (· exact rfl))
      | fail
    refine GS.guard (t := 40) rfl (fun h => ?_) (fun h => ?_)
    · have h : b1 = false := by simpa using h
      subst h
      rw [no (by rw [hgA]; rfl)]
      repeat' first
        | refine Holds.seq ?_
        | refine Holds.skip ?_
        | refine Holds.exit ?_
        | refine Holds.ret ?_
        | refine thenA_normal ?_
        | refine thenA_exit ?_
        | refine thenA_ret ?_
        | refine inB_normal ?_
        | refine inB_ret ?_
        | refine inB_here ?_
        | (refine inB_past ?_ ?_; (· exact rfl))
        | refine Holds.reg ?_
        | refine Holds.block ?_
        | refine GS.nil ?_
        | (refine GS.step (s' := ?_) ?_ ?_ ?_; rotate_left; (· exact rfl); (· (simp [go_sem, List.take_of_length_le] <;> with_reducible rfl)))
        | (refine GS.skip ?_ ?_ ?_; (· exact rfl); (· exact rfl))
        | fail
      refine Holds.cond rfl (fun h => ?_) (fun h => ?_)
      · repeat' first
          | refine Holds.seq ?_
          | refine Holds.skip ?_
          | refine Holds.exit ?_
          | refine Holds.ret ?_
          | refine thenA_normal ?_
          | refine thenA_exit ?_
          | refine thenA_ret ?_
          | refine inB_normal ?_
          | refine inB_ret ?_
          | refine inB_here ?_
          | (refine inB_past ?_ ?_; (· exact rfl))
          | refine Holds.reg ?_
          | refine Holds.block ?_
          | refine GS.nil ?_
          | (refine GS.step (s' := ?_) ?_ ?_ ?_; rotate_left; (· exact rfl); (· (simp [go_sem, List.take_of_length_le] <;> with_reducible rfl)))
          | (refine GS.skip ?_ ?_ ?_; (· exact rfl); (· exact rfl))
          | fail
        refine Out.mk (xs := ?_) ?_ ?_ (by first | exact .inr rfl | exact .inl rfl)
        rotate_left
        · simp [go_sem, List.take_of_length_le] <;> with_reducible rfl
        exact .v _
      · cases h
    have h : b1 = true := by simpa using h
    subst h
    repeat' first
      | refine Holds.seq ?_
      | refine Holds.skip ?_
      | refine Holds.exit ?_
      | refine Holds.ret ?_
      | refine thenA_normal ?_
      | refine thenA_exit ?_
      | refine thenA_ret ?_
      | refine inB_normal ?_
      | refine inB_ret ?_
      | refine inB_here ?_
      | (refine inB_past ?_ ?_; (· exact rfl))
      | refine Holds.reg ?_
      | refine Holds.block ?_
      | refine GS.nil ?_
      | (refine GS.step (s' := ?_) ?_ ?_ ?_; rotate_left; (· exact rfl); (· (simp [go_sem, List.take_of_length_le] <;> with_reducible rfl)))
      | (refine GS.skip ?_ ?_ ?_; (· exact rfl); (· exact rfl))
      | fail
    refine Holds.cond rfl (fun h => ?_) (fun h => ?_)
    · have h : ¬ g.2.2[i].2.length ≤ 4 := by simp at h; omega
      rw [no (by rw [hgA, decide_eq_false h]; rfl)]
      repeat' first
        | refine Holds.seq ?_
        | refine Holds.skip ?_
        | refine Holds.exit ?_
        | refine Holds.ret ?_
        | refine thenA_normal ?_
        | refine thenA_exit ?_
        | refine thenA_ret ?_
        | refine inB_normal ?_
        | refine inB_ret ?_
        | refine inB_here ?_
        | (refine inB_past ?_ ?_; (· exact rfl))
        | refine Holds.reg ?_
        | refine Holds.block ?_
        | refine GS.nil ?_
        | (refine GS.step (s' := ?_) ?_ ?_ ?_; rotate_left; (· exact rfl); (· (simp [go_sem, List.take_of_length_le] <;> with_reducible rfl)))
        | (refine GS.skip ?_ ?_ ?_; (· exact rfl); (· exact rfl))
        | fail
      refine Out.mk (xs := ?_) ?_ ?_ (by first | exact .inr rfl | exact .inl rfl)
      rotate_left
      · simp [go_sem, List.take_of_length_le] <;> with_reducible rfl
      exact .v _
    have h4 : g.2.2[i].2.length ≤ 4 := by simp at h; omega
    rw [decide_eq_true h4] at hgA
    repeat' first
      | refine Holds.seq ?_
      | refine Holds.skip ?_
      | refine Holds.exit ?_
      | refine Holds.ret ?_
      | refine thenA_normal ?_
      | refine thenA_exit ?_
      | refine thenA_ret ?_
      | refine inB_normal ?_
      | refine inB_ret ?_
      | refine inB_here ?_
      | (refine inB_past ?_ ?_; (· exact rfl))
      | refine Holds.reg ?_
      | refine Holds.block ?_
      | refine GS.nil ?_
      | (refine GS.step (s' := ?_) ?_ ?_ ?_; rotate_left; (· exact rfl); (· (simp [go_sem, List.take_of_length_le] <;> with_reducible rfl)))
      | (refine GS.skip ?_ ?_ ?_; (· exact rfl); (· exact rfl))
      | fail
    refine Holds.loop (ι := Nat) (fun j => ⟨[(1, .pb 0 3 0 0), (26, .im 2 (rules g.2.2)), (27, .v (.int .i64 g.2.2.length)), (28, .v (.int .i64 i)), (3, .v (.int .i64 i)), (4, .pb 1 2 0 0), (47, .im 1 (ints g.2.2[i].2)), (48, .v (.int .i64 g.2.2[i].2.length)), (49, .v (.int .i64 j))], [(0, ⟨31, 3, [[.v (.int .i64 g.1), .v (.int .i64 g.2.1), .im 2 (rules g.2.2)]]⟩), (1, ⟨65, 2, [[.v (.int .i64 g.2.2[i].1), .im 1 (ints g.2.2[i].2)]]⟩)], 2⟩) (fun j => j ≤ g.2.2[i].2.length ∧ (g.2.2[i].2.take j).all (symOk g.1 g.2.1) = true) (fun j => g.2.2[i].2.length - j) 0 ⟨Nat.zero_le _, rfl⟩ ?_ ?_
    · exact Cov.ofn (id) rfl (by simp [go_sem, List.take_of_length_le, ren, ren1, okr, okr1, ChkT, ChkN, BlkN, nf]) (by simp [go_sem, List.take_of_length_le, ren, ren1, okr, okr1, ChkT, ChkN, BlkN, nf])
    rintro j ⟨hj, hsy⟩
    repeat' first
      | refine Holds.seq ?_
      | refine Holds.skip ?_
      | refine Holds.exit ?_
      | refine Holds.ret ?_
      | refine thenA_normal ?_
      | refine thenA_exit ?_
      | refine thenA_ret ?_
      | refine inB_normal ?_
      | refine inB_ret ?_
      | refine inB_here ?_
      | (refine inB_past ?_ ?_; (· exact rfl))
      | refine Holds.reg ?_
      | refine Holds.block ?_
      | refine GS.nil ?_
      | (refine GS.step (s' := ?_) ?_ ?_ ?_; rotate_left; (· exact rfl); (· (simp [go_sem, List.take_of_length_le] <;> with_reducible rfl)))
      | (refine GS.skip ?_ ?_ ?_; (· exact rfl); (· exact rfl))
      | fail
    refine Holds.cond rfl (fun hl2 => ?_) (fun hl2 => ?_)
    · have hjt : j < g.2.2[i].2.length := by simpa using hl2
      have hxj : g.2.2[i].2[j]? = some g.2.2[i].2[j] := List.getElem?_eq_getElem hjt
      repeat' first
        | refine Holds.seq ?_
        | refine Holds.skip ?_
        | refine Holds.exit ?_
        | refine Holds.ret ?_
        | refine thenA_normal ?_
        | refine thenA_exit ?_
        | refine thenA_ret ?_
        | refine inB_normal ?_
        | refine inB_ret ?_
        | refine inB_here ?_
        | (refine inB_past ?_ ?_; (· exact rfl))
        | refine Holds.reg ?_
        | refine Holds.block ?_
        | refine GS.nil ?_
        | (refine GS.step (s' := ?_) ?_ ?_ ?_; rotate_left; (· exact rfl); (· (simp [go_sem, List.take_of_length_le, hxj] <;> with_reducible rfl)))
        | (refine GS.skip ?_ ?_ ?_; (· exact rfl); (· exact rfl))
        | fail
      refine GS.cc (l1Symbol g g.2.2[i].2[j] hA'.1 hA'.2 hB'.1 hB'.2) rfl rfl rfl rfl (by simp [go_sem, List.take_of_length_le, grammarC] <;> with_reducible rfl) rfl (by simp [go_sem, List.take_of_length_le, grammarC]) ?_
      generalize hg2 : symOk g.1 g.2.1 g.2.2[i].2[j] = b2
      repeat' first
        | refine Holds.seq ?_
        | refine Holds.skip ?_
        | refine Holds.exit ?_
        | refine Holds.ret ?_
        | refine thenA_normal ?_
        | refine thenA_exit ?_
        | refine thenA_ret ?_
        | refine inB_normal ?_
        | refine inB_ret ?_
        | refine inB_here ?_
        | (refine inB_past ?_ ?_; (· exact rfl))
        | refine Holds.reg ?_
        | refine Holds.block ?_
        | refine GS.nil ?_
        | (refine GS.step (s' := ?_) ?_ ?_ ?_; rotate_left; (· exact rfl); (· (simp [go_sem, List.take_of_length_le] <;> with_reducible rfl)))
        | (refine GS.skip ?_ ?_ ?_; (· exact rfl); (· exact rfl))
        | fail
      refine Holds.cond rfl (fun h => ?_) (fun h => ?_)
      · have h : b2 = false := by simpa using h
        subst h
        rw [no (by rw [hgA, all_at hxj hg2]; rfl)]
        repeat' first
          | refine Holds.seq ?_
          | refine Holds.skip ?_
          | refine Holds.exit ?_
          | refine Holds.ret ?_
          | refine thenA_normal ?_
          | refine thenA_exit ?_
          | refine thenA_ret ?_
          | refine inB_normal ?_
          | refine inB_ret ?_
          | refine inB_here ?_
          | (refine inB_past ?_ ?_; (· exact rfl))
          | refine Holds.reg ?_
          | refine Holds.block ?_
          | refine GS.nil ?_
          | (refine GS.step (s' := ?_) ?_ ?_ ?_; rotate_left; (· exact rfl); (· (simp [go_sem, List.take_of_length_le] <;> with_reducible rfl)))
          | (refine GS.skip ?_ ?_ ?_; (· exact rfl); (· exact rfl))
          | fail
        refine Out.mk (xs := ?_) ?_ ?_ (by first | exact .inr rfl | exact .inl rfl)
        rotate_left
        · simp [go_sem, List.take_of_length_le] <;> with_reducible rfl
        exact .v _
      · have h : b2 = true := by simpa using h
        subst h
        repeat' first
          | refine Holds.seq ?_
          | refine Holds.skip ?_
          | refine Holds.exit ?_
          | refine Holds.ret ?_
          | refine thenA_normal ?_
          | refine thenA_exit ?_
          | refine thenA_ret ?_
          | refine inB_normal ?_
          | refine inB_ret ?_
          | refine inB_here ?_
          | (refine inB_past ?_ ?_; (· exact rfl))
          | refine Holds.reg ?_
          | refine Holds.block ?_
          | refine GS.nil ?_
          | (refine GS.step (s' := ?_) ?_ ?_ ?_; rotate_left; (· exact rfl); (· (simp [go_sem, List.take_of_length_le] <;> with_reducible rfl)))
          | (refine GS.skip ?_ ?_ ?_; (· exact rfl); (· exact rfl))
          | fail
        refine ⟨j + 1, ⟨by omega, ?_⟩, by omega, ?_⟩
        · rw [List.take_add_one, hxj, List.all_append, hsy]; simp [hg2]
        rw [wr64_id (by omega) (by omega)]
        exact Cov.ofn (id) rfl (by simp [go_sem, List.take_of_length_le, ren, ren1, okr, okr1, ChkT, ChkN, BlkN, nf]) (by simp [go_sem, List.take_of_length_le, ren, ren1, okr, okr1, ChkT, ChkN, BlkN, nf])
    have hje : j = g.2.2[i].2.length := by
      have : ¬ j < g.2.2[i].2.length := by simpa using hl2
      omega
    subst hje
    rw [List.take_length] at hsy
    rw [hsy] at hgA
    have htk : (rules g.2.2).take i = rules (g.2.2.take i) := by simp [rules, List.map_take]
    have hil : (g.2.2.take i).length = i := by rw [List.length_take]; omega
    clear hl2 hj
    repeat' first
      | refine Holds.seq ?_
      | refine Holds.skip ?_
      | refine Holds.exit ?_
      | refine Holds.ret ?_
      | refine thenA_normal ?_
      | refine thenA_exit ?_
      | refine thenA_ret ?_
      | refine inB_normal ?_
      | refine inB_ret ?_
      | refine inB_here ?_
      | (refine inB_past ?_ ?_; (· exact rfl))
      | refine Holds.reg ?_
      | refine Holds.block ?_
      | refine GS.nil ?_
      | (refine GS.step (s' := ?_) ?_ ?_ ?_; rotate_left; (· exact rfl); (· (simp [go_sem, List.take_of_length_le, htk, show i ≤ g.2.2.length by omega] <;> with_reducible rfl)))
      | (refine GS.skip ?_ ?_ ?_; (· exact rfl); (· exact rfl))
      | fail
    refine Holds.loop (ι := Nat) (fun j => ⟨[(1, .pb 0 3 0 0), (26, .im 2 (rules g.2.2)), (27, .v (.int .i64 g.2.2.length)), (28, .v (.int .i64 i)), (4, .pb 1 2 0 0), (61, .im 2 (rules (g.2.2.take i))), (62, .v (.int .i64 i)), (63, .v (.int .i64 j))], [(0, ⟨31, 3, [[.v (.int .i64 g.1), .v (.int .i64 g.2.1), .im 2 (rules g.2.2)]]⟩), (1, ⟨65, 2, [[.v (.int .i64 g.2.2[i].1), .im 1 (ints g.2.2[i].2)]]⟩)], 2⟩) (fun j => j ≤ i ∧ ((g.2.2.take i).take j).any (fun s => decide (s = g.2.2[i])) = false) (fun j => i - j) 0 ⟨Nat.zero_le _, rfl⟩ ?_ ?_
    · exact Cov.ofn (id) rfl (by simp [go_sem, List.take_of_length_le, ren, ren1, okr, okr1, ChkT, ChkN, BlkN, nf, htk, hil, Nat.min_eq_left hi]) (by simp [go_sem, List.take_of_length_le, ren, ren1, okr, okr1, ChkT, ChkN, BlkN, nf, htk, hil, Nat.min_eq_left hi])
    rintro j ⟨hj, hsy⟩
    repeat' first
      | refine Holds.seq ?_
      | refine Holds.skip ?_
      | refine Holds.exit ?_
      | refine Holds.ret ?_
      | refine thenA_normal ?_
      | refine thenA_exit ?_
      | refine thenA_ret ?_
      | refine inB_normal ?_
      | refine inB_ret ?_
      | refine inB_here ?_
      | (refine inB_past ?_ ?_; (· exact rfl))
      | refine Holds.reg ?_
      | refine Holds.block ?_
      | refine GS.nil ?_
      | (refine GS.step (s' := ?_) ?_ ?_ ?_; rotate_left; (· exact rfl); (· (simp [go_sem, List.take_of_length_le] <;> with_reducible rfl)))
      | (refine GS.skip ?_ ?_ ?_; (· exact rfl); (· exact rfl))
      | fail
    refine Holds.cond rfl (fun hl2 => ?_) (fun hl2 => ?_)
    · have hjt : j < i := by simpa using hl2
      have hjl : j < (g.2.2.take i).length := by omega
      have hxj : (g.2.2.take i)[j]? = some (g.2.2.take i)[j] := List.getElem?_eq_getElem hjl
      generalize (g.2.2.take i)[j] = q at hxj
      have hsr := l1SameRule g.2.2[i] q hlen
      rw [show decide (g.2.2[i] = q) = decide (q = g.2.2[i]) by simp [eq_comm]] at hsr
      generalize hg3 : decide (q = g.2.2[i]) = b3 at hsr
      repeat' first
        | refine Holds.seq ?_
        | refine Holds.skip ?_
        | refine Holds.exit ?_
        | refine Holds.ret ?_
        | refine thenA_normal ?_
        | refine thenA_exit ?_
        | refine thenA_ret ?_
        | refine inB_normal ?_
        | refine inB_ret ?_
        | refine inB_here ?_
        | (refine inB_past ?_ ?_; (· exact rfl))
        | refine Holds.reg ?_
        | refine Holds.block ?_
        | refine GS.nil ?_
        | (refine GS.step (s' := ?_) ?_ ?_ ?_; rotate_left; (· exact rfl); (· (simp [go_sem, List.take_of_length_le, hxj, ruleC] <;> with_reducible rfl)))
        | (refine GS.skip ?_ ?_ ?_; (· exact rfl); (· exact rfl))
        | fail
      refine GS.cc (hsr) rfl rfl rfl rfl (by simp [go_sem, List.take_of_length_le, ruleC] <;> with_reducible rfl) rfl (by simp [go_sem, List.take_of_length_le, ruleC]) ?_
      repeat' first
        | refine Holds.seq ?_
        | refine Holds.skip ?_
        | refine Holds.exit ?_
        | refine Holds.ret ?_
        | refine thenA_normal ?_
        | refine thenA_exit ?_
        | refine thenA_ret ?_
        | refine inB_normal ?_
        | refine inB_ret ?_
        | refine inB_here ?_
        | (refine inB_past ?_ ?_; (· exact rfl))
        | refine Holds.reg ?_
        | refine Holds.block ?_
        | refine GS.nil ?_
        | (refine GS.step (s' := ?_) ?_ ?_ ?_; rotate_left; (· exact rfl); (· (simp [go_sem, List.take_of_length_le] <;> with_reducible rfl)))
        | (refine GS.skip ?_ ?_ ?_; (· exact rfl); (· exact rfl))
        | fail
      refine Holds.cond rfl (fun h => ?_) (fun h => ?_)
      · have h : b3 = true := by simpa using h
        subst h
        rw [no (by rw [hgA, any_at hxj hg3]; rfl)]
        repeat' first
          | refine Holds.seq ?_
          | refine Holds.skip ?_
          | refine Holds.exit ?_
          | refine Holds.ret ?_
          | refine thenA_normal ?_
          | refine thenA_exit ?_
          | refine thenA_ret ?_
          | refine inB_normal ?_
          | refine inB_ret ?_
          | refine inB_here ?_
          | (refine inB_past ?_ ?_; (· exact rfl))
          | refine Holds.reg ?_
          | refine Holds.block ?_
          | refine GS.nil ?_
          | (refine GS.step (s' := ?_) ?_ ?_ ?_; rotate_left; (· exact rfl); (· (simp [go_sem, List.take_of_length_le] <;> with_reducible rfl)))
          | (refine GS.skip ?_ ?_ ?_; (· exact rfl); (· exact rfl))
          | fail
        refine Out.mk (xs := ?_) ?_ ?_ (by first | exact .inr rfl | exact .inl rfl)
        rotate_left
        · simp [go_sem, List.take_of_length_le] <;> with_reducible rfl
        exact .v _
      · have h : b3 = false := by simpa using h
        subst h
        repeat' first
          | refine Holds.seq ?_
          | refine Holds.skip ?_
          | refine Holds.exit ?_
          | refine Holds.ret ?_
          | refine thenA_normal ?_
          | refine thenA_exit ?_
          | refine thenA_ret ?_
          | refine inB_normal ?_
          | refine inB_ret ?_
          | refine inB_here ?_
          | (refine inB_past ?_ ?_; (· exact rfl))
          | refine Holds.reg ?_
          | refine Holds.block ?_
          | refine GS.nil ?_
          | (refine GS.step (s' := ?_) ?_ ?_ ?_; rotate_left; (· exact rfl); (· (simp [go_sem, List.take_of_length_le] <;> with_reducible rfl)))
          | (refine GS.skip ?_ ?_ ?_; (· exact rfl); (· exact rfl))
          | fail
        refine ⟨j + 1, ⟨by omega, ?_⟩, by omega, ?_⟩
        · rw [List.take_add_one, hxj, List.any_append, hsy]; simp [hg3]
        rw [wr64_id (by omega) (by omega)]
        exact Cov.ofn (id) rfl (by simp [go_sem, List.take_of_length_le, ren, ren1, okr, okr1, ChkT, ChkN, BlkN, nf]) (by simp [go_sem, List.take_of_length_le, ren, ren1, okr, okr1, ChkT, ChkN, BlkN, nf])
    have hje : j = i := by
      have : ¬ j < i := by simpa using hl2
      omega
    subst hje
    rw [List.take_of_length_le (by omega)] at hsy
    have hgood : goodAtG g j = true := by rw [hgA, hsy]; rfl
    repeat' first
      | refine Holds.seq ?_
      | refine Holds.skip ?_
      | refine Holds.exit ?_
      | refine Holds.ret ?_
      | refine thenA_normal ?_
      | refine thenA_exit ?_
      | refine thenA_ret ?_
      | refine inB_normal ?_
      | refine inB_ret ?_
      | refine inB_here ?_
      | (refine inB_past ?_ ?_; (· exact rfl))
      | refine Holds.reg ?_
      | refine Holds.block ?_
      | refine GS.nil ?_
      | (refine GS.step (s' := ?_) ?_ ?_ ?_; rotate_left; (· exact rfl); (· (simp [go_sem, List.take_of_length_le] <;> with_reducible rfl)))
      | (refine GS.skip ?_ ?_ ?_; (· exact rfl); (· exact rfl))
      | fail
    refine ⟨j + 1, ⟨by omega, by unfold allB; rw [hall, hgood]; rfl⟩, by omega, ?_⟩
    rw [wr64_id (by omega) (by omega)]
    exact Cov.ofn (id) rfl (by simp [go_sem, List.take_of_length_le, ren, ren1, okr, okr1, ChkT, ChkN, BlkN, nf]) (by simp [go_sem, List.take_of_length_le, ren, ren1, okr, okr1, ChkT, ChkN, BlkN, nf])
  · have hle : i = g.2.2.length := by
      have : ¬ i < g.2.2.length := by simpa using hl
      omega
    subst hle
    rw [hall]
    repeat' first
      | refine Holds.seq ?_
      | refine Holds.skip ?_
      | refine Holds.exit ?_
      | refine Holds.ret ?_
      | refine thenA_normal ?_
      | refine thenA_exit ?_
      | refine thenA_ret ?_
      | refine inB_normal ?_
      | refine inB_ret ?_
      | refine inB_here ?_
      | (refine inB_past ?_ ?_; (· exact rfl))
      | refine Holds.reg ?_
      | refine Holds.block ?_
      | refine GS.nil ?_
      | (refine GS.step (s' := ?_) ?_ ?_ ?_; rotate_left; (· exact rfl); (· (simp [go_sem, List.take_of_length_le] <;> with_reducible rfl)))
      | (refine GS.skip ?_ ?_ ?_; (· exact rfl); (· exact rfl))
      | fail
    refine Out.mk (xs := ?_) ?_ ?_ (by first | exact .inr rfl | exact .inl rfl)
    rotate_left
    · simp [go_sem, List.take_of_length_le] <;> with_reducible rfl
    exact .v _
end Go.Proofs.Ytaiefncpgkoniaa.En
