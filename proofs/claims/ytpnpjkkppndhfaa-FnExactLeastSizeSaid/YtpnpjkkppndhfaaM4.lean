/- Own words and walks of this claim, part 4: what the program's functions compute, for all the arguments that are named; no further conditions. -/
import Derived.Test.YtpnpjkkppndhfaaM3
import Derived.Test.YtpnpjkkppndhfaaM2
import Derived.WideMake
section
namespace Go.Proofs.Ytpnpjkkppndhfaa.En
open Go.RowKit
set_option linter.unusedSimpArgs false
set_option linter.unusedVariables false
set_option maxHeartbeats 8000000
theorem allB_at {p : Nat → Bool} {n i : Nat} (h : allB p n = true) (hi : i < n) : p i = true := by
  cases g : p i with
  | true => rfl
  | false => rw [allB_no hi g] at h; cases h
/-- What a good grammar says. -/
structure OkG (g : GrammarT) : Prop where
  n0 : 1 ≤ g.1
  n1 : g.1 ≤ 6
  t0 : 1 ≤ g.2.1
  t1 : g.2.1 ≤ 4
  len : g.2.2.length ≤ 16
  l0 : ∀ r ∈ g.2.2, 0 ≤ r.1
  l1 : ∀ r ∈ g.2.2, r.1 < g.1
  r4 : ∀ r ∈ g.2.2, r.2.length ≤ 4
  s0 : ∀ r ∈ g.2.2, ∀ x ∈ r.2, -g.2.1 ≤ x
  s1 : ∀ r ∈ g.2.2, ∀ x ∈ r.2, x < g.1
theorem goodG_ok {g : GrammarT} (h : goodG g = true) : OkG g := by
  unfold goodG at h
  simp only [Bool.and_eq_true, decide_eq_true_eq] at h
  obtain ⟨⟨⟨h1, h2⟩, h3⟩, h4⟩ := h
  simp [inR] at h1 h2
  have key : ∀ r ∈ g.2.2, 0 ≤ r.1 ∧ r.1 ≤ g.1 - 1 ∧ r.2.length ≤ 4 ∧ ∀ x ∈ r.2, -g.2.1 ≤ x ∧ x ≤ g.1 - 1 := fun r hr => by
    obtain ⟨i, hi⟩ := List.mem_iff_getElem?.1 hr
    have hlt : i < g.2.2.length := (List.getElem?_eq_some_iff.1 hi).1
    have ha := allB_at h4 hlt
    have hd : g.2.2.getD i (0, []) = r := by rw [List.getD_eq_getElem?_getD, hi]; rfl
    unfold goodAtG at ha
    rw [hd] at ha
    simp only [Bool.and_eq_true, decide_eq_true_eq, List.all_eq_true] at ha
    obtain ⟨⟨⟨a1, a2⟩, a3⟩, _⟩ := ha
    simp [inR] at a1
    refine ⟨a1.1, a1.2, a2, fun x hx => ?_⟩
    have := a3 x hx
    simpa [symOk, inR] using this
  exact ⟨h1.1, h1.2, h2.1, h2.2, h3, fun r hr => (key r hr).1, fun r hr => by have := (key r hr).2.1; omega, fun r hr => (key r hr).2.2.1, fun r hr x hx => ((key r hr).2.2.2 x hx).1, fun r hr x hx => by have := ((key r hr).2.2.2 x hx).2; omega⟩
theorem l1All (xs : List Int) (lo top : Int) (hx : xs.length < 4611686018427387904) : Pure Try.prog 61 [.im 1 (ints xs), .v (.int .i64 lo), .v (.int .i64 top)] (.v (.bool (xs.all fun n => inR n lo top))) := by
  refine Pure.mk (rs := [.tmp 6]) (nt := 21) Try.func61 (by kernel_rfl) rfl rfl rfl (by simp) ?_
  simp only [sl]
  repeat' first
    | refine Holds.seq ?_
    | refine Holds.skip ?_
    | refine Holds.exit ?_
    | refine Holds.ret ?_
    | refine thenA_normal ?_
    | refine thenA_exit ?_
    | refine thenA_ret ?_
    | refine inB_normal ?_
    | refine inB_ret ?_
    | refine inB_here ?_
    | (refine inB_past ?_ ?_; (· exact rfl))
    | refine Holds.reg ?_
    | refine Holds.block ?_
    | refine GS.nil ?_
    | (refine GS.step (s' := ?_) ?_ ?_ ?_; rotate_left; (· exact rfl); (· (simp [go_sem, List.take_of_length_le] <;> with_reducible rfl)))
    | (refine GS.skip ?_ ?_ ?_; (· exact rfl); (· exact rfl))
    | fail
  refine Holds.loop (ι := Nat) (fun i => ⟨[(1, .v (.int .i64 lo)), (2, .v (.int .i64 top)), (9, .im 1 (ints xs)), (10, .v (.int .i64 xs.length)), (11, .v (.int .i64 i))], [], 0⟩) (fun i => i ≤ xs.length ∧ (xs.take i).all (fun n => inR n lo top) = true) (fun i => xs.length - i) 0 ⟨Nat.zero_le _, rfl⟩ ?_ ?_
  · exact Cov.ofn (id) rfl (by simp [go_sem, List.take_of_length_le, ren, ren1, okr, okr1, ChkT, ChkN, BlkN, nf]) (by simp [go_sem, List.take_of_length_le, ren, ren1, okr, okr1, ChkT, ChkN, BlkN, nf])
  rintro i ⟨hi, hall⟩
  repeat' first
    | refine Holds.seq ?_
    | refine Holds.skip ?_
    | refine Holds.exit ?_
    | refine Holds.ret ?_
    | refine thenA_normal ?_
    | refine thenA_exit ?_
    | refine thenA_ret ?_
    | refine inB_normal ?_
    | refine inB_ret ?_
    | refine inB_here ?_
    | (refine inB_past ?_ ?_; (· exact rfl))
    | refine Holds.reg ?_
    | refine Holds.block ?_
    | refine GS.nil ?_
    | (refine GS.step (s' := ?_) ?_ ?_ ?_; rotate_left; (· exact rfl); (· (simp [go_sem, List.take_of_length_le] <;> with_reducible rfl)))
    | (refine GS.skip ?_ ?_ ?_; (· exact rfl); (· exact rfl))
    | fail
  refine Holds.cond rfl (fun hl => ?_) (fun hl => ?_)
  · have hlt : i < xs.length := by simpa using hl
    have hxi : xs[i]? = some xs[i] := List.getElem?_eq_getElem hlt
    repeat' first
      | refine Holds.seq ?_
      | refine Holds.skip ?_
      | refine Holds.exit ?_
      | refine Holds.ret ?_
      | refine thenA_normal ?_
      | refine thenA_exit ?_
      | refine thenA_ret ?_
      | refine inB_normal ?_
      | refine inB_ret ?_
      | refine inB_here ?_
      | (refine inB_past ?_ ?_; (· exact rfl))
      | refine Holds.reg ?_
      | refine Holds.block ?_
      | refine GS.nil ?_
      | (refine GS.step (s' := ?_) ?_ ?_ ?_; rotate_left; (· exact rfl); (· (simp [go_sem, List.take_of_length_le, hxi] <;> with_reducible rfl)))
      | (refine GS.skip ?_ ?_ ?_; (· exact rfl); (· exact rfl))
      | fail
    refine GS.cc (l1In xs[i] lo top) rfl rfl rfl rfl (by simp [go_sem, List.take_of_length_le] <;> with_reducible rfl) rfl (by simp [go_sem, List.take_of_length_le]) ?_
    generalize hg : inR xs[i] lo top = b
    repeat' first
      | refine Holds.seq ?_
      | refine Holds.skip ?_
      | refine Holds.exit ?_
      | refine Holds.ret ?_
      | refine thenA_normal ?_
      | refine thenA_exit ?_
      | refine thenA_ret ?_
      | refine inB_normal ?_
      | refine inB_ret ?_
      | refine inB_here ?_
      | (refine inB_past ?_ ?_; (· exact rfl))
      | refine Holds.reg ?_
      | refine Holds.block ?_
      | refine GS.nil ?_
      | (refine GS.step (s' := ?_) ?_ ?_ ?_; rotate_left; (· exact rfl); (· (simp [go_sem, List.take_of_length_le] <;> with_reducible rfl)))
      | (refine GS.skip ?_ ?_ ?_; (· exact rfl); (· exact rfl))
      | fail
    refine Holds.cond rfl (fun h => ?_) (fun h => ?_)
    · have h : b = false := by simpa using h
      subst h
      rw [all_at hxi hg]
      repeat' first
        | refine Holds.seq ?_
        | refine Holds.skip ?_
        | refine Holds.exit ?_
        | refine Holds.ret ?_
        | refine thenA_normal ?_
        | refine thenA_exit ?_
        | refine thenA_ret ?_
        | refine inB_normal ?_
        | refine inB_ret ?_
        | refine inB_here ?_
        | (refine inB_past ?_ ?_; (· exact rfl))
        | refine Holds.reg ?_
        | refine Holds.block ?_
        | refine GS.nil ?_
        | (refine GS.step (s' := ?_) ?_ ?_ ?_; rotate_left; (· exact rfl); (· (simp [go_sem, List.take_of_length_le] <;> with_reducible rfl)))
        | (refine GS.skip ?_ ?_ ?_; (· exact rfl); (· exact rfl))
        | fail
      refine Out.mk (xs := ?_) ?_ ?_ (by first | exact .inr rfl | exact .inl rfl)
      rotate_left
      · simp [go_sem, List.take_of_length_le] <;> with_reducible rfl
      exact .v _
    · have h : b = true := by simpa using h
      subst h
      repeat' first
        | refine Holds.seq ?_
        | refine Holds.skip ?_
        | refine Holds.exit ?_
        | refine Holds.ret ?_
        | refine thenA_normal ?_
        | refine thenA_exit ?_
        | refine thenA_ret ?_
        | refine inB_normal ?_
        | refine inB_ret ?_
        | refine inB_here ?_
        | (refine inB_past ?_ ?_; (· exact rfl))
        | refine Holds.reg ?_
        | refine Holds.block ?_
        | refine GS.nil ?_
        | (refine GS.step (s' := ?_) ?_ ?_ ?_; rotate_left; (· exact rfl); (· (simp [go_sem, List.take_of_length_le] <;> with_reducible rfl)))
        | (refine GS.skip ?_ ?_ ?_; (· exact rfl); (· exact rfl))
        | fail
      refine ⟨i + 1, ⟨by omega, ?_⟩, by omega, ?_⟩
      · rw [List.take_add_one, hxi, List.all_append, hall]; simp [hg]
      rw [wr64_id (by omega) (by omega)]
      exact Cov.ofn (id) rfl (by simp [go_sem, List.take_of_length_le, ren, ren1, okr, okr1, ChkT, ChkN, BlkN, nf]) (by simp [go_sem, List.take_of_length_le, ren, ren1, okr, okr1, ChkT, ChkN, BlkN, nf])
  · have hle : i = xs.length := by
      have : ¬ i < xs.length := by simpa using hl
      omega
    subst hle
    rw [List.take_length] at hall
    rw [hall]
    repeat' first
      | refine Holds.seq ?_
      | refine Holds.skip ?_
      | refine Holds.exit ?_
      | refine Holds.ret ?_
      | refine thenA_normal ?_
      | refine thenA_exit ?_
      | refine thenA_ret ?_
      | refine inB_normal ?_
      | refine inB_ret ?_
      | refine inB_here ?_
      | (refine inB_past ?_ ?_; (· exact rfl))
      | refine Holds.reg ?_
      | refine Holds.block ?_
      | refine GS.nil ?_
      | (refine GS.step (s' := ?_) ?_ ?_ ?_; rotate_left; (· exact rfl); (· (simp [go_sem, List.take_of_length_le] <;> with_reducible rfl)))
      | (refine GS.skip ?_ ?_ ?_; (· exact rfl); (· exact rfl))
      | fail
    refine Out.mk (xs := ?_) ?_ ?_ (by first | exact .inr rfl | exact .inl rfl)
    rotate_left
    · simp [go_sem, List.take_of_length_le] <;> with_reducible rfl
    exact .v _
theorem areCosts1 (x : Int) : Pure Try.prog 62 [.v (.int .i64 x)] (.v (.bool (!inR x 1 100))) := by
  refine Pure.mk (rs := [.tmp 2]) (nt := 6) Try.func62 (by kernel_rfl) rfl rfl rfl (by simp) ?_
  simp only [sl]
  repeat' first
    | refine Holds.seq ?_
    | refine Holds.skip ?_
    | refine Holds.exit ?_
    | refine Holds.ret ?_
    | refine thenA_normal ?_
    | refine thenA_exit ?_
    | refine thenA_ret ?_
    | refine inB_normal ?_
    | refine inB_ret ?_
    | refine inB_here ?_
    | (refine inB_past ?_ ?_; (· exact rfl))
    | refine Holds.reg ?_
    | refine Holds.block ?_
    | refine GS.nil ?_
    | (refine GS.step (s' := ?_) ?_ ?_ ?_; rotate_left; (· exact rfl); (· (simp [go_sem, List.take_of_length_le] <;> with_reducible rfl)))
    | (refine GS.skip ?_ ?_ ?_; (· exact rfl); (· exact rfl))
    | fail
  refine GS.cc (implIn x 1 100) rfl rfl rfl rfl (by simp [go_sem, List.take_of_length_le] <;> with_reducible rfl) rfl (by simp [go_sem, List.take_of_length_le]) ?_
  repeat' first
    | refine Holds.seq ?_
    | refine Holds.skip ?_
    | refine Holds.exit ?_
    | refine Holds.ret ?_
    | refine thenA_normal ?_
    | refine thenA_exit ?_
    | refine thenA_ret ?_
    | refine inB_normal ?_
    | refine inB_ret ?_
    | refine inB_here ?_
    | (refine inB_past ?_ ?_; (· exact rfl))
    | refine Holds.reg ?_
    | refine Holds.block ?_
    | refine GS.nil ?_
    | (refine GS.step (s' := ?_) ?_ ?_ ?_; rotate_left; (· exact rfl); (· (simp [go_sem, List.take_of_length_le] <;> with_reducible rfl)))
    | (refine GS.skip ?_ ?_ ?_; (· exact rfl); (· exact rfl))
    | fail
  refine Out.mk (xs := ?_) ?_ ?_ (by first | exact .inr rfl | exact .inl rfl)
  rotate_left
  · simp [go_sem, List.take_of_length_le] <;> with_reducible rfl
  exact .v _
def goodC (g : GrammarT) (cs : List Int) : Bool := goodG g && decide (cs.length = g.2.2.length) && cs.all fun n => inR n 1 100
theorem areCosts (g : GrammarT) (cs : List Int) (hx : g.2.2.length < 4611686018427387904) (hs : ∀ e ∈ g.2.2, e.2.length < 4611686018427387904) (hc : cs.length < 4611686018427387904) : Pure Try.prog 44 [.ag (grammarC g), .im 1 (ints cs)] (.v (.bool (goodC g cs))) := by
  refine Pure.mk (rs := [.tmp 4]) (nt := 20) Try.func44 (by kernel_rfl) rfl rfl rfl (by simp) ?_
  simp only [sl, grammarC]
  have c1 := implGoodG g hx hs
  have c2 := containsFuncInt 62 [] (fun n => !inR n 1 100) cs hc rfl (fun x _ => areCosts1 x)
  unfold goodC
  rw [all_not_any (fun n => inR n 1 100) cs]
  generalize goodG g = b at c1
  generalize (cs.any fun n => !inR n 1 100) = b2 at c2
  repeat' first
    | refine Holds.seq ?_
    | refine Holds.skip ?_
    | refine Holds.exit ?_
    | refine Holds.ret ?_
    | refine thenA_normal ?_
    | refine thenA_exit ?_
    | refine thenA_ret ?_
    | refine inB_normal ?_
    | refine inB_ret ?_
    | refine inB_here ?_
    | (refine inB_past ?_ ?_; (· exact rfl))
    | refine Holds.reg ?_
    | refine Holds.block ?_
    | refine GS.nil ?_
    | (refine GS.step (s' := ?_) ?_ ?_ ?_; rotate_left; (· exact rfl); (· (simp [go_sem, List.take_of_length_le] <;> with_reducible rfl)))
    | (refine GS.skip ?_ ?_ ?_; (· exact rfl); (· exact rfl))
    | fail
  refine GS.cc (c1) rfl rfl rfl rfl (by simp [go_sem, List.take_of_length_le, grammarC] <;> with_reducible rfl) rfl (by simp [go_sem, List.take_of_length_le, grammarC]) ?_
  repeat' first
    | refine Holds.seq ?_
    | refine Holds.skip ?_
    | refine Holds.exit ?_
    | refine Holds.ret ?_
    | refine thenA_normal ?_
    | refine thenA_exit ?_
    | refine thenA_ret ?_
    | refine inB_normal ?_
    | refine inB_ret ?_
    | refine inB_here ?_
    | (refine inB_past ?_ ?_; (· exact rfl))
    | refine Holds.reg ?_
    | refine Holds.block ?_
    | refine GS.nil ?_
    | (refine GS.step (s' := ?_) ?_ ?_ ?_; rotate_left; (· exact rfl); (· (simp [go_sem, List.take_of_length_le] <;> with_reducible rfl)))
    | (refine GS.skip ?_ ?_ ?_; (· exact rfl); (· exact rfl))
    | fail
  refine GS.guard (t := 7) rfl (fun h => ?_) (fun h => ?_)
  · subst h
    repeat' first
      | refine Holds.seq ?_
      | refine Holds.skip ?_
      | refine Holds.exit ?_
      | refine Holds.ret ?_
      | refine thenA_normal ?_
      | refine thenA_exit ?_
      | refine thenA_ret ?_
      | refine inB_normal ?_
      | refine inB_ret ?_
      | refine inB_here ?_
      | (refine inB_past ?_ ?_; (· exact rfl))
      | refine Holds.reg ?_
      | refine Holds.block ?_
      | refine GS.nil ?_
      | (refine GS.step (s' := ?_) ?_ ?_ ?_; rotate_left; (· exact rfl); (· (simp [go_sem, List.take_of_length_le] <;> with_reducible rfl)))
      | (refine GS.skip ?_ ?_ ?_; (· exact rfl); (· exact rfl))
      | fail
    refine GS.guard (t := 15) rfl (fun h => ?_) (fun h => ?_)
    · have h : cs.length = g.2.2.length := by have : (cs.length : Int) = g.2.2.length := by simpa using h
                                              omega
      rw [decide_eq_true h]
      repeat' first
        | refine Holds.seq ?_
        | refine Holds.skip ?_
        | refine Holds.exit ?_
        | refine Holds.ret ?_
        | refine thenA_normal ?_
        | refine thenA_exit ?_
        | refine thenA_ret ?_
        | refine inB_normal ?_
        | refine inB_ret ?_
        | refine inB_here ?_
        | (refine inB_past ?_ ?_; (· exact rfl))
        | refine Holds.reg ?_
        | refine Holds.block ?_
        | refine GS.nil ?_
        | (refine GS.step (s' := ?_) ?_ ?_ ?_; rotate_left; (· exact rfl); (· (simp [go_sem, List.take_of_length_le] <;> with_reducible rfl)))
        | (refine GS.skip ?_ ?_ ?_; (· exact rfl); (· exact rfl))
        | fail
      refine GS.cc (c2) rfl rfl rfl rfl (by simp [go_sem, List.take_of_length_le] <;> with_reducible rfl) rfl (by simp [go_sem, List.take_of_length_le]) ?_
      repeat' first
        | refine Holds.seq ?_
        | refine Holds.skip ?_
        | refine Holds.exit ?_
        | refine Holds.ret ?_
        | refine thenA_normal ?_
        | refine thenA_exit ?_
        | refine thenA_ret ?_
        | refine inB_normal ?_
        | refine inB_ret ?_
        | refine inB_here ?_
        | (refine inB_past ?_ ?_; (· exact rfl))
        | refine Holds.reg ?_
        | refine Holds.block ?_
        | refine GS.nil ?_
        | (refine GS.step (s' := ?_) ?_ ?_ ?_; rotate_left; (· exact rfl); (· (simp [go_sem, List.take_of_length_le] <;> with_reducible rfl)))
        | (refine GS.skip ?_ ?_ ?_; (· exact rfl); (· exact rfl))
        | fail
      refine Out.mk (xs := ?_) ?_ ?_ (by first | exact .inr rfl | exact .inl rfl)
      rotate_left
      · simp [go_sem, List.take_of_length_le] <;> with_reducible rfl
      exact .v _
    · have h : ¬ cs.length = g.2.2.length := fun e => by simp [e] at h
      rw [decide_eq_false h]
      repeat' first
        | refine Holds.seq ?_
        | refine Holds.skip ?_
        | refine Holds.exit ?_
        | refine Holds.ret ?_
        | refine thenA_normal ?_
        | refine thenA_exit ?_
        | refine thenA_ret ?_
        | refine inB_normal ?_
        | refine inB_ret ?_
        | refine inB_here ?_
        | (refine inB_past ?_ ?_; (· exact rfl))
        | refine Holds.reg ?_
        | refine Holds.block ?_
        | refine GS.nil ?_
        | (refine GS.step (s' := ?_) ?_ ?_ ?_; rotate_left; (· exact rfl); (· (simp [go_sem, List.take_of_length_le] <;> with_reducible rfl)))
        | (refine GS.skip ?_ ?_ ?_; (· exact rfl); (· exact rfl))
        | fail
      refine Out.mk (xs := ?_) ?_ ?_ (by first | exact .inr rfl | exact .inl rfl)
      rotate_left
      · simp [go_sem, List.take_of_length_le] <;> with_reducible rfl
      exact .v _
  · subst h
    repeat' first
      | refine Holds.seq ?_
      | refine Holds.skip ?_
      | refine Holds.exit ?_
      | refine Holds.ret ?_
      | refine thenA_normal ?_
      | refine thenA_exit ?_
      | refine thenA_ret ?_
      | refine inB_normal ?_
      | refine inB_ret ?_
      | refine inB_here ?_
      | (refine inB_past ?_ ?_; (· exact rfl))
      | refine Holds.reg ?_
      | refine Holds.block ?_
      | refine GS.nil ?_
      | (refine GS.step (s' := ?_) ?_ ?_ ?_; rotate_left; (· exact rfl); (· (simp [go_sem, List.take_of_length_le] <;> with_reducible rfl)))
      | (refine GS.skip ?_ ?_ ?_; (· exact rfl); (· exact rfl))
      | fail
    refine Out.mk (xs := ?_) ?_ ?_ (by first | exact .inr rfl | exact .inl rfl)
    rotate_left
    · simp [go_sem, List.take_of_length_le] <;> with_reducible rfl
    exact .v _
theorem l12Costs (g : GrammarT) (cs : List Int) (hx : g.2.2.length < 4611686018427387904) (hs : ∀ e ∈ g.2.2, e.2.length < 4611686018427387904) (hc : cs.length < 4611686018427387904) : Pure Try.prog 41 [.ag (grammarC g), .im 1 (ints cs)] (.v (.bool (goodC g cs))) := by
  refine Pure.mk (rs := [.tmp 4]) (nt := 19) Try.func41 (by kernel_rfl) rfl rfl rfl (by simp) ?_
  simp only [sl, grammarC]
  have c1 := specGoodG g hx hs
  have c2 := l1All cs 1 100 hc
  unfold goodC
  generalize goodG g = b at c1
  generalize (cs.all fun n => inR n 1 100) = b2 at c2
  repeat' first
    | refine Holds.seq ?_
    | refine Holds.skip ?_
    | refine Holds.exit ?_
    | refine Holds.ret ?_
    | refine thenA_normal ?_
    | refine thenA_exit ?_
    | refine thenA_ret ?_
    | refine inB_normal ?_
    | refine inB_ret ?_
    | refine inB_here ?_
    | (refine inB_past ?_ ?_; (· exact rfl))
    | refine Holds.reg ?_
    | refine Holds.block ?_
    | refine GS.nil ?_
    | (refine GS.step (s' := ?_) ?_ ?_ ?_; rotate_left; (· exact rfl); (· (simp [go_sem, List.take_of_length_le] <;> with_reducible rfl)))
    | (refine GS.skip ?_ ?_ ?_; (· exact rfl); (· exact rfl))
    | fail
  refine GS.cc (c1) rfl rfl rfl rfl (by simp [go_sem, List.take_of_length_le, grammarC] <;> with_reducible rfl) rfl (by simp [go_sem, List.take_of_length_le, grammarC]) ?_
  repeat' first
    | refine Holds.seq ?_
    | refine Holds.skip ?_
    | refine Holds.exit ?_
    | refine Holds.ret ?_
    | refine thenA_normal ?_
    | refine thenA_exit ?_
    | refine thenA_ret ?_
    | refine inB_normal ?_
    | refine inB_ret ?_
    | refine inB_here ?_
    | (refine inB_past ?_ ?_; (· exact rfl))
    | refine Holds.reg ?_
    | refine Holds.block ?_
    | refine GS.nil ?_
    | (refine GS.step (s' := ?_) ?_ ?_ ?_; rotate_left; (· exact rfl); (· (simp [go_sem, List.take_of_length_le] <;> with_reducible rfl)))
    | (refine GS.skip ?_ ?_ ?_; (· exact rfl); (· exact rfl))
    | fail
  refine GS.guard (t := 7) rfl (fun h => ?_) (fun h => ?_)
  · subst h
    repeat' first
      | refine Holds.seq ?_
      | refine Holds.skip ?_
      | refine Holds.exit ?_
      | refine Holds.ret ?_
      | refine thenA_normal ?_
      | refine thenA_exit ?_
      | refine thenA_ret ?_
      | refine inB_normal ?_
      | refine inB_ret ?_
      | refine inB_here ?_
      | (refine inB_past ?_ ?_; (· exact rfl))
      | refine Holds.reg ?_
      | refine Holds.block ?_
      | refine GS.nil ?_
      | (refine GS.step (s' := ?_) ?_ ?_ ?_; rotate_left; (· exact rfl); (· (simp [go_sem, List.take_of_length_le] <;> with_reducible rfl)))
      | (refine GS.skip ?_ ?_ ?_; (· exact rfl); (· exact rfl))
      | fail
    refine GS.guard (t := 15) rfl (fun h => ?_) (fun h => ?_)
    · have h : cs.length = g.2.2.length := by have : (cs.length : Int) = g.2.2.length := by simpa using h
                                              omega
      rw [decide_eq_true h]
      repeat' first
        | refine Holds.seq ?_
        | refine Holds.skip ?_
        | refine Holds.exit ?_
        | refine Holds.ret ?_
        | refine thenA_normal ?_
        | refine thenA_exit ?_
        | refine thenA_ret ?_
        | refine inB_normal ?_
        | refine inB_ret ?_
        | refine inB_here ?_
        | (refine inB_past ?_ ?_; (· exact rfl))
        | refine Holds.reg ?_
        | refine Holds.block ?_
        | refine GS.nil ?_
        | (refine GS.step (s' := ?_) ?_ ?_ ?_; rotate_left; (· exact rfl); (· (simp [go_sem, List.take_of_length_le] <;> with_reducible rfl)))
        | (refine GS.skip ?_ ?_ ?_; (· exact rfl); (· exact rfl))
        | fail
      refine GS.cc (c2) rfl rfl rfl rfl (by simp [go_sem, List.take_of_length_le] <;> with_reducible rfl) rfl (by simp [go_sem, List.take_of_length_le]) ?_
      repeat' first
        | refine Holds.seq ?_
        | refine Holds.skip ?_
        | refine Holds.exit ?_
        | refine Holds.ret ?_
        | refine thenA_normal ?_
        | refine thenA_exit ?_
        | refine thenA_ret ?_
        | refine inB_normal ?_
        | refine inB_ret ?_
        | refine inB_here ?_
        | (refine inB_past ?_ ?_; (· exact rfl))
        | refine Holds.reg ?_
        | refine Holds.block ?_
        | refine GS.nil ?_
        | (refine GS.step (s' := ?_) ?_ ?_ ?_; rotate_left; (· exact rfl); (· (simp [go_sem, List.take_of_length_le] <;> with_reducible rfl)))
        | (refine GS.skip ?_ ?_ ?_; (· exact rfl); (· exact rfl))
        | fail
      refine Out.mk (xs := ?_) ?_ ?_ (by first | exact .inr rfl | exact .inl rfl)
      rotate_left
      · simp [go_sem, List.take_of_length_le] <;> with_reducible rfl
      exact .v _
    · have h : ¬ cs.length = g.2.2.length := fun e => by simp [e] at h
      rw [decide_eq_false h]
      repeat' first
        | refine Holds.seq ?_
        | refine Holds.skip ?_
        | refine Holds.exit ?_
        | refine Holds.ret ?_
        | refine thenA_normal ?_
        | refine thenA_exit ?_
        | refine thenA_ret ?_
        | refine inB_normal ?_
        | refine inB_ret ?_
        | refine inB_here ?_
        | (refine inB_past ?_ ?_; (· exact rfl))
        | refine Holds.reg ?_
        | refine Holds.block ?_
        | refine GS.nil ?_
        | (refine GS.step (s' := ?_) ?_ ?_ ?_; rotate_left; (· exact rfl); (· (simp [go_sem, List.take_of_length_le] <;> with_reducible rfl)))
        | (refine GS.skip ?_ ?_ ?_; (· exact rfl); (· exact rfl))
        | fail
      refine Out.mk (xs := ?_) ?_ ?_ (by first | exact .inr rfl | exact .inl rfl)
      rotate_left
      · simp [go_sem, List.take_of_length_le] <;> with_reducible rfl
      exact .v _
  · subst h
    repeat' first
      | refine Holds.seq ?_
      | refine Holds.skip ?_
      | refine Holds.exit ?_
      | refine Holds.ret ?_
      | refine thenA_normal ?_
      | refine thenA_exit ?_
      | refine thenA_ret ?_
      | refine inB_normal ?_
      | refine inB_ret ?_
      | refine inB_here ?_
      | (refine inB_past ?_ ?_; (· exact rfl))
      | refine Holds.reg ?_
      | refine Holds.block ?_
      | refine GS.nil ?_
      | (refine GS.step (s' := ?_) ?_ ?_ ?_; rotate_left; (· exact rfl); (· (simp [go_sem, List.take_of_length_le] <;> with_reducible rfl)))
      | (refine GS.skip ?_ ?_ ?_; (· exact rfl); (· exact rfl))
      | fail
    refine Out.mk (xs := ?_) ?_ ?_ (by first | exact .inr rfl | exact .inl rfl)
    rotate_left
    · simp [go_sem, List.take_of_length_le] <;> with_reducible rfl
    exact .v _
theorem goodC_ok {g : GrammarT} {cs : List Int} (h : goodC g cs = true) : goodG g = true ∧ cs.length = g.2.2.length ∧ ∀ c ∈ cs, 1 ≤ c ∧ c ≤ 100 := by
  unfold goodC at h
  simp only [Bool.and_eq_true, decide_eq_true_eq, List.all_eq_true] at h
  exact ⟨h.1.1, h.1.2, fun c hc => by simpa [inR] using h.2 c hc⟩
theorem okRC_of {g : GrammarT} {cs : List Int} (h : goodC g cs = true) {nons : Nat} (hn : g.1 = nons) : ∀ rc ∈ g.2.2.zip cs, okRC nons rc := fun rc hrc => by
  obtain ⟨h1, h2, h3⟩ := goodC_ok h
  have hg := goodG_ok h1
  have hm := List.of_mem_zip hrc
  exact ⟨hg.l0 _ hm.1, by have := hg.l1 _ hm.1; omega, hg.r4 _ hm.1, fun x hx => by have := hg.s1 _ hm.1 x hx; omega, (h3 _ hm.2).1, (h3 _ hm.2).2⟩
end Go.Proofs.Ytpnpjkkppndhfaa.En
end
section
namespace Go.Proofs.Ytpnpjkkppndhfaa.En
open Go.RowKit
set_option linter.unusedSimpArgs false
set_option linter.unusedVariables false
/-- A tree: its nonterminal, rule, place, the place behind it, the tokens from and to, its trees. -/
inductive PT where
  | node (non rule : Int) (at' fin frm to : Nat) (kids : List PT)
def PT.fin : PT → Nat
  | .node _ _ _ d _ _ _ => d
mutual
def partC : PT → List AV
  | .node a b c d e f ks => [.v (.int .i64 a), .v (.int .i64 b), .v (.int .i64 c), .v (.int .i64 d), .v (.int .i64 e), .v (.int .i64 f), .im 1 (kidsC ks)]
def kidsC : List PT → List (List AV)
  | [] => []
  | k :: ks => [.pi (partC k)] :: kidsC ks
end
theorem kidsC_snoc (p : PT) : ∀ ks, kidsC (ks ++ [p]) = kidsC ks ++ [[.pi (partC p)]]
  | [] => by simp [kidsC]
  | k :: ks => by simp [kidsC, kidsC_snoc p ks]
@[simp] theorem kidsC_len : ∀ ks, (kidsC ks).length = ks.length
  | [] => rfl
  | k :: ks => by simp [kidsC, kidsC_len ks]
theorem kidsC_cl : ∀ (ks : List PT), ∀ row ∈ kidsC ks, ∀ x ∈ row, cl1 x = true
  | [], row, h, _, _ => by simp [kidsC] at h
  | k :: ks, row, h, x, hx => by
    simp only [kidsC, List.mem_cons] at h
    rcases h with rfl | h
    · simp at hx; subst hx; rfl
    · exact kidsC_cl ks row h x hx
@[simp] theorem nfr_kidsC (ks : List PT) : nfr (kidsC ks) := nfr_of_ok (kidsC_cl ks)
/-- The rule at a place of the list, seen as a rule of the grammar. -/
def ruleAt (g : GrammarT) (tree : List Int) (at' : Nat) : RuleT := g.2.2.getD (tree.getD at' 0).toNat (0, [])
def headOk (g : GrammarT) (tree : List Int) (non : Int) (at' : Nat) : Bool := decide (at' < tree.length) && inR (tree.getD at' 0) 0 ((g.2.2.length : Int) - 1) && decide ((ruleAt g tree at').1 = non)
def kidsF (rd : Int → Nat → List Int → Option PT × List Int) : List Int → Nat → List PT → List Int → Option (List PT × Nat) × List Int
  | [], e, ks, w => (some (ks, e), w)
  | x :: xs, e, ks, w => if x < 0 then kidsF rd xs e ks (w ++ [-1 - x]) else
    match rd x e w with
    | (some p, w') => kidsF rd xs p.fin (ks ++ [p]) w'
    | (none, w') => (none, w')
def readF (g : GrammarT) (tree : List Int) : Nat → Int → Nat → List Int → Option PT × List Int
  | 0, _, _, w => (none, w)
  | f + 1, non, at', w => if headOk g tree non at' then
      match kidsF (readF g tree f) (ruleAt g tree at').2 (at' + 1) [] w with
      | (some (ks, e), w') => (some (.node non (tree.getD at' 0) at' e w.length w'.length ks), w')
      | (none, w') => (none, w')
    else (none, w)
def endK (rd : Int → Nat → Int) : List Int → Nat → Int
  | [], e => e
  | x :: xs, e => if x < 0 then endK rd xs e else if rd x e < 0 then -1 else endK rd xs (rd x e).toNat
def endF (g : GrammarT) (tree : List Int) : Nat → Int → Nat → Int
  | 0, _, _ => -1
  | f + 1, non, at' => if headOk g tree non at' then endK (endF g tree f) (ruleAt g tree at').2 (at' + 1) else -1
theorem headOk_lt {g : GrammarT} {tree : List Int} {non : Int} {at' : Nat} (h : headOk g tree non at' = true) : at' < tree.length := by
  unfold headOk at h
  simp only [Bool.and_eq_true, decide_eq_true_eq] at h
  exact h.1.1
theorem kidsF_props {rd : Int → Nat → List Int → Option PT × List Int} {n : Nat} (hrd : ∀ x e w p w', rd x e w = (some p, w') → e < p.fin ∧ p.fin ≤ n ∧ w'.length ≤ w.length + 4 * (p.fin - e)) :
    ∀ (xs : List Int) (e : Nat) (ks : List PT) (w : List Int) (ks' : List PT) (e' : Nat) (w' : List Int), e ≤ n → kidsF rd xs e ks w = (some (ks', e'), w') → e ≤ e' ∧ e' ≤ n ∧ w'.length ≤ w.length + xs.length + 4 * (e' - e) := by
  intro xs
  induction xs with
  | nil =>
    intro e ks w ks' e' w' he h
    simp only [kidsF, Prod.mk.injEq, Option.some.injEq] at h
    obtain ⟨⟨rfl, rfl⟩, rfl⟩ := h
    simp [he]
  | cons x xs ih =>
    intro e ks w ks' e' w' he h
    unfold kidsF at h
    split at h
    · have := ih e ks _ ks' e' w' he h
      simp at this ⊢
      omega
    · split at h
      · rename_i p w1 hp
        obtain ⟨h1, h2, h3⟩ := hrd x e w p w1 hp
        have := ih p.fin _ w1 ks' e' w' h2 h
        simp at this ⊢
        omega
      · cases h
theorem readF_props {g : GrammarT} (hg : OkG g) (tree : List Int) : ∀ (f : Nat) (non : Int) (at' : Nat) (w : List Int) (p : PT) (w' : List Int), readF g tree f non at' w = (some p, w') → at' < p.fin ∧ p.fin ≤ tree.length ∧ w'.length ≤ w.length + 4 * (p.fin - at') := by
  intro f
  induction f with
  | zero => intro non at' w p w' h; cases h
  | succ f ih =>
    intro non at' w p w' h
    unfold readF at h
    split at h
    · rename_i hh
      have hlt := headOk_lt hh
      split at h
      · rename_i ks e w1 hk
        cases h
        have := kidsF_props (n := tree.length) ih _ _ _ _ _ _ _ (by omega) hk
        have h4 : (ruleAt g tree at').2.length ≤ 4 := by
          unfold ruleAt
          by_cases hr : (tree.getD at' 0).toNat < g.2.2.length
          · rw [List.getD_eq_getElem?_getD, List.getElem?_eq_getElem hr]
            exact hg.r4 _ (List.getElem_mem hr)
          · rw [List.getD_eq_getElem?_getD, List.getElem?_eq_none (by omega)]; simp
        simp only [PT.fin]
        omega
      · cases h
    · cases h
theorem endK_read {rd : Int → Nat → List Int → Option PT × List Int} {rd' : Int → Nat → Int} (h : ∀ x e w, rd' x e = match (rd x e w).1 with | some p => (p.fin : Int) | none => -1) :
    ∀ (xs : List Int) (e : Nat) (ks : List PT) (w : List Int), endK rd' xs e = match (kidsF rd xs e ks w).1 with | some q => (q.2 : Int) | none => -1 := by
  intro xs
  induction xs with
  | nil => intro e ks w; rfl
  | cons x xs ih =>
    intro e ks w
    unfold endK kidsF
    by_cases h0 : x < 0
    · rw [if_pos h0, if_pos h0]
      exact ih e ks _
    · rw [if_neg h0, if_neg h0]
      have hx := h x e w
      generalize rd x e w = q at hx
      obtain ⟨q, w1⟩ := q
      cases q with
      | none =>
        dsimp only at hx
        rw [hx]; rfl
      | some p =>
        dsimp only at hx
        rw [hx, if_neg (Int.not_lt.2 (Int.natCast_nonneg _)), Int.toNat_natCast]
        exact ih _ _ _
theorem end_read (g : GrammarT) (tree : List Int) : ∀ (f : Nat) (non : Int) (at' : Nat) (w : List Int), endF g tree f non at' = match (readF g tree f non at' w).1 with | some p => (p.fin : Int) | none => -1 := by
  intro f
  induction f with
  | zero => intro non at' w; rfl
  | succ f ih =>
    intro non at' w
    unfold endF readF
    split
    · have := endK_read ih (ruleAt g tree at').2 (at' + 1) [] w
      rw [this]
      generalize kidsF (readF g tree f) (ruleAt g tree at').2 (at' + 1) [] w = q
      obtain ⟨q, w1⟩ := q
      cases q <;> rfl
    · rfl
theorem endF_props {g : GrammarT} (hg : OkG g) (tree : List Int) (f : Nat) (non : Int) (at' : Nat) (h : ¬ endF g tree f non at' < 0) : (at' : Int) < endF g tree f non at' ∧ endF g tree f non at' ≤ tree.length := by
  have e := end_read g tree f non at' []
  have hp := readF_props hg tree f non at' []
  generalize readF g tree f non at' [] = q at e hp
  obtain ⟨q, w1⟩ := q
  cases q with
  | none => dsimp only at e; omega
  | some p =>
    dsimp only at e
    have := hp p w1 rfl
    omega
end Go.Proofs.Ytpnpjkkppndhfaa.En
end
section
namespace Go.Proofs.Ytpnpjkkppndhfaa.En
open Go.RowKit
set_option linter.unusedSimpArgs false
set_option linter.unusedVariables false
set_option maxHeartbeats 8000000
def askedV (g : GrammarT) (non : Int) (tree : List Int) : Bool := goodG g && inR non 0 (g.1 - 1) && decide (tree.length ≤ 60)
theorem l11Asked (g : GrammarT) (non : Int) (tree : List Int) (hx : g.2.2.length < 4611686018427387904) (hs : ∀ e ∈ g.2.2, e.2.length < 4611686018427387904) : Pure Try.prog 24 [.ag (grammarC g), .v (.int .i64 non), .im 1 (ints tree)] (.v (.bool (askedV g non tree))) := by
  refine Pure.mk (rs := [.tmp 6]) (nt := 21) Try.func24 (by kernel_rfl) rfl rfl rfl (by simp) ?_
  simp only [sl, grammarC]
  have c1 := specGoodG g hx hs
  unfold askedV
  generalize hg : goodG g = b at c1
  repeat' first
    | refine Holds.seq ?_
    | refine Holds.skip ?_
    | refine Holds.exit ?_
    | refine Holds.ret ?_
    | refine thenA_normal ?_
    | refine thenA_exit ?_
    | refine thenA_ret ?_
    | refine inB_normal ?_
    | refine inB_ret ?_
    | refine inB_here ?_
    | (refine inB_past ?_ ?_; (· exact rfl))
    | refine Holds.reg ?_
    | refine Holds.block ?_
    | refine GS.nil ?_
    | (refine GS.step (s' := ?_) ?_ ?_ ?_; rotate_left; (· exact rfl); (· (simp [go_sem, List.take_of_length_le] <;> with_reducible rfl)))
    | (refine GS.skip ?_ ?_ ?_; (· exact rfl); (· exact rfl))
    | fail
  refine GS.cc (c1) rfl rfl rfl rfl (by simp [go_sem, List.take_of_length_le, grammarC] <;> with_reducible rfl) rfl (by simp [go_sem, List.take_of_length_le, grammarC]) ?_
  repeat' first
    | refine Holds.seq ?_
    | refine Holds.skip ?_
    | refine Holds.exit ?_
    | refine Holds.ret ?_
    | refine thenA_normal ?_
    | refine thenA_exit ?_
    | refine thenA_ret ?_
    | refine inB_normal ?_
    | refine inB_ret ?_
    | refine inB_here ?_
    | (refine inB_past ?_ ?_; (· exact rfl))
    | refine Holds.reg ?_
    | refine Holds.block ?_
    | refine GS.nil ?_
    | (refine GS.step (s' := ?_) ?_ ?_ ?_; rotate_left; (· exact rfl); (· (simp [go_sem, List.take_of_length_le] <;> with_reducible rfl)))
    | (refine GS.skip ?_ ?_ ?_; (· exact rfl); (· exact rfl))
    | fail
  refine GS.guard (t := 9) rfl (fun h => ?_) (fun h => ?_)
  · subst h
    have hok := goodG_ok hg
    have hw : wr64 (g.1 - 1) = g.1 - 1 := wr64_id (by have := hok.n0; have := hok.n1; omega) (by have := hok.n0; have := hok.n1; omega)
    repeat' first
      | refine Holds.seq ?_
      | refine Holds.skip ?_
      | refine Holds.exit ?_
      | refine Holds.ret ?_
      | refine thenA_normal ?_
      | refine thenA_exit ?_
      | refine thenA_ret ?_
      | refine inB_normal ?_
      | refine inB_ret ?_
      | refine inB_here ?_
      | (refine inB_past ?_ ?_; (· exact rfl))
      | refine Holds.reg ?_
      | refine Holds.block ?_
      | refine GS.nil ?_
      | (refine GS.step (s' := ?_) ?_ ?_ ?_; rotate_left; (· exact rfl); (· (simp [go_sem, List.take_of_length_le, hw] <;> with_reducible rfl)))
      | (refine GS.skip ?_ ?_ ?_; (· exact rfl); (· exact rfl))
      | fail
    refine GS.cc (l1In non 0 (g.1 - 1)) rfl rfl rfl rfl (by simp [go_sem, List.take_of_length_le] <;> with_reducible rfl) rfl (by simp [go_sem, List.take_of_length_le]) ?_
    generalize inR non 0 (g.1 - 1) = b2
    repeat' first
      | refine Holds.seq ?_
      | refine Holds.skip ?_
      | refine Holds.exit ?_
      | refine Holds.ret ?_
      | refine thenA_normal ?_
      | refine thenA_exit ?_
      | refine thenA_ret ?_
      | refine inB_normal ?_
      | refine inB_ret ?_
      | refine inB_here ?_
      | (refine inB_past ?_ ?_; (· exact rfl))
      | refine Holds.reg ?_
      | refine Holds.block ?_
      | refine GS.nil ?_
      | (refine GS.step (s' := ?_) ?_ ?_ ?_; rotate_left; (· exact rfl); (· (simp [go_sem, List.take_of_length_le] <;> with_reducible rfl)))
      | (refine GS.skip ?_ ?_ ?_; (· exact rfl); (· exact rfl))
      | fail
    refine GS.guard (t := 16) rfl (fun h => ?_) (fun h => ?_)
    · subst h
      rw [show decide (tree.length ≤ 60) = decide ((tree.length : Int) ≤ 60) by rw [decide_eq_decide]; omega]
      repeat' first
        | refine Holds.seq ?_
        | refine Holds.skip ?_
        | refine Holds.exit ?_
        | refine Holds.ret ?_
        | refine thenA_normal ?_
        | refine thenA_exit ?_
        | refine thenA_ret ?_
        | refine inB_normal ?_
        | refine inB_ret ?_
        | refine inB_here ?_
        | (refine inB_past ?_ ?_; (· exact rfl))
        | refine Holds.reg ?_
        | refine Holds.block ?_
        | refine GS.nil ?_
        | (refine GS.step (s' := ?_) ?_ ?_ ?_; rotate_left; (· exact rfl); (· (simp [go_sem, List.take_of_length_le] <;> with_reducible rfl)))
        | (refine GS.skip ?_ ?_ ?_; (· exact rfl); (· exact rfl))
        | fail
      refine Out.mk (xs := ?_) ?_ ?_ (by first | exact .inr rfl | exact .inl rfl)
      rotate_left
      · simp [go_sem, List.take_of_length_le] <;> with_reducible rfl
      exact .v _
    · subst h
      repeat' first
        | refine Holds.seq ?_
        | refine Holds.skip ?_
        | refine Holds.exit ?_
        | refine Holds.ret ?_
        | refine thenA_normal ?_
        | refine thenA_exit ?_
        | refine thenA_ret ?_
        | refine inB_normal ?_
        | refine inB_ret ?_
        | refine inB_here ?_
        | (refine inB_past ?_ ?_; (· exact rfl))
        | refine Holds.reg ?_
        | refine Holds.block ?_
        | refine GS.nil ?_
        | (refine GS.step (s' := ?_) ?_ ?_ ?_; rotate_left; (· exact rfl); (· (simp [go_sem, List.take_of_length_le] <;> with_reducible rfl)))
        | (refine GS.skip ?_ ?_ ?_; (· exact rfl); (· exact rfl))
        | fail
      refine Out.mk (xs := ?_) ?_ ?_ (by first | exact .inr rfl | exact .inl rfl)
      rotate_left
      · simp [go_sem, List.take_of_length_le] <;> with_reducible rfl
      exact .v _
  · subst h
    repeat' first
      | refine Holds.seq ?_
      | refine Holds.skip ?_
      | refine Holds.exit ?_
      | refine Holds.ret ?_
      | refine thenA_normal ?_
      | refine thenA_exit ?_
      | refine thenA_ret ?_
      | refine inB_normal ?_
      | refine inB_ret ?_
      | refine inB_here ?_
      | (refine inB_past ?_ ?_; (· exact rfl))
      | refine Holds.reg ?_
      | refine Holds.block ?_
      | refine GS.nil ?_
      | (refine GS.step (s' := ?_) ?_ ?_ ?_; rotate_left; (· exact rfl); (· (simp [go_sem, List.take_of_length_le] <;> with_reducible rfl)))
      | (refine GS.skip ?_ ?_ ?_; (· exact rfl); (· exact rfl))
      | fail
    refine Out.mk (xs := ?_) ?_ ?_ (by first | exact .inr rfl | exact .inl rfl)
    rotate_left
    · simp [go_sem, List.take_of_length_le] <;> with_reducible rfl
    exact .v _
theorem getD_at {α : Type} {xs : List α} {i : Nat} {x d : α} (h : xs[i]? = some x) : xs.getD i d = x := by rw [List.getD_eq_getElem?_getD, h]; rfl
/-- The three ways in which a head is not good. -/
theorem head_cases {g : GrammarT} {tree : List Int} {non : Int} {at' : Nat} (h : headOk g tree non at' = false) : tree.length ≤ at' ∨ (∃ z, tree[at']? = some z ∧ inR z 0 ((g.2.2.length : Int) - 1) = false) ∨ ∃ (k : Nat) (r : RuleT), tree[at']? = some (k : Int) ∧ k < g.2.2.length ∧ inR (k : Int) 0 ((g.2.2.length : Int) - 1) = true ∧ g.2.2[k]? = some r ∧ r.1 ≠ non := by
  by_cases h1 : tree.length ≤ at'
  · exact .inl h1
  · have hz : tree[at']? = some tree[at'] := List.getElem?_eq_getElem (by omega)
    generalize tree[at'] = z at hz
    cases h2 : inR z 0 ((g.2.2.length : Int) - 1) with
    | false => exact .inr (.inl ⟨z, hz, h2⟩)
    | true =>
      have h2' : 0 ≤ z ∧ z ≤ (g.2.2.length : Int) - 1 := by simpa [inR] using h2
      obtain ⟨k, rfl⟩ : ∃ k : Nat, z = k := ⟨z.toNat, by omega⟩
      have hk : k < g.2.2.length := by omega
      refine .inr (.inr ⟨k, g.2.2[k], hz, hk, h2, List.getElem?_eq_getElem hk, fun e => ?_⟩)
      unfold headOk ruleAt at h
      rw [getD_at hz, h2, Int.toNat_natCast, getD_at (List.getElem?_eq_getElem hk), decide_eq_true e, decide_eq_true (by omega)] at h
      cases h
theorem head_good {g : GrammarT} {tree : List Int} {non : Int} {at' : Nat} (h : headOk g tree non at' = true) : ∃ (k : Nat) (r : RuleT), at' < tree.length ∧ tree[at']? = some (k : Int) ∧ k < g.2.2.length ∧ inR (k : Int) 0 ((g.2.2.length : Int) - 1) = true ∧ g.2.2[k]? = some r ∧ r.1 = non ∧ ruleAt g tree at' = r ∧ tree.getD at' 0 = k := by
  have hlt := headOk_lt h
  have hz : tree[at']? = some tree[at'] := List.getElem?_eq_getElem hlt
  generalize tree[at'] = z at hz
  unfold headOk ruleAt at h
  rw [getD_at hz] at h
  simp only [Bool.and_eq_true, decide_eq_true_eq] at h
  obtain ⟨⟨_, h2⟩, h3⟩ := h
  have h2' : 0 ≤ z ∧ z ≤ (g.2.2.length : Int) - 1 := by simpa [inR] using h2
  obtain ⟨k, rfl⟩ : ∃ k : Nat, z = k := ⟨z.toNat, by omega⟩
  have hk : k < g.2.2.length := by omega
  have hr : g.2.2[k]? = some g.2.2[k] := List.getElem?_eq_getElem hk
  rw [Int.toNat_natCast, getD_at hr] at h3
  exact ⟨k, g.2.2[k], hlt, hz, hk, h2, hr, h3, by unfold ruleAt; rw [getD_at hz, Int.toNat_natCast, getD_at hr], getD_at hz⟩
theorem endFail (g : GrammarT) (hg : OkG g) (tree : List Int) (ht : tree.length ≤ 60) (non : Int) (at' : Nat) (ha : at' ≤ 100) (hh : headOk g tree non at' = false) : Pure Try.prog 47 [.ag (grammarC g), .v (.int .i64 non), .im 1 (ints tree), .v (.int .i64 at')] (.v (.int .i64 (-1))) := by
  have hgl := hg.len
  have hw : wr64 ((g.2.2.length : Int) - 1) = (g.2.2.length : Int) - 1 := wr64_id (by omega) (by omega)
  rcases head_cases hh with h1 | ⟨z, hz, h2⟩ | ⟨k, r, hz, hk, h2, hr, h3⟩
  · refine Pure.mk (rs := [.tmp 8]) (nt := 68) Try.func47 (by kernel_rfl) rfl rfl rfl (by simp) ?_
    simp only [sl, grammarC]
    repeat' first
      | refine Holds.seq ?_
      | refine Holds.skip ?_
      | refine Holds.exit ?_
      | refine Holds.ret ?_
      | refine thenA_normal ?_
      | refine thenA_exit ?_
      | refine thenA_ret ?_
      | refine inB_normal ?_
      | refine inB_ret ?_
      | refine inB_here ?_
      | (refine inB_past ?_ ?_; (· exact rfl))
      | refine Holds.reg ?_
      | refine Holds.block ?_
      | refine GS.nil ?_
      | refine Gd.nil ?_
      | (refine Holds.any mixed ?_ ?_; (· kernel_rfl))
      | (refine GS.step (s' := ?_) ?_ ?_ ?_; rotate_left; (· exact rfl); (· (simp [go_sem, List.take_of_length_le, h1] <;> with_reducible rfl)))
      | (refine GS.skip ?_ ?_ ?_; (· exact rfl); (· exact rfl))
      | (refine Gd.go (s' := ?_) ?_ ?_ ?_; rotate_left; (· exact rfl); (· (simp [go_sem, List.take_of_length_le, h1] <;> with_reducible rfl)))
      | (refine Gd.skip ?_ ?_ ?_; (· exact rfl); (· exact rfl))
      | fail
    refine Holds.cond rfl (fun h => ?_) (fun h => ?_)
    · repeat' first
        | refine Holds.seq ?_
        | refine Holds.skip ?_
        | refine Holds.exit ?_
        | refine Holds.ret ?_
        | refine thenA_normal ?_
        | refine thenA_exit ?_
        | refine thenA_ret ?_
        | refine inB_normal ?_
        | refine inB_ret ?_
        | refine inB_here ?_
        | (refine inB_past ?_ ?_; (· exact rfl))
        | refine Holds.reg ?_
        | refine Holds.block ?_
        | refine GS.nil ?_
        | refine Gd.nil ?_
        | (refine Holds.any mixed ?_ ?_; (· kernel_rfl))
        | (refine GS.step (s' := ?_) ?_ ?_ ?_; rotate_left; (· exact rfl); (· (simp [go_sem, List.take_of_length_le] <;> with_reducible rfl)))
        | (refine GS.skip ?_ ?_ ?_; (· exact rfl); (· exact rfl))
        | (refine Gd.go (s' := ?_) ?_ ?_ ?_; rotate_left; (· exact rfl); (· (simp [go_sem, List.take_of_length_le] <;> with_reducible rfl)))
        | (refine Gd.skip ?_ ?_ ?_; (· exact rfl); (· exact rfl))
        | fail
      refine Out.mk (xs := ?_) ?_ ?_ (by first | exact .inr rfl | exact .inl rfl)
      rotate_left
      · simp [go_sem, List.take_of_length_le] <;> with_reducible rfl
      exact .v _
    · cases h
  · refine Pure.mk (rs := [.tmp 8]) (nt := 68) Try.func47 (by kernel_rfl) rfl rfl rfl (by simp) ?_
    simp only [sl, grammarC]
    have hlt : at' < tree.length := (List.getElem?_eq_some_iff.1 hz).1
    repeat' first
      | refine Holds.seq ?_
      | refine Holds.skip ?_
      | refine Holds.exit ?_
      | refine Holds.ret ?_
      | refine thenA_normal ?_
      | refine thenA_exit ?_
      | refine thenA_ret ?_
      | refine inB_normal ?_
      | refine inB_ret ?_
      | refine inB_here ?_
      | (refine inB_past ?_ ?_; (· exact rfl))
      | refine Holds.reg ?_
      | refine Holds.block ?_
      | refine GS.nil ?_
      | refine Gd.nil ?_
      | (refine Holds.any mixed ?_ ?_; (· kernel_rfl))
      | (refine GS.step (s' := ?_) ?_ ?_ ?_; rotate_left; (· exact rfl); (· (simp [go_sem, List.take_of_length_le, show ¬ tree.length ≤ at' by omega, hz, hw] <;> with_reducible rfl)))
      | (refine GS.skip ?_ ?_ ?_; (· exact rfl); (· exact rfl))
      | (refine Gd.go (s' := ?_) ?_ ?_ ?_; rotate_left; (· exact rfl); (· (simp [go_sem, List.take_of_length_le, show ¬ tree.length ≤ at' by omega, hz, hw] <;> with_reducible rfl)))
      | (refine Gd.skip ?_ ?_ ?_; (· exact rfl); (· exact rfl))
      | fail
    first | refine GS.cc (l1In z 0 ((g.2.2.length : Int) - 1)) rfl rfl rfl rfl (by simp [go_sem, List.take_of_length_le] <;> with_reducible rfl) rfl (by simp [go_sem, List.take_of_length_le]) ?_ | refine Gd.cc (l1In z 0 ((g.2.2.length : Int) - 1)) rfl rfl rfl rfl (by simp [go_sem, List.take_of_length_le] <;> with_reducible rfl) rfl (by simp [go_sem, List.take_of_length_le]) ?_
    rw [h2]
    repeat' first
      | refine Holds.seq ?_
      | refine Holds.skip ?_
      | refine Holds.exit ?_
      | refine Holds.ret ?_
      | refine thenA_normal ?_
      | refine thenA_exit ?_
      | refine thenA_ret ?_
      | refine inB_normal ?_
      | refine inB_ret ?_
      | refine inB_here ?_
      | (refine inB_past ?_ ?_; (· exact rfl))
      | refine Holds.reg ?_
      | refine Holds.block ?_
      | refine GS.nil ?_
      | refine Gd.nil ?_
      | (refine Holds.any mixed ?_ ?_; (· kernel_rfl))
      | (refine GS.step (s' := ?_) ?_ ?_ ?_; rotate_left; (· exact rfl); (· (simp [go_sem, List.take_of_length_le] <;> with_reducible rfl)))
      | (refine GS.skip ?_ ?_ ?_; (· exact rfl); (· exact rfl))
      | (refine Gd.go (s' := ?_) ?_ ?_ ?_; rotate_left; (· exact rfl); (· (simp [go_sem, List.take_of_length_le] <;> with_reducible rfl)))
      | (refine Gd.skip ?_ ?_ ?_; (· exact rfl); (· exact rfl))
      | fail
    refine Holds.cond rfl (fun h => ?_) (fun h => ?_)
    · repeat' first
        | refine Holds.seq ?_
        | refine Holds.skip ?_
        | refine Holds.exit ?_
        | refine Holds.ret ?_
        | refine thenA_normal ?_
        | refine thenA_exit ?_
        | refine thenA_ret ?_
        | refine inB_normal ?_
        | refine inB_ret ?_
        | refine inB_here ?_
        | (refine inB_past ?_ ?_; (· exact rfl))
        | refine Holds.reg ?_
        | refine Holds.block ?_
        | refine GS.nil ?_
        | refine Gd.nil ?_
        | (refine Holds.any mixed ?_ ?_; (· kernel_rfl))
        | (refine GS.step (s' := ?_) ?_ ?_ ?_; rotate_left; (· exact rfl); (· (simp [go_sem, List.take_of_length_le] <;> with_reducible rfl)))
        | (refine GS.skip ?_ ?_ ?_; (· exact rfl); (· exact rfl))
        | (refine Gd.go (s' := ?_) ?_ ?_ ?_; rotate_left; (· exact rfl); (· (simp [go_sem, List.take_of_length_le] <;> with_reducible rfl)))
        | (refine Gd.skip ?_ ?_ ?_; (· exact rfl); (· exact rfl))
        | fail
      refine Out.mk (xs := ?_) ?_ ?_ (by first | exact .inr rfl | exact .inl rfl)
      rotate_left
      · simp [go_sem, List.take_of_length_le] <;> with_reducible rfl
      exact .v _
    · cases h
  · refine Pure.mk (rs := [.tmp 8]) (nt := 68) Try.func47 (by kernel_rfl) rfl rfl rfl (by simp) ?_
    simp only [sl, grammarC]
    have hlt : at' < tree.length := (List.getElem?_eq_some_iff.1 hz).1
    have h3b : (r.1 != non) = true := by simpa using h3
    repeat' first
      | refine Holds.seq ?_
      | refine Holds.skip ?_
      | refine Holds.exit ?_
      | refine Holds.ret ?_
      | refine thenA_normal ?_
      | refine thenA_exit ?_
      | refine thenA_ret ?_
      | refine inB_normal ?_
      | refine inB_ret ?_
      | refine inB_here ?_
      | (refine inB_past ?_ ?_; (· exact rfl))
      | refine Holds.reg ?_
      | refine Holds.block ?_
      | refine GS.nil ?_
      | refine Gd.nil ?_
      | (refine Holds.any mixed ?_ ?_; (· kernel_rfl))
      | (refine GS.step (s' := ?_) ?_ ?_ ?_; rotate_left; (· exact rfl); (· (simp [go_sem, List.take_of_length_le, show ¬ tree.length ≤ at' by omega, hz, hw] <;> with_reducible rfl)))
      | (refine GS.skip ?_ ?_ ?_; (· exact rfl); (· exact rfl))
      | (refine Gd.go (s' := ?_) ?_ ?_ ?_; rotate_left; (· exact rfl); (· (simp [go_sem, List.take_of_length_le, show ¬ tree.length ≤ at' by omega, hz, hw] <;> with_reducible rfl)))
      | (refine Gd.skip ?_ ?_ ?_; (· exact rfl); (· exact rfl))
      | fail
    first | refine GS.cc (l1In (k : Int) 0 ((g.2.2.length : Int) - 1)) rfl rfl rfl rfl (by simp [go_sem, List.take_of_length_le] <;> with_reducible rfl) rfl (by simp [go_sem, List.take_of_length_le]) ?_ | refine Gd.cc (l1In (k : Int) 0 ((g.2.2.length : Int) - 1)) rfl rfl rfl rfl (by simp [go_sem, List.take_of_length_le] <;> with_reducible rfl) rfl (by simp [go_sem, List.take_of_length_le]) ?_
    rw [h2]
    repeat' first
      | refine Holds.seq ?_
      | refine Holds.skip ?_
      | refine Holds.exit ?_
      | refine Holds.ret ?_
      | refine thenA_normal ?_
      | refine thenA_exit ?_
      | refine thenA_ret ?_
      | refine inB_normal ?_
      | refine inB_ret ?_
      | refine inB_here ?_
      | (refine inB_past ?_ ?_; (· exact rfl))
      | refine Holds.reg ?_
      | refine Holds.block ?_
      | refine GS.nil ?_
      | refine Gd.nil ?_
      | (refine Holds.any mixed ?_ ?_; (· kernel_rfl))
      | (refine GS.step (s' := ?_) ?_ ?_ ?_; rotate_left; (· exact rfl); (· (simp [go_sem, List.take_of_length_le, show ¬ tree.length ≤ at' by omega, hz, hr, ruleC, h3b] <;> with_reducible rfl)))
      | (refine GS.skip ?_ ?_ ?_; (· exact rfl); (· exact rfl))
      | (refine Gd.go (s' := ?_) ?_ ?_ ?_; rotate_left; (· exact rfl); (· (simp [go_sem, List.take_of_length_le, show ¬ tree.length ≤ at' by omega, hz, hr, ruleC, h3b] <;> with_reducible rfl)))
      | (refine Gd.skip ?_ ?_ ?_; (· exact rfl); (· exact rfl))
      | fail
    refine Holds.cond rfl (fun h => ?_) (fun h => ?_)
    · repeat' first
        | refine Holds.seq ?_
        | refine Holds.skip ?_
        | refine Holds.exit ?_
        | refine Holds.ret ?_
        | refine thenA_normal ?_
        | refine thenA_exit ?_
        | refine thenA_ret ?_
        | refine inB_normal ?_
        | refine inB_ret ?_
        | refine inB_here ?_
        | (refine inB_past ?_ ?_; (· exact rfl))
        | refine Holds.reg ?_
        | refine Holds.block ?_
        | refine GS.nil ?_
        | refine Gd.nil ?_
        | (refine Holds.any mixed ?_ ?_; (· kernel_rfl))
        | (refine GS.step (s' := ?_) ?_ ?_ ?_; rotate_left; (· exact rfl); (· (simp [go_sem, List.take_of_length_le] <;> with_reducible rfl)))
        | (refine GS.skip ?_ ?_ ?_; (· exact rfl); (· exact rfl))
        | (refine Gd.go (s' := ?_) ?_ ?_ ?_; rotate_left; (· exact rfl); (· (simp [go_sem, List.take_of_length_le] <;> with_reducible rfl)))
        | (refine Gd.skip ?_ ?_ ?_; (· exact rfl); (· exact rfl))
        | fail
      refine Out.mk (xs := ?_) ?_ ?_ (by first | exact .inr rfl | exact .inl rfl)
      rotate_left
      · simp [go_sem, List.take_of_length_le] <;> with_reducible rfl
      exact .v _
    · cases h
theorem l11End (g : GrammarT) (hg : OkG g) (tree : List Int) (ht : tree.length ≤ 60) : ∀ (f : Nat) (non : Int) (at' : Nat), at' ≤ 100 → tree.length < f + at' → Pure Try.prog 47 [.ag (grammarC g), .v (.int .i64 non), .im 1 (ints tree), .v (.int .i64 at')] (.v (.int .i64 (endF g tree f non at'))) := by
  intro f
  induction f with
  | zero =>
    intro non at' ha hf
    have hh : headOk g tree non at' = false := by
      cases e : headOk g tree non at' with
      | false => rfl
      | true => have := headOk_lt e; omega
    exact endFail g hg tree ht non at' ha hh
  | succ f ih =>
    intro non at' ha hf
    cases hh : headOk g tree non at' with
    | false =>
      rw [show endF g tree (f + 1) non at' = -1 by unfold endF; rw [hh]; rfl]
      exact endFail g hg tree ht non at' ha hh
    | true =>
      obtain ⟨k, r, hlt, hz, hk, h2, hr, h3, hra, _⟩ := head_good hh
      rw [show endF g tree (f + 1) non at' = endK (endF g tree f) r.2 (at' + 1) by unfold endF; rw [hh, hra]; rfl]
      have hrm := List.mem_of_getElem? hr
      have h4 := hg.r4 _ hrm
      have hgl := hg.len
      have hw : wr64 ((g.2.2.length : Int) - 1) = (g.2.2.length : Int) - 1 := wr64_id (by omega) (by omega)
      have hw1 : wr64 ((at' : Int) + 1) = ((at' + 1 : Nat) : Int) := wr64_id (by omega) (by omega)
      have h3b : (r.1 != non) = false := by simpa using h3
      obtain ⟨l, right⟩ := r
      dsimp only at h3 h4 h3b
      refine Pure.mk (rs := [.tmp 8]) (nt := 68) Try.func47 (by kernel_rfl) rfl rfl rfl (by simp) ?_
      simp only [sl, grammarC]
      repeat' first
        | refine Holds.seq ?_
        | refine Holds.skip ?_
        | refine Holds.exit ?_
        | refine Holds.ret ?_
        | refine thenA_normal ?_
        | refine thenA_exit ?_
        | refine thenA_ret ?_
        | refine inB_normal ?_
        | refine inB_ret ?_
        | refine inB_here ?_
        | (refine inB_past ?_ ?_; (· exact rfl))
        | refine Holds.reg ?_
        | refine Holds.block ?_
        | refine GS.nil ?_
        | refine Gd.nil ?_
        | (refine Holds.any mixed ?_ ?_; (· kernel_rfl))
        | (refine GS.step (s' := ?_) ?_ ?_ ?_; rotate_left; (· exact rfl); (· (simp [go_sem, List.take_of_length_le, show ¬ tree.length ≤ at' by omega, hz, hw] <;> with_reducible rfl)))
        | (refine GS.skip ?_ ?_ ?_; (· exact rfl); (· exact rfl))
        | (refine Gd.go (s' := ?_) ?_ ?_ ?_; rotate_left; (· exact rfl); (· (simp [go_sem, List.take_of_length_le, show ¬ tree.length ≤ at' by omega, hz, hw] <;> with_reducible rfl)))
        | (refine Gd.skip ?_ ?_ ?_; (· exact rfl); (· exact rfl))
        | fail
      first | refine GS.cc (l1In (k : Int) 0 ((g.2.2.length : Int) - 1)) rfl rfl rfl rfl (by simp [go_sem, List.take_of_length_le] <;> with_reducible rfl) rfl (by simp [go_sem, List.take_of_length_le]) ?_ | refine Gd.cc (l1In (k : Int) 0 ((g.2.2.length : Int) - 1)) rfl rfl rfl rfl (by simp [go_sem, List.take_of_length_le] <;> with_reducible rfl) rfl (by simp [go_sem, List.take_of_length_le]) ?_
      rw [h2]
      repeat' first
        | refine Holds.seq ?_
        | refine Holds.skip ?_
        | refine Holds.exit ?_
        | refine Holds.ret ?_
        | refine thenA_normal ?_
        | refine thenA_exit ?_
        | refine thenA_ret ?_
        | refine inB_normal ?_
        | refine inB_ret ?_
        | refine inB_here ?_
        | (refine inB_past ?_ ?_; (· exact rfl))
        | refine Holds.reg ?_
        | refine Holds.block ?_
        | refine GS.nil ?_
        | refine Gd.nil ?_
        | (refine Holds.any mixed ?_ ?_; (· kernel_rfl))
        | (refine GS.step (s' := ?_) ?_ ?_ ?_; rotate_left; (· exact rfl); (· (simp [go_sem, List.take_of_length_le, show ¬ tree.length ≤ at' by omega, hz, hr, ruleC, h3b] <;> with_reducible rfl)))
        | (refine GS.skip ?_ ?_ ?_; (· exact rfl); (· exact rfl))
        | (refine Gd.go (s' := ?_) ?_ ?_ ?_; rotate_left; (· exact rfl); (· (simp [go_sem, List.take_of_length_le, show ¬ tree.length ≤ at' by omega, hz, hr, ruleC, h3b] <;> with_reducible rfl)))
        | (refine Gd.skip ?_ ?_ ?_; (· exact rfl); (· exact rfl))
        | fail
      refine Holds.cond rfl (fun h => ?_) (fun h => ?_)
      · first | (cases h; done) | (simp at h; done) | (simp_all; done)
      clear h
      repeat' first
        | refine Holds.seq ?_
        | refine Holds.skip ?_
        | refine Holds.exit ?_
        | refine Holds.ret ?_
        | refine thenA_normal ?_
        | refine thenA_exit ?_
        | refine thenA_ret ?_
        | refine inB_normal ?_
        | refine inB_ret ?_
        | refine inB_here ?_
        | (refine inB_past ?_ ?_; (· exact rfl))
        | refine Holds.reg ?_
        | refine Holds.block ?_
        | refine GS.nil ?_
        | refine Gd.nil ?_
        | (refine Holds.any mixed ?_ ?_; (· kernel_rfl))
        | (refine GS.step (s' := ?_) ?_ ?_ ?_; rotate_left; (· exact rfl); (· (simp [go_sem, List.take_of_length_le, hz, hr, ruleC, hw1] <;> with_reducible rfl)))
        | (refine GS.skip ?_ ?_ ?_; (· exact rfl); (· exact rfl))
        | (refine Gd.go (s' := ?_) ?_ ?_ ?_; rotate_left; (· exact rfl); (· (simp [go_sem, List.take_of_length_le, hz, hr, ruleC, hw1] <;> with_reducible rfl)))
        | (refine Gd.skip ?_ ?_ ?_; (· exact rfl); (· exact rfl))
        | fail
      generalize hR : endK (endF g tree f) right (at' + 1) = R
      refine Holds.loop (ι := Nat × Nat) (fun i => ⟨[(2, .im 1 (ints tree)), (4, .pb 0 3 0 0), (9, .v (.int .i64 i.2)), (51, .im 1 (ints right)), (52, .v (.int .i64 right.length)), (53, .v (.int .i64 i.1))], [(0, ⟨31, 3, [grammarC g]⟩)], 1⟩)
        (fun i => i.1 ≤ right.length ∧ endK (endF g tree f) (right.drop i.1) i.2 = R ∧ at' + 1 ≤ i.2 ∧ i.2 ≤ tree.length) (fun i => right.length - i.1) (0, at' + 1) ⟨Nat.zero_le _, hR, Nat.le_refl _, by dsimp only; omega⟩ ?_ ?_
      · exact Cov.ofn (id) rfl (by simp [go_sem, List.take_of_length_le, ren, ren1, okr, okr1, ChkT, ChkN, BlkN, nf, grammarC]) (by simp [go_sem, List.take_of_length_le, ren, ren1, okr, okr1, ChkT, ChkN, BlkN, nf, grammarC])
      rintro ⟨j, e⟩ ⟨hj, hfold, he0, he1⟩
      dsimp only at hj hfold he0 he1 ⊢
      have step : wr64 ((j : Int) + 1) = ((j + 1 : Nat) : Int) := wr64_id (by omega) (by omega)
      repeat' first
        | refine Holds.seq ?_
        | refine Holds.skip ?_
        | refine Holds.exit ?_
        | refine Holds.ret ?_
        | refine thenA_normal ?_
        | refine thenA_exit ?_
        | refine thenA_ret ?_
        | refine inB_normal ?_
        | refine inB_ret ?_
        | refine inB_here ?_
        | (refine inB_past ?_ ?_; (· exact rfl))
        | refine Holds.reg ?_
        | refine Holds.block ?_
        | refine GS.nil ?_
        | refine Gd.nil ?_
        | (refine Holds.any mixed ?_ ?_; (· kernel_rfl))
        | (refine GS.step (s' := ?_) ?_ ?_ ?_; rotate_left; (· exact rfl); (· (simp [go_sem, List.take_of_length_le] <;> with_reducible rfl)))
        | (refine GS.skip ?_ ?_ ?_; (· exact rfl); (· exact rfl))
        | (refine Gd.go (s' := ?_) ?_ ?_ ?_; rotate_left; (· exact rfl); (· (simp [go_sem, List.take_of_length_le] <;> with_reducible rfl)))
        | (refine Gd.skip ?_ ?_ ?_; (· exact rfl); (· exact rfl))
        | fail
      refine Holds.cond rfl (fun hl => ?_) (fun hl => ?_)
      · have hjt : j < right.length := by simpa using hl
        have hxj : right[j]? = some right[j] := List.getElem?_eq_getElem hjt
        rw [List.drop_eq_getElem_cons hjt] at hfold
        unfold endK at hfold
        generalize right[j] = x at hxj hfold
        repeat' first
          | refine Holds.seq ?_
          | refine Holds.skip ?_
          | refine Holds.exit ?_
          | refine Holds.ret ?_
          | refine thenA_normal ?_
          | refine thenA_exit ?_
          | refine thenA_ret ?_
          | refine inB_normal ?_
          | refine inB_ret ?_
          | refine inB_here ?_
          | (refine inB_past ?_ ?_; (· exact rfl))
          | refine Holds.reg ?_
          | refine Holds.block ?_
          | refine GS.nil ?_
          | refine Gd.nil ?_
          | (refine Holds.any mixed ?_ ?_; (· kernel_rfl))
          | (refine GS.step (s' := ?_) ?_ ?_ ?_; rotate_left; (· exact rfl); (· (simp [go_sem, List.take_of_length_le, hxj] <;> with_reducible rfl)))
          | (refine GS.skip ?_ ?_ ?_; (· exact rfl); (· exact rfl))
          | (refine Gd.go (s' := ?_) ?_ ?_ ?_; rotate_left; (· exact rfl); (· (simp [go_sem, List.take_of_length_le, hxj] <;> with_reducible rfl)))
          | (refine Gd.skip ?_ ?_ ?_; (· exact rfl); (· exact rfl))
          | fail
        refine Holds.cond rfl (fun hx => ?_) (fun hx => ?_)
        · have hx : x < 0 := by simpa using hx
          rw [if_pos hx] at hfold
          repeat' first
            | refine Holds.seq ?_
            | refine Holds.skip ?_
            | refine Holds.exit ?_
            | refine Holds.ret ?_
            | refine thenA_normal ?_
            | refine thenA_exit ?_
            | refine thenA_ret ?_
            | refine inB_normal ?_
            | refine inB_ret ?_
            | refine inB_here ?_
            | (refine inB_past ?_ ?_; (· exact rfl))
            | refine Holds.reg ?_
            | refine Holds.block ?_
            | refine GS.nil ?_
            | refine Gd.nil ?_
            | (refine Holds.any mixed ?_ ?_; (· kernel_rfl))
            | (refine GS.step (s' := ?_) ?_ ?_ ?_; rotate_left; (· exact rfl); (· (simp [go_sem, List.take_of_length_le] <;> with_reducible rfl)))
            | (refine GS.skip ?_ ?_ ?_; (· exact rfl); (· exact rfl))
            | (refine Gd.go (s' := ?_) ?_ ?_ ?_; rotate_left; (· exact rfl); (· (simp [go_sem, List.take_of_length_le] <;> with_reducible rfl)))
            | (refine Gd.skip ?_ ?_ ?_; (· exact rfl); (· exact rfl))
            | fail
          refine ⟨(j + 1, e), ⟨by dsimp only; omega, hfold, he0, he1⟩, by dsimp only; omega, ?_⟩
          rw [step]
          exact Cov.ofn (id) rfl (by simp [go_sem, List.take_of_length_le, ren, ren1, okr, okr1, ChkT, ChkN, BlkN, nf, grammarC]) (by simp [go_sem, List.take_of_length_le, ren, ren1, okr, okr1, ChkT, ChkN, BlkN, nf, grammarC])
        have hx : ¬ x < 0 := by simpa using hx
        rw [if_neg hx] at hfold
        have hp := endF_props hg tree f x e
        have hi := ih x e (by omega) (by omega)
        generalize endF g tree f x e = q at hfold hp hi
        repeat' first
          | refine Holds.seq ?_
          | refine Holds.skip ?_
          | refine Holds.exit ?_
          | refine Holds.ret ?_
          | refine thenA_normal ?_
          | refine thenA_exit ?_
          | refine thenA_ret ?_
          | refine inB_normal ?_
          | refine inB_ret ?_
          | refine inB_here ?_
          | (refine inB_past ?_ ?_; (· exact rfl))
          | refine Holds.reg ?_
          | refine Holds.block ?_
          | refine GS.nil ?_
          | refine Gd.nil ?_
          | (refine Holds.any mixed ?_ ?_; (· kernel_rfl))
          | (refine GS.step (s' := ?_) ?_ ?_ ?_; rotate_left; (· exact rfl); (· (simp [go_sem, List.take_of_length_le, grammarC] <;> with_reducible rfl)))
          | (refine GS.skip ?_ ?_ ?_; (· exact rfl); (· exact rfl))
          | (refine Gd.go (s' := ?_) ?_ ?_ ?_; rotate_left; (· exact rfl); (· (simp [go_sem, List.take_of_length_le, grammarC] <;> with_reducible rfl)))
          | (refine Gd.skip ?_ ?_ ?_; (· exact rfl); (· exact rfl))
          | fail
        first | refine GS.cc (hi) rfl rfl rfl rfl (by simp [go_sem, List.take_of_length_le, grammarC] <;> with_reducible rfl) rfl (by simp [go_sem, List.take_of_length_le, grammarC]) ?_ | refine Gd.cc (hi) rfl rfl rfl rfl (by simp [go_sem, List.take_of_length_le, grammarC] <;> with_reducible rfl) rfl (by simp [go_sem, List.take_of_length_le, grammarC]) ?_
        repeat' first
          | refine Holds.seq ?_
          | refine Holds.skip ?_
          | refine Holds.exit ?_
          | refine Holds.ret ?_
          | refine thenA_normal ?_
          | refine thenA_exit ?_
          | refine thenA_ret ?_
          | refine inB_normal ?_
          | refine inB_ret ?_
          | refine inB_here ?_
          | (refine inB_past ?_ ?_; (· exact rfl))
          | refine Holds.reg ?_
          | refine Holds.block ?_
          | refine GS.nil ?_
          | refine Gd.nil ?_
          | (refine Holds.any mixed ?_ ?_; (· kernel_rfl))
          | (refine GS.step (s' := ?_) ?_ ?_ ?_; rotate_left; (· exact rfl); (· (simp [go_sem, List.take_of_length_le] <;> with_reducible rfl)))
          | (refine GS.skip ?_ ?_ ?_; (· exact rfl); (· exact rfl))
          | (refine Gd.go (s' := ?_) ?_ ?_ ?_; rotate_left; (· exact rfl); (· (simp [go_sem, List.take_of_length_le] <;> with_reducible rfl)))
          | (refine Gd.skip ?_ ?_ ?_; (· exact rfl); (· exact rfl))
          | fail
        refine Holds.cond rfl (fun hq => ?_) (fun hq => ?_)
        · have hq : q < 0 := by simpa using hq
          rw [if_pos hq] at hfold
          subst hfold
          repeat' first
            | refine Holds.seq ?_
            | refine Holds.skip ?_
            | refine Holds.exit ?_
            | refine Holds.ret ?_
            | refine thenA_normal ?_
            | refine thenA_exit ?_
            | refine thenA_ret ?_
            | refine inB_normal ?_
            | refine inB_ret ?_
            | refine inB_here ?_
            | (refine inB_past ?_ ?_; (· exact rfl))
            | refine Holds.reg ?_
            | refine Holds.block ?_
            | refine GS.nil ?_
            | refine Gd.nil ?_
            | (refine Holds.any mixed ?_ ?_; (· kernel_rfl))
            | (refine GS.step (s' := ?_) ?_ ?_ ?_; rotate_left; (· exact rfl); (· (simp [go_sem, List.take_of_length_le] <;> with_reducible rfl)))
            | (refine GS.skip ?_ ?_ ?_; (· exact rfl); (· exact rfl))
            | (refine Gd.go (s' := ?_) ?_ ?_ ?_; rotate_left; (· exact rfl); (· (simp [go_sem, List.take_of_length_le] <;> with_reducible rfl)))
            | (refine Gd.skip ?_ ?_ ?_; (· exact rfl); (· exact rfl))
            | fail
          refine Out.mk (xs := ?_) ?_ ?_ (by first | exact .inr rfl | exact .inl rfl)
          rotate_left
          · simp [go_sem, List.take_of_length_le] <;> with_reducible rfl
          exact .v _
        · have hq : ¬ q < 0 := by simpa using hq
          rw [if_neg hq] at hfold
          obtain ⟨p0, p1⟩ := hp hq
          obtain ⟨q, rfl⟩ : ∃ n : Nat, q = n := ⟨q.toNat, by omega⟩
          rw [Int.toNat_natCast] at hfold
          repeat' first
            | refine Holds.seq ?_
            | refine Holds.skip ?_
            | refine Holds.exit ?_
            | refine Holds.ret ?_
            | refine thenA_normal ?_
            | refine thenA_exit ?_
            | refine thenA_ret ?_
            | refine inB_normal ?_
            | refine inB_ret ?_
            | refine inB_here ?_
            | (refine inB_past ?_ ?_; (· exact rfl))
            | refine Holds.reg ?_
            | refine Holds.block ?_
            | refine GS.nil ?_
            | refine Gd.nil ?_
            | (refine Holds.any mixed ?_ ?_; (· kernel_rfl))
            | (refine GS.step (s' := ?_) ?_ ?_ ?_; rotate_left; (· exact rfl); (· (simp [go_sem, List.take_of_length_le] <;> with_reducible rfl)))
            | (refine GS.skip ?_ ?_ ?_; (· exact rfl); (· exact rfl))
            | (refine Gd.go (s' := ?_) ?_ ?_ ?_; rotate_left; (· exact rfl); (· (simp [go_sem, List.take_of_length_le] <;> with_reducible rfl)))
            | (refine Gd.skip ?_ ?_ ?_; (· exact rfl); (· exact rfl))
            | fail
          refine ⟨(j + 1, q), ⟨by dsimp only; omega, hfold, by dsimp only; omega, by dsimp only; omega⟩, by dsimp only; omega, ?_⟩
          rw [step]
          exact Cov.ofn (id) rfl (by simp [go_sem, List.take_of_length_le, ren, ren1, okr, okr1, ChkT, ChkN, BlkN, nf, grammarC]) (by simp [go_sem, List.take_of_length_le, ren, ren1, okr, okr1, ChkT, ChkN, BlkN, nf, grammarC])
      · have hje : j = right.length := by
          have : ¬ j < right.length := by simpa using hl
          omega
        subst hje
        rw [List.drop_length] at hfold
        unfold endK at hfold
        subst hfold
        repeat' first
          | refine Holds.seq ?_
          | refine Holds.skip ?_
          | refine Holds.exit ?_
          | refine Holds.ret ?_
          | refine thenA_normal ?_
          | refine thenA_exit ?_
          | refine thenA_ret ?_
          | refine inB_normal ?_
          | refine inB_ret ?_
          | refine inB_here ?_
          | (refine inB_past ?_ ?_; (· exact rfl))
          | refine Holds.reg ?_
          | refine Holds.block ?_
          | refine GS.nil ?_
          | refine Gd.nil ?_
          | (refine Holds.any mixed ?_ ?_; (· kernel_rfl))
          | (refine GS.step (s' := ?_) ?_ ?_ ?_; rotate_left; (· exact rfl); (· (simp [go_sem, List.take_of_length_le] <;> with_reducible rfl)))
          | (refine GS.skip ?_ ?_ ?_; (· exact rfl); (· exact rfl))
          | (refine Gd.go (s' := ?_) ?_ ?_ ?_; rotate_left; (· exact rfl); (· (simp [go_sem, List.take_of_length_le] <;> with_reducible rfl)))
          | (refine Gd.skip ?_ ?_ ?_; (· exact rfl); (· exact rfl))
          | fail
        refine Out.mk (xs := ?_) ?_ ?_ (by first | exact .inr rfl | exact .inl rfl)
        rotate_left
        · simp [go_sem, List.take_of_length_le] <;> with_reducible rfl
        exact .v _
def treeEndV (g : GrammarT) (non : Int) (tree : List Int) : Int × Bool := if askedV g non tree && decide (¬ endF g tree 61 non 0 < 0) then (endF g tree 61 non 0, true) else (0, false)
end Go.Proofs.Ytpnpjkkppndhfaa.En
end
section
namespace Go.Proofs.Ytpnpjkkppndhfaa.En
open Go.RowKit
set_option linter.unusedSimpArgs false
set_option linter.unusedVariables false
set_option maxHeartbeats 8000000
theorem Fz.pbL {bl : List (Nat × Blk)} {n sz : Nat} {k : Blk} {row ys : List AV} (hk : lb bl n = some k) (hx : k.xs = [row]) (hz : k.sz = sz) (h : FzL bl row ys) : Fz bl (.pb n sz 0 0) (.pi ys) := by
  subst hz
  exact .pb n 0 0 k row ys hk (by rw [hx]; rfl) (by rw [List.drop_zero]; exact Nat.le_of_eq h.len) (fun q x y h1 h2 => h.get q x y (by simpa using h1) h2)
theorem symbolOf (x : Int) (h0 : -100 ≤ x) (h1 : x ≤ 100) : Pure Try.prog 57 [.v (.int .i64 x)] (.v (.int .i64 (-1 - x))) := by
  refine Pure.mk (rs := [.tmp 2]) (nt := 5) Try.func57 (by kernel_rfl) rfl rfl rfl (by simp) ?_
  simp only [sl]
  have hw : wr64 (-1 - x) = -1 - x := wr64_id (by omega) (by omega)
  repeat' first
    | refine Holds.seq ?_
    | refine Holds.skip ?_
    | refine Holds.exit ?_
    | refine Holds.ret ?_
    | refine thenA_normal ?_
    | refine thenA_exit ?_
    | refine thenA_ret ?_
    | refine inB_normal ?_
    | refine inB_ret ?_
    | refine inB_here ?_
    | (refine inB_past ?_ ?_; (· exact rfl))
    | refine Holds.reg ?_
    | refine Holds.block ?_
    | refine GS.nil ?_
    | (refine GS.step (s' := ?_) ?_ ?_ ?_; rotate_left; (· exact rfl); (· (simp [go_sem, List.take_of_length_le, hw] <;> with_reducible rfl)))
    | (refine GS.skip ?_ ?_ ?_; (· exact rfl); (· exact rfl))
    | fail
  refine Out.mk (xs := ?_) ?_ ?_ (by first | exact .inr rfl | exact .inl rfl)
  rotate_left
  · simp [go_sem, List.take_of_length_le] <;> with_reducible rfl
  exact .v _
def tIns (g : GrammarT) (tree w : List Int) : List (Nat × Blk) := [(0, ⟨25, 1, [[.im 1 (ints tree)]]⟩), (1, ⟨31, 3, [grammarC g]⟩), (2, ⟨25, 1, [[.own 4 1 0 w.length]]⟩), (3, ⟨89, 1, [[.fn 56 [.pb 0 1 0 0, .pb 1 3 0 0, .pb 2 1 0 0, .pb 3 1 0 0]]]⟩), (4, ⟨3, 1, ints w⟩)]
def tOuts (g : GrammarT) (tree w : List Int) : List (Nat × Blk) := [(0, ⟨25, 1, [[.im 1 (ints tree)]]⟩), (1, ⟨31, 3, [grammarC g]⟩), (2, ⟨25, 1, [[.own 5 1 0 w.length]]⟩), (3, ⟨89, 1, [[.fn 56 [.pb 0 1 0 0, .pb 1 3 0 0, .pb 2 1 0 0, .pb 3 1 0 0]]]⟩), (5, ⟨3, 1, ints w⟩)]
def ptr : Option PT → AV
  | some p => .pi (partC p)
  | none => .v (.pointer none)
theorem treeFail (g : GrammarT) (hg : OkG g) (tree : List Int) (ht : tree.length ≤ 60) (non : Int) (at' : Nat) (w : List Int) (ha : at' ≤ 100) (hh : headOk g tree non at' = false) :
    Fn Try.prog 56 5 [.v (.int .i64 non), .v (.int .i64 at'), .pb 0 1 0 0, .pb 1 3 0 0, .pb 2 1 0 0, .pb 3 1 0 0] (tIns g tree w) (.tu [ptr none, .v (.bool false)]) 6 (tOuts g tree w) := by
  have hgl := hg.len
  have hw : wr64 ((g.2.2.length : Int) - 1) = (g.2.2.length : Int) - 1 := wr64_id (by omega) (by omega)
  rcases head_cases hh with h1 | ⟨z, hz, h2⟩ | ⟨k, r, hz, hk, h2, hr, h3⟩
  · refine Fn.mk (rs := [.tmp 8, .tmp 9]) (nt := 113) Try.func56 (by kernel_rfl) rfl rfl rfl (by simp) ?_
    simp only [sl, grammarC, tIns, tOuts, ptr]
    repeat' first
      | refine Holds.seq ?_
      | refine Holds.skip ?_
      | refine Holds.exit ?_
      | refine Holds.ret ?_
      | refine thenA_normal ?_
      | refine thenA_exit ?_
      | refine thenA_ret ?_
      | refine inB_normal ?_
      | refine inB_ret ?_
      | refine inB_here ?_
      | (refine inB_past ?_ ?_; (· exact rfl))
      | refine Holds.reg ?_
      | refine Holds.block ?_
      | refine GS.nil ?_
      | refine Gd.nil ?_
      | (refine Holds.any mixed ?_ ?_; (· kernel_rfl))
      | (refine GS.step (s' := ?_) ?_ ?_ ?_; rotate_left; (· exact rfl); (· (simp [go_sem, List.take_of_length_le, h1] <;> with_reducible rfl)))
      | (refine GS.skip ?_ ?_ ?_; (· exact rfl); (· exact rfl))
      | (refine Gd.go (s' := ?_) ?_ ?_ ?_; rotate_left; (· exact rfl); (· (simp [go_sem, List.take_of_length_le, h1] <;> with_reducible rfl)))
      | (refine Gd.skip ?_ ?_ ?_; (· exact rfl); (· exact rfl))
      | fail
    refine Holds.cond rfl (fun h => ?_) (fun h => ?_)
    · repeat' first
        | refine Holds.seq ?_
        | refine Holds.skip ?_
        | refine Holds.exit ?_
        | refine Holds.ret ?_
        | refine thenA_normal ?_
        | refine thenA_exit ?_
        | refine thenA_ret ?_
        | refine inB_normal ?_
        | refine inB_ret ?_
        | refine inB_here ?_
        | (refine inB_past ?_ ?_; (· exact rfl))
        | refine Holds.reg ?_
        | refine Holds.block ?_
        | refine GS.nil ?_
        | refine Gd.nil ?_
        | (refine Holds.any mixed ?_ ?_; (· kernel_rfl))
        | (refine GS.step (s' := ?_) ?_ ?_ ?_; rotate_left; (· exact rfl); (· (simp [go_sem, List.take_of_length_le] <;> with_reducible rfl)))
        | (refine GS.skip ?_ ?_ ?_; (· exact rfl); (· exact rfl))
        | (refine Gd.go (s' := ?_) ?_ ?_ ?_; rotate_left; (· exact rfl); (· (simp [go_sem, List.take_of_length_le] <;> with_reducible rfl)))
        | (refine Gd.skip ?_ ?_ ?_; (· exact rfl); (· exact rfl))
        | fail
      refine OutF.mkn (xs := ?_) (nm [0, 1, 2, 3, 4, 4]) ?_ ?_ ?_ ?_ ?_ (by first | exact .inr rfl | exact .inl rfl)
      rotate_left
      · simp [go_sem, List.take_of_length_le] <;> with_reducible rfl
      · simp [go_sem, List.take_of_length_le, ren, ren1, okr, okr1, ChkN, BlkN, List.range_succ, nf]
      · simp [go_sem, List.take_of_length_le, ren, ren1, okr, okr1, ChkN, BlkN, List.range_succ, nf]
      · simp [go_sem, List.take_of_length_le, ren, ren1, okr, okr1, ChkN, BlkN, List.range_succ, nf]
      · rfl
    · cases h
  · refine Fn.mk (rs := [.tmp 8, .tmp 9]) (nt := 113) Try.func56 (by kernel_rfl) rfl rfl rfl (by simp) ?_
    simp only [sl, grammarC, tIns, tOuts, ptr]
    have hlt : at' < tree.length := (List.getElem?_eq_some_iff.1 hz).1
    repeat' first
      | refine Holds.seq ?_
      | refine Holds.skip ?_
      | refine Holds.exit ?_
      | refine Holds.ret ?_
      | refine thenA_normal ?_
      | refine thenA_exit ?_
      | refine thenA_ret ?_
      | refine inB_normal ?_
      | refine inB_ret ?_
      | refine inB_here ?_
      | (refine inB_past ?_ ?_; (· exact rfl))
      | refine Holds.reg ?_
      | refine Holds.block ?_
      | refine GS.nil ?_
      | refine Gd.nil ?_
      | (refine Holds.any mixed ?_ ?_; (· kernel_rfl))
      | (refine GS.step (s' := ?_) ?_ ?_ ?_; rotate_left; (· exact rfl); (· (simp [go_sem, List.take_of_length_le, show ¬ tree.length ≤ at' by omega, hz, hw] <;> with_reducible rfl)))
      | (refine GS.skip ?_ ?_ ?_; (· exact rfl); (· exact rfl))
      | (refine Gd.go (s' := ?_) ?_ ?_ ?_; rotate_left; (· exact rfl); (· (simp [go_sem, List.take_of_length_le, show ¬ tree.length ≤ at' by omega, hz, hw] <;> with_reducible rfl)))
      | (refine Gd.skip ?_ ?_ ?_; (· exact rfl); (· exact rfl))
      | fail
    first | refine GS.cc (implIn z 0 ((g.2.2.length : Int) - 1)) rfl rfl rfl rfl (by simp [go_sem, List.take_of_length_le] <;> with_reducible rfl) rfl (by simp [go_sem, List.take_of_length_le]) ?_ | refine Gd.cc (implIn z 0 ((g.2.2.length : Int) - 1)) rfl rfl rfl rfl (by simp [go_sem, List.take_of_length_le] <;> with_reducible rfl) rfl (by simp [go_sem, List.take_of_length_le]) ?_
    rw [h2]
    repeat' first
      | refine Holds.seq ?_
      | refine Holds.skip ?_
      | refine Holds.exit ?_
      | refine Holds.ret ?_
      | refine thenA_normal ?_
      | refine thenA_exit ?_
      | refine thenA_ret ?_
      | refine inB_normal ?_
      | refine inB_ret ?_
      | refine inB_here ?_
      | (refine inB_past ?_ ?_; (· exact rfl))
      | refine Holds.reg ?_
      | refine Holds.block ?_
      | refine GS.nil ?_
      | refine Gd.nil ?_
      | (refine Holds.any mixed ?_ ?_; (· kernel_rfl))
      | (refine GS.step (s' := ?_) ?_ ?_ ?_; rotate_left; (· exact rfl); (· (simp [go_sem, List.take_of_length_le] <;> with_reducible rfl)))
      | (refine GS.skip ?_ ?_ ?_; (· exact rfl); (· exact rfl))
      | (refine Gd.go (s' := ?_) ?_ ?_ ?_; rotate_left; (· exact rfl); (· (simp [go_sem, List.take_of_length_le] <;> with_reducible rfl)))
      | (refine Gd.skip ?_ ?_ ?_; (· exact rfl); (· exact rfl))
      | fail
    refine Holds.cond rfl (fun h => ?_) (fun h => ?_)
    · repeat' first
        | refine Holds.seq ?_
        | refine Holds.skip ?_
        | refine Holds.exit ?_
        | refine Holds.ret ?_
        | refine thenA_normal ?_
        | refine thenA_exit ?_
        | refine thenA_ret ?_
        | refine inB_normal ?_
        | refine inB_ret ?_
        | refine inB_here ?_
        | (refine inB_past ?_ ?_; (· exact rfl))
        | refine Holds.reg ?_
        | refine Holds.block ?_
        | refine GS.nil ?_
        | refine Gd.nil ?_
        | (refine Holds.any mixed ?_ ?_; (· kernel_rfl))
        | (refine GS.step (s' := ?_) ?_ ?_ ?_; rotate_left; (· exact rfl); (· (simp [go_sem, List.take_of_length_le] <;> with_reducible rfl)))
        | (refine GS.skip ?_ ?_ ?_; (· exact rfl); (· exact rfl))
        | (refine Gd.go (s' := ?_) ?_ ?_ ?_; rotate_left; (· exact rfl); (· (simp [go_sem, List.take_of_length_le] <;> with_reducible rfl)))
        | (refine Gd.skip ?_ ?_ ?_; (· exact rfl); (· exact rfl))
        | fail
      refine OutF.mkn (xs := ?_) (nm [0, 1, 2, 3, 4, 4]) ?_ ?_ ?_ ?_ ?_ (by first | exact .inr rfl | exact .inl rfl)
      rotate_left
      · simp [go_sem, List.take_of_length_le] <;> with_reducible rfl
      · simp [go_sem, List.take_of_length_le, ren, ren1, okr, okr1, ChkN, BlkN, List.range_succ, nf]
      · simp [go_sem, List.take_of_length_le, ren, ren1, okr, okr1, ChkN, BlkN, List.range_succ, nf]
      · simp [go_sem, List.take_of_length_le, ren, ren1, okr, okr1, ChkN, BlkN, List.range_succ, nf]
      · rfl
    · cases h
  · refine Fn.mk (rs := [.tmp 8, .tmp 9]) (nt := 113) Try.func56 (by kernel_rfl) rfl rfl rfl (by simp) ?_
    simp only [sl, grammarC, tIns, tOuts, ptr]
    have hlt : at' < tree.length := (List.getElem?_eq_some_iff.1 hz).1
    have h3b : (r.1 != non) = true := by simpa using h3
    repeat' first
      | refine Holds.seq ?_
      | refine Holds.skip ?_
      | refine Holds.exit ?_
      | refine Holds.ret ?_
      | refine thenA_normal ?_
      | refine thenA_exit ?_
      | refine thenA_ret ?_
      | refine inB_normal ?_
      | refine inB_ret ?_
      | refine inB_here ?_
      | (refine inB_past ?_ ?_; (· exact rfl))
      | refine Holds.reg ?_
      | refine Holds.block ?_
      | refine GS.nil ?_
      | refine Gd.nil ?_
      | (refine Holds.any mixed ?_ ?_; (· kernel_rfl))
      | (refine GS.step (s' := ?_) ?_ ?_ ?_; rotate_left; (· exact rfl); (· (simp [go_sem, List.take_of_length_le, show ¬ tree.length ≤ at' by omega, hz, hw] <;> with_reducible rfl)))
      | (refine GS.skip ?_ ?_ ?_; (· exact rfl); (· exact rfl))
      | (refine Gd.go (s' := ?_) ?_ ?_ ?_; rotate_left; (· exact rfl); (· (simp [go_sem, List.take_of_length_le, show ¬ tree.length ≤ at' by omega, hz, hw] <;> with_reducible rfl)))
      | (refine Gd.skip ?_ ?_ ?_; (· exact rfl); (· exact rfl))
      | fail
    first | refine GS.cc (implIn (k : Int) 0 ((g.2.2.length : Int) - 1)) rfl rfl rfl rfl (by simp [go_sem, List.take_of_length_le] <;> with_reducible rfl) rfl (by simp [go_sem, List.take_of_length_le]) ?_ | refine Gd.cc (implIn (k : Int) 0 ((g.2.2.length : Int) - 1)) rfl rfl rfl rfl (by simp [go_sem, List.take_of_length_le] <;> with_reducible rfl) rfl (by simp [go_sem, List.take_of_length_le]) ?_
    rw [h2]
    repeat' first
      | refine Holds.seq ?_
      | refine Holds.skip ?_
      | refine Holds.exit ?_
      | refine Holds.ret ?_
      | refine thenA_normal ?_
      | refine thenA_exit ?_
      | refine thenA_ret ?_
      | refine inB_normal ?_
      | refine inB_ret ?_
      | refine inB_here ?_
      | (refine inB_past ?_ ?_; (· exact rfl))
      | refine Holds.reg ?_
      | refine Holds.block ?_
      | refine GS.nil ?_
      | refine Gd.nil ?_
      | (refine Holds.any mixed ?_ ?_; (· kernel_rfl))
      | (refine GS.step (s' := ?_) ?_ ?_ ?_; rotate_left; (· exact rfl); (· (simp [go_sem, List.take_of_length_le, show ¬ tree.length ≤ at' by omega, hz, hr, ruleC, h3b] <;> with_reducible rfl)))
      | (refine GS.skip ?_ ?_ ?_; (· exact rfl); (· exact rfl))
      | (refine Gd.go (s' := ?_) ?_ ?_ ?_; rotate_left; (· exact rfl); (· (simp [go_sem, List.take_of_length_le, show ¬ tree.length ≤ at' by omega, hz, hr, ruleC, h3b] <;> with_reducible rfl)))
      | (refine Gd.skip ?_ ?_ ?_; (· exact rfl); (· exact rfl))
      | fail
    refine Holds.cond rfl (fun h => ?_) (fun h => ?_)
    · repeat' first
        | refine Holds.seq ?_
        | refine Holds.skip ?_
        | refine Holds.exit ?_
        | refine Holds.ret ?_
        | refine thenA_normal ?_
        | refine thenA_exit ?_
        | refine thenA_ret ?_
        | refine inB_normal ?_
        | refine inB_ret ?_
        | refine inB_here ?_
        | (refine inB_past ?_ ?_; (· exact rfl))
        | refine Holds.reg ?_
        | refine Holds.block ?_
        | refine GS.nil ?_
        | refine Gd.nil ?_
        | (refine Holds.any mixed ?_ ?_; (· kernel_rfl))
        | (refine GS.step (s' := ?_) ?_ ?_ ?_; rotate_left; (· exact rfl); (· (simp [go_sem, List.take_of_length_le] <;> with_reducible rfl)))
        | (refine GS.skip ?_ ?_ ?_; (· exact rfl); (· exact rfl))
        | (refine Gd.go (s' := ?_) ?_ ?_ ?_; rotate_left; (· exact rfl); (· (simp [go_sem, List.take_of_length_le] <;> with_reducible rfl)))
        | (refine Gd.skip ?_ ?_ ?_; (· exact rfl); (· exact rfl))
        | fail
      refine OutF.mkn (xs := ?_) (nm [0, 1, 2, 3, 4, 4]) ?_ ?_ ?_ ?_ ?_ (by first | exact .inr rfl | exact .inl rfl)
      rotate_left
      · simp [go_sem, List.take_of_length_le] <;> with_reducible rfl
      · simp [go_sem, List.take_of_length_le, ren, ren1, okr, okr1, ChkN, BlkN, List.range_succ, nf]
      · simp [go_sem, List.take_of_length_le, ren, ren1, okr, okr1, ChkN, BlkN, List.range_succ, nf]
      · simp [go_sem, List.take_of_length_le, ren, ren1, okr, okr1, ChkN, BlkN, List.range_succ, nf]
      · rfl
    · cases h
theorem partC_fin (p : PT) : (partC p)[3]? = some (.v (.int .i64 p.fin)) := by
  obtain ⟨a, b, c, d, e, f, ks⟩ := p
  rfl
theorem treeF (g : GrammarT) (hg : OkG g) (tree : List Int) (ht : tree.length ≤ 60) : ∀ (f : Nat) (non : Int) (at' : Nat) (w : List Int), at' ≤ 100 → tree.length < f + at' → w.length ≤ 1000 + 4 * at' →
    Fn Try.prog 56 5 [.v (.int .i64 non), .v (.int .i64 at'), .pb 0 1 0 0, .pb 1 3 0 0, .pb 2 1 0 0, .pb 3 1 0 0] (tIns g tree w) (.tu [ptr (readF g tree f non at' w).1, .v (.bool (readF g tree f non at' w).1.isSome)]) 6 (tOuts g tree (readF g tree f non at' w).2) := by
  intro f
  induction f with
  | zero =>
    intro non at' w ha hf hwl
    have hh : headOk g tree non at' = false := by
      cases e : headOk g tree non at' with
      | false => rfl
      | true => have := headOk_lt e; omega
    exact treeFail g hg tree ht non at' w ha hh
  | succ f ih =>
    intro non at' w ha hf hwl
    cases hh : headOk g tree non at' with
    | false =>
      rw [show readF g tree (f + 1) non at' w = (none, w) by unfold readF; rw [hh]; rfl]
      exact treeFail g hg tree ht non at' w ha hh
    | true =>
      obtain ⟨k, r, hlt, hz, hk, h2, hr, h3, hra, hgd⟩ := head_good hh
      have hread : readF g tree (f + 1) non at' w = match kidsF (readF g tree f) r.2 (at' + 1) [] w with
        | (some (ks, e), w') => (some (.node non k at' e w.length w'.length ks), w')
        | (none, w') => (none, w') := by
        rw [readF, hh, hra, hgd]; rfl
      rw [hread]
      clear hread
      have hrm := List.mem_of_getElem? hr
      have h4 := hg.r4 _ hrm
      have hs0 := hg.s0 _ hrm
      have ht1 := hg.t1
      have hgl := hg.len
      have hw : wr64 ((g.2.2.length : Int) - 1) = (g.2.2.length : Int) - 1 := wr64_id (by omega) (by omega)
      have hw1 : wr64 ((at' : Int) + 1) = (at' : Int) + 1 := wr64_id (by omega) (by omega)
      have h3b : (r.1 != non) = false := by simpa using h3
      obtain ⟨l, right⟩ := r
      dsimp only at h3 h4 h3b hs0
      refine Fn.mk (rs := [.tmp 8, .tmp 9]) (nt := 113) Try.func56 (by kernel_rfl) rfl rfl rfl (by simp) ?_
      simp only [sl, grammarC, tIns, tOuts]
      generalize hR : kidsF (readF g tree f) right (at' + 1) [] w = R
      repeat' first
        | refine Holds.seq ?_
        | refine Holds.skip ?_
        | refine Holds.exit ?_
        | refine Holds.ret ?_
        | refine thenA_normal ?_
        | refine thenA_exit ?_
        | refine thenA_ret ?_
        | refine inB_normal ?_
        | refine inB_ret ?_
        | refine inB_here ?_
        | (refine inB_past ?_ ?_; (· exact rfl))
        | refine Holds.reg ?_
        | refine Holds.block ?_
        | refine GS.nil ?_
        | refine Gd.nil ?_
        | (refine Holds.any mixed ?_ ?_; (· kernel_rfl))
        | (refine GS.step (s' := ?_) ?_ ?_ ?_; rotate_left; (· exact rfl); (· (simp [go_sem, List.take_of_length_le, show ¬ tree.length ≤ at' by omega, hz, hw] <;> with_reducible rfl)))
        | (refine GS.skip ?_ ?_ ?_; (· exact rfl); (· exact rfl))
        | (refine Gd.go (s' := ?_) ?_ ?_ ?_; rotate_left; (· exact rfl); (· (simp [go_sem, List.take_of_length_le, show ¬ tree.length ≤ at' by omega, hz, hw] <;> with_reducible rfl)))
        | (refine Gd.skip ?_ ?_ ?_; (· exact rfl); (· exact rfl))
        | fail
      first | refine GS.cc (implIn (k : Int) 0 ((g.2.2.length : Int) - 1)) rfl rfl rfl rfl (by simp [go_sem, List.take_of_length_le] <;> with_reducible rfl) rfl (by simp [go_sem, List.take_of_length_le]) ?_ | refine Gd.cc (implIn (k : Int) 0 ((g.2.2.length : Int) - 1)) rfl rfl rfl rfl (by simp [go_sem, List.take_of_length_le] <;> with_reducible rfl) rfl (by simp [go_sem, List.take_of_length_le]) ?_
      rw [h2]
      repeat' first
        | refine Holds.seq ?_
        | refine Holds.skip ?_
        | refine Holds.exit ?_
        | refine Holds.ret ?_
        | refine thenA_normal ?_
        | refine thenA_exit ?_
        | refine thenA_ret ?_
        | refine inB_normal ?_
        | refine inB_ret ?_
        | refine inB_here ?_
        | (refine inB_past ?_ ?_; (· exact rfl))
        | refine Holds.reg ?_
        | refine Holds.block ?_
        | refine GS.nil ?_
        | refine Gd.nil ?_
        | (refine GS.step (s' := ?_) ?_ ?_ ?_; rotate_left; (· exact rfl); (· (simp [go_sem, List.take_of_length_le, show ¬ tree.length ≤ at' by omega, hz, hr, ruleC, h3b] <;> with_reducible rfl)))
        | (refine GS.skip ?_ ?_ ?_; (· exact rfl); (· exact rfl))
        | (refine Gd.go (s' := ?_) ?_ ?_ ?_; rotate_left; (· exact rfl); (· (simp [go_sem, List.take_of_length_le, show ¬ tree.length ≤ at' by omega, hz, hr, ruleC, h3b] <;> with_reducible rfl)))
        | (refine Gd.skip ?_ ?_ ?_; (· exact rfl); (· exact rfl))
        | fail
      refine Holds.cond rfl (fun h => ?_) (fun h => ?_)
      · first | (cases h; done) | (simp at h; done) | (simp_all; done)
      clear h
      repeat' first
        | refine Holds.seq ?_
        | refine Holds.skip ?_
        | refine Holds.exit ?_
        | refine Holds.ret ?_
        | refine thenA_normal ?_
        | refine thenA_exit ?_
        | refine thenA_ret ?_
        | refine inB_normal ?_
        | refine inB_ret ?_
        | refine inB_here ?_
        | (refine inB_past ?_ ?_; (· exact rfl))
        | refine Holds.reg ?_
        | refine Holds.block ?_
        | refine GS.nil ?_
        | refine Gd.nil ?_
        | (refine GS.step (s' := ?_) ?_ ?_ ?_; rotate_left; (· exact rfl); (· (simp [go_sem, List.take_of_length_le] <;> with_reducible rfl)))
        | (refine GS.skip ?_ ?_ ?_; (· exact rfl); (· exact rfl))
        | (refine Gd.go (s' := ?_) ?_ ?_ ?_; rotate_left; (· exact rfl); (· (simp [go_sem, List.take_of_length_le] <;> with_reducible rfl)))
        | (refine Gd.skip ?_ ?_ ?_; (· exact rfl); (· exact rfl))
        | fail
      refine Holds.anx [1010, 1011] [] (fun n => true) mixed ?_ ?_ ?_; (· kernel_rfl); (· kernel_rfl)
      repeat' first
        | refine Holds.seq ?_
        | refine Holds.skip ?_
        | refine Holds.exit ?_
        | refine Holds.ret ?_
        | refine thenA_normal ?_
        | refine thenA_exit ?_
        | refine thenA_ret ?_
        | refine inB_normal ?_
        | refine inB_ret ?_
        | refine inB_here ?_
        | (refine inB_past ?_ ?_; (· exact rfl))
        | refine Holds.reg ?_
        | refine Holds.block ?_
        | refine GS.nil ?_
        | refine Gd.nil ?_
        | (refine GS.step (s' := ?_) ?_ ?_ ?_; rotate_left; (· exact rfl); (· (simp [go_sem, List.take_of_length_le, hz, hw1] <;> with_reducible rfl)))
        | (refine GS.skip ?_ ?_ ?_; (· exact rfl); (· exact rfl))
        | (refine Gd.go (s' := ?_) ?_ ?_ ?_; rotate_left; (· exact rfl); (· (simp [go_sem, List.take_of_length_le, hz, hw1] <;> with_reducible rfl)))
        | (refine Gd.skip ?_ ?_ ?_; (· exact rfl); (· exact rfl))
        | refine Gx.nil ?_
        | (refine Gx.go (s' := ?_) rfl ?_ ?_ ?_; rotate_left; (· exact rfl); (· (simp [go_sem, List.take_of_length_le, hz, hw1] <;> with_reducible rfl)))
        | (refine Gx.skip rfl ?_ ?_ ?_; (· exact rfl); (· exact rfl))
        | (refine Gx.skipO rfl ?_ ?_ ?_; (· exact rfl); (· exact rfl))
        | (refine Gx.wo (s' := ?_) rfl ?_ ?_ ?_; rotate_left; (· exact rfl); (· (simp [go_sem, List.take_of_length_le, hz, hw1] <;> with_reducible rfl)))
        | (refine Gx.skipW rfl ?_ ?_ ?_; (· exact rfl); (· exact rfl))
        | (refine Gx.skipH rfl ?_ ?_ ?_; (· exact rfl); (· exact rfl))
        | (refine Gx.hid (r := ?_) rfl ?_ ?_ ?_ ?_; rotate_left; (· exact rfl); (· exact rfl); (· (simp [go_sem, List.take_of_length_le, hz, hw1] <;> with_reducible rfl)))
        | (refine Gx.wr (s' := ?_) rfl ?_ ?_ ?_ ?_; rotate_left; (· exact rfl); (· (simp [go_sem, List.take_of_length_le, hz, hw1] <;> with_reducible rfl)); (· (simp [go_sem, List.take_of_length_le, hz, hw1])))
        | fail
      repeat' first
        | refine Holds.seq ?_
        | refine Holds.skip ?_
        | refine Holds.exit ?_
        | refine Holds.ret ?_
        | refine thenA_normal ?_
        | refine thenA_exit ?_
        | refine thenA_ret ?_
        | refine inB_normal ?_
        | refine inB_ret ?_
        | refine inB_here ?_
        | (refine inB_past ?_ ?_; (· exact rfl))
        | refine Holds.reg ?_
        | refine Holds.block ?_
        | refine GS.nil ?_
        | refine Gd.nil ?_
        | (refine Holds.any mixed ?_ ?_; (· kernel_rfl))
        | (refine GS.step (s' := ?_) ?_ ?_ ?_; rotate_left; (· exact rfl); (· (simp [go_sem, List.take_of_length_le, hz, hr, ruleC] <;> with_reducible rfl)))
        | (refine GS.skip ?_ ?_ ?_; (· exact rfl); (· exact rfl))
        | (refine Gd.go (s' := ?_) ?_ ?_ ?_; rotate_left; (· exact rfl); (· (simp [go_sem, List.take_of_length_le, hz, hr, ruleC] <;> with_reducible rfl)))
        | (refine Gd.skip ?_ ?_ ?_; (· exact rfl); (· exact rfl))
        | refine Gx.nil ?_
        | (refine Gx.go (s' := ?_) rfl ?_ ?_ ?_; rotate_left; (· exact rfl); (· (simp [go_sem, List.take_of_length_le, hz, hr, ruleC] <;> with_reducible rfl)))
        | (refine Gx.skip rfl ?_ ?_ ?_; (· exact rfl); (· exact rfl))
        | (refine Gx.skipO rfl ?_ ?_ ?_; (· exact rfl); (· exact rfl))
        | (refine Gx.wo (s' := ?_) rfl ?_ ?_ ?_; rotate_left; (· exact rfl); (· (simp [go_sem, List.take_of_length_le, hz, hr, ruleC] <;> with_reducible rfl)))
        | (refine Gx.skipW rfl ?_ ?_ ?_; (· exact rfl); (· exact rfl))
        | (refine Gx.skipH rfl ?_ ?_ ?_; (· exact rfl); (· exact rfl))
        | (refine Gx.hid (r := ?_) rfl ?_ ?_ ?_ ?_; rotate_left; (· exact rfl); (· exact rfl); (· (simp [go_sem, List.take_of_length_le, hz, hr, ruleC] <;> with_reducible rfl)))
        | (refine Gx.wr (s' := ?_) rfl ?_ ?_ ?_ ?_; rotate_left; (· exact rfl); (· (simp [go_sem, List.take_of_length_le, hz, hr, ruleC] <;> with_reducible rfl)); (· (simp [go_sem, List.take_of_length_le, hz, hr, ruleC])))
        | fail
      refine Holds.nir 5 0 6 51 1 rfl rfl rfl (by simp [go_sem]; rfl) ?_
      refine Holds.loop (ι := Nat × Nat × List PT × List Int) (fun i => ⟨[(2, .pb 0 1 0 0), (3, .pb 1 3 0 0), (4, .pb 2 1 0 0), (5, .pb 3 1 0 0), (10, .pb 6 7 0 0), (64, .im 1 (ints right)), (65, .v (.int .i64 right.length)), (66, .v (.int .i64 i.1))],
          [(0, ⟨25, 1, [[.im 1 (ints tree)]]⟩), (1, ⟨31, 3, [[.v (.int .i64 g.1), .v (.int .i64 g.2.1), .im 2 (rules g.2.2)]]⟩), (2, ⟨25, 1, [[.own 5 1 0 i.2.2.2.length]]⟩), (3, ⟨89, 1, [[.fn 56 [.pb 0 1 0 0, .pb 1 3 0 0, .pb 2 1 0 0, .pb 3 1 0 0]]]⟩), (5, ⟨3, 1, ints i.2.2.2⟩),
           (6, ⟨63, 7, [[.v (.int .i64 non), .v (.int .i64 k), .v (.int .i64 at'), .v (.int .i64 i.2.1), .v (.int .i64 w.length), .v (.int .i64 0), .own 7 1 0 i.2.2.1.length]]⟩), (7, ⟨51, 1, kidsC i.2.2.1⟩)], 8⟩)
        (fun i => i.1 ≤ right.length ∧ kidsF (readF g tree f) (right.drop i.1) i.2.1 i.2.2.1 i.2.2.2 = R ∧ at' + 1 ≤ i.2.1 ∧ i.2.1 ≤ tree.length ∧ i.2.2.2.length ≤ w.length + i.1 + 4 * (i.2.1 - at' - 1) ∧ i.2.2.1.length ≤ i.1) (fun i => right.length - i.1) (0, at' + 1, [], w) ⟨Nat.zero_le _, hR, Nat.le_refl _, by dsimp only; omega, by dsimp only; omega, Nat.le_refl _⟩ ?_ ?_
      · exact Cov.ofn (nm [0, 1, 2, 3, 4, 4, 5, 6]) rfl (by simp [go_sem, List.take_of_length_le, ren, ren1, okr, okr1, ChkT, ChkN, BlkN, nf, kidsC]) (by simp [go_sem, List.take_of_length_le, ren, ren1, okr, okr1, ChkT, ChkN, BlkN, nf, kidsC])
      rintro ⟨j, e, ks, w'⟩ ⟨hj, hfold, he0, he1, hwl', hkl⟩
      dsimp only at hj hfold he0 he1 hwl' hkl ⊢
      have step : wr64 ((j : Int) + 1) = ((j + 1 : Nat) : Int) := wr64_id (by omega) (by omega)
      repeat' first
        | refine Holds.seq ?_
        | refine Holds.skip ?_
        | refine Holds.exit ?_
        | refine Holds.ret ?_
        | refine thenA_normal ?_
        | refine thenA_exit ?_
        | refine thenA_ret ?_
        | refine inB_normal ?_
        | refine inB_ret ?_
        | refine inB_here ?_
        | (refine inB_past ?_ ?_; (· exact rfl))
        | refine Holds.reg ?_
        | refine Holds.block ?_
        | refine GS.nil ?_
        | refine Gd.nil ?_
        | (refine Holds.any mixed ?_ ?_; (· kernel_rfl))
        | (refine GS.step (s' := ?_) ?_ ?_ ?_; rotate_left; (· exact rfl); (· (simp [go_sem, List.take_of_length_le] <;> with_reducible rfl)))
        | (refine GS.skip ?_ ?_ ?_; (· exact rfl); (· exact rfl))
        | (refine Gd.go (s' := ?_) ?_ ?_ ?_; rotate_left; (· exact rfl); (· (simp [go_sem, List.take_of_length_le] <;> with_reducible rfl)))
        | (refine Gd.skip ?_ ?_ ?_; (· exact rfl); (· exact rfl))
        | refine Gx.nil ?_
        | (refine Gx.go (s' := ?_) rfl ?_ ?_ ?_; rotate_left; (· exact rfl); (· (simp [go_sem, List.take_of_length_le] <;> with_reducible rfl)))
        | (refine Gx.skip rfl ?_ ?_ ?_; (· exact rfl); (· exact rfl))
        | (refine Gx.skipO rfl ?_ ?_ ?_; (· exact rfl); (· exact rfl))
        | (refine Gx.wo (s' := ?_) rfl ?_ ?_ ?_; rotate_left; (· exact rfl); (· (simp [go_sem, List.take_of_length_le] <;> with_reducible rfl)))
        | (refine Gx.skipW rfl ?_ ?_ ?_; (· exact rfl); (· exact rfl))
        | (refine Gx.skipH rfl ?_ ?_ ?_; (· exact rfl); (· exact rfl))
        | (refine Gx.hid (r := ?_) rfl ?_ ?_ ?_ ?_; rotate_left; (· exact rfl); (· exact rfl); (· (simp [go_sem, List.take_of_length_le] <;> with_reducible rfl)))
        | (refine Gx.wr (s' := ?_) rfl ?_ ?_ ?_ ?_; rotate_left; (· exact rfl); (· (simp [go_sem, List.take_of_length_le] <;> with_reducible rfl)); (· (simp [go_sem, List.take_of_length_le])))
        | fail
      refine Holds.cond rfl (fun hl => ?_) (fun hl => ?_)
      · have hjt : j < right.length := by simpa using hl
        have hxj : right[j]? = some right[j] := List.getElem?_eq_getElem hjt
        have hxs := hs0 _ (List.getElem_mem hjt)
        rw [List.drop_eq_getElem_cons hjt] at hfold
        unfold kidsF at hfold
        generalize right[j] = x at hxj hfold hxs
        repeat' first
          | refine Holds.seq ?_
          | refine Holds.skip ?_
          | refine Holds.exit ?_
          | refine Holds.ret ?_
          | refine thenA_normal ?_
          | refine thenA_exit ?_
          | refine thenA_ret ?_
          | refine inB_normal ?_
          | refine inB_ret ?_
          | refine inB_here ?_
          | (refine inB_past ?_ ?_; (· exact rfl))
          | refine Holds.reg ?_
          | refine Holds.block ?_
          | refine GS.nil ?_
          | refine Gd.nil ?_
          | (refine GS.step (s' := ?_) ?_ ?_ ?_; rotate_left; (· exact rfl); (· (simp [go_sem, List.take_of_length_le, hxj] <;> with_reducible rfl)))
          | (refine GS.skip ?_ ?_ ?_; (· exact rfl); (· exact rfl))
          | (refine Gd.go (s' := ?_) ?_ ?_ ?_; rotate_left; (· exact rfl); (· (simp [go_sem, List.take_of_length_le, hxj] <;> with_reducible rfl)))
          | (refine Gd.skip ?_ ?_ ?_; (· exact rfl); (· exact rfl))
          | refine Gx.nil ?_
          | (refine Gx.go (s' := ?_) rfl ?_ ?_ ?_; rotate_left; (· exact rfl); (· (simp [go_sem, List.take_of_length_le, hxj] <;> with_reducible rfl)))
          | (refine Gx.skip rfl ?_ ?_ ?_; (· exact rfl); (· exact rfl))
          | (refine Gx.skipO rfl ?_ ?_ ?_; (· exact rfl); (· exact rfl))
          | (refine Gx.wo (s' := ?_) rfl ?_ ?_ ?_; rotate_left; (· exact rfl); (· (simp [go_sem, List.take_of_length_le, hxj] <;> with_reducible rfl)))
          | (refine Gx.skipW rfl ?_ ?_ ?_; (· exact rfl); (· exact rfl))
          | (refine Gx.skipH rfl ?_ ?_ ?_; (· exact rfl); (· exact rfl))
          | (refine Gx.hid (r := ?_) rfl ?_ ?_ ?_ ?_; rotate_left; (· exact rfl); (· exact rfl); (· (simp [go_sem, List.take_of_length_le, hxj] <;> with_reducible rfl)))
          | (refine Gx.wr (s' := ?_) rfl ?_ ?_ ?_ ?_; rotate_left; (· exact rfl); (· (simp [go_sem, List.take_of_length_le, hxj] <;> with_reducible rfl)); (· (simp [go_sem, List.take_of_length_le, hxj])))
          | fail
        refine Holds.cond rfl (fun hx => ?_) (fun hx => ?_)
        · have hx : x < 0 := by simpa using hx
          rw [if_pos hx] at hfold
          repeat' first
            | refine Holds.seq ?_
            | refine Holds.skip ?_
            | refine Holds.exit ?_
            | refine Holds.ret ?_
            | refine thenA_normal ?_
            | refine thenA_exit ?_
            | refine thenA_ret ?_
            | refine inB_normal ?_
            | refine inB_ret ?_
            | refine inB_here ?_
            | (refine inB_past ?_ ?_; (· exact rfl))
            | refine Holds.reg ?_
            | refine Holds.block ?_
            | refine GS.nil ?_
            | refine Gd.nil ?_
            | (refine GS.step (s' := ?_) ?_ ?_ ?_; rotate_left; (· exact rfl); (· (simp [go_sem, List.take_of_length_le] <;> with_reducible rfl)))
            | (refine GS.skip ?_ ?_ ?_; (· exact rfl); (· exact rfl))
            | (refine Gd.go (s' := ?_) ?_ ?_ ?_; rotate_left; (· exact rfl); (· (simp [go_sem, List.take_of_length_le] <;> with_reducible rfl)))
            | (refine Gd.skip ?_ ?_ ?_; (· exact rfl); (· exact rfl))
            | refine Gx.nil ?_
            | (refine Gx.go (s' := ?_) rfl ?_ ?_ ?_; rotate_left; (· exact rfl); (· (simp [go_sem, List.take_of_length_le] <;> with_reducible rfl)))
            | (refine Gx.skip rfl ?_ ?_ ?_; (· exact rfl); (· exact rfl))
            | (refine Gx.skipO rfl ?_ ?_ ?_; (· exact rfl); (· exact rfl))
            | (refine Gx.wo (s' := ?_) rfl ?_ ?_ ?_; rotate_left; (· exact rfl); (· (simp [go_sem, List.take_of_length_le] <;> with_reducible rfl)))
            | (refine Gx.skipW rfl ?_ ?_ ?_; (· exact rfl); (· exact rfl))
            | (refine Gx.skipH rfl ?_ ?_ ?_; (· exact rfl); (· exact rfl))
            | (refine Gx.hid (r := ?_) rfl ?_ ?_ ?_ ?_; rotate_left; (· exact rfl); (· exact rfl); (· (simp [go_sem, List.take_of_length_le] <;> with_reducible rfl)))
            | (refine Gx.wr (s' := ?_) rfl ?_ ?_ ?_ ?_; rotate_left; (· exact rfl); (· (simp [go_sem, List.take_of_length_le] <;> with_reducible rfl)); (· (simp [go_sem, List.take_of_length_le])))
            | fail
          refine Holds.anx [3, 1004, 1005] [0] (fun n => decide (8 ≤ n)) mixed ?_ ?_ ?_; (· kernel_rfl); (· kernel_rfl)
          repeat' first
            | refine Holds.seq ?_
            | refine Holds.skip ?_
            | refine Holds.exit ?_
            | refine Holds.ret ?_
            | refine thenA_normal ?_
            | refine thenA_exit ?_
            | refine thenA_ret ?_
            | refine inB_normal ?_
            | refine inB_ret ?_
            | refine inB_here ?_
            | (refine inB_past ?_ ?_; (· exact rfl))
            | refine Holds.reg ?_
            | refine Holds.block ?_
            | refine GS.nil ?_
            | refine Gd.nil ?_
            | (refine GS.step (s' := ?_) ?_ ?_ ?_; rotate_left; (· exact rfl); (· (simp [go_sem, List.take_of_length_le] <;> with_reducible rfl)))
            | (refine GS.skip ?_ ?_ ?_; (· exact rfl); (· exact rfl))
            | (refine Gd.go (s' := ?_) ?_ ?_ ?_; rotate_left; (· exact rfl); (· (simp [go_sem, List.take_of_length_le] <;> with_reducible rfl)))
            | (refine Gd.skip ?_ ?_ ?_; (· exact rfl); (· exact rfl))
            | refine Gx.nil ?_
            | (refine Gx.go (s' := ?_) rfl ?_ ?_ ?_; rotate_left; (· exact rfl); (· (simp [go_sem, List.take_of_length_le] <;> with_reducible rfl)))
            | (refine Gx.skip rfl ?_ ?_ ?_; (· exact rfl); (· exact rfl))
            | (refine Gx.skipO rfl ?_ ?_ ?_; (· exact rfl); (· exact rfl))
            | (refine Gx.wo (s' := ?_) rfl ?_ ?_ ?_; rotate_left; (· exact rfl); (· (simp [go_sem, List.take_of_length_le] <;> with_reducible rfl)))
            | (refine Gx.skipW rfl ?_ ?_ ?_; (· exact rfl); (· exact rfl))
            | (refine Gx.skipH rfl ?_ ?_ ?_; (· exact rfl); (· exact rfl))
            | (refine Gx.hid (r := ?_) rfl ?_ ?_ ?_ ?_; rotate_left; (· exact rfl); (· exact rfl); (· (simp [go_sem, List.take_of_length_le] <;> with_reducible rfl)))
            | (refine Gx.wr (s' := ?_) rfl ?_ ?_ ?_ ?_; rotate_left; (· exact rfl); (· (simp [go_sem, List.take_of_length_le] <;> with_reducible rfl)); (· (simp [go_sem, List.take_of_length_le])))
            | fail
          first | refine GS.cc (symbolOf x (by omega) (by omega)) rfl rfl rfl rfl (by simp [go_sem, List.take_of_length_le] <;> with_reducible rfl) rfl (by simp [go_sem, List.take_of_length_le]) ?_ | refine Gd.cc (symbolOf x (by omega) (by omega)) rfl rfl rfl rfl (by simp [go_sem, List.take_of_length_le] <;> with_reducible rfl) rfl (by simp [go_sem, List.take_of_length_le]) ?_ | refine Gx.cc (symbolOf x (by omega) (by omega)) rfl rfl rfl rfl rfl (by simp [go_sem, List.take_of_length_le] <;> with_reducible rfl) rfl (by simp [go_sem, List.take_of_length_le]) ?_
          repeat' first
            | refine Holds.seq ?_
            | refine Holds.skip ?_
            | refine Holds.exit ?_
            | refine Holds.ret ?_
            | refine thenA_normal ?_
            | refine thenA_exit ?_
            | refine thenA_ret ?_
            | refine inB_normal ?_
            | refine inB_ret ?_
            | refine inB_here ?_
            | (refine inB_past ?_ ?_; (· exact rfl))
            | refine Holds.reg ?_
            | refine Holds.block ?_
            | refine GS.nil ?_
            | refine Gd.nil ?_
            | (refine GS.step (s' := ?_) ?_ ?_ ?_; rotate_left; (· exact rfl); (· (simp [go_sem, List.take_of_length_le, show (w'.length + 1) * 8 ≤ 140737488355328 by omega] <;> with_reducible rfl)))
            | (refine GS.skip ?_ ?_ ?_; (· exact rfl); (· exact rfl))
            | (refine Gd.go (s' := ?_) ?_ ?_ ?_; rotate_left; (· exact rfl); (· (simp [go_sem, List.take_of_length_le, show (w'.length + 1) * 8 ≤ 140737488355328 by omega] <;> with_reducible rfl)))
            | (refine Gd.skip ?_ ?_ ?_; (· exact rfl); (· exact rfl))
            | refine Gx.nil ?_
            | (refine Gx.go (s' := ?_) rfl ?_ ?_ ?_; rotate_left; (· exact rfl); (· (simp [go_sem, List.take_of_length_le, show (w'.length + 1) * 8 ≤ 140737488355328 by omega] <;> with_reducible rfl)))
            | (refine Gx.skip rfl ?_ ?_ ?_; (· exact rfl); (· exact rfl))
            | (refine Gx.skipO rfl ?_ ?_ ?_; (· exact rfl); (· exact rfl))
            | (refine Gx.wo (s' := ?_) rfl ?_ ?_ ?_; rotate_left; (· exact rfl); (· (simp [go_sem, List.take_of_length_le, show (w'.length + 1) * 8 ≤ 140737488355328 by omega] <;> with_reducible rfl)))
            | (refine Gx.skipW rfl ?_ ?_ ?_; (· exact rfl); (· exact rfl))
            | (refine Gx.skipH rfl ?_ ?_ ?_; (· exact rfl); (· exact rfl))
            | (refine Gx.hid (r := ?_) rfl ?_ ?_ ?_ ?_; rotate_left; (· exact rfl); (· exact rfl); (· (simp [go_sem, List.take_of_length_le, show (w'.length + 1) * 8 ≤ 140737488355328 by omega] <;> with_reducible rfl)))
            | (refine Gx.wr (s' := ?_) rfl ?_ ?_ ?_ ?_; rotate_left; (· exact rfl); (· (simp [go_sem, List.take_of_length_le, show (w'.length + 1) * 8 ≤ 140737488355328 by omega] <;> with_reducible rfl)); (· (simp [go_sem, List.take_of_length_le, show (w'.length + 1) * 8 ≤ 140737488355328 by omega])))
            | fail
          refine ⟨(j + 1, e, ks, w' ++ [-1 - x]), ⟨by dsimp only; omega, hfold, he0, he1, by simp; omega, by dsimp only; omega⟩, by dsimp only; omega, ?_⟩
          rw [step]
          exact Cov.ofn (nm [0, 1, 2, 3, 4, 10, 6, 7]) rfl (by simp [go_sem, List.take_of_length_le, ren, ren1, okr, okr1, ChkT, ChkN, BlkN, nf, ints_snoc]) (by simp [go_sem, List.take_of_length_le, ren, ren1, okr, okr1, ChkT, ChkN, BlkN, nf, ints_snoc])
        have hx : ¬ x < 0 := by simpa using hx
        rw [if_neg hx] at hfold
        have hp := readF_props hg tree f x e w'
        have hi := ih x e w' (by omega) (by omega) (by omega)
        generalize readF g tree f x e w' = q at hfold hp hi
        obtain ⟨q, w1⟩ := q
        simp only [tIns, tOuts, grammarC] at hi
        cases q with
        | none =>
          dsimp only at hfold
          subst hfold
          simp only [ptr, Option.isSome_none] at hi ⊢
          repeat' first
            | refine Holds.seq ?_
            | refine Holds.skip ?_
            | refine Holds.exit ?_
            | refine Holds.ret ?_
            | refine thenA_normal ?_
            | refine thenA_exit ?_
            | refine thenA_ret ?_
            | refine inB_normal ?_
            | refine inB_ret ?_
            | refine inB_here ?_
            | (refine inB_past ?_ ?_; (· exact rfl))
            | refine Holds.reg ?_
            | refine Holds.block ?_
            | refine GS.nil ?_
            | refine Gd.nil ?_
            | (refine GS.step (s' := ?_) ?_ ?_ ?_; rotate_left; (· exact rfl); (· (simp [go_sem, List.take_of_length_le] <;> with_reducible rfl)))
            | (refine GS.skip ?_ ?_ ?_; (· exact rfl); (· exact rfl))
            | (refine Gd.go (s' := ?_) ?_ ?_ ?_; rotate_left; (· exact rfl); (· (simp [go_sem, List.take_of_length_le] <;> with_reducible rfl)))
            | (refine Gd.skip ?_ ?_ ?_; (· exact rfl); (· exact rfl))
            | refine Gx.nil ?_
            | (refine Gx.go (s' := ?_) rfl ?_ ?_ ?_; rotate_left; (· exact rfl); (· (simp [go_sem, List.take_of_length_le] <;> with_reducible rfl)))
            | (refine Gx.skip rfl ?_ ?_ ?_; (· exact rfl); (· exact rfl))
            | (refine Gx.skipO rfl ?_ ?_ ?_; (· exact rfl); (· exact rfl))
            | (refine Gx.wo (s' := ?_) rfl ?_ ?_ ?_; rotate_left; (· exact rfl); (· (simp [go_sem, List.take_of_length_le] <;> with_reducible rfl)))
            | (refine Gx.skipW rfl ?_ ?_ ?_; (· exact rfl); (· exact rfl))
            | (refine Gx.skipH rfl ?_ ?_ ?_; (· exact rfl); (· exact rfl))
            | (refine Gx.hid (r := ?_) rfl ?_ ?_ ?_ ?_; rotate_left; (· exact rfl); (· exact rfl); (· (simp [go_sem, List.take_of_length_le] <;> with_reducible rfl)))
            | (refine Gx.wr (s' := ?_) rfl ?_ ?_ ?_ ?_; rotate_left; (· exact rfl); (· (simp [go_sem, List.take_of_length_le] <;> with_reducible rfl)); (· (simp [go_sem, List.take_of_length_le])))
            | fail
          refine Holds.anx [1006] [] (fun n => true) mixed ?_ ?_ ?_; (· kernel_rfl); (· kernel_rfl)
          repeat' first
            | refine Holds.seq ?_
            | refine Holds.skip ?_
            | refine Holds.exit ?_
            | refine Holds.ret ?_
            | refine thenA_normal ?_
            | refine thenA_exit ?_
            | refine thenA_ret ?_
            | refine inB_normal ?_
            | refine inB_ret ?_
            | refine inB_here ?_
            | (refine inB_past ?_ ?_; (· exact rfl))
            | refine Holds.reg ?_
            | refine Holds.block ?_
            | refine GS.nil ?_
            | refine Gd.nil ?_
            | (refine GS.step (s' := ?_) ?_ ?_ ?_; rotate_left; (· exact rfl); (· (simp [go_sem, List.take_of_length_le] <;> with_reducible rfl)))
            | (refine GS.skip ?_ ?_ ?_; (· exact rfl); (· exact rfl))
            | (refine Gd.go (s' := ?_) ?_ ?_ ?_; rotate_left; (· exact rfl); (· (simp [go_sem, List.take_of_length_le] <;> with_reducible rfl)))
            | (refine Gd.skip ?_ ?_ ?_; (· exact rfl); (· exact rfl))
            | refine Gx.nil ?_
            | (refine Gx.go (s' := ?_) rfl ?_ ?_ ?_; rotate_left; (· exact rfl); (· (simp [go_sem, List.take_of_length_le] <;> with_reducible rfl)))
            | (refine Gx.skip rfl ?_ ?_ ?_; (· exact rfl); (· exact rfl))
            | (refine Gx.skipO rfl ?_ ?_ ?_; (· exact rfl); (· exact rfl))
            | (refine Gx.wo (s' := ?_) rfl ?_ ?_ ?_; rotate_left; (· exact rfl); (· (simp [go_sem, List.take_of_length_le] <;> with_reducible rfl)))
            | (refine Gx.skipW rfl ?_ ?_ ?_; (· exact rfl); (· exact rfl))
            | (refine Gx.skipH rfl ?_ ?_ ?_; (· exact rfl); (· exact rfl))
            | (refine Gx.hid (r := ?_) rfl ?_ ?_ ?_ ?_; rotate_left; (· exact rfl); (· exact rfl); (· (simp [go_sem, List.take_of_length_le] <;> with_reducible rfl)))
            | (refine Gx.wr (s' := ?_) rfl ?_ ?_ ?_ ?_; rotate_left; (· exact rfl); (· (simp [go_sem, List.take_of_length_le] <;> with_reducible rfl)); (· (simp [go_sem, List.take_of_length_le])))
            | fail
          first | refine GS.fnn [0, 1, 2, 3, 5] (hi) rfl rfl rfl rfl (by simp [go_sem, List.take_of_length_le, ren, ren1, okr, okr1, ChkN, BlkN, List.range_succ, nf] <;> with_reducible rfl) (by simp [go_sem, List.take_of_length_le, ren, ren1, okr, okr1, ChkN, BlkN, List.range_succ, nf]) (by simp [go_sem, List.take_of_length_le, ren, ren1, okr, okr1, ChkN, BlkN, List.range_succ, nf]) (by simp [List.range_succ, lb]) (ChkN.toB (by simp [go_sem, List.take_of_length_le, ren, ren1, okr, okr1, ChkN, BlkN, List.range_succ, nf])) (by decide) (by simp) rfl (.nfr (by simp [nf]) (.nfr (by simp [nf]) (.okw (by simp [okr, okr1]) (.okw (by simp [okr, okr1]) (.nfr (by simp) .nil))))) (by simp [go_sem, List.take_of_length_le, ren, ren1, okr, okr1, ChkN, BlkN, List.range_succ, nf] <;> with_reducible rfl) ?_ | refine Gx.fnn [0, 1, 2, 3, 5] (hi) rfl rfl rfl rfl rfl (by simp [go_sem, List.take_of_length_le, ren, ren1, okr, okr1, ChkN, BlkN, List.range_succ, nf] <;> with_reducible rfl) (by simp [go_sem, List.take_of_length_le, ren, ren1, okr, okr1, ChkN, BlkN, List.range_succ, nf]) (by simp [go_sem, List.take_of_length_le, ren, ren1, okr, okr1, ChkN, BlkN, List.range_succ, nf]) (by simp [List.range_succ, lb]) (ChkN.toB (by simp [go_sem, List.take_of_length_le, ren, ren1, okr, okr1, ChkN, BlkN, List.range_succ, nf])) (by decide) (by simp) rfl (.nfr (by simp [nf]) (.nfr (by simp [nf]) (.okw (by simp [okr, okr1]) (.okw (by simp [okr, okr1]) (.nfr (by simp) .nil))))) (by simp [go_sem, List.take_of_length_le, ren, ren1, okr, okr1, ChkN, BlkN, List.range_succ, nf]) (by simp [go_sem, List.take_of_length_le, ren, ren1, okr, okr1, ChkN, BlkN, List.range_succ, nf] <;> with_reducible rfl) ?_ | refine Gx.fnno [0, 1, 2, 3, 5] (hi) rfl rfl rfl rfl rfl (by simp [go_sem, List.take_of_length_le, ren, ren1, okr, okr1, ChkN, BlkN, List.range_succ, nf] <;> with_reducible rfl) (by simp [go_sem, List.take_of_length_le, ren, ren1, okr, okr1, ChkN, BlkN, List.range_succ, nf]) (by simp [go_sem, List.take_of_length_le, ren, ren1, okr, okr1, ChkN, BlkN, List.range_succ, nf]) (by simp [List.range_succ, lb]) (ChkN.toB (by simp [go_sem, List.take_of_length_le, ren, ren1, okr, okr1, ChkN, BlkN, List.range_succ, nf])) (by decide) (by simp) rfl (.nfr (by simp [nf]) (.nfr (by simp [nf]) (.okw (by simp [okr, okr1]) (.okw (by simp [okr, okr1]) (.nfr (by simp) .nil))))) (by simp [go_sem, List.take_of_length_le, ren, ren1, okr, okr1, ChkN, BlkN, List.range_succ, nf] <;> with_reducible rfl) ?_
          repeat' first
            | refine Holds.seq ?_
            | refine Holds.skip ?_
            | refine Holds.exit ?_
            | refine Holds.ret ?_
            | refine thenA_normal ?_
            | refine thenA_exit ?_
            | refine thenA_ret ?_
            | refine inB_normal ?_
            | refine inB_ret ?_
            | refine inB_here ?_
            | (refine inB_past ?_ ?_; (· exact rfl))
            | refine Holds.reg ?_
            | refine Holds.block ?_
            | refine GS.nil ?_
            | refine Gd.nil ?_
            | (refine GS.step (s' := ?_) ?_ ?_ ?_; rotate_left; (· exact rfl); (· (simp [go_sem, List.take_of_length_le] <;> with_reducible rfl)))
            | (refine GS.skip ?_ ?_ ?_; (· exact rfl); (· exact rfl))
            | (refine Gd.go (s' := ?_) ?_ ?_ ?_; rotate_left; (· exact rfl); (· (simp [go_sem, List.take_of_length_le] <;> with_reducible rfl)))
            | (refine Gd.skip ?_ ?_ ?_; (· exact rfl); (· exact rfl))
            | refine Gx.nil ?_
            | (refine Gx.go (s' := ?_) rfl ?_ ?_ ?_; rotate_left; (· exact rfl); (· (simp [go_sem, List.take_of_length_le] <;> with_reducible rfl)))
            | (refine Gx.skip rfl ?_ ?_ ?_; (· exact rfl); (· exact rfl))
            | (refine Gx.skipO rfl ?_ ?_ ?_; (· exact rfl); (· exact rfl))
            | (refine Gx.wo (s' := ?_) rfl ?_ ?_ ?_; rotate_left; (· exact rfl); (· (simp [go_sem, List.take_of_length_le] <;> with_reducible rfl)))
            | (refine Gx.skipW rfl ?_ ?_ ?_; (· exact rfl); (· exact rfl))
            | (refine Gx.skipH rfl ?_ ?_ ?_; (· exact rfl); (· exact rfl))
            | (refine Gx.hid (r := ?_) rfl ?_ ?_ ?_ ?_; rotate_left; (· exact rfl); (· exact rfl); (· (simp [go_sem, List.take_of_length_le] <;> with_reducible rfl)))
            | (refine Gx.wr (s' := ?_) rfl ?_ ?_ ?_ ?_; rotate_left; (· exact rfl); (· (simp [go_sem, List.take_of_length_le] <;> with_reducible rfl)); (· (simp [go_sem, List.take_of_length_le])))
            | fail
          refine Holds.cond rfl (fun h => ?_) (fun h => ?_)
          · repeat' first
              | refine Holds.seq ?_
              | refine Holds.skip ?_
              | refine Holds.exit ?_
              | refine Holds.ret ?_
              | refine thenA_normal ?_
              | refine thenA_exit ?_
              | refine thenA_ret ?_
              | refine inB_normal ?_
              | refine inB_ret ?_
              | refine inB_here ?_
              | (refine inB_past ?_ ?_; (· exact rfl))
              | refine Holds.reg ?_
              | refine Holds.block ?_
              | refine GS.nil ?_
              | refine Gd.nil ?_
              | (refine GS.step (s' := ?_) ?_ ?_ ?_; rotate_left; (· exact rfl); (· (simp [go_sem, List.take_of_length_le] <;> with_reducible rfl)))
              | (refine GS.skip ?_ ?_ ?_; (· exact rfl); (· exact rfl))
              | (refine Gd.go (s' := ?_) ?_ ?_ ?_; rotate_left; (· exact rfl); (· (simp [go_sem, List.take_of_length_le] <;> with_reducible rfl)))
              | (refine Gd.skip ?_ ?_ ?_; (· exact rfl); (· exact rfl))
              | refine Gx.nil ?_
              | (refine Gx.go (s' := ?_) rfl ?_ ?_ ?_; rotate_left; (· exact rfl); (· (simp [go_sem, List.take_of_length_le] <;> with_reducible rfl)))
              | (refine Gx.skip rfl ?_ ?_ ?_; (· exact rfl); (· exact rfl))
              | (refine Gx.skipO rfl ?_ ?_ ?_; (· exact rfl); (· exact rfl))
              | (refine Gx.wo (s' := ?_) rfl ?_ ?_ ?_; rotate_left; (· exact rfl); (· (simp [go_sem, List.take_of_length_le] <;> with_reducible rfl)))
              | (refine Gx.skipW rfl ?_ ?_ ?_; (· exact rfl); (· exact rfl))
              | (refine Gx.skipH rfl ?_ ?_ ?_; (· exact rfl); (· exact rfl))
              | (refine Gx.hid (r := ?_) rfl ?_ ?_ ?_ ?_; rotate_left; (· exact rfl); (· exact rfl); (· (simp [go_sem, List.take_of_length_le] <;> with_reducible rfl)))
              | (refine Gx.wr (s' := ?_) rfl ?_ ?_ ?_ ?_; rotate_left; (· exact rfl); (· (simp [go_sem, List.take_of_length_le] <;> with_reducible rfl)); (· (simp [go_sem, List.take_of_length_le])))
              | fail
            refine OutF.mkn (xs := ?_) (nm [0, 1, 2, 3, 4, 8]) ?_ ?_ ?_ ?_ ?_ (by first | exact .inr rfl | exact .inl rfl)
            rotate_left
            · simp [go_sem, List.take_of_length_le] <;> with_reducible rfl
            · simp [go_sem, List.take_of_length_le, ren, ren1, okr, okr1, ChkN, BlkN, List.range_succ, nf]
            · simp [go_sem, List.take_of_length_le, ren, ren1, okr, okr1, ChkN, BlkN, List.range_succ, nf]
            · simp [go_sem, List.take_of_length_le, ren, ren1, okr, okr1, ChkN, BlkN, List.range_succ, nf]
            · rfl
          · cases h
        | some p =>
          dsimp only at hfold
          obtain ⟨p0, p1, p2⟩ := hp p w1 rfl
          have hfin := partC_fin p
          simp only [ptr, Option.isSome_some] at hi
          repeat' first
            | refine Holds.seq ?_
            | refine Holds.skip ?_
            | refine Holds.exit ?_
            | refine Holds.ret ?_
            | refine thenA_normal ?_
            | refine thenA_exit ?_
            | refine thenA_ret ?_
            | refine inB_normal ?_
            | refine inB_ret ?_
            | refine inB_here ?_
            | (refine inB_past ?_ ?_; (· exact rfl))
            | refine Holds.reg ?_
            | refine Holds.block ?_
            | refine GS.nil ?_
            | refine Gd.nil ?_
            | (refine GS.step (s' := ?_) ?_ ?_ ?_; rotate_left; (· exact rfl); (· (simp [go_sem, List.take_of_length_le] <;> with_reducible rfl)))
            | (refine GS.skip ?_ ?_ ?_; (· exact rfl); (· exact rfl))
            | (refine Gd.go (s' := ?_) ?_ ?_ ?_; rotate_left; (· exact rfl); (· (simp [go_sem, List.take_of_length_le] <;> with_reducible rfl)))
            | (refine Gd.skip ?_ ?_ ?_; (· exact rfl); (· exact rfl))
            | refine Gx.nil ?_
            | (refine Gx.go (s' := ?_) rfl ?_ ?_ ?_; rotate_left; (· exact rfl); (· (simp [go_sem, List.take_of_length_le] <;> with_reducible rfl)))
            | (refine Gx.skip rfl ?_ ?_ ?_; (· exact rfl); (· exact rfl))
            | (refine Gx.skipO rfl ?_ ?_ ?_; (· exact rfl); (· exact rfl))
            | (refine Gx.wo (s' := ?_) rfl ?_ ?_ ?_; rotate_left; (· exact rfl); (· (simp [go_sem, List.take_of_length_le] <;> with_reducible rfl)))
            | (refine Gx.skipW rfl ?_ ?_ ?_; (· exact rfl); (· exact rfl))
            | (refine Gx.skipH rfl ?_ ?_ ?_; (· exact rfl); (· exact rfl))
            | (refine Gx.hid (r := ?_) rfl ?_ ?_ ?_ ?_; rotate_left; (· exact rfl); (· exact rfl); (· (simp [go_sem, List.take_of_length_le] <;> with_reducible rfl)))
            | (refine Gx.wr (s' := ?_) rfl ?_ ?_ ?_ ?_; rotate_left; (· exact rfl); (· (simp [go_sem, List.take_of_length_le] <;> with_reducible rfl)); (· (simp [go_sem, List.take_of_length_le])))
            | fail
          refine Holds.anx [1006] [] (fun n => true) mixed ?_ ?_ ?_; (· kernel_rfl); (· kernel_rfl)
          repeat' first
            | refine Holds.seq ?_
            | refine Holds.skip ?_
            | refine Holds.exit ?_
            | refine Holds.ret ?_
            | refine thenA_normal ?_
            | refine thenA_exit ?_
            | refine thenA_ret ?_
            | refine inB_normal ?_
            | refine inB_ret ?_
            | refine inB_here ?_
            | (refine inB_past ?_ ?_; (· exact rfl))
            | refine Holds.reg ?_
            | refine Holds.block ?_
            | refine GS.nil ?_
            | refine Gd.nil ?_
            | (refine GS.step (s' := ?_) ?_ ?_ ?_; rotate_left; (· exact rfl); (· (simp [go_sem, List.take_of_length_le] <;> with_reducible rfl)))
            | (refine GS.skip ?_ ?_ ?_; (· exact rfl); (· exact rfl))
            | (refine Gd.go (s' := ?_) ?_ ?_ ?_; rotate_left; (· exact rfl); (· (simp [go_sem, List.take_of_length_le] <;> with_reducible rfl)))
            | (refine Gd.skip ?_ ?_ ?_; (· exact rfl); (· exact rfl))
            | refine Gx.nil ?_
            | (refine Gx.go (s' := ?_) rfl ?_ ?_ ?_; rotate_left; (· exact rfl); (· (simp [go_sem, List.take_of_length_le] <;> with_reducible rfl)))
            | (refine Gx.skip rfl ?_ ?_ ?_; (· exact rfl); (· exact rfl))
            | (refine Gx.skipO rfl ?_ ?_ ?_; (· exact rfl); (· exact rfl))
            | (refine Gx.wo (s' := ?_) rfl ?_ ?_ ?_; rotate_left; (· exact rfl); (· (simp [go_sem, List.take_of_length_le] <;> with_reducible rfl)))
            | (refine Gx.skipW rfl ?_ ?_ ?_; (· exact rfl); (· exact rfl))
            | (refine Gx.skipH rfl ?_ ?_ ?_; (· exact rfl); (· exact rfl))
            | (refine Gx.hid (r := ?_) rfl ?_ ?_ ?_ ?_; rotate_left; (· exact rfl); (· exact rfl); (· (simp [go_sem, List.take_of_length_le] <;> with_reducible rfl)))
            | (refine Gx.wr (s' := ?_) rfl ?_ ?_ ?_ ?_; rotate_left; (· exact rfl); (· (simp [go_sem, List.take_of_length_le] <;> with_reducible rfl)); (· (simp [go_sem, List.take_of_length_le])))
            | fail
          first | refine GS.fnn [0, 1, 2, 3, 5] (hi) rfl rfl rfl rfl (by simp [go_sem, List.take_of_length_le, ren, ren1, okr, okr1, ChkN, BlkN, List.range_succ, nf] <;> with_reducible rfl) (by simp [go_sem, List.take_of_length_le, ren, ren1, okr, okr1, ChkN, BlkN, List.range_succ, nf]) (by simp [go_sem, List.take_of_length_le, ren, ren1, okr, okr1, ChkN, BlkN, List.range_succ, nf]) (by simp [List.range_succ, lb]) (ChkN.toB (by simp [go_sem, List.take_of_length_le, ren, ren1, okr, okr1, ChkN, BlkN, List.range_succ, nf])) (by decide) (by simp) rfl (.nfr (by simp [nf]) (.nfr (by simp [nf]) (.okw (by simp [okr, okr1]) (.okw (by simp [okr, okr1]) (.nfr (by simp) .nil))))) (by simp [go_sem, List.take_of_length_le, ren, ren1, okr, okr1, ChkN, BlkN, List.range_succ, nf] <;> with_reducible rfl) ?_ | refine Gx.fnn [0, 1, 2, 3, 5] (hi) rfl rfl rfl rfl rfl (by simp [go_sem, List.take_of_length_le, ren, ren1, okr, okr1, ChkN, BlkN, List.range_succ, nf] <;> with_reducible rfl) (by simp [go_sem, List.take_of_length_le, ren, ren1, okr, okr1, ChkN, BlkN, List.range_succ, nf]) (by simp [go_sem, List.take_of_length_le, ren, ren1, okr, okr1, ChkN, BlkN, List.range_succ, nf]) (by simp [List.range_succ, lb]) (ChkN.toB (by simp [go_sem, List.take_of_length_le, ren, ren1, okr, okr1, ChkN, BlkN, List.range_succ, nf])) (by decide) (by simp) rfl (.nfr (by simp [nf]) (.nfr (by simp [nf]) (.okw (by simp [okr, okr1]) (.okw (by simp [okr, okr1]) (.nfr (by simp) .nil))))) (by simp [go_sem, List.take_of_length_le, ren, ren1, okr, okr1, ChkN, BlkN, List.range_succ, nf]) (by simp [go_sem, List.take_of_length_le, ren, ren1, okr, okr1, ChkN, BlkN, List.range_succ, nf] <;> with_reducible rfl) ?_ | refine Gx.fnno [0, 1, 2, 3, 5] (hi) rfl rfl rfl rfl rfl (by simp [go_sem, List.take_of_length_le, ren, ren1, okr, okr1, ChkN, BlkN, List.range_succ, nf] <;> with_reducible rfl) (by simp [go_sem, List.take_of_length_le, ren, ren1, okr, okr1, ChkN, BlkN, List.range_succ, nf]) (by simp [go_sem, List.take_of_length_le, ren, ren1, okr, okr1, ChkN, BlkN, List.range_succ, nf]) (by simp [List.range_succ, lb]) (ChkN.toB (by simp [go_sem, List.take_of_length_le, ren, ren1, okr, okr1, ChkN, BlkN, List.range_succ, nf])) (by decide) (by simp) rfl (.nfr (by simp [nf]) (.nfr (by simp [nf]) (.okw (by simp [okr, okr1]) (.okw (by simp [okr, okr1]) (.nfr (by simp) .nil))))) (by simp [go_sem, List.take_of_length_le, ren, ren1, okr, okr1, ChkN, BlkN, List.range_succ, nf] <;> with_reducible rfl) ?_
          repeat' first
            | refine Holds.seq ?_
            | refine Holds.skip ?_
            | refine Holds.exit ?_
            | refine Holds.ret ?_
            | refine thenA_normal ?_
            | refine thenA_exit ?_
            | refine thenA_ret ?_
            | refine inB_normal ?_
            | refine inB_ret ?_
            | refine inB_here ?_
            | (refine inB_past ?_ ?_; (· exact rfl))
            | refine Holds.reg ?_
            | refine Holds.block ?_
            | refine GS.nil ?_
            | refine Gd.nil ?_
            | (refine GS.step (s' := ?_) ?_ ?_ ?_; rotate_left; (· exact rfl); (· (simp [go_sem, List.take_of_length_le] <;> with_reducible rfl)))
            | (refine GS.skip ?_ ?_ ?_; (· exact rfl); (· exact rfl))
            | (refine Gd.go (s' := ?_) ?_ ?_ ?_; rotate_left; (· exact rfl); (· (simp [go_sem, List.take_of_length_le] <;> with_reducible rfl)))
            | (refine Gd.skip ?_ ?_ ?_; (· exact rfl); (· exact rfl))
            | refine Gx.nil ?_
            | (refine Gx.go (s' := ?_) rfl ?_ ?_ ?_; rotate_left; (· exact rfl); (· (simp [go_sem, List.take_of_length_le] <;> with_reducible rfl)))
            | (refine Gx.skip rfl ?_ ?_ ?_; (· exact rfl); (· exact rfl))
            | (refine Gx.skipO rfl ?_ ?_ ?_; (· exact rfl); (· exact rfl))
            | (refine Gx.wo (s' := ?_) rfl ?_ ?_ ?_; rotate_left; (· exact rfl); (· (simp [go_sem, List.take_of_length_le] <;> with_reducible rfl)))
            | (refine Gx.skipW rfl ?_ ?_ ?_; (· exact rfl); (· exact rfl))
            | (refine Gx.skipH rfl ?_ ?_ ?_; (· exact rfl); (· exact rfl))
            | (refine Gx.hid (r := ?_) rfl ?_ ?_ ?_ ?_; rotate_left; (· exact rfl); (· exact rfl); (· (simp [go_sem, List.take_of_length_le] <;> with_reducible rfl)))
            | (refine Gx.wr (s' := ?_) rfl ?_ ?_ ?_ ?_; rotate_left; (· exact rfl); (· (simp [go_sem, List.take_of_length_le] <;> with_reducible rfl)); (· (simp [go_sem, List.take_of_length_le])))
            | fail
          refine Holds.cond rfl (fun h => ?_) (fun h => ?_)
          · cases h
          repeat' first
            | refine Holds.seq ?_
            | refine Holds.skip ?_
            | refine Holds.exit ?_
            | refine Holds.ret ?_
            | refine thenA_normal ?_
            | refine thenA_exit ?_
            | refine thenA_ret ?_
            | refine inB_normal ?_
            | refine inB_ret ?_
            | refine inB_here ?_
            | (refine inB_past ?_ ?_; (· exact rfl))
            | refine Holds.reg ?_
            | refine Holds.block ?_
            | refine GS.nil ?_
            | refine Gd.nil ?_
            | (refine GS.step (s' := ?_) ?_ ?_ ?_; rotate_left; (· exact rfl); (· (simp [go_sem, List.take_of_length_le, hfin, show (ks.length + 1) * 8 ≤ 140737488355328 by omega] <;> with_reducible rfl)))
            | (refine GS.skip ?_ ?_ ?_; (· exact rfl); (· exact rfl))
            | (refine Gd.go (s' := ?_) ?_ ?_ ?_; rotate_left; (· exact rfl); (· (simp [go_sem, List.take_of_length_le, hfin, show (ks.length + 1) * 8 ≤ 140737488355328 by omega] <;> with_reducible rfl)))
            | (refine Gd.skip ?_ ?_ ?_; (· exact rfl); (· exact rfl))
            | refine Gx.nil ?_
            | (refine Gx.go (s' := ?_) rfl ?_ ?_ ?_; rotate_left; (· exact rfl); (· (simp [go_sem, List.take_of_length_le, hfin, show (ks.length + 1) * 8 ≤ 140737488355328 by omega] <;> with_reducible rfl)))
            | (refine Gx.skip rfl ?_ ?_ ?_; (· exact rfl); (· exact rfl))
            | (refine Gx.skipO rfl ?_ ?_ ?_; (· exact rfl); (· exact rfl))
            | (refine Gx.wo (s' := ?_) rfl ?_ ?_ ?_; rotate_left; (· exact rfl); (· (simp [go_sem, List.take_of_length_le, hfin, show (ks.length + 1) * 8 ≤ 140737488355328 by omega] <;> with_reducible rfl)))
            | (refine Gx.skipW rfl ?_ ?_ ?_; (· exact rfl); (· exact rfl))
            | (refine Gx.skipH rfl ?_ ?_ ?_; (· exact rfl); (· exact rfl))
            | (refine Gx.hid (r := ?_) rfl ?_ ?_ ?_ ?_; rotate_left; (· exact rfl); (· exact rfl); (· (simp [go_sem, List.take_of_length_le, hfin, show (ks.length + 1) * 8 ≤ 140737488355328 by omega] <;> with_reducible rfl)))
            | (refine Gx.wr (s' := ?_) rfl ?_ ?_ ?_ ?_; rotate_left; (· exact rfl); (· (simp [go_sem, List.take_of_length_le, hfin, show (ks.length + 1) * 8 ≤ 140737488355328 by omega] <;> with_reducible rfl)); (· (simp [go_sem, List.take_of_length_le, hfin, show (ks.length + 1) * 8 ≤ 140737488355328 by omega])))
            | fail
          refine ⟨(j + 1, p.fin, ks ++ [p], w1), ⟨by dsimp only; omega, hfold, by dsimp only; omega, by dsimp only; omega, by dsimp only; omega, by simp; omega⟩, by dsimp only; omega, ?_⟩
          rw [step]
          exact Cov.ofn (nm [0, 1, 2, 3, 4, 8, 6, 11]) rfl (by simp [go_sem, List.take_of_length_le, ren, ren1, okr, okr1, ChkT, ChkN, BlkN, nf, kidsC_snoc]) (by simp [go_sem, List.take_of_length_le, ren, ren1, okr, okr1, ChkT, ChkN, BlkN, nf, kidsC_snoc])
      · have hje : j = right.length := by
          have : ¬ j < right.length := by simpa using hl
          omega
        subst hje
        rw [List.drop_length] at hfold
        unfold kidsF at hfold
        subst hfold
        dsimp only
        simp only [ptr, Option.isSome_some]
        repeat' first
          | refine Holds.seq ?_
          | refine Holds.skip ?_
          | refine Holds.exit ?_
          | refine Holds.ret ?_
          | refine thenA_normal ?_
          | refine thenA_exit ?_
          | refine thenA_ret ?_
          | refine inB_normal ?_
          | refine inB_ret ?_
          | refine inB_here ?_
          | (refine inB_past ?_ ?_; (· exact rfl))
          | refine Holds.reg ?_
          | refine Holds.block ?_
          | refine GS.nil ?_
          | refine Gd.nil ?_
          | (refine GS.step (s' := ?_) ?_ ?_ ?_; rotate_left; (· exact rfl); (· (simp [go_sem, List.take_of_length_le] <;> with_reducible rfl)))
          | (refine GS.skip ?_ ?_ ?_; (· exact rfl); (· exact rfl))
          | (refine Gd.go (s' := ?_) ?_ ?_ ?_; rotate_left; (· exact rfl); (· (simp [go_sem, List.take_of_length_le] <;> with_reducible rfl)))
          | (refine Gd.skip ?_ ?_ ?_; (· exact rfl); (· exact rfl))
          | refine Gx.nil ?_
          | (refine Gx.go (s' := ?_) rfl ?_ ?_ ?_; rotate_left; (· exact rfl); (· (simp [go_sem, List.take_of_length_le] <;> with_reducible rfl)))
          | (refine Gx.skip rfl ?_ ?_ ?_; (· exact rfl); (· exact rfl))
          | (refine Gx.skipO rfl ?_ ?_ ?_; (· exact rfl); (· exact rfl))
          | (refine Gx.wo (s' := ?_) rfl ?_ ?_ ?_; rotate_left; (· exact rfl); (· (simp [go_sem, List.take_of_length_le] <;> with_reducible rfl)))
          | (refine Gx.skipW rfl ?_ ?_ ?_; (· exact rfl); (· exact rfl))
          | (refine Gx.skipH rfl ?_ ?_ ?_; (· exact rfl); (· exact rfl))
          | (refine Gx.hid (r := ?_) rfl ?_ ?_ ?_ ?_; rotate_left; (· exact rfl); (· exact rfl); (· (simp [go_sem, List.take_of_length_le] <;> with_reducible rfl)))
          | (refine Gx.wr (s' := ?_) rfl ?_ ?_ ?_ ?_; rotate_left; (· exact rfl); (· (simp [go_sem, List.take_of_length_le] <;> with_reducible rfl)); (· (simp [go_sem, List.take_of_length_le])))
          | fail
        refine OutF.cov (Cov.freeze [6, 7] (ts := [(8, .pi (partC (.node non k at' e w.length w'.length ks)))]) (.cons rfl (Fz.pbL rfl rfl rfl (.cons (.v _) (.cons (.v _) (.cons (.v _) (.cons (.v _) (.cons (.v _) (.cons (.v _) (.cons (Fz.all rfl rfl (by simp) rfl (kidsC_cl _)) .nil)))))))) .nil)) ?_
        refine OutF.mkn (xs := ?_) (nm [0, 1, 2, 3, 4, 5]) ?_ ?_ ?_ ?_ ?_ (by first | exact .inr rfl | exact .inl rfl)
        rotate_left
        · simp [go_sem, List.take_of_length_le, frz] <;> with_reducible rfl
        · simp [go_sem, List.take_of_length_le, ren, ren1, okr, okr1, ChkN, BlkN, List.range_succ, nf, frz]
        · simp [go_sem, List.take_of_length_le, ren, ren1, okr, okr1, ChkN, BlkN, List.range_succ, nf, frz]
        · simp [go_sem, List.take_of_length_le, ren, ren1, okr, okr1, ChkN, BlkN, List.range_succ, nf, frz]
        · rfl
end Go.Proofs.Ytpnpjkkppndhfaa.En
end
section
namespace Go.Proofs.Ytpnpjkkppndhfaa.En
open Go.RowKit
set_option linter.unusedSimpArgs false
set_option linter.unusedVariables false
set_option maxHeartbeats 8000000
theorem gTree (g : GrammarT) (hg : OkG g) (tree : List Int) (ht : tree.length ≤ 60) (non : Int) : Pure Try.prog 34 [.ag (grammarC g), .v (.int .i64 non), .im 1 (ints tree)] (.tu [ptr (readF g tree 61 non 0 []).1, .im 1 (ints (readF g tree 61 non 0 []).2), .v (.bool (readF g tree 61 non 0 []).1.isSome)]) := by
  refine Pure.mk (rs := [.tmp 6, .tmp 7, .tmp 8]) (nt := 24) Try.func34 (by kernel_rfl) rfl rfl rfl (by simp) ?_
  simp only [sl, grammarC]
  have hf := treeF g hg tree ht 61 non 0 [] (by omega) (by omega) (by simp)
  generalize readF g tree 61 non 0 [] = R at hf
  obtain ⟨q, w⟩ := R
  simp only [tIns, tOuts, grammarC, List.length_nil, ints_nil] at hf
  cases q with
  | none =>
    simp only [ptr, Option.isSome_none] at hf ⊢
    repeat' first
      | refine Holds.seq ?_
      | refine Holds.skip ?_
      | refine Holds.exit ?_
      | refine Holds.ret ?_
      | refine thenA_normal ?_
      | refine thenA_exit ?_
      | refine thenA_ret ?_
      | refine inB_normal ?_
      | refine inB_ret ?_
      | refine inB_here ?_
      | (refine inB_past ?_ ?_; (· exact rfl))
      | refine Holds.reg ?_
      | refine Holds.block ?_
      | refine GS.nil ?_
      | refine Gd.nil ?_
      | (refine Holds.any mixed ?_ ?_; (· kernel_rfl))
      | (refine GS.step (s' := ?_) ?_ ?_ ?_; rotate_left; (· exact rfl); (· (simp [go_sem, List.take_of_length_le] <;> with_reducible rfl)))
      | (refine GS.skip ?_ ?_ ?_; (· exact rfl); (· exact rfl))
      | (refine Gd.go (s' := ?_) ?_ ?_ ?_; rotate_left; (· exact rfl); (· (simp [go_sem, List.take_of_length_le] <;> with_reducible rfl)))
      | (refine Gd.skip ?_ ?_ ?_; (· exact rfl); (· exact rfl))
      | fail
    refine GS.fnn [1, 0, 3, 4, 2] (hf) rfl rfl rfl rfl (by simp [go_sem, List.take_of_length_le, ren, ren1, okr, okr1, ChkN, BlkN, List.range_succ, nf] <;> with_reducible rfl) (by simp [go_sem, List.take_of_length_le, ren, ren1, okr, okr1, ChkN, BlkN, List.range_succ, nf]) (by simp [go_sem, List.take_of_length_le, ren, ren1, okr, okr1, ChkN, BlkN, List.range_succ, nf]) (by simp [List.range_succ, lb]) (ChkN.toB (by simp [go_sem, List.take_of_length_le, ren, ren1, okr, okr1, ChkN, BlkN, List.range_succ, nf])) (by decide) (by simp) rfl (.nfr (by simp [nf]) (.nfr (by simp [nf]) (.okw (by simp [okr, okr1]) (.okw (by simp [okr, okr1]) (.nfr (by simp) .nil))))) (by simp [go_sem, List.take_of_length_le, ren, ren1, okr, okr1, ChkN, BlkN, List.range_succ, nf] <;> with_reducible rfl) ?_
    repeat' first
      | refine Holds.seq ?_
      | refine Holds.skip ?_
      | refine Holds.exit ?_
      | refine Holds.ret ?_
      | refine thenA_normal ?_
      | refine thenA_exit ?_
      | refine thenA_ret ?_
      | refine inB_normal ?_
      | refine inB_ret ?_
      | refine inB_here ?_
      | (refine inB_past ?_ ?_; (· exact rfl))
      | refine Holds.reg ?_
      | refine Holds.block ?_
      | refine GS.nil ?_
      | refine Gd.nil ?_
      | (refine Holds.any mixed ?_ ?_; (· kernel_rfl))
      | (refine GS.step (s' := ?_) ?_ ?_ ?_; rotate_left; (· exact rfl); (· (simp [go_sem, List.take_of_length_le] <;> with_reducible rfl)))
      | (refine GS.skip ?_ ?_ ?_; (· exact rfl); (· exact rfl))
      | (refine Gd.go (s' := ?_) ?_ ?_ ?_; rotate_left; (· exact rfl); (· (simp [go_sem, List.take_of_length_le] <;> with_reducible rfl)))
      | (refine Gd.skip ?_ ?_ ?_; (· exact rfl); (· exact rfl))
      | fail
    refine Out.mk (xs := ?_) ?_ ?_ (by first | exact .inr rfl | exact .inl rfl)
    rotate_left
    · simp [go_sem, List.take_of_length_le] <;> with_reducible rfl
    exact Fz.tuL (.cons (.v _) (.cons (Fz.all rfl rfl (by simp) rfl (ints_cl _)) (.cons (.v _) .nil)))
  | some p =>
    simp only [ptr, Option.isSome_some] at hf ⊢
    repeat' first
      | refine Holds.seq ?_
      | refine Holds.skip ?_
      | refine Holds.exit ?_
      | refine Holds.ret ?_
      | refine thenA_normal ?_
      | refine thenA_exit ?_
      | refine thenA_ret ?_
      | refine inB_normal ?_
      | refine inB_ret ?_
      | refine inB_here ?_
      | (refine inB_past ?_ ?_; (· exact rfl))
      | refine Holds.reg ?_
      | refine Holds.block ?_
      | refine GS.nil ?_
      | refine Gd.nil ?_
      | (refine Holds.any mixed ?_ ?_; (· kernel_rfl))
      | (refine GS.step (s' := ?_) ?_ ?_ ?_; rotate_left; (· exact rfl); (· (simp [go_sem, List.take_of_length_le] <;> with_reducible rfl)))
      | (refine GS.skip ?_ ?_ ?_; (· exact rfl); (· exact rfl))
      | (refine Gd.go (s' := ?_) ?_ ?_ ?_; rotate_left; (· exact rfl); (· (simp [go_sem, List.take_of_length_le] <;> with_reducible rfl)))
      | (refine Gd.skip ?_ ?_ ?_; (· exact rfl); (· exact rfl))
      | fail
    refine GS.fnn [1, 0, 3, 4, 2] (hf) rfl rfl rfl rfl (by simp [go_sem, List.take_of_length_le, ren, ren1, okr, okr1, ChkN, BlkN, List.range_succ, nf] <;> with_reducible rfl) (by simp [go_sem, List.take_of_length_le, ren, ren1, okr, okr1, ChkN, BlkN, List.range_succ, nf]) (by simp [go_sem, List.take_of_length_le, ren, ren1, okr, okr1, ChkN, BlkN, List.range_succ, nf]) (by simp [List.range_succ, lb]) (ChkN.toB (by simp [go_sem, List.take_of_length_le, ren, ren1, okr, okr1, ChkN, BlkN, List.range_succ, nf])) (by decide) (by simp) rfl (.nfr (by simp [nf]) (.nfr (by simp [nf]) (.okw (by simp [okr, okr1]) (.okw (by simp [okr, okr1]) (.nfr (by simp) .nil))))) (by simp [go_sem, List.take_of_length_le, ren, ren1, okr, okr1, ChkN, BlkN, List.range_succ, nf] <;> with_reducible rfl) ?_
    repeat' first
      | refine Holds.seq ?_
      | refine Holds.skip ?_
      | refine Holds.exit ?_
      | refine Holds.ret ?_
      | refine thenA_normal ?_
      | refine thenA_exit ?_
      | refine thenA_ret ?_
      | refine inB_normal ?_
      | refine inB_ret ?_
      | refine inB_here ?_
      | (refine inB_past ?_ ?_; (· exact rfl))
      | refine Holds.reg ?_
      | refine Holds.block ?_
      | refine GS.nil ?_
      | refine Gd.nil ?_
      | (refine Holds.any mixed ?_ ?_; (· kernel_rfl))
      | (refine GS.step (s' := ?_) ?_ ?_ ?_; rotate_left; (· exact rfl); (· (simp [go_sem, List.take_of_length_le] <;> with_reducible rfl)))
      | (refine GS.skip ?_ ?_ ?_; (· exact rfl); (· exact rfl))
      | (refine Gd.go (s' := ?_) ?_ ?_ ?_; rotate_left; (· exact rfl); (· (simp [go_sem, List.take_of_length_le] <;> with_reducible rfl)))
      | (refine Gd.skip ?_ ?_ ?_; (· exact rfl); (· exact rfl))
      | fail
    refine Out.mk (xs := ?_) ?_ ?_ (by first | exact .inr rfl | exact .inl rfl)
    rotate_left
    · simp [go_sem, List.take_of_length_le] <;> with_reducible rfl
    exact Fz.tuL (.cons (.pi _) (.cons (Fz.all rfl rfl (by simp) rfl (ints_cl _)) (.cons (.v _) .nil)))
end Go.Proofs.Ytpnpjkkppndhfaa.En
end
section
namespace Go.Proofs.Ytpnpjkkppndhfaa.En
open Go.RowKit
set_option linter.unusedSimpArgs false
set_option linter.unusedVariables false
theorem kids_shift {rd : Int → Nat → List Int → Option PT × List Int} (h : ∀ x e w, (rd x e w).2 = w ++ (rd x e []).2 ∧ (rd x e w).1.map PT.fin = (rd x e []).1.map PT.fin) :
    ∀ (xs : List Int) (e : Nat) (ks ks0 : List PT) (w : List Int), (kidsF rd xs e ks w).2 = w ++ (kidsF rd xs e ks0 []).2 ∧ (kidsF rd xs e ks w).1.map (·.2) = (kidsF rd xs e ks0 []).1.map (·.2) := by
  intro xs
  induction xs with
  | nil => intro e ks ks0 w; simp [kidsF]
  | cons x xs ih =>
    intro e ks ks0 w
    unfold kidsF
    by_cases h0 : x < 0
    · rw [if_pos h0, if_pos h0]
      obtain ⟨a1, a2⟩ := ih e ks ks (w ++ [-1 - x])
      obtain ⟨b1, b2⟩ := ih e ks0 ks ([] ++ [-1 - x])
      exact ⟨by rw [a1, b1]; simp, by rw [a2, b2]⟩
    · rw [if_neg h0, if_neg h0]
      obtain ⟨g1, g2⟩ := h x e w
      generalize rd x e w = q at g1 g2
      generalize rd x e [] = q0 at g1 g2
      obtain ⟨q, w1⟩ := q
      obtain ⟨q0, w0⟩ := q0
      dsimp only at g1 g2
      subst g1
      cases q with
      | none =>
        cases q0 with
        | none => exact ⟨rfl, rfl⟩
        | some p0 => simp at g2
      | some p =>
        cases q0 with
        | none => simp at g2
        | some p0 =>
          have hf : p.fin = p0.fin := by simpa using g2
          dsimp only
          obtain ⟨a1, a2⟩ := ih p.fin (ks ++ [p]) (ks ++ [p]) (w ++ w0)
          obtain ⟨b1, b2⟩ := ih p0.fin (ks0 ++ [p0]) (ks ++ [p]) w0
          rw [← hf] at b1 b2
          exact ⟨by rw [a1, ← hf, b1]; simp, by rw [a2, ← hf, b2]⟩
theorem read_shift (g : GrammarT) (tree : List Int) : ∀ (f : Nat) (non : Int) (at' : Nat) (w : List Int), (readF g tree f non at' w).2 = w ++ (readF g tree f non at' []).2 ∧ (readF g tree f non at' w).1.map PT.fin = (readF g tree f non at' []).1.map PT.fin := by
  intro f
  induction f with
  | zero => intro non at' w; simp [readF]
  | succ f ih =>
    intro non at' w
    unfold readF
    split
    · obtain ⟨h1, h2⟩ := kids_shift ih (ruleAt g tree at').2 (at' + 1) [] [] w
      generalize kidsF (readF g tree f) (ruleAt g tree at').2 (at' + 1) [] w = q at h1 h2
      generalize kidsF (readF g tree f) (ruleAt g tree at').2 (at' + 1) [] [] = q0 at h1 h2
      obtain ⟨q, w1⟩ := q
      obtain ⟨q0, w0⟩ := q0
      dsimp only at h1 h2
      subst h1
      cases q with
      | none =>
        cases q0 with
        | none => exact ⟨rfl, rfl⟩
        | some p0 => simp at h2
      | some p =>
        cases q0 with
        | none => simp at h2
        | some p0 =>
          have hf : p.2 = p0.2 := by simpa using h2
          obtain ⟨k, e⟩ := p
          obtain ⟨k0, e0⟩ := p0
          dsimp only at hf
          subst hf
          exact ⟨rfl, rfl⟩
    · simp
/-- A rule's place. -/
def inTree (g : GrammarT) (tree : List Int) (i : Nat) : Prop := ∃ k : Nat, tree[i]? = some (k : Int) ∧ k < g.2.2.length
theorem kids_cover {g : GrammarT} {tree : List Int} {rd : Int → Nat → List Int → Option PT × List Int} (h : ∀ x e w p w', rd x e w = (some p, w') → e < p.fin ∧ ∀ i, e ≤ i → i < p.fin → inTree g tree i) :
    ∀ (xs : List Int) (e : Nat) (ks : List PT) (w : List Int) (ks' : List PT) (e' : Nat) (w' : List Int), kidsF rd xs e ks w = (some (ks', e'), w') → e ≤ e' ∧ ∀ i, e ≤ i → i < e' → inTree g tree i := by
  intro xs
  induction xs with
  | nil =>
    intro e ks w ks' e' w' h
    simp only [kidsF, Prod.mk.injEq, Option.some.injEq] at h
    obtain ⟨⟨rfl, rfl⟩, rfl⟩ := h
    exact ⟨Nat.le_refl _, fun i h1 h2 => absurd h2 (by omega)⟩
  | cons x xs ih =>
    intro e ks w ks' e' w' hk
    unfold kidsF at hk
    by_cases h0 : x < 0
    · rw [if_pos h0] at hk
      exact ih _ _ _ _ _ _ hk
    · rw [if_neg h0] at hk
      split at hk
      · rename_i p w1 hp
        obtain ⟨g1, g2⟩ := h x e w p w1 hp
        obtain ⟨k1, k2⟩ := ih _ _ _ _ _ _ hk
        refine ⟨by omega, fun i h1 h2 => ?_⟩
        by_cases hi : i < p.fin
        · exact g2 i h1 hi
        · exact k2 i (by omega) h2
      · cases hk
theorem read_cover (g : GrammarT) (tree : List Int) : ∀ (f : Nat) (non : Int) (at' : Nat) (w : List Int) (p : PT) (w' : List Int), readF g tree f non at' w = (some p, w') → at' < p.fin ∧ ∀ i, at' ≤ i → i < p.fin → inTree g tree i := by
  intro f
  induction f with
  | zero => intro non at' w p w' h; cases h
  | succ f ih =>
    intro non at' w p w' h
    unfold readF at h
    split at h
    · rename_i hh
      obtain ⟨k, r, hlt, hz, hk, _⟩ := head_good hh
      split at h
      · rename_i ks e w1 hkk
        cases h
        obtain ⟨a, b⟩ := kids_cover ih _ _ _ _ _ _ _ hkk
        refine ⟨by simp only [PT.fin]; omega, fun i h1 h2 => ?_⟩
        simp only [PT.fin] at h2
        by_cases hi : i = at'
        · subst hi; exact ⟨k, hz, hk⟩
        · exact b i (by omega) h2
      · cases h
    · cases h
/-- Is the list a tree of the nonterminal? -/
def isTreeV (g : GrammarT) (non : Int) (tree : List Int) : Bool := decide (endF g tree 61 non 0 = tree.length)
end Go.Proofs.Ytpnpjkkppndhfaa.En
end
section
namespace Go.Proofs.Ytpnpjkkppndhfaa.En
open Go.RowKit
set_option linter.unusedSimpArgs false
set_option linter.unusedVariables false
set_option maxHeartbeats 8000000
def wordV (toks : Int) (w : List Int) : Bool := decide (w.length ≤ 10) && w.all fun n => inR n 0 (toks - 1)
theorem l1Word (g : GrammarT) (w : List Int) (h0 : -1000000 ≤ g.2.1) (h1 : g.2.1 ≤ 1000000) (hw : w.length < 4611686018427387904) : Pure Try.prog 42 [.ag (grammarC g), .im 1 (ints w)] (.v (.bool (wordV g.2.1 w))) := by
  refine Pure.mk (rs := [.tmp 4]) (nt := 15) Try.func42 (by kernel_rfl) rfl rfl rfl (by simp) ?_
  simp only [sl, grammarC]
  have hws : wr64 (g.2.1 - 1) = g.2.1 - 1 := wr64_id (by omega) (by omega)
  have c := l1All w 0 (g.2.1 - 1) hw
  unfold wordV
  rw [show decide (w.length ≤ 10) = decide ((w.length : Int) ≤ 10) by rw [decide_eq_decide]; omega]
  generalize (w.all fun n => inR n 0 (g.2.1 - 1)) = b at c
  repeat' first
    | refine Holds.seq ?_
    | refine Holds.skip ?_
    | refine Holds.exit ?_
    | refine Holds.ret ?_
    | refine thenA_normal ?_
    | refine thenA_exit ?_
    | refine thenA_ret ?_
    | refine inB_normal ?_
    | refine inB_ret ?_
    | refine inB_here ?_
    | (refine inB_past ?_ ?_; (· exact rfl))
    | refine Holds.reg ?_
    | refine Holds.block ?_
    | refine GS.nil ?_
    | (refine GS.step (s' := ?_) ?_ ?_ ?_; rotate_left; (· exact rfl); (· (simp [go_sem, List.take_of_length_le] <;> with_reducible rfl)))
    | (refine GS.skip ?_ ?_ ?_; (· exact rfl); (· exact rfl))
    | fail
  refine GS.guard (t := 8) rfl (fun h => ?_) (fun h => ?_)
  · repeat' first
      | refine Holds.seq ?_
      | refine Holds.skip ?_
      | refine Holds.exit ?_
      | refine Holds.ret ?_
      | refine thenA_normal ?_
      | refine thenA_exit ?_
      | refine thenA_ret ?_
      | refine inB_normal ?_
      | refine inB_ret ?_
      | refine inB_here ?_
      | (refine inB_past ?_ ?_; (· exact rfl))
      | refine Holds.reg ?_
      | refine Holds.block ?_
      | refine GS.nil ?_
      | (refine GS.step (s' := ?_) ?_ ?_ ?_; rotate_left; (· exact rfl); (· (simp [go_sem, List.take_of_length_le, hws] <;> with_reducible rfl)))
      | (refine GS.skip ?_ ?_ ?_; (· exact rfl); (· exact rfl))
      | fail
    refine GS.cc (c) rfl rfl rfl rfl (by simp [go_sem, List.take_of_length_le] <;> with_reducible rfl) rfl (by simp [go_sem, List.take_of_length_le]) ?_
    repeat' first
      | refine Holds.seq ?_
      | refine Holds.skip ?_
      | refine Holds.exit ?_
      | refine Holds.ret ?_
      | refine thenA_normal ?_
      | refine thenA_exit ?_
      | refine thenA_ret ?_
      | refine inB_normal ?_
      | refine inB_ret ?_
      | refine inB_here ?_
      | (refine inB_past ?_ ?_; (· exact rfl))
      | refine Holds.reg ?_
      | refine Holds.block ?_
      | refine GS.nil ?_
      | (refine GS.step (s' := ?_) ?_ ?_ ?_; rotate_left; (· exact rfl); (· (simp [go_sem, List.take_of_length_le] <;> with_reducible rfl)))
      | (refine GS.skip ?_ ?_ ?_; (· exact rfl); (· exact rfl))
      | fail
    rw [h]
    refine Out.mk (xs := ?_) ?_ ?_ (by first | exact .inr rfl | exact .inl rfl)
    rotate_left
    · simp [go_sem, List.take_of_length_le] <;> with_reducible rfl
    exact .v _
  · repeat' first
      | refine Holds.seq ?_
      | refine Holds.skip ?_
      | refine Holds.exit ?_
      | refine Holds.ret ?_
      | refine thenA_normal ?_
      | refine thenA_exit ?_
      | refine thenA_ret ?_
      | refine inB_normal ?_
      | refine inB_ret ?_
      | refine inB_here ?_
      | (refine inB_past ?_ ?_; (· exact rfl))
      | refine Holds.reg ?_
      | refine Holds.block ?_
      | refine GS.nil ?_
      | (refine GS.step (s' := ?_) ?_ ?_ ?_; rotate_left; (· exact rfl); (· (simp [go_sem, List.take_of_length_le] <;> with_reducible rfl)))
      | (refine GS.skip ?_ ?_ ?_; (· exact rfl); (· exact rfl))
      | fail
    rw [h]
    refine Out.mk (xs := ?_) ?_ ?_ (by first | exact .inr rfl | exact .inl rfl)
    rotate_left
    · simp [go_sem, List.take_of_length_le] <;> with_reducible rfl
    exact .v _
theorem goodWord (g : GrammarT) (w : List Int) (hx : g.2.2.length < 4611686018427387904) (hs : ∀ e ∈ g.2.2, e.2.length < 4611686018427387904) (hw : w.length < 4611686018427387904) : Pure Try.prog 36 [.ag (grammarC g), .im 1 (ints w)] (.v (.bool (goodG g && wordV g.2.1 w))) := by
  refine Pure.mk (rs := [.tmp 4]) (nt := 12) Try.func36 (by kernel_rfl) rfl rfl rfl (by simp) ?_
  simp only [sl, grammarC]
  have c1 := specGoodG g hx hs
  generalize hg : goodG g = b at c1
  repeat' first
    | refine Holds.seq ?_
    | refine Holds.skip ?_
    | refine Holds.exit ?_
    | refine Holds.ret ?_
    | refine thenA_normal ?_
    | refine thenA_exit ?_
    | refine thenA_ret ?_
    | refine inB_normal ?_
    | refine inB_ret ?_
    | refine inB_here ?_
    | (refine inB_past ?_ ?_; (· exact rfl))
    | refine Holds.reg ?_
    | refine Holds.block ?_
    | refine GS.nil ?_
    | (refine GS.step (s' := ?_) ?_ ?_ ?_; rotate_left; (· exact rfl); (· (simp [go_sem, List.take_of_length_le] <;> with_reducible rfl)))
    | (refine GS.skip ?_ ?_ ?_; (· exact rfl); (· exact rfl))
    | fail
  refine GS.cc (c1) rfl rfl rfl rfl (by simp [go_sem, List.take_of_length_le, grammarC] <;> with_reducible rfl) rfl (by simp [go_sem, List.take_of_length_le, grammarC]) ?_
  repeat' first
    | refine Holds.seq ?_
    | refine Holds.skip ?_
    | refine Holds.exit ?_
    | refine Holds.ret ?_
    | refine thenA_normal ?_
    | refine thenA_exit ?_
    | refine thenA_ret ?_
    | refine inB_normal ?_
    | refine inB_ret ?_
    | refine inB_here ?_
    | (refine inB_past ?_ ?_; (· exact rfl))
    | refine Holds.reg ?_
    | refine Holds.block ?_
    | refine GS.nil ?_
    | (refine GS.step (s' := ?_) ?_ ?_ ?_; rotate_left; (· exact rfl); (· (simp [go_sem, List.take_of_length_le] <;> with_reducible rfl)))
    | (refine GS.skip ?_ ?_ ?_; (· exact rfl); (· exact rfl))
    | fail
  refine GS.guard (t := 7) rfl (fun h => ?_) (fun h => ?_)
  · subst h
    have hok := goodG_ok hg
    repeat' first
      | refine Holds.seq ?_
      | refine Holds.skip ?_
      | refine Holds.exit ?_
      | refine Holds.ret ?_
      | refine thenA_normal ?_
      | refine thenA_exit ?_
      | refine thenA_ret ?_
      | refine inB_normal ?_
      | refine inB_ret ?_
      | refine inB_here ?_
      | (refine inB_past ?_ ?_; (· exact rfl))
      | refine Holds.reg ?_
      | refine Holds.block ?_
      | refine GS.nil ?_
      | (refine GS.step (s' := ?_) ?_ ?_ ?_; rotate_left; (· exact rfl); (· (simp [go_sem, List.take_of_length_le, grammarC] <;> with_reducible rfl)))
      | (refine GS.skip ?_ ?_ ?_; (· exact rfl); (· exact rfl))
      | fail
    refine GS.cc (l1Word g w (by have := hok.t0; omega) (by have := hok.t1; omega) hw) rfl rfl rfl rfl (by simp [go_sem, List.take_of_length_le, grammarC] <;> with_reducible rfl) rfl (by simp [go_sem, List.take_of_length_le, grammarC]) ?_
    repeat' first
      | refine Holds.seq ?_
      | refine Holds.skip ?_
      | refine Holds.exit ?_
      | refine Holds.ret ?_
      | refine thenA_normal ?_
      | refine thenA_exit ?_
      | refine thenA_ret ?_
      | refine inB_normal ?_
      | refine inB_ret ?_
      | refine inB_here ?_
      | (refine inB_past ?_ ?_; (· exact rfl))
      | refine Holds.reg ?_
      | refine Holds.block ?_
      | refine GS.nil ?_
      | (refine GS.step (s' := ?_) ?_ ?_ ?_; rotate_left; (· exact rfl); (· (simp [go_sem, List.take_of_length_le] <;> with_reducible rfl)))
      | (refine GS.skip ?_ ?_ ?_; (· exact rfl); (· exact rfl))
      | fail
    refine Out.mk (xs := ?_) ?_ ?_ (by first | exact .inr rfl | exact .inl rfl)
    rotate_left
    · simp [go_sem, List.take_of_length_le] <;> with_reducible rfl
    exact .v _
  · subst h
    repeat' first
      | refine Holds.seq ?_
      | refine Holds.skip ?_
      | refine Holds.exit ?_
      | refine Holds.ret ?_
      | refine thenA_normal ?_
      | refine thenA_exit ?_
      | refine thenA_ret ?_
      | refine inB_normal ?_
      | refine inB_ret ?_
      | refine inB_here ?_
      | (refine inB_past ?_ ?_; (· exact rfl))
      | refine Holds.reg ?_
      | refine Holds.block ?_
      | refine GS.nil ?_
      | (refine GS.step (s' := ?_) ?_ ?_ ?_; rotate_left; (· exact rfl); (· (simp [go_sem, List.take_of_length_le] <;> with_reducible rfl)))
      | (refine GS.skip ?_ ?_ ?_; (· exact rfl); (· exact rfl))
      | fail
    refine Out.mk (xs := ?_) ?_ ?_ (by first | exact .inr rfl | exact .inl rfl)
    rotate_left
    · simp [go_sem, List.take_of_length_le] <;> with_reducible rfl
    exact .v _
end Go.Proofs.Ytpnpjkkppndhfaa.En
end
section
namespace Go.Proofs.Ytpnpjkkppndhfaa.En
open Go.RowKit
set_option linter.unusedSimpArgs false
set_option linter.unusedVariables false
set_option maxHeartbeats 8000000
theorem gB_at2 {B : List Int} {k : Nat} {b : Int} (h : B[k]? = some b) : gB B k = b := by
  unfold gB
  rw [Int.toNat_natCast, List.getD_eq_getElem?_getD, h]; rfl
theorem endF_nil (g : GrammarT) (non : Int) : ∀ f, endF g [] f non 0 = -1
  | 0 => rfl
  | f + 1 => by
    unfold endF
    rw [show headOk g [] non 0 = false by unfold headOk; simp]
    rfl
theorem l11Is (g : GrammarT) (hg : OkG g) (tree : List Int) (ht : tree.length ≤ 60) (non : Int) : Pure Try.prog 25 [.ag (grammarC g), .v (.int .i64 non), .im 1 (ints tree)] (.v (.bool (isTreeV g non tree))) := by
  refine Pure.mk (rs := [.tmp 6]) (nt := 19) Try.func25 (by kernel_rfl) rfl rfl rfl (by simp) ?_
  simp only [sl, grammarC]
  have he := l11End g hg tree ht 61 non 0 (by omega) (by omega)
  unfold isTreeV
  by_cases h0 : 0 < tree.length
  · generalize endF g tree 61 non 0 = q at he
    rw [show decide (q = (tree.length : Int)) = (q == (tree.length : Int)) by rw [Bool.eq_iff_iff]; simp]
    repeat' first
      | refine Holds.seq ?_
      | refine Holds.skip ?_
      | refine Holds.exit ?_
      | refine Holds.ret ?_
      | refine thenA_normal ?_
      | refine thenA_exit ?_
      | refine thenA_ret ?_
      | refine inB_normal ?_
      | refine inB_ret ?_
      | refine inB_here ?_
      | (refine inB_past ?_ ?_; (· exact rfl))
      | refine Holds.reg ?_
      | refine Holds.block ?_
      | refine GS.nil ?_
      | (refine GS.step (s' := ?_) ?_ ?_ ?_; rotate_left; (· exact rfl); (· (simp [go_sem, List.take_of_length_le, h0] <;> with_reducible rfl)))
      | (refine GS.skip ?_ ?_ ?_; (· exact rfl); (· exact rfl))
      | fail
    refine GS.cc (he) rfl rfl rfl rfl (by simp [go_sem, List.take_of_length_le, grammarC] <;> with_reducible rfl) rfl (by simp [go_sem, List.take_of_length_le, grammarC]) ?_
    repeat' first
      | refine Holds.seq ?_
      | refine Holds.skip ?_
      | refine Holds.exit ?_
      | refine Holds.ret ?_
      | refine thenA_normal ?_
      | refine thenA_exit ?_
      | refine thenA_ret ?_
      | refine inB_normal ?_
      | refine inB_ret ?_
      | refine inB_here ?_
      | (refine inB_past ?_ ?_; (· exact rfl))
      | refine Holds.reg ?_
      | refine Holds.block ?_
      | refine GS.nil ?_
      | (refine GS.step (s' := ?_) ?_ ?_ ?_; rotate_left; (· exact rfl); (· (simp [go_sem, List.take_of_length_le] <;> with_reducible rfl)))
      | (refine GS.skip ?_ ?_ ?_; (· exact rfl); (· exact rfl))
      | fail
    refine Out.mk (xs := ?_) ?_ ?_ (by first | exact .inr rfl | exact .inl rfl)
    rotate_left
    · simp [go_sem, List.take_of_length_le] <;> with_reducible rfl
    exact .v _
  · have hn : tree = [] := List.eq_nil_of_length_eq_zero (by omega)
    subst hn
    rw [endF_nil, decide_eq_false (by simp)]
    repeat' first
      | refine Holds.seq ?_
      | refine Holds.skip ?_
      | refine Holds.exit ?_
      | refine Holds.ret ?_
      | refine thenA_normal ?_
      | refine thenA_exit ?_
      | refine thenA_ret ?_
      | refine inB_normal ?_
      | refine inB_ret ?_
      | refine inB_here ?_
      | (refine inB_past ?_ ?_; (· exact rfl))
      | refine Holds.reg ?_
      | refine Holds.block ?_
      | refine GS.nil ?_
      | (refine GS.step (s' := ?_) ?_ ?_ ?_; rotate_left; (· exact rfl); (· (simp [go_sem, List.take_of_length_le] <;> with_reducible rfl)))
      | (refine GS.skip ?_ ?_ ?_; (· exact rfl); (· exact rfl))
      | fail
    refine Out.mk (xs := ?_) ?_ ?_ (by first | exact .inr rfl | exact .inl rfl)
    rotate_left
    · simp [go_sem, List.take_of_length_le] <;> with_reducible rfl
    exact .v _
def sumT (cs tree : List Int) : Int := tree.foldl (fun n r => n + gB cs r) 0
theorem isTree_facts {g : GrammarT} {tree : List Int} (h : isTreeV g 0 tree = true) : (∃ p w, readF g tree 61 0 0 [] = (some p, w) ∧ p.fin = tree.length) ∧ ∀ i, i < tree.length → inTree g tree i := by
  unfold isTreeV at h
  have h := of_decide_eq_true h
  have e := end_read g tree 61 0 0 []
  rw [h] at e
  have hc := read_cover g tree 61 0 0 []
  generalize readF g tree 61 0 0 [] = q at e hc
  obtain ⟨q, w⟩ := q
  cases q with
  | none => dsimp only at e; omega
  | some p =>
    dsimp only at e
    have hf : p.fin = tree.length := by omega
    exact ⟨⟨p, w, rfl, hf⟩, fun i hi => (hc p w rfl).2 i (by omega) (by omega)⟩
def costV (g : GrammarT) (cs tree : List Int) : Int × Bool := if goodC g cs && decide (tree.length ≤ 60) && isTreeV g 0 tree then (sumT cs tree, true) else (0, false)
theorem wholeBad (g : GrammarT) (tree : List Int) (hx : g.2.2.length < 4611686018427387904) (hs : ∀ e ∈ g.2.2, e.2.length < 4611686018427387904) (hb : (goodG g && decide (tree.length ≤ 60)) = false) : Pure Try.prog 28 [.ag (grammarC g), .im 1 (ints tree)] (.tu [.v (.pointer none), .v (.slice none 0 0), .v (.bool false)]) := by
  refine Pure.mk (rs := [.tmp 4, .tmp 5, .tmp 6]) (nt := 37) Try.func28 (by kernel_rfl) rfl rfl rfl (by simp) ?_
  simp only [sl, grammarC]
  have c1 := implGoodG g hx hs
  generalize goodG g = b at c1 hb
  repeat' first
    | refine Holds.seq ?_
    | refine Holds.skip ?_
    | refine Holds.exit ?_
    | refine Holds.ret ?_
    | refine thenA_normal ?_
    | refine thenA_exit ?_
    | refine thenA_ret ?_
    | refine inB_normal ?_
    | refine inB_ret ?_
    | refine inB_here ?_
    | (refine inB_past ?_ ?_; (· exact rfl))
    | refine Holds.reg ?_
    | refine Holds.block ?_
    | refine GS.nil ?_
    | refine Gd.nil ?_
    | (refine Holds.any mixed ?_ ?_; (· kernel_rfl))
    | (refine GS.step (s' := ?_) ?_ ?_ ?_; rotate_left; (· exact rfl); (· (simp [go_sem, List.take_of_length_le] <;> with_reducible rfl)))
    | (refine GS.skip ?_ ?_ ?_; (· exact rfl); (· exact rfl))
    | (refine Gd.go (s' := ?_) ?_ ?_ ?_; rotate_left; (· exact rfl); (· (simp [go_sem, List.take_of_length_le] <;> with_reducible rfl)))
    | (refine Gd.skip ?_ ?_ ?_; (· exact rfl); (· exact rfl))
    | fail
  first | refine GS.cc (c1) rfl rfl rfl rfl (by simp [go_sem, List.take_of_length_le, grammarC] <;> with_reducible rfl) rfl (by simp [go_sem, List.take_of_length_le, grammarC]) ?_ | refine Gd.cc (c1) rfl rfl rfl rfl (by simp [go_sem, List.take_of_length_le, grammarC] <;> with_reducible rfl) rfl (by simp [go_sem, List.take_of_length_le, grammarC]) ?_
  repeat' first
    | refine Holds.seq ?_
    | refine Holds.skip ?_
    | refine Holds.exit ?_
    | refine Holds.ret ?_
    | refine thenA_normal ?_
    | refine thenA_exit ?_
    | refine thenA_ret ?_
    | refine inB_normal ?_
    | refine inB_ret ?_
    | refine inB_here ?_
    | (refine inB_past ?_ ?_; (· exact rfl))
    | refine Holds.reg ?_
    | refine Holds.block ?_
    | refine GS.nil ?_
    | refine Gd.nil ?_
    | (refine Holds.any mixed ?_ ?_; (· kernel_rfl))
    | (refine GS.step (s' := ?_) ?_ ?_ ?_; rotate_left; (· exact rfl); (· (simp [go_sem, List.take_of_length_le] <;> with_reducible rfl)))
    | (refine GS.skip ?_ ?_ ?_; (· exact rfl); (· exact rfl))
    | (refine Gd.go (s' := ?_) ?_ ?_ ?_; rotate_left; (· exact rfl); (· (simp [go_sem, List.take_of_length_le] <;> with_reducible rfl)))
    | (refine Gd.skip ?_ ?_ ?_; (· exact rfl); (· exact rfl))
    | fail
  refine GS.guard (t := 13) rfl (fun h => ?_) (fun h => ?_)
  · repeat' first
      | refine Holds.seq ?_
      | refine Holds.skip ?_
      | refine Holds.exit ?_
      | refine Holds.ret ?_
      | refine thenA_normal ?_
      | refine thenA_exit ?_
      | refine thenA_ret ?_
      | refine inB_normal ?_
      | refine inB_ret ?_
      | refine inB_here ?_
      | (refine inB_past ?_ ?_; (· exact rfl))
      | refine Holds.reg ?_
      | refine Holds.block ?_
      | refine GS.nil ?_
      | refine Gd.nil ?_
      | (refine Holds.any mixed ?_ ?_; (· kernel_rfl))
      | (refine GS.step (s' := ?_) ?_ ?_ ?_; rotate_left; (· exact rfl); (· (simp [go_sem, List.take_of_length_le] <;> with_reducible rfl)))
      | (refine GS.skip ?_ ?_ ?_; (· exact rfl); (· exact rfl))
      | (refine Gd.go (s' := ?_) ?_ ?_ ?_; rotate_left; (· exact rfl); (· (simp [go_sem, List.take_of_length_le] <;> with_reducible rfl)))
      | (refine Gd.skip ?_ ?_ ?_; (· exact rfl); (· exact rfl))
      | fail
    refine Holds.cond rfl (fun h => ?_) (fun h => ?_)
    · repeat' first
        | refine Holds.seq ?_
        | refine Holds.skip ?_
        | refine Holds.exit ?_
        | refine Holds.ret ?_
        | refine thenA_normal ?_
        | refine thenA_exit ?_
        | refine thenA_ret ?_
        | refine inB_normal ?_
        | refine inB_ret ?_
        | refine inB_here ?_
        | (refine inB_past ?_ ?_; (· exact rfl))
        | refine Holds.reg ?_
        | refine Holds.block ?_
        | refine GS.nil ?_
        | refine Gd.nil ?_
        | (refine Holds.any mixed ?_ ?_; (· kernel_rfl))
        | (refine GS.step (s' := ?_) ?_ ?_ ?_; rotate_left; (· exact rfl); (· (simp [go_sem, List.take_of_length_le] <;> with_reducible rfl)))
        | (refine GS.skip ?_ ?_ ?_; (· exact rfl); (· exact rfl))
        | (refine Gd.go (s' := ?_) ?_ ?_ ?_; rotate_left; (· exact rfl); (· (simp [go_sem, List.take_of_length_le] <;> with_reducible rfl)))
        | (refine Gd.skip ?_ ?_ ?_; (· exact rfl); (· exact rfl))
        | fail
      refine Out.mk (xs := ?_) ?_ ?_ (by first | exact .inr rfl | exact .inl rfl)
      rotate_left
      · simp [go_sem, List.take_of_length_le] <;> with_reducible rfl
      exact Fz.cl rfl
    · cases h
  have h : b = true := by simpa using h
  subst h
  have ht : ¬ tree.length ≤ 60 := by simpa using hb
  repeat' first
    | refine Holds.seq ?_
    | refine Holds.skip ?_
    | refine Holds.exit ?_
    | refine Holds.ret ?_
    | refine thenA_normal ?_
    | refine thenA_exit ?_
    | refine thenA_ret ?_
    | refine inB_normal ?_
    | refine inB_ret ?_
    | refine inB_here ?_
    | (refine inB_past ?_ ?_; (· exact rfl))
    | refine Holds.reg ?_
    | refine Holds.block ?_
    | refine GS.nil ?_
    | refine Gd.nil ?_
    | (refine Holds.any mixed ?_ ?_; (· kernel_rfl))
    | (refine GS.step (s' := ?_) ?_ ?_ ?_; rotate_left; (· exact rfl); (· (simp [go_sem, List.take_of_length_le, show (60 : Int) < tree.length by omega] <;> with_reducible rfl)))
    | (refine GS.skip ?_ ?_ ?_; (· exact rfl); (· exact rfl))
    | (refine Gd.go (s' := ?_) ?_ ?_ ?_; rotate_left; (· exact rfl); (· (simp [go_sem, List.take_of_length_le, show (60 : Int) < tree.length by omega] <;> with_reducible rfl)))
    | (refine Gd.skip ?_ ?_ ?_; (· exact rfl); (· exact rfl))
    | fail
  refine Holds.cond rfl (fun h => ?_) (fun h => ?_)
  · repeat' first
      | refine Holds.seq ?_
      | refine Holds.skip ?_
      | refine Holds.exit ?_
      | refine Holds.ret ?_
      | refine thenA_normal ?_
      | refine thenA_exit ?_
      | refine thenA_ret ?_
      | refine inB_normal ?_
      | refine inB_ret ?_
      | refine inB_here ?_
      | (refine inB_past ?_ ?_; (· exact rfl))
      | refine Holds.reg ?_
      | refine Holds.block ?_
      | refine GS.nil ?_
      | refine Gd.nil ?_
      | (refine Holds.any mixed ?_ ?_; (· kernel_rfl))
      | (refine GS.step (s' := ?_) ?_ ?_ ?_; rotate_left; (· exact rfl); (· (simp [go_sem, List.take_of_length_le] <;> with_reducible rfl)))
      | (refine GS.skip ?_ ?_ ?_; (· exact rfl); (· exact rfl))
      | (refine Gd.go (s' := ?_) ?_ ?_ ?_; rotate_left; (· exact rfl); (· (simp [go_sem, List.take_of_length_le] <;> with_reducible rfl)))
      | (refine Gd.skip ?_ ?_ ?_; (· exact rfl); (· exact rfl))
      | fail
    refine Out.mk (xs := ?_) ?_ ?_ (by first | exact .inr rfl | exact .inl rfl)
    rotate_left
    · simp [go_sem, List.take_of_length_le] <;> with_reducible rfl
    exact Fz.cl rfl
  · first | (cases h; done) | (simp at h; omega)
theorem wholeOk (g : GrammarT) (tree : List Int) (hx : g.2.2.length < 4611686018427387904) (hs : ∀ e ∈ g.2.2, e.2.length < 4611686018427387904) (hgg : goodG g = true) (ht : tree.length ≤ 60) : Pure Try.prog 28 [.ag (grammarC g), .im 1 (ints tree)] (.tu [ptr (readF g tree 61 0 0 []).1, .im 1 (ints (readF g tree 61 0 0 []).2), .v (.bool (isTreeV g 0 tree))]) := by
  refine Pure.mk (rs := [.tmp 4, .tmp 5, .tmp 6]) (nt := 37) Try.func28 (by kernel_rfl) rfl rfl rfl (by simp) ?_
  simp only [sl, grammarC]
  have c1 := implGoodG g hx hs
  rw [hgg] at c1
  have hok := goodG_ok hgg
  have he := end_read g tree 61 0 0 []
  have hf := gTree g hok tree ht 0
  unfold isTreeV
  generalize readF g tree 61 0 0 [] = R at hf he
  obtain ⟨q, w⟩ := R
  rw [he]
  repeat' first
    | refine Holds.seq ?_
    | refine Holds.skip ?_
    | refine Holds.exit ?_
    | refine Holds.ret ?_
    | refine thenA_normal ?_
    | refine thenA_exit ?_
    | refine thenA_ret ?_
    | refine inB_normal ?_
    | refine inB_ret ?_
    | refine inB_here ?_
    | (refine inB_past ?_ ?_; (· exact rfl))
    | refine Holds.reg ?_
    | refine Holds.block ?_
    | refine GS.nil ?_
    | refine Gd.nil ?_
    | (refine Holds.any mixed ?_ ?_; (· kernel_rfl))
    | (refine GS.step (s' := ?_) ?_ ?_ ?_; rotate_left; (· exact rfl); (· (simp [go_sem, List.take_of_length_le] <;> with_reducible rfl)))
    | (refine GS.skip ?_ ?_ ?_; (· exact rfl); (· exact rfl))
    | (refine Gd.go (s' := ?_) ?_ ?_ ?_; rotate_left; (· exact rfl); (· (simp [go_sem, List.take_of_length_le] <;> with_reducible rfl)))
    | (refine Gd.skip ?_ ?_ ?_; (· exact rfl); (· exact rfl))
    | fail
  first | refine GS.cc (c1) rfl rfl rfl rfl (by simp [go_sem, List.take_of_length_le, grammarC] <;> with_reducible rfl) rfl (by simp [go_sem, List.take_of_length_le, grammarC]) ?_ | refine Gd.cc (c1) rfl rfl rfl rfl (by simp [go_sem, List.take_of_length_le, grammarC] <;> with_reducible rfl) rfl (by simp [go_sem, List.take_of_length_le, grammarC]) ?_
  repeat' first
    | refine Holds.seq ?_
    | refine Holds.skip ?_
    | refine Holds.exit ?_
    | refine Holds.ret ?_
    | refine thenA_normal ?_
    | refine thenA_exit ?_
    | refine thenA_ret ?_
    | refine inB_normal ?_
    | refine inB_ret ?_
    | refine inB_here ?_
    | (refine inB_past ?_ ?_; (· exact rfl))
    | refine Holds.reg ?_
    | refine Holds.block ?_
    | refine GS.nil ?_
    | refine Gd.nil ?_
    | (refine Holds.any mixed ?_ ?_; (· kernel_rfl))
    | (refine GS.step (s' := ?_) ?_ ?_ ?_; rotate_left; (· exact rfl); (· (simp [go_sem, List.take_of_length_le] <;> with_reducible rfl)))
    | (refine GS.skip ?_ ?_ ?_; (· exact rfl); (· exact rfl))
    | (refine Gd.go (s' := ?_) ?_ ?_ ?_; rotate_left; (· exact rfl); (· (simp [go_sem, List.take_of_length_le] <;> with_reducible rfl)))
    | (refine Gd.skip ?_ ?_ ?_; (· exact rfl); (· exact rfl))
    | fail
  refine Holds.cond rfl (fun h => ?_) (fun h => ?_)
  · first | (cases h; done) | (simp at h; omega)
  cases q with
  | none =>
    simp only [ptr, Option.isSome_none] at hf ⊢
    rw [decide_eq_false (by omega)]
    repeat' first
      | refine Holds.seq ?_
      | refine Holds.skip ?_
      | refine Holds.exit ?_
      | refine Holds.ret ?_
      | refine thenA_normal ?_
      | refine thenA_exit ?_
      | refine thenA_ret ?_
      | refine inB_normal ?_
      | refine inB_ret ?_
      | refine inB_here ?_
      | (refine inB_past ?_ ?_; (· exact rfl))
      | refine Holds.reg ?_
      | refine Holds.block ?_
      | refine GS.nil ?_
      | refine Gd.nil ?_
      | (refine Holds.any mixed ?_ ?_; (· kernel_rfl))
      | (refine GS.step (s' := ?_) ?_ ?_ ?_; rotate_left; (· exact rfl); (· (simp [go_sem, List.take_of_length_le, grammarC] <;> with_reducible rfl)))
      | (refine GS.skip ?_ ?_ ?_; (· exact rfl); (· exact rfl))
      | (refine Gd.go (s' := ?_) ?_ ?_ ?_; rotate_left; (· exact rfl); (· (simp [go_sem, List.take_of_length_le, grammarC] <;> with_reducible rfl)))
      | (refine Gd.skip ?_ ?_ ?_; (· exact rfl); (· exact rfl))
      | fail
    first | refine GS.cc (hf) rfl rfl rfl rfl (by simp [go_sem, List.take_of_length_le, grammarC] <;> with_reducible rfl) rfl (by simp [go_sem, List.take_of_length_le, grammarC]) ?_ | refine Gd.cc (hf) rfl rfl rfl rfl (by simp [go_sem, List.take_of_length_le, grammarC] <;> with_reducible rfl) rfl (by simp [go_sem, List.take_of_length_le, grammarC]) ?_
    repeat' first
      | refine Holds.seq ?_
      | refine Holds.skip ?_
      | refine Holds.exit ?_
      | refine Holds.ret ?_
      | refine thenA_normal ?_
      | refine thenA_exit ?_
      | refine thenA_ret ?_
      | refine inB_normal ?_
      | refine inB_ret ?_
      | refine inB_here ?_
      | (refine inB_past ?_ ?_; (· exact rfl))
      | refine Holds.reg ?_
      | refine Holds.block ?_
      | refine GS.nil ?_
      | refine Gd.nil ?_
      | (refine Holds.any mixed ?_ ?_; (· kernel_rfl))
      | (refine GS.step (s' := ?_) ?_ ?_ ?_; rotate_left; (· exact rfl); (· (simp [go_sem, List.take_of_length_le] <;> with_reducible rfl)))
      | (refine GS.skip ?_ ?_ ?_; (· exact rfl); (· exact rfl))
      | (refine Gd.go (s' := ?_) ?_ ?_ ?_; rotate_left; (· exact rfl); (· (simp [go_sem, List.take_of_length_le] <;> with_reducible rfl)))
      | (refine Gd.skip ?_ ?_ ?_; (· exact rfl); (· exact rfl))
      | fail
    refine Out.mk (xs := ?_) ?_ ?_ (by first | exact .inr rfl | exact .inl rfl)
    rotate_left
    · simp [go_sem, List.take_of_length_le] <;> with_reducible rfl
    exact Fz.cl rfl
  | some p =>
    have hfin := partC_fin p
    simp only [ptr, Option.isSome_some] at hf ⊢
    rw [show decide ((p.fin : Int) = (tree.length : Int)) = ((p.fin : Int) == (tree.length : Int)) by rw [Bool.eq_iff_iff]; simp]
    repeat' first
      | refine Holds.seq ?_
      | refine Holds.skip ?_
      | refine Holds.exit ?_
      | refine Holds.ret ?_
      | refine thenA_normal ?_
      | refine thenA_exit ?_
      | refine thenA_ret ?_
      | refine inB_normal ?_
      | refine inB_ret ?_
      | refine inB_here ?_
      | (refine inB_past ?_ ?_; (· exact rfl))
      | refine Holds.reg ?_
      | refine Holds.block ?_
      | refine GS.nil ?_
      | refine Gd.nil ?_
      | (refine Holds.any mixed ?_ ?_; (· kernel_rfl))
      | (refine GS.step (s' := ?_) ?_ ?_ ?_; rotate_left; (· exact rfl); (· (simp [go_sem, List.take_of_length_le, grammarC] <;> with_reducible rfl)))
      | (refine GS.skip ?_ ?_ ?_; (· exact rfl); (· exact rfl))
      | (refine Gd.go (s' := ?_) ?_ ?_ ?_; rotate_left; (· exact rfl); (· (simp [go_sem, List.take_of_length_le, grammarC] <;> with_reducible rfl)))
      | (refine Gd.skip ?_ ?_ ?_; (· exact rfl); (· exact rfl))
      | fail
    first | refine GS.cc (hf) rfl rfl rfl rfl (by simp [go_sem, List.take_of_length_le, grammarC] <;> with_reducible rfl) rfl (by simp [go_sem, List.take_of_length_le, grammarC]) ?_ | refine Gd.cc (hf) rfl rfl rfl rfl (by simp [go_sem, List.take_of_length_le, grammarC] <;> with_reducible rfl) rfl (by simp [go_sem, List.take_of_length_le, grammarC]) ?_
    repeat' first
      | refine Holds.seq ?_
      | refine Holds.skip ?_
      | refine Holds.exit ?_
      | refine Holds.ret ?_
      | refine thenA_normal ?_
      | refine thenA_exit ?_
      | refine thenA_ret ?_
      | refine inB_normal ?_
      | refine inB_ret ?_
      | refine inB_here ?_
      | (refine inB_past ?_ ?_; (· exact rfl))
      | refine Holds.reg ?_
      | refine Holds.block ?_
      | refine GS.nil ?_
      | refine Gd.nil ?_
      | (refine Holds.any mixed ?_ ?_; (· kernel_rfl))
      | (refine GS.step (s' := ?_) ?_ ?_ ?_; rotate_left; (· exact rfl); (· (simp [go_sem, List.take_of_length_le, hfin] <;> with_reducible rfl)))
      | (refine GS.skip ?_ ?_ ?_; (· exact rfl); (· exact rfl))
      | (refine Gd.go (s' := ?_) ?_ ?_ ?_; rotate_left; (· exact rfl); (· (simp [go_sem, List.take_of_length_le, hfin] <;> with_reducible rfl)))
      | (refine Gd.skip ?_ ?_ ?_; (· exact rfl); (· exact rfl))
      | fail
    refine Out.mk (xs := ?_) ?_ ?_ (by first | exact .inr rfl | exact .inl rfl)
    rotate_left
    · simp [go_sem, List.take_of_length_le] <;> with_reducible rfl
    exact Fz.cl rfl
end Go.Proofs.Ytpnpjkkppndhfaa.En
end
section
namespace Go.Proofs.Ytpnpjkkppndhfaa.En
open Go.RowKit
set_option linter.unusedSimpArgs false
set_option linter.unusedVariables false
set_option maxHeartbeats 8000000
theorem ints_c1 (xs : List Int) : ((ints xs).all fun r => r.all c1) = true := by
  rw [List.all_eq_true]
  intro row hr
  simp only [ints, List.mem_map] at hr
  obtain ⟨n, _, rfl⟩ := hr
  rfl
theorem l11Yield (g : GrammarT) (hg : OkG g) (tree : List Int) (ht : tree.length ≤ 60) : ∀ (f : Nat) (non : Int) (at' : Nat) (p : PT) (w : List Int), at' ≤ 100 → tree.length < f + at' → readF g tree f non at' [] = (some p, w) →
    Pure Try.prog 31 [.ag (grammarC g), .im 1 (ints tree), .v (.int .i64 at')] (.tu [.im 1 (ints w), .v (.int .i64 p.fin)]) := by
  intro f
  induction f with
  | zero => intro non at' p w _ _ h; cases h
  | succ f ih =>
    intro non at' p w ha hf hread
    unfold readF at hread
    cases hh : headOk g tree non at' with
    | false => rw [hh] at hread; simp at hread
    | true =>
      obtain ⟨k, r, hlt, hz, hk, h2, hr, h3, hra, hgd⟩ := head_good hh
      rw [hh, if_pos rfl, hra] at hread
      have hrm := List.mem_of_getElem? hr
      have h4 := hg.r4 _ hrm
      have hs0 := hg.s0 _ hrm
      have ht1 := hg.t1
      obtain ⟨l, right⟩ := r
      dsimp only at h3 h4 hs0 hread
      generalize hR : kidsF (readF g tree f) right (at' + 1) [] [] = R at hread
      obtain ⟨q, W⟩ := R
      cases q with
      | none => simp at hread
      | some q =>
        obtain ⟨K, E⟩ := q
        dsimp only at hread
        have hfin : p.fin = E := by
          have := congrArg Prod.fst hread
          simp only [Option.some.injEq] at this
          rw [← this]; rfl
        have hW : W = w := congrArg Prod.snd hread
        subst hW
        rw [hfin]
        clear hread hfin
        have hw1 : wr64 ((at' : Int) + 1) = ((at' + 1 : Nat) : Int) := wr64_id (by omega) (by omega)
        refine Pure.mk (rs := [.tmp 6, .tmp 7]) (nt := 51) Try.func31 (by kernel_rfl) rfl rfl rfl (by simp) ?_
        simp only [sl, grammarC]
        repeat' first
          | refine Holds.seq ?_
          | refine Holds.skip ?_
          | refine Holds.exit ?_
          | refine Holds.ret ?_
          | refine thenA_normal ?_
          | refine thenA_exit ?_
          | refine thenA_ret ?_
          | refine inB_normal ?_
          | refine inB_ret ?_
          | refine inB_here ?_
          | (refine inB_past ?_ ?_; (· exact rfl))
          | refine Holds.reg ?_
          | refine Holds.block ?_
          | refine GS.nil ?_
          | refine Gd.nil ?_
          | (refine Holds.any mixed ?_ ?_; (· kernel_rfl))
          | (refine GS.step (s' := ?_) ?_ ?_ ?_; rotate_left; (· exact rfl); (· (simp [go_sem, List.take_of_length_le, hz, hr, ruleC, hw1] <;> with_reducible rfl)))
          | (refine GS.skip ?_ ?_ ?_; (· exact rfl); (· exact rfl))
          | (refine Gd.go (s' := ?_) ?_ ?_ ?_; rotate_left; (· exact rfl); (· (simp [go_sem, List.take_of_length_le, hz, hr, ruleC, hw1] <;> with_reducible rfl)))
          | (refine Gd.skip ?_ ?_ ?_; (· exact rfl); (· exact rfl))
          | fail
        refine Holds.niw 8 3 1 rfl ?_
        refine Holds.loop (ι := Nat × Nat × List PT × List Int) (fun i => ⟨[(1, .im 1 (ints tree)), (3, .pb 0 3 0 0), (8, .own 1 1 0 i.2.2.2.length), (9, .v (.int .i64 i.2.1)), (24, .im 1 (ints right)), (25, .v (.int .i64 right.length)), (26, .v (.int .i64 i.1))], [(0, ⟨31, 3, [[.v (.int .i64 g.1), .v (.int .i64 g.2.1), .im 2 (rules g.2.2)]]⟩), (1, ⟨3, 1, ints i.2.2.2⟩)], 2⟩)
          (fun i => i.1 ≤ right.length ∧ kidsF (readF g tree f) (right.drop i.1) i.2.1 i.2.2.1 i.2.2.2 = (some (K, E), W) ∧ at' + 1 ≤ i.2.1 ∧ i.2.1 ≤ tree.length ∧ i.2.2.2.length ≤ i.1 + 4 * (i.2.1 - at' - 1)) (fun i => right.length - i.1) (0, at' + 1, [], []) ⟨Nat.zero_le _, hR, Nat.le_refl _, by dsimp only; omega, by simp⟩ ?_ ?_
        · exact Cov.ofn (nm [0, 1]) rfl (by simp [go_sem, List.take_of_length_le, ren, ren1, okr, okr1, ChkT, ChkN, BlkN, nf]) (by simp [go_sem, List.take_of_length_le, ren, ren1, okr, okr1, ChkT, ChkN, BlkN, nf])
        rintro ⟨j, e, ks, w'⟩ ⟨hj, hfold, he0, he1, hwl⟩
        dsimp only at hj hfold he0 he1 hwl ⊢
        have step : wr64 ((j : Int) + 1) = ((j + 1 : Nat) : Int) := wr64_id (by omega) (by omega)
        repeat' first
          | refine Holds.seq ?_
          | refine Holds.skip ?_
          | refine Holds.exit ?_
          | refine Holds.ret ?_
          | refine thenA_normal ?_
          | refine thenA_exit ?_
          | refine thenA_ret ?_
          | refine inB_normal ?_
          | refine inB_ret ?_
          | refine inB_here ?_
          | (refine inB_past ?_ ?_; (· exact rfl))
          | refine Holds.reg ?_
          | refine Holds.block ?_
          | refine GS.nil ?_
          | refine Gd.nil ?_
          | (refine Holds.any mixed ?_ ?_; (· kernel_rfl))
          | (refine GS.step (s' := ?_) ?_ ?_ ?_; rotate_left; (· exact rfl); (· (simp [go_sem, List.take_of_length_le] <;> with_reducible rfl)))
          | (refine GS.skip ?_ ?_ ?_; (· exact rfl); (· exact rfl))
          | (refine Gd.go (s' := ?_) ?_ ?_ ?_; rotate_left; (· exact rfl); (· (simp [go_sem, List.take_of_length_le] <;> with_reducible rfl)))
          | (refine Gd.skip ?_ ?_ ?_; (· exact rfl); (· exact rfl))
          | fail
        refine Holds.cond rfl (fun hl => ?_) (fun hl => ?_)
        · have hjt : j < right.length := by simpa using hl
          have hxj : right[j]? = some right[j] := List.getElem?_eq_getElem hjt
          have hxs := hs0 _ (List.getElem_mem hjt)
          rw [List.drop_eq_getElem_cons hjt] at hfold
          unfold kidsF at hfold
          generalize right[j] = x at hxj hfold hxs
          repeat' first
            | refine Holds.seq ?_
            | refine Holds.skip ?_
            | refine Holds.exit ?_
            | refine Holds.ret ?_
            | refine thenA_normal ?_
            | refine thenA_exit ?_
            | refine thenA_ret ?_
            | refine inB_normal ?_
            | refine inB_ret ?_
            | refine inB_here ?_
            | (refine inB_past ?_ ?_; (· exact rfl))
            | refine Holds.reg ?_
            | refine Holds.block ?_
            | refine GS.nil ?_
            | refine Gd.nil ?_
            | (refine Holds.any mixed ?_ ?_; (· kernel_rfl))
            | (refine GS.step (s' := ?_) ?_ ?_ ?_; rotate_left; (· exact rfl); (· (simp [go_sem, List.take_of_length_le, hxj] <;> with_reducible rfl)))
            | (refine GS.skip ?_ ?_ ?_; (· exact rfl); (· exact rfl))
            | (refine Gd.go (s' := ?_) ?_ ?_ ?_; rotate_left; (· exact rfl); (· (simp [go_sem, List.take_of_length_le, hxj] <;> with_reducible rfl)))
            | (refine Gd.skip ?_ ?_ ?_; (· exact rfl); (· exact rfl))
            | fail
          refine Holds.cond rfl (fun hx => ?_) (fun hx => ?_)
          · have hx : x < 0 := by simpa using hx
            rw [if_pos hx] at hfold
            have hwx : wr64 (-1 - x) = -1 - x := wr64_id (by omega) (by omega)
            repeat' first
              | refine Holds.seq ?_
              | refine Holds.skip ?_
              | refine Holds.exit ?_
              | refine Holds.ret ?_
              | refine thenA_normal ?_
              | refine thenA_exit ?_
              | refine thenA_ret ?_
              | refine inB_normal ?_
              | refine inB_ret ?_
              | refine inB_here ?_
              | (refine inB_past ?_ ?_; (· exact rfl))
              | refine Holds.reg ?_
              | refine Holds.block ?_
              | refine GS.nil ?_
              | refine Gd.nil ?_
              | (refine Holds.any mixed ?_ ?_; (· kernel_rfl))
              | (refine GS.step (s' := ?_) ?_ ?_ ?_; rotate_left; (· exact rfl); (· (simp [go_sem, List.take_of_length_le, hwx, show (w'.length + 1) * 8 ≤ 140737488355328 by omega] <;> with_reducible rfl)))
              | (refine GS.skip ?_ ?_ ?_; (· exact rfl); (· exact rfl))
              | (refine Gd.go (s' := ?_) ?_ ?_ ?_; rotate_left; (· exact rfl); (· (simp [go_sem, List.take_of_length_le, hwx, show (w'.length + 1) * 8 ≤ 140737488355328 by omega] <;> with_reducible rfl)))
              | (refine Gd.skip ?_ ?_ ?_; (· exact rfl); (· exact rfl))
              | fail
            refine ⟨(j + 1, e, ks, w' ++ [-1 - x]), ⟨by dsimp only; omega, hfold, he0, he1, by simp; omega⟩, by dsimp only; omega, ?_⟩
            rw [step]
            exact Cov.ofn (nm [0, 4]) rfl (by simp [go_sem, List.take_of_length_le, ren, ren1, okr, okr1, ChkT, ChkN, BlkN, nf, ints_snoc, hwx]) (by simp [go_sem, List.take_of_length_le, ren, ren1, okr, okr1, ChkT, ChkN, BlkN, nf, ints_snoc, hwx])
          have hx : ¬ x < 0 := by simpa using hx
          rw [if_neg hx] at hfold
          obtain ⟨s1, s2⟩ := read_shift g tree f x e w'
          have hp := readF_props hg tree f x e []
          have hi := ih x e
          generalize readF g tree f x e w' = q at hfold s1 s2
          generalize readF g tree f x e [] = q0 at s1 s2 hp hi
          obtain ⟨q, w1⟩ := q
          obtain ⟨q0, y⟩ := q0
          dsimp only at s1 s2
          subst s1
          cases q with
          | none => simp at hfold
          | some p1 =>
            cases q0 with
            | none => simp at s2
            | some p0 =>
              have hfe : p1.fin = p0.fin := by simpa using s2
              obtain ⟨b0, b1, b2⟩ := hp p0 y rfl
              have hi := hi p0 y (by omega) (by omega) rfl
              dsimp only at hfold
              rw [hfe] at hfold
              simp only [List.length_nil] at b2
              repeat' first
                | refine Holds.seq ?_
                | refine Holds.skip ?_
                | refine Holds.exit ?_
                | refine Holds.ret ?_
                | refine thenA_normal ?_
                | refine thenA_exit ?_
                | refine thenA_ret ?_
                | refine inB_normal ?_
                | refine inB_ret ?_
                | refine inB_here ?_
                | (refine inB_past ?_ ?_; (· exact rfl))
                | refine Holds.reg ?_
                | refine Holds.block ?_
                | refine GS.nil ?_
                | refine Gd.nil ?_
                | (refine Holds.any mixed ?_ ?_; (· kernel_rfl))
                | (refine GS.step (s' := ?_) ?_ ?_ ?_; rotate_left; (· exact rfl); (· (simp [go_sem, List.take_of_length_le, grammarC] <;> with_reducible rfl)))
                | (refine GS.skip ?_ ?_ ?_; (· exact rfl); (· exact rfl))
                | (refine Gd.go (s' := ?_) ?_ ?_ ?_; rotate_left; (· exact rfl); (· (simp [go_sem, List.take_of_length_le, grammarC] <;> with_reducible rfl)))
                | (refine Gd.skip ?_ ?_ ?_; (· exact rfl); (· exact rfl))
                | fail
              first | refine GS.cc (hi) rfl rfl rfl rfl (by simp [go_sem, List.take_of_length_le, grammarC] <;> with_reducible rfl) rfl (by simp [go_sem, List.take_of_length_le, grammarC]) ?_ | refine Gd.cc (hi) rfl rfl rfl rfl (by simp [go_sem, List.take_of_length_le, grammarC] <;> with_reducible rfl) rfl (by simp [go_sem, List.take_of_length_le, grammarC]) ?_
              repeat' first
                | refine Holds.seq ?_
                | refine Holds.skip ?_
                | refine Holds.exit ?_
                | refine Holds.ret ?_
                | refine thenA_normal ?_
                | refine thenA_exit ?_
                | refine thenA_ret ?_
                | refine inB_normal ?_
                | refine inB_ret ?_
                | refine inB_here ?_
                | (refine inB_past ?_ ?_; (· exact rfl))
                | refine Holds.reg ?_
                | refine Holds.block ?_
                | refine GS.nil ?_
                | refine Gd.nil ?_
                | (refine Holds.any mixed ?_ ?_; (· kernel_rfl))
                | (refine GS.step (s' := ?_) ?_ ?_ ?_; rotate_left; (· exact rfl); (· (simp [go_sem, List.take_of_length_le, ints_c1, show (w'.length + y.length) * 8 ≤ 140737488355328 by omega] <;> with_reducible rfl)))
                | (refine GS.skip ?_ ?_ ?_; (· exact rfl); (· exact rfl))
                | (refine Gd.go (s' := ?_) ?_ ?_ ?_; rotate_left; (· exact rfl); (· (simp [go_sem, List.take_of_length_le, ints_c1, show (w'.length + y.length) * 8 ≤ 140737488355328 by omega] <;> with_reducible rfl)))
                | (refine Gd.skip ?_ ?_ ?_; (· exact rfl); (· exact rfl))
                | fail
              refine ⟨(j + 1, p0.fin, ks ++ [p1], w' ++ y), ⟨by dsimp only; omega, hfold, by dsimp only; omega, by dsimp only; omega, by simp; omega⟩, by dsimp only; omega, ?_⟩
              rw [step]
              exact Cov.ofn (nm [0, 3]) rfl (by simp [go_sem, List.take_of_length_le, ren, ren1, okr, okr1, ChkT, ChkN, BlkN, nf, ints_append]) (by simp [go_sem, List.take_of_length_le, ren, ren1, okr, okr1, ChkT, ChkN, BlkN, nf, ints_append])
        · have hje : j = right.length := by
            have : ¬ j < right.length := by simpa using hl
            omega
          subst hje
          rw [List.drop_length] at hfold
          unfold kidsF at hfold
          simp only [Prod.mk.injEq, Option.some.injEq] at hfold
          obtain ⟨⟨_, rfl⟩, rfl⟩ := hfold
          repeat' first
            | refine Holds.seq ?_
            | refine Holds.skip ?_
            | refine Holds.exit ?_
            | refine Holds.ret ?_
            | refine thenA_normal ?_
            | refine thenA_exit ?_
            | refine thenA_ret ?_
            | refine inB_normal ?_
            | refine inB_ret ?_
            | refine inB_here ?_
            | (refine inB_past ?_ ?_; (· exact rfl))
            | refine Holds.reg ?_
            | refine Holds.block ?_
            | refine GS.nil ?_
            | refine Gd.nil ?_
            | (refine Holds.any mixed ?_ ?_; (· kernel_rfl))
            | (refine GS.step (s' := ?_) ?_ ?_ ?_; rotate_left; (· exact rfl); (· (simp [go_sem, List.take_of_length_le] <;> with_reducible rfl)))
            | (refine GS.skip ?_ ?_ ?_; (· exact rfl); (· exact rfl))
            | (refine Gd.go (s' := ?_) ?_ ?_ ?_; rotate_left; (· exact rfl); (· (simp [go_sem, List.take_of_length_le] <;> with_reducible rfl)))
            | (refine Gd.skip ?_ ?_ ?_; (· exact rfl); (· exact rfl))
            | fail
          refine Out.mk (xs := ?_) ?_ ?_ (by first | exact .inr rfl | exact .inl rfl)
          rotate_left
          · simp [go_sem, List.take_of_length_le] <;> with_reducible rfl
          exact Fz.tuL (.cons (Fz.all rfl rfl (by simp) rfl (ints_cl _)) (.cons (.v _) .nil))
theorem isWord1 (n t : Int) (h0 : -1000000 ≤ t) (h1 : t ≤ 1000000) : Pure Try.prog 59 [.v (.int .i64 n), .pi [.v (.int .i64 t)]] (.v (.bool (!inR n 0 (t - 1)))) := by
  refine Pure.mk (rs := [.tmp 3]) (nt := 9) Try.func59 (by kernel_rfl) rfl rfl rfl (by simp) ?_
  simp only [sl]
  have hw : wr64 (t - 1) = t - 1 := wr64_id (by omega) (by omega)
  repeat' first
    | refine Holds.seq ?_
    | refine Holds.skip ?_
    | refine Holds.exit ?_
    | refine Holds.ret ?_
    | refine thenA_normal ?_
    | refine thenA_exit ?_
    | refine thenA_ret ?_
    | refine inB_normal ?_
    | refine inB_ret ?_
    | refine inB_here ?_
    | (refine inB_past ?_ ?_; (· exact rfl))
    | refine Holds.reg ?_
    | refine Holds.block ?_
    | refine GS.nil ?_
    | (refine GS.step (s' := ?_) ?_ ?_ ?_; rotate_left; (· exact rfl); (· (simp [go_sem, List.take_of_length_le, hw] <;> with_reducible rfl)))
    | (refine GS.skip ?_ ?_ ?_; (· exact rfl); (· exact rfl))
    | fail
  refine GS.cc (implIn n 0 (t - 1)) rfl rfl rfl rfl (by simp [go_sem, List.take_of_length_le] <;> with_reducible rfl) rfl (by simp [go_sem, List.take_of_length_le]) ?_
  repeat' first
    | refine Holds.seq ?_
    | refine Holds.skip ?_
    | refine Holds.exit ?_
    | refine Holds.ret ?_
    | refine thenA_normal ?_
    | refine thenA_exit ?_
    | refine thenA_ret ?_
    | refine inB_normal ?_
    | refine inB_ret ?_
    | refine inB_here ?_
    | (refine inB_past ?_ ?_; (· exact rfl))
    | refine Holds.reg ?_
    | refine Holds.block ?_
    | refine GS.nil ?_
    | (refine GS.step (s' := ?_) ?_ ?_ ?_; rotate_left; (· exact rfl); (· (simp [go_sem, List.take_of_length_le] <;> with_reducible rfl)))
    | (refine GS.skip ?_ ?_ ?_; (· exact rfl); (· exact rfl))
    | fail
  refine Out.mk (xs := ?_) ?_ ?_ (by first | exact .inr rfl | exact .inl rfl)
  rotate_left
  · simp [go_sem, List.take_of_length_le] <;> with_reducible rfl
  exact .v _
theorem isWord (t : Int) (w : List Int) (h0 : -1000000 ≤ t) (h1 : t ≤ 1000000) (hw : w.length < 4611686018427387904) : Pure Try.prog 39 [.v (.int .i64 t), .im 1 (ints w)] (.v (.bool (wordV t w))) := by
  refine Pure.mk (rs := [.tmp 4]) (nt := 14) Try.func39 (by kernel_rfl) rfl rfl rfl (by simp) ?_
  simp only [sl]
  have hc := containsFuncInt 59 [.pi [.v (.int .i64 t)]] (fun n => !inR n 0 (t - 1)) w hw rfl (fun x _ => isWord1 x t h0 h1)
  unfold wordV
  rw [all_not_any (fun n => inR n 0 (t - 1)) w, show decide (w.length ≤ 10) = decide ((w.length : Int) ≤ 10) by rw [decide_eq_decide]; omega]
  generalize (w.any fun n => !inR n 0 (t - 1)) = b at hc
  repeat' first
    | refine Holds.seq ?_
    | refine Holds.skip ?_
    | refine Holds.exit ?_
    | refine Holds.ret ?_
    | refine thenA_normal ?_
    | refine thenA_exit ?_
    | refine thenA_ret ?_
    | refine inB_normal ?_
    | refine inB_ret ?_
    | refine inB_here ?_
    | (refine inB_past ?_ ?_; (· exact rfl))
    | refine Holds.reg ?_
    | refine Holds.block ?_
    | refine GS.nil ?_
    | (refine GS.step (s' := ?_) ?_ ?_ ?_; rotate_left; (· exact rfl); (· (simp [go_sem, List.take_of_length_le] <;> with_reducible rfl)))
    | (refine GS.skip ?_ ?_ ?_; (· exact rfl); (· exact rfl))
    | fail
  refine GS.guard (t := 8) rfl (fun h => ?_) (fun h => ?_)
  · repeat' first
      | refine Holds.seq ?_
      | refine Holds.skip ?_
      | refine Holds.exit ?_
      | refine Holds.ret ?_
      | refine thenA_normal ?_
      | refine thenA_exit ?_
      | refine thenA_ret ?_
      | refine inB_normal ?_
      | refine inB_ret ?_
      | refine inB_here ?_
      | (refine inB_past ?_ ?_; (· exact rfl))
      | refine Holds.reg ?_
      | refine Holds.block ?_
      | refine GS.nil ?_
      | (refine GS.step (s' := ?_) ?_ ?_ ?_; rotate_left; (· exact rfl); (· (simp [go_sem, List.take_of_length_le] <;> with_reducible rfl)))
      | (refine GS.skip ?_ ?_ ?_; (· exact rfl); (· exact rfl))
      | fail
    refine GS.cd (hc) rfl rfl rfl rfl (by simp [go_sem, List.take_of_length_le] <;> with_reducible rfl) rfl (by exact .cons (.im _ _) (.cons (Fz.fnL (.cons (Fz.box rfl rfl rfl rfl) .nil)) .nil)) rfl ?_
    repeat' first
      | refine Holds.seq ?_
      | refine Holds.skip ?_
      | refine Holds.exit ?_
      | refine Holds.ret ?_
      | refine thenA_normal ?_
      | refine thenA_exit ?_
      | refine thenA_ret ?_
      | refine inB_normal ?_
      | refine inB_ret ?_
      | refine inB_here ?_
      | (refine inB_past ?_ ?_; (· exact rfl))
      | refine Holds.reg ?_
      | refine Holds.block ?_
      | refine GS.nil ?_
      | (refine GS.step (s' := ?_) ?_ ?_ ?_; rotate_left; (· exact rfl); (· (simp [go_sem, List.take_of_length_le] <;> with_reducible rfl)))
      | (refine GS.skip ?_ ?_ ?_; (· exact rfl); (· exact rfl))
      | fail
    rw [h]
    refine Out.mk (xs := ?_) ?_ ?_ (by first | exact .inr rfl | exact .inl rfl)
    rotate_left
    · simp [go_sem, List.take_of_length_le] <;> with_reducible rfl
    exact .v _
  · repeat' first
      | refine Holds.seq ?_
      | refine Holds.skip ?_
      | refine Holds.exit ?_
      | refine Holds.ret ?_
      | refine thenA_normal ?_
      | refine thenA_exit ?_
      | refine thenA_ret ?_
      | refine inB_normal ?_
      | refine inB_ret ?_
      | refine inB_here ?_
      | (refine inB_past ?_ ?_; (· exact rfl))
      | refine Holds.reg ?_
      | refine Holds.block ?_
      | refine GS.nil ?_
      | (refine GS.step (s' := ?_) ?_ ?_ ?_; rotate_left; (· exact rfl); (· (simp [go_sem, List.take_of_length_le] <;> with_reducible rfl)))
      | (refine GS.skip ?_ ?_ ?_; (· exact rfl); (· exact rfl))
      | fail
    rw [h]
    refine Out.mk (xs := ?_) ?_ ?_ (by first | exact .inr rfl | exact .inl rfl)
    rotate_left
    · simp [go_sem, List.take_of_length_le] <;> with_reducible rfl
    exact .v _
def isTV (g : GrammarT) (w tree : List Int) : Bool × Bool := if goodG g && wordV g.2.1 w && decide (tree.length ≤ 60) then (isTreeV g 0 tree && decide ((readF g tree 61 0 0 []).2 = w), true) else (false, false)
end Go.Proofs.Ytpnpjkkppndhfaa.En
end
section
namespace Go.Proofs.Ytpnpjkkppndhfaa.En
open Go.RowKit
set_option linter.unusedSimpArgs false
set_option linter.unusedVariables false
section
attribute [local semireducible] G Gq Holds GS Pure Out Fn OutF

/-- Speaks of no row that nobody writes. -/
inductive Ony : AV → Prop
  | v (x : Value) : Ony (.v x)
  | own (n sz off len : Nat) : Ony (.own n sz off len)
  | pb (n sz j i : Nat) : Ony (.pb n sz j i)
  | ag (xs : List AV) (h : ∀ x ∈ xs, Ony x) : Ony (.ag xs)
  | tu (xs : List AV) (h : ∀ x ∈ xs, Ony x) : Ony (.tu xs)
  | ow (e : TypeId) (sz : Nat) (xs : List (List AV)) (h : ∀ row ∈ xs, ∀ x ∈ row, Ony x) : Ony (.ow e sz xs)
def onyR (xs : List (List AV)) : Prop := ∀ row ∈ xs, ∀ x ∈ row, Ony x
@[simp] theorem onyR_nil : onyR [] := fun _ h => by cases h
@[simp] theorem Ony_v (x : Value) : Ony (.v x) := .v x
@[simp] theorem Ony_own (n sz off len : Nat) : Ony (.own n sz off len) := .own n sz off len
@[simp] theorem Ony_ag (xs : List AV) : Ony (.ag xs) ↔ ∀ x ∈ xs, Ony x := ⟨fun h => by cases h; assumption, .ag xs⟩
@[simp] theorem Ony_tu (xs : List AV) : Ony (.tu xs) ↔ ∀ x ∈ xs, Ony x := ⟨fun h => by cases h; assumption, .tu xs⟩
@[simp] theorem Ony_ow (e : TypeId) (sz : Nat) (xs : List (List AV)) : Ony (.ow e sz xs) ↔ onyR xs := ⟨fun h => by cases h; assumption, .ow e sz xs⟩
theorem Ony.agL {xs : List AV} (h : ∀ x ∈ xs, Ony x) : Ony (.ag xs) := .ag xs h

theorem Rep.ony {w : World} {S S2 : Nat → Prop} {Ow : Owners} {L : Names} {p : Path} {x : AV} {u : Value} (h : Rep w S Ow L p x u) (ho : Ony x) : Rep w S2 Ow L p x u := by
  induction h with
  | v x h => exact .v x h
  | ag xs us h _ ih =>
    cases ho with
    | ag _ ho => exact .ag xs us h fun i x u hx hu => ih i x u hx hu (ho x (List.mem_of_getElem? hx))
  | tu xs us h _ ih =>
    cases ho with
    | tu _ ho => exact .tu xs us h fun i x u hx hu => ih i x u hx hu (ho x (List.mem_of_getElem? hx))
  | im => cases ho
  | ow e sz xs b o cap cs us ho' hh hs hc hz hcell _ ih =>
    cases ho with
    | ow _ _ _ ho => exact .ow e sz xs b o cap cs us ho' hh hs hc hz hcell fun j row i x hj hi => ih j row i x hj hi (ho row (List.mem_of_getElem? hj) x (List.mem_of_getElem? hi))
  | ow_nil e sz A => exact .ow_nil e sz A
  | own n sz off len b o cap h hl => exact .own n sz off len b o cap h hl
  | own_end n sz off b o cap a h hl => exact .own_end n sz off b o cap a h hl
  | own_nil n sz A h => exact .own_nil n sz A h
  | own_gone n sz off len u h h1 => exact .own_gone n sz off len u h h1
  | pb n sz j i b o cap h => exact .pb n sz j i b o cap h
  | pb_gone n sz j i u h h1 => exact .pb_gone n sz j i u h h1
  | pi => cases ho
  | fn => cases ho
theorem BlkRep.ony {w : World} {S S2 : Nat → Prop} {Ow : Owners} {L : Names} {n : Nat} {k : Blk} {loc : Loc} (h : BlkRep w S Ow L n k loc) (ho : onyR k.xs) : BlkRep w S2 Ow L n k loc := by
  cases loc with
  | none => exact h
  | some p =>
    obtain ⟨h1, cs, us, h2, h3, h4, h5, h6, h7⟩ := h
    exact ⟨h1, cs, us, h2, h3, h4, h5, h6, fun j row i x hj hi => (h7 j row i x hj hi).ony (ho row (List.mem_of_getElem? hj) x (List.mem_of_getElem? hi))⟩

variable {P : Program} {nt : NT} {s s' : AS} {ops : Array Oper} {K : AS → Prop} {i : Nat} {o : Oper} {l : List Oper}

/-- Behind a call that yields new rows: they are put in. -/
def aft0 (s : AS) (m : Nat) (bl' : List (Nat × Blk)) : AS := ⟨s.tm, bl' ++ s.bl, s.nx + m⟩

theorem fn0_enter {w : World} {S1 : Nat → Prop} (hlt : ∀ k, S1 k → k < w.heap.size) : RelX ⟨w, fun _ => False, S1, ⟨0, 0⟩, fixOf 0 noName⟩ ⟨[], [], 0⟩ a0 w S1 noOwner noName :=
  { fix := fun n loc hn => absurd (fixOf_eq (k := 0) (L := noName) (n := n) (loc := loc) |>.1 hn).1 (Nat.not_lt_zero n)
    keep := Keep.refl _ _, inS := fun _ h => h, upS := fun _ h => .inl h, ltS := hlt, owS := fun _ _ => rfl, ow := fun b p hb => by cases hb
    ow0 := fun b q hb => by cases hb
    blk := fun n kk hn => by cases hn
    fresh := fun n _ => rfl, named := fun n hn => by cases hn
    freshO := fun b n q hb => by cases hb
    slot := fun t x hx => by cases hx
    size := rfl, defers := rfl }

theorem fnd_wp {Q : Exit → Act → World → Prop} {K : Act → World → Prop} {C : Ctx} {a : Act} {w : World} {S : Nat → Prop} {Ow : Owners} {L : Names} {c : Operand} {aas : Array Operand} {ts : Array TypeId} {f : FuncId} {xs cap args : List AV} {m : Nat} {outs bl' : List (Nat × Blk)} {r : AV} (ho : ops[i]? = some o) (hg : gd ops s o = some true) (hop : o.op = .call ⟨.value c, aas, ts⟩) (hd : okd nt.n o.dst = true)
    (hc : ev s c = some (.fn f cap)) (he : aas.toList.mapM (ev s) = some xs) (hf : FzL s.bl (xs ++ cap) args) (hom : outs.all (fun p => decide (p.1 < m)) = true)
    (hp : Fn P f 0 args [] r m outs) (hor : Ony r) (hoo : ∀ p ∈ outs, onyR p.2.xs) (hr : okr m r = true) (hren : RenB (fun n => s.nx + n) m outs bl') (hn : C.nt = nt) (hR : RelX C s a w S Ow L) (hK : ∀ a' w' S' Ow' L', RelX C (put (aft0 s m bl') o.dst (En.ren (fun n => s.nx + n) r)) a' w' S' Ow' L' → K a' w') : wpOp P ops Q i K a w := by
  subst hn
  unfold wpOp
  simp only [ho]
  rw [gd_sound hR hg]
  simp only [if_true]
  left
  have hcr := ev_rep hR hc
  obtain ⟨us0, e, hl0, hr0⟩ := hcr.fn_inv
  rw [e] at hcr
  obtain ⟨hlen, hrep⟩ := args_rep hR he hcr hf
  unfold Oper.wp
  rw [exec_call hop e hp.1]
  refine Calls.mono (hp.2 w (fun _ => False) (lent S Ow) noOwner noName _ (fn0_enter (lent_lt hR)) hlen (fun i x u hx hu => (hrep i x u hx hu).any)) fun e' w' => ?_
  rintro ⟨v, rfl, S', Ow', L', hX, hv⟩
  have hB : Below w.heap.size w w' := hX.keep.below
  have hR1 := hR.grown hB
  have hsize : w.heap.size ≤ w'.heap.size := hB.size
  have hlow : C.W.heap.size ≤ w.heap.size := hR.keep.size
  have new : ∀ b p, Ow' b = some p → w.heap.size ≤ b ∧ b < w'.heap.size := fun b p hb => by
    obtain ⟨g1, g2⟩ := hX.ow b p hb
    rcases g1 with g | g
    · exact ⟨g, g2⟩
    · exact absurd g (fun h => h)
  have oldn : ∀ b, b < w.heap.size → Ow' b = none := fun b hb => by
    cases e : Ow' b with
    | none => rfl
    | some p => have := (new b p e).1; omega
  let ρ : Nat → Nat := fun n => s.nx + n
  have inj' : ∀ i j, i < m → j < m → ρ i = ρ j → i = j := fun i j _ _ e => by simp only [ρ] at e; omega
  let L2 : Names := fun n => if n < s.nx then L n else L' (n - s.nx)
  have L2r : ∀ n, n < m → L2 (ρ n) = L' n := fun n _ => by
    have : ¬ s.nx + n < s.nx := by omega
    simp only [L2, ρ, if_neg this]; congr 1; omega
  have L2n : ∀ n, L n = .free ∨ L2 n = L n ∨ L2 n = .gone := fun n => by
    rcases Nat.lt_or_ge n s.nx with g | g
    · exact .inr (.inl (by simp only [L2, if_pos g]))
    · exact .inl (hR.fresh n g)
  let Ow2 : Owners := fun b => match Ow' b with
    | some ((n + 1) :: q) => some ((ρ n + 1) :: q)
    | _ => Ow b
  have O1 : ∀ b n q, Ow' b = some ((n + 1) :: q) → Ow2 b = some ((ρ n + 1) :: q) := fun b n q hb => by simp only [Ow2, hb]
  have O2 : ∀ b p, Ow2 b = some p → (∃ n q, Ow' b = some ((n + 1) :: q) ∧ p = (ρ n + 1) :: q) ∨ Ow b = some p := fun b p hb => by
    simp only [Ow2] at hb
    split at hb
    · rename_i n q e; cases hb; exact .inl ⟨n, q, e, rfl⟩
    · exact .inr hb
  have O3 : ∀ b p, Ow b = some p → Ow2 b = some p := fun b p hb => by
    have := oldn b (hR.ow b p hb).2
    simp only [Ow2, this]; exact hb
  have hbl : ∀ n kk, lb (bl' ++ s.bl) n = some kk → (∃ j k0, j < m ∧ ρ j = n ∧ lb outs j = some k0 ∧ BlkC ρ m k0 kk) ∨ lb s.bl n = some kk := fun n kk hn => by
    rw [lb_append] at hn
    split at hn
    · rename_i k1 e
      cases hn
      exact .inl (hren.get hom inj' e)
    · exact .inr hn
  have hR2 : RelX C (aft0 s m bl') a w' S Ow2 L2 := by
    refine { fix := fix_of hR.fix L2n, keep := hR1.keep, inS := hR1.inS, upS := hR1.upS, ltS := hR1.ltS, owS := fun b hb => ?_, ow := fun b p hb => ?_, ow0 := fun b q hb => ?_, blk := fun n kk hn => ?_, fresh := fun n hn => ?_, named := fun n hn => ?_, freshO := fun b n q hb => ?_, slot := fun t x hx => ?_, size := hR1.size, defers := hR1.defers }
    · have := oldn b (hR.ltS b hb)
      simp only [Ow2, this]; exact hR.owS b hb
    · rcases O2 b p hb with ⟨n, q, h1, rfl⟩ | h3
      · obtain ⟨g1, g2⟩ := new b _ h1
        exact ⟨.inl (by omega), g2⟩
      · exact ⟨(hR.ow b p h3).1, by have := (hR.ow b p h3).2; omega⟩
    · rcases O2 b _ hb with ⟨n, q', h1, e⟩ | h3
      · cases e
      · exact hR.ow0 b q h3
    · rcases hbl n kk hn with ⟨j, k0, h1, rfl, h3, h4⟩ | h3
      · obtain ⟨loc, hl, hBk⟩ := hX.blk j k0 h3
        exact ⟨loc, by rw [L2r j h1]; exact hl, (hBk.ony (hoo (j, k0) (lb_mem h3))).fwd h4 L2r (fun b q hb => O1 b j q hb)⟩
      · obtain ⟨loc, hl, hBk⟩ := hR1.blk n kk h3
        have hnx : n < s.nx := by
          rcases Nat.lt_or_ge n s.nx with g | g
          · exact g
          · rw [hR.fresh n g] at hl; cases hl
        exact ⟨loc, by simp only [L2, if_pos hnx]; exact hl, hBk.names L2n (fun b q hb => O3 b _ hb)⟩
    · have hn' : s.nx + m ≤ n := hn
      simp only [L2, if_neg (show ¬ n < s.nx by omega)]
      exact hX.fresh _ (show m ≤ n - s.nx by omega)
    · have hn' : n < s.nx + m := hn
      rcases Nat.lt_or_ge n s.nx with g | g
      · simp only [L2, if_pos g]; exact hR.named n g
      · simp only [L2, if_neg (Nat.not_lt.2 g)]; exact hX.named _ (show n - s.nx < m by omega)
    · show n ≤ s.nx + m
      rcases O2 b _ hb with ⟨n', q', h1, e⟩ | h3
      · cases e
        have : n' + 1 ≤ m := hX.freshO b _ _ h1
        simp only [ρ]; omega
      · have := hR.freshO b _ _ h3; omega
    · obtain ⟨u, hu, hRp⟩ := hR1.slot t x hx
      exact ⟨u, hu, hRp.names L2n (fun b q hb => absurd hb (hR.ow0 b q))⟩
  have hv2 : Rep w' S Ow2 L2 [0] (En.ren ρ r) v := (hv.ony hor).fwd L2r (fun b q hb => absurd hb (hX.ow0 b q)) hr
  exact hK _ _ _ _ _ (hR2.put o.dst hd hv2)
/-- A call of a function that is lent rows to look at, and yields new rows. -/
theorem GS.fnd {c : Operand} {aas : Array Operand} {ts : Array TypeId} {f : FuncId} {xs cap args : List AV} {m : Nat} {outs bl' : List (Nat × Blk)} {r : AV} (hp : Fn P f 0 args [] r m outs) (hop : o.op = .call ⟨.value c, aas, ts⟩) (hg : gd ops s o = some true) (hd : okd nt.n o.dst = true)
    (hc : ev s c = some (.fn f cap)) (he : aas.toList.mapM (ev s) = some xs) (hf : FzL s.bl (xs ++ cap) args) (hom : outs.all (fun p => decide (p.1 < m)) = true)
    (hor : Ony r) (hoo : ∀ p ∈ outs, onyR p.2.xs) (hr : okr m r = true) (hren : RenB (fun n => s.nx + n) m outs bl') (h : GS P nt ops K l (i + 1) (put (aft0 s m bl') o.dst (En.ren (fun n => s.nx + n) r))) : GS P nt ops K (o :: l) i s :=
  GS.cons (fun ho r' hr' => fun C a w S Ow L Q hn hR hQ => by
    rw [wpOps_cons]
    exact fnd_wp ho hg hop hd hc he hf hom hp hor hoo hr hren hn hR fun a' w' S' Ow' L' hR' => hr' C _ _ _ _ _ Q hn hR' hQ) h
/-- What yields new rows may be taken to yield rows that nobody writes. -/
theorem Fn.pure {f : FuncId} {args : List AV} {m : Nat} {outs : List (Nat × Blk)} {r r' : AV} (hp : Fn P f 0 args [] r m outs) (hf : Fz outs r r') : Pure P f args r' := by
  refine ⟨hp.1, fun W S us hlt hl hrep => ?_⟩
  refine Calls.mono (hp.2 W (fun _ => False) S noOwner noName us (fn0_enter hlt) hl (fun i x u hx hu => (hrep i x u hx hu).any)) fun e w' => ?_
  rintro ⟨v, rfl, S', Ow', L', hX, hv⟩
  refine ⟨v, rfl, hX.keep.below, lent S' Ow', fun k hk => .inl (hX.inS k hk), fun k hk => ⟨lent_lt hX k hk, ?_⟩, hv.fz hX hf⟩
  rcases hk with hk | hk
  · rcases hX.upS k hk with g | g | g
    · exact .inl g
    · exact .inr g
    · exact absurd g (fun h => h)
  · cases e : Ow' k with
    | none => exact absurd e hk
    | some p =>
      rcases (hX.ow k p e).1 with g | g
      · exact .inr g
      · exact absurd g (fun h => h)

/-! #### an inner row is closed again -/
theorem Rep.nf {w : World} {S : Nat → Prop} {Ow Ow' : Owners} {L L' : Names} {p p' : Path} {x : AV} {u : Value} (h : Rep w S Ow L p x u) (hx : En.nf x = true) (hO : ∀ k q, Ow k = some (p ++ q) → Ow' k = some (p' ++ q)) : Rep w S Ow' L' p' x u := by
  have e : En.ren1 id x = x := by cases x <;> simp_all [En.nf, En.ren1]
  exact Rep.ren1 (nx := 0) (ρ := id) (fun n hn => absurd hn (Nat.not_lt_zero n)) hO (by cases x <;> simp_all [En.nf, okr1]) (by rw [e]; exact h)
def reclo (n j i m : Nat) : Path → Path
  | a :: r => if a = m + 1 then (n + 1) :: j :: i :: r else a :: r
  | [] => []
/-- The state in which the row m is an inner row of the row n again. -/
def clo (s : AS) (n j i : Nat) : AS := match lb s.bl n with
  | some b => match b.xs[j]? with
    | some row => match row[i]? with
      | some (.own m z 0 len) => match lb s.bl m with
        | some k => ⟨s.tm, st (rm s.bl m) n { b with xs := b.xs.set j (row.set i (.ow k.e k.sz k.xs)) }, s.nx⟩
        | none => s
      | _ => s
    | none => s
  | none => s
theorem RelX.close {C : Ctx} {a : Act} {w : World} {S : Nat → Prop} {Ow : Owners} {L : Names} (h : RelX C s a w S Ow L) {n j i m z len : Nat} {b k : Blk} {row : List AV} (hb : lb s.bl n = some b) (hrow : b.xs[j]? = some row) (hi : row[i]? = some (.own m z 0 len)) (hm : lb s.bl m = some k) (hmn : m ≠ n) (hz : k.sz = z) (hlen : len = k.xs.length) (hnf : nfr k.xs) :
    ∃ Ow' L', RelX C ⟨s.tm, st (rm s.bl m) n { b with xs := b.xs.set j (row.set i (.ow k.e k.sz k.xs)) }, s.nx⟩ a w S Ow' L' := by
  subst hz hlen
  obtain ⟨loc, hl, hB⟩ := h.blk n b hb
  obtain ⟨loc2, hl2, hB2⟩ := h.blk m k hm
  obtain ⟨b', o', cap, rfl, hob, hrl, cs, us, hh, hfit, hcell, hrep⟩ := blk_row hB hrow
  have hlt : ∀ {x : Nat} {lc : Loc}, L x = .at lc → x < s.nx := fun {x lc} e => by
    rcases Nat.lt_or_ge x s.nx with g | g
    · exact g
    · rw [h.fresh x g] at e; cases e
  have hnx := hlt hl
  let L' : Names := fun x => if x = m then .gone else L x
  let Ow' : Owners := fun c => (Ow c).map (reclo n j i m)
  have hLn : ∀ x, L x = .free ∨ L' x = L x ∨ L' x = .gone := fun x => by
    by_cases e : x = m
    · exact .inr (.inr (by simp [L', e]))
    · exact .inr (.inl (by simp [L', e]))
  have hOs : ∀ c x q, x ≠ m → Ow c = some ((x + 1) :: q) → Ow' c = some ((x + 1) :: q) := fun c x q hx hc => by simp [Ow', hc, reclo, hx]
  have hOm : ∀ c q, Ow c = some ((m + 1) :: q) → Ow' c = some ((n + 1) :: j :: i :: q) := fun c q hc => by simp [Ow', hc, reclo]
  have hOe : ∀ c p, Ow' c = some p → ∃ p0, Ow c = some p0 ∧ p = reclo n j i m p0 := fun c p hc => by
    simp only [Ow', Option.map_eq_some_iff] at hc
    obtain ⟨p0, h1, h2⟩ := hc
    exact ⟨p0, h1, h2.symm⟩
  have key : ∀ u, Rep w S Ow L [n + 1, j, i] (.own m k.sz 0 k.xs.length) u → Rep w S Ow' L' [n + 1, j, i] (.ow k.e k.sz k.xs) u := fun u hu => by
    rcases own_inv hu with ⟨b2, o2, cap2, hL, hle, rfl⟩ | ⟨b2, o2, cap2, ad, hL, hle, h0, rfl⟩ | ⟨hL, _, h0, A, rfl⟩ | hg
    · rw [hl2] at hL
      cases hL
      obtain ⟨g1, cs2, us2, g2, g3, g4, g5, g6, g7⟩ := hB2
      have := Rep.ow (w := w) (S := S) (Ow := Ow') (L := L') (p := [n + 1, j, i]) k.e k.sz k.xs b2 o2 cap2 cs2 us2 (hOm _ _ g1) g2 g3 g4 g5 g6 (fun j' row' i' x hj' hi' => (g7 j' row' i' x hj' hi').nf (hnf row' (List.mem_of_getElem? hj') x (List.mem_of_getElem? hi')) (fun c q hc => hOm c _ hc))
      simpa using this
    · have : k.xs = [] := List.eq_nil_of_length_eq_zero h0
      rw [this]
      exact .ow_nil _ _ _
    · have : k.xs = [] := List.eq_nil_of_length_eq_zero h0
      rw [this]
      exact .ow_nil _ _ _
    · rw [hl2] at hg; cases hg
  refine ⟨Ow', L', { fix := fix_of h.fix hLn, keep := h.keep, inS := h.inS, upS := h.upS, ltS := h.ltS, owS := fun c hc => by simp [Ow', h.owS c hc], ow := fun c p hc => ?_, ow0 := fun c q hc => ?_, blk := ?_, fresh := fun x hx => ?_, named := fun x hx => ?_, freshO := fun c x q hc => ?_, slot := fun t x hx => ?_, size := h.size, defers := h.defers }⟩
  · obtain ⟨p0, h1, _⟩ := hOe c p hc
    exact h.ow c p0 h1
  · obtain ⟨p0, h1, h2⟩ := hOe c _ hc
    unfold reclo at h2
    split at h2
    · split at h2
      · cases h2
      · exact h.ow0 c q (by rw [h1, h2])
    · cases h2
  · intro x kk hx
    simp only [lb_st, lb_rm] at hx
    by_cases e : n = x
    · subst e
      rw [if_pos rfl, if_neg hmn, hb] at hx
      simp only [Option.map_some, Option.some.injEq] at hx
      subst hx
      refine ⟨some (b', o', cap), by simp only [L']; rw [if_neg (fun e => hmn e.symm)]; exact hl, ?_⟩
      obtain ⟨g1, cs', us', g2, g3, g4, g5, g6, g7⟩ := hB
      have hcs : cs' = cs := by rw [g2] at hh; cases hh; rfl
      subst hcs
      refine ⟨hOs _ _ _ (fun e => hmn e.symm) g1, cs', us', g2, g3, by simpa using g4, fun j' row' hj' => ?_, fun j' row' i' x hj' hi' => ?_, fun j' row' i' x hj' hi' => ?_⟩
      · rw [List.getElem?_set] at hj'
        split at hj'
        · split at hj'
          · cases hj'; simpa using hrl
          · cases hj'
        · exact g5 j' row' hj'
      · rw [List.getElem?_set] at hj'
        split at hj'
        · rename_i ej
          subst ej
          split at hj'
          · cases hj'
            have hlt' : i' < row.length := by have := (List.getElem?_eq_some_iff.1 hi').1; simpa using this
            exact g6 j row i' row[i'] hrow (List.getElem?_eq_getElem hlt')
          · cases hj'
        · exact g6 j' row' i' x hj' hi'
      · have other : ∀ (j2 i2 : Nat) (x2 : AV) (u2 : Value), Rep w S Ow L [n + 1, j2, i2] x2 u2 → Rep w S Ow' L' [n + 1, j2, i2] x2 u2 := fun j2 i2 x2 u2 hr2 =>
          hr2.names hLn (fun c q hc => hOs c n _ (fun e => hmn e.symm) hc)
        rw [List.getElem?_set] at hj'
        split at hj'
        · rename_i ej
          subst ej
          split at hj'
          · cases hj'
            rw [List.getElem?_set] at hi'
            split at hi'
            · rename_i ei
              subst ei
              split at hi'
              · cases hi'
                exact key _ (g7 j row i _ hrow hi)
              · cases hi'
            · exact other j i' x _ (g7 j row i' x hrow hi')
          · cases hj'
        · exact other j' i' x _ (g7 j' row' i' x hj' hi')
    · rw [if_neg e] at hx
      by_cases e2 : m = x
      · rw [if_pos e2] at hx; cases hx
      · rw [if_neg e2] at hx
        obtain ⟨loc3, hl3, hB3⟩ := h.blk x kk hx
        exact ⟨loc3, by simp only [L']; rw [if_neg (fun e => e2 e.symm)]; exact hl3, hB3.names hLn (fun c q hc => hOs c x _ (fun e => e2 e.symm) hc)⟩
  · have : x ≠ m := fun e => by have := hlt hl2; rw [← e] at this; exact Nat.lt_irrefl _ (Nat.lt_of_lt_of_le this hx)
    simp only [L', if_neg this]; exact h.fresh x hx
  · by_cases e : x = m
    · simp [L', e]
    · simp only [L', if_neg e]; exact h.named x hx
  · obtain ⟨p0, h1, h2⟩ := hOe c _ hc
    unfold reclo at h2
    split at h2
    · split at h2
      · cases h2; exact hnx
      · cases h2; exact h.freshO c _ _ h1
    · cases h2
  · obtain ⟨v, hv, hR⟩ := h.slot t x hx
    exact ⟨v, hv, hR.names hLn (fun c q hc => absurd hc (h.ow0 c q))⟩
theorem Cov.close {q : Nat} (n j i : Nat) {m z len : Nat} {b k : Blk} {row : List AV} (hb : lb s.bl n = some b) (hrow : b.xs[j]? = some row) (hi : row[i]? = some (.own m z 0 len)) (hm : lb s.bl m = some k) (hmn : (m == n) = false) (hz : k.sz = z) (hlen : len = k.xs.length) (hnf : nfr k.xs) : Cov q ⟨s.tm, st (rm s.bl m) n { b with xs := b.xs.set j (row.set i (.ow k.e k.sz k.xs)) }, s.nx⟩ s :=
  fun _ _ _ S _ _ _ h => ⟨S, h.close hb hrow hi hm (by simpa using hmn) hz hlen hnf⟩
theorem GS.close (n j i : Nat) {m z len : Nat} {b k : Blk} {row : List AV} (hb : lb s.bl n = some b) (hrow : b.xs[j]? = some row) (hi : row[i]? = some (.own m z 0 len)) (hm : lb s.bl m = some k) (hmn : (m == n) = false) (hz : k.sz = z) (hlen : len = k.xs.length) (hnf : nfr k.xs) (hs : (⟨s.tm, st (rm s.bl m) n { b with xs := b.xs.set j (row.set i (.ow k.e k.sz k.xs)) }, s.nx⟩ : AS) = s') {p : Nat} (h : GS P nt ops K l p s') : GS P nt ops K l p s :=
  GS.cov (Cov.close n j i hb hrow hi hm hmn hz hlen hnf) (by rw [hs]; exact h)
theorem Holds.close {c : Code} {Q : Exit → AS → Prop} (n j i : Nat) {m z len : Nat} {b k : Blk} {row : List AV} (hb : lb s.bl n = some b) (hrow : b.xs[j]? = some row) (hi : row[i]? = some (.own m z 0 len)) (hm : lb s.bl m = some k) (hmn : (m == n) = false) (hz : k.sz = z) (hlen : len = k.xs.length) (hnf : nfr k.xs) (hs : (⟨s.tm, st (rm s.bl m) n { b with xs := b.xs.set j (row.set i (.ow k.e k.sz k.xs)) }, s.nx⟩ : AS) = s') (h : Holds P nt c Q s') : Holds P nt c Q s :=
  Holds.cov (Cov.close n j i hb hrow hi hm hmn hz hlen hnf) (by rw [hs]; exact h)
theorem GS.fnnd {c : Operand} {aas : Array Operand} {ts : Array TypeId} {f : FuncId} {xs cap args : List AV} {m : Nat} {outs bl' : List (Nat × Blk)} {r : AV} {s1 : AS} (hp : Fn P f 0 args [] r m outs) (hop : o.op = .call ⟨.value c, aas, ts⟩) (hg : gd ops s o = some true) (hd : okd nt.n o.dst = true)
    (hc : ev s c = some (.fn f cap)) (he : aas.toList.mapM (ev s) = some xs) (hf : FzL s.bl (xs ++ cap) args) (hom : outs.all (fun p => decide (p.1 < m)) = true)
    (hor : Ony r) (hoo : ∀ p ∈ outs, onyR p.2.xs) (hr : okr m r = true) (hren : RenB (fun n => s.nx + n) m outs bl') (hs1 : put (aft0 s m bl') o.dst (En.ren (fun n => s.nx + n) r) = s1) (h : GS P nt ops K l (i + 1) s1) : GS P nt ops K (o :: l) i s := by
  subst hs1
  exact GS.fnd hp hop hg hd hc he hf hom hor hoo hr hren h
end
attribute [go_sem] aft0
end Go.Proofs.Ytpnpjkkppndhfaa.En
end
section
namespace Go.Proofs.Ytpnpjkkppndhfaa.En
open Go.RowKit
set_option linter.unusedSimpArgs false
set_option linter.unusedVariables false
section
attribute [local semireducible] G Gq Holds GS Pure Out Fn OutF
variable {P : Program} {nt : NT} {s s' : AS} {ops : Array Oper} {K : AS → Prop} {i : Nat} {o : Oper} {l : List Oper}
/-- A name for a value of one cell of which nothing is known. -/
theorem RelX.opq {C : Ctx} {a : Act} {w : World} {S : Nat → Prop} {Ow : Owners} {L : Names} (h : RelX C s a w S Ow L) :
    ∃ L', RelX C ⟨s.tm, s.bl, s.nx + 1⟩ a w S Ow L' ∧ L' s.nx = .gone := by
  have hLn : ∀ n, L n = .free ∨ (if n = s.nx then NL.gone else L n) = L n ∨ (if n = s.nx then NL.gone else L n) = .gone := fun n => by
    by_cases e : n = s.nx
    · exact .inl (h.fresh n (by omega))
    · simp [e]
  refine ⟨fun n => if n = s.nx then .gone else L n, ?_, by simp⟩
  refine { fix := fix_of h.fix hLn, keep := h.keep, inS := h.inS, upS := h.upS, ltS := h.ltS, owS := h.owS, ow := h.ow, ow0 := h.ow0, blk := ?_, fresh := ?_, named := ?_, freshO := fun b n q hq => Nat.le_succ_of_le (h.freshO b n q hq), slot := ?_, size := h.size, defers := h.defers }
  · intro n kk hn
    obtain ⟨loc, hl, hB⟩ := h.blk n kk hn
    have e : n ≠ s.nx := fun e => by rw [e, h.fresh _ (Nat.le_refl _)] at hl; cases hl
    exact ⟨loc, by simp [e, hl], hB.names hLn (fun _ _ hq => hq)⟩
  · intro n hn
    have hn' : s.nx + 1 ≤ n := hn
    simp only [show n ≠ s.nx by omega, if_false]
    exact h.fresh n (by omega)
  · intro n hn
    have hn' : n < s.nx + 1 := hn
    by_cases e : n = s.nx
    · simp [e]
    · simp only [e, if_false]; exact h.named n (by omega)
  · intro t x hx
    obtain ⟨v, hv, hR⟩ := h.slot t x hx
    exact ⟨v, hv, hR.names hLn (fun _ _ hq => hq)⟩
theorem GS.mkMap {t : TypeId} {s1 : AS} (hop : o.op = .makeMap t none) (hg : gd ops s o = some true) (hd : okd nt.n o.dst = true) (hs1 : put ⟨s.tm, s.bl, s.nx + 1⟩ o.dst (.own s.nx 1 0 0) = s1) (h : GS P nt ops K l (i + 1) s1) : GS P nt ops K (o :: l) i s :=
  GS.cons (fun ho r' hr' => fun C ac w S Ow L Q hn hR hQ => by
    subst hn hs1
    rw [wpOps_cons]
    unfold wpOp
    simp only [ho]
    rw [gd_sound hR hg]
    simp only [if_true]
    left
    have hrun : (execOp ac.eval o).run P w = .ok (.value (.map (some w.heap.size))) (w.alloc (.map #[] 0)) := by
      unfold execOp
      simp [hop, run_makeMap_plain]
    unfold Oper.wp
    rw [hrun]
    have hb : Below w.heap.size w (w.alloc (.map #[] 0)) := ⟨rfl, rfl, rfl, by simp, fun k hk => heap_alloc_old w _ k hk⟩
    obtain ⟨L', h1, h2⟩ := (hR.grown hb).opq
    exact hr' C _ _ _ _ _ Q rfl (h1.put o.dst hd (.own_gone _ _ _ _ _ h2 rfl)) hQ) h
theorem Cov.open {q n j i : Nat} {b : Blk} {row : List AV} {e : TypeId} {z : Nat} {ys : List (List AV)} (hb : lb s.bl n = some b) (hrow : b.xs[j]? = some row) (hi : row[i]? = some (.ow e z ys)) :
    Cov q ⟨s.tm, (s.nx, ⟨e, z, ys⟩) :: st s.bl n { b with xs := b.xs.set j (row.set i (.own s.nx z 0 ys.length)) }, s.nx + 1⟩ s :=
  fun _ _ _ S _ _ _ h => by
    obtain ⟨Ow', L', u, h1, _⟩ := h.openOw hb hrow hi
    exact ⟨S, Ow', L', h1⟩
theorem Holds.open {c : Code} {Q : Exit → AS → Prop} (n j i : Nat) {b : Blk} {row : List AV} {e : TypeId} {z : Nat} {ys : List (List AV)} (hb : lb s.bl n = some b) (hrow : b.xs[j]? = some row) (hi : row[i]? = some (.ow e z ys))
    (hs : (⟨s.tm, (s.nx, ⟨e, z, ys⟩) :: st s.bl n { b with xs := b.xs.set j (row.set i (.own s.nx z 0 ys.length)) }, s.nx + 1⟩ : AS) = s') (h : Holds P nt c Q s') : Holds P nt c Q s := Holds.cov (Cov.open hb hrow hi) (by rw [hs]; exact h)
theorem GS.open (n j i : Nat) {b : Blk} {row : List AV} {e : TypeId} {z : Nat} {ys : List (List AV)} (hb : lb s.bl n = some b) (hrow : b.xs[j]? = some row) (hi : row[i]? = some (.ow e z ys))
    (hs : (⟨s.tm, (s.nx, ⟨e, z, ys⟩) :: st s.bl n { b with xs := b.xs.set j (row.set i (.own s.nx z 0 ys.length)) }, s.nx + 1⟩ : AS) = s') {p : Nat} (h : GS P nt ops K l p s') : GS P nt ops K l p s := GS.cov (Cov.open hb hrow hi) (by rw [hs]; exact h)
theorem Holds.condT {c : Operand} {x y : Code} {Q : Exit → AS → Prop} (hc : ev s c = some (.v (.bool true))) (h : Holds P nt x Q s) : Holds P nt (.cond c x y) Q s := Holds.cond hc (fun _ => h) (fun g => by cases g)
theorem Holds.condF {c : Operand} {x y : Code} {Q : Exit → AS → Prop} (hc : ev s c = some (.v (.bool false))) (h : Holds P nt y Q s) : Holds P nt (.cond c x y) Q s := Holds.cond hc (fun g => by cases g) (fun _ => h)
end
/-- The first cells of a variable in memory, lent to be looked at. -/
theorem Fz.pbP {bl : List (Nat × Blk)} {n sz : Nat} {k : Blk} {row zs : List AV} (hk : lb bl n = some k) (hx : k.xs = [row ++ zs]) (hz : k.sz = sz) (h : ∀ x ∈ row, En.cl1 x = true) : Fz bl (.pb n sz 0 0) (.pi row) := by
  subst hz
  refine .pb n 0 0 k (row ++ zs) row hk (by rw [hx]; rfl) (by simp) (fun q x y h1 h2 => ?_)
  rw [List.drop_zero, List.getElem?_append_left (List.getElem?_eq_some_iff.1 h2).1, h2] at h1
  have e := Option.some.inj h1
  subst e
  exact .cl1 (h _ (List.mem_of_getElem? h2))
end Go.Proofs.Ytpnpjkkppndhfaa.En
end
