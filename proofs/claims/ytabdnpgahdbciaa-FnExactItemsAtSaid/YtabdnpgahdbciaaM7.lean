/- Own words and walks of this claim, part 7: what the program's functions compute, for all the arguments that are named; no further conditions. -/
import Derived.Test.YtabdnpgahdbciaaM6
section
namespace Go.Proofs.Ytabdnpgahdbciaa.En
open Go.RowKit
set_option linter.unusedSimpArgs false
set_option linter.unusedVariables false
set_option maxHeartbeats 4000000
def cmpI (x y : Int) : Int := if x < y then -1 else if y < x then 1 else 0
theorem isNaNI (x : Int) : Pure Try.prog 112 [.v (.int .i64 x)] (.v (.bool false)) := by
  refine Pure.mk (rs := [.tmp 2]) (nt := 6) Try.func112 (by kernel_rfl) rfl rfl rfl (by simp) ?_
  simp only [sl]
  have h : (x == x) = true := by simp
  repeat' first
    | (refine Holds.condT ?_ ?_; (· (simp [go_sem, List.take_of_length_le, h] <;> with_reducible rfl)))
    | (refine Holds.condF ?_ ?_; (· (simp [go_sem, List.take_of_length_le, h] <;> with_reducible rfl)))
    | refine Holds.seq ?_
    | refine Holds.skip ?_
    | refine Holds.exit ?_
    | refine Holds.ret ?_
    | refine thenA_normal ?_
    | refine thenA_exit ?_
    | refine thenA_ret ?_
    | refine inB_normal ?_
    | refine inB_ret ?_
    | refine inB_here ?_
    | (refine inB_past ?_ ?_; (· exact rfl))
    | refine Holds.reg ?_
    | refine Holds.block ?_
    | refine GS.nil ?_
    | (refine GS.step (s' := ?_) ?_ ?_ ?_; rotate_left; (· exact rfl); (· (simp [go_sem, List.take_of_length_le, h] <;> with_reducible rfl)))
    | (refine GS.skip ?_ ?_ ?_; (· exact rfl); (· exact rfl))
    | fail
  refine Out.mk (xs := ?_) ?_ ?_ (by first | exact .inr rfl | exact .inl rfl)
  rotate_left
  · simp [go_sem, List.take_of_length_le] <;> with_reducible rfl
  exact .v _
theorem compareInt (x y : Int) : Pure Try.prog 82 [.v (.int .i64 x), .v (.int .i64 y)] (.v (.int .i64 (cmpI x y))) := by
  have c1 := isNaNI x
  have c2 := isNaNI y
  unfold cmpI
  refine Pure.mk (rs := [.tmp 4]) (nt := 20) Try.func82 (by kernel_rfl) rfl rfl rfl (by simp) ?_
  simp only [sl]
  repeat' first
    | (refine Holds.condT ?_ ?_; (· (simp [go_sem, List.take_of_length_le] <;> with_reducible rfl)))
    | (refine Holds.condF ?_ ?_; (· (simp [go_sem, List.take_of_length_le] <;> with_reducible rfl)))
    | refine Holds.seq ?_
    | refine Holds.skip ?_
    | refine Holds.exit ?_
    | refine Holds.ret ?_
    | refine thenA_normal ?_
    | refine thenA_exit ?_
    | refine thenA_ret ?_
    | refine inB_normal ?_
    | refine inB_ret ?_
    | refine inB_here ?_
    | (refine inB_past ?_ ?_; (· exact rfl))
    | refine Holds.reg ?_
    | refine Holds.block ?_
    | refine GS.nil ?_
    | (refine GS.step (s' := ?_) ?_ ?_ ?_; rotate_left; (· exact rfl); (· (simp [go_sem, List.take_of_length_le] <;> with_reducible rfl)))
    | (refine GS.skip ?_ ?_ ?_; (· exact rfl); (· exact rfl))
    | fail
  refine GS.cc (c1) rfl rfl rfl rfl (by simp [go_sem, List.take_of_length_le] <;> with_reducible rfl) rfl (by simp [go_sem, List.take_of_length_le]) ?_
  repeat' first
    | (refine Holds.condT ?_ ?_; (· (simp [go_sem, List.take_of_length_le] <;> with_reducible rfl)))
    | (refine Holds.condF ?_ ?_; (· (simp [go_sem, List.take_of_length_le] <;> with_reducible rfl)))
    | refine Holds.seq ?_
    | refine Holds.skip ?_
    | refine Holds.exit ?_
    | refine Holds.ret ?_
    | refine thenA_normal ?_
    | refine thenA_exit ?_
    | refine thenA_ret ?_
    | refine inB_normal ?_
    | refine inB_ret ?_
    | refine inB_here ?_
    | (refine inB_past ?_ ?_; (· exact rfl))
    | refine Holds.reg ?_
    | refine Holds.block ?_
    | refine GS.nil ?_
    | (refine GS.step (s' := ?_) ?_ ?_ ?_; rotate_left; (· exact rfl); (· (simp [go_sem, List.take_of_length_le] <;> with_reducible rfl)))
    | (refine GS.skip ?_ ?_ ?_; (· exact rfl); (· exact rfl))
    | fail
  refine GS.cc (c2) rfl rfl rfl rfl (by simp [go_sem, List.take_of_length_le] <;> with_reducible rfl) rfl (by simp [go_sem, List.take_of_length_le]) ?_
  repeat' first
    | (refine Holds.condT ?_ ?_; (· (simp [go_sem, List.take_of_length_le] <;> with_reducible rfl)))
    | (refine Holds.condF ?_ ?_; (· (simp [go_sem, List.take_of_length_le] <;> with_reducible rfl)))
    | refine Holds.seq ?_
    | refine Holds.skip ?_
    | refine Holds.exit ?_
    | refine Holds.ret ?_
    | refine thenA_normal ?_
    | refine thenA_exit ?_
    | refine thenA_ret ?_
    | refine inB_normal ?_
    | refine inB_ret ?_
    | refine inB_here ?_
    | (refine inB_past ?_ ?_; (· exact rfl))
    | refine Holds.reg ?_
    | refine Holds.block ?_
    | refine GS.nil ?_
    | (refine GS.step (s' := ?_) ?_ ?_ ?_; rotate_left; (· exact rfl); (· (simp [go_sem, List.take_of_length_le] <;> with_reducible rfl)))
    | (refine GS.skip ?_ ?_ ?_; (· exact rfl); (· exact rfl))
    | fail
  by_cases h1 : x < y
  · rw [if_pos h1]
    have h1' : decide (x < y) = true := by simp [h1]
    repeat' first
      | (refine Holds.condT ?_ ?_; (· (simp [go_sem, List.take_of_length_le, h1', h1] <;> with_reducible rfl)))
      | (refine Holds.condF ?_ ?_; (· (simp [go_sem, List.take_of_length_le, h1', h1] <;> with_reducible rfl)))
      | refine Holds.seq ?_
      | refine Holds.skip ?_
      | refine Holds.exit ?_
      | refine Holds.ret ?_
      | refine thenA_normal ?_
      | refine thenA_exit ?_
      | refine thenA_ret ?_
      | refine inB_normal ?_
      | refine inB_ret ?_
      | refine inB_here ?_
      | (refine inB_past ?_ ?_; (· exact rfl))
      | refine Holds.reg ?_
      | refine Holds.block ?_
      | refine GS.nil ?_
      | (refine GS.step (s' := ?_) ?_ ?_ ?_; rotate_left; (· exact rfl); (· (simp [go_sem, List.take_of_length_le, h1', h1] <;> with_reducible rfl)))
      | (refine GS.skip ?_ ?_ ?_; (· exact rfl); (· exact rfl))
      | fail
    refine Out.mk (xs := ?_) ?_ ?_ (by first | exact .inr rfl | exact .inl rfl)
    rotate_left
    · simp [go_sem, List.take_of_length_le] <;> with_reducible rfl
    exact .v _
  · rw [if_neg h1]
    have h1' : decide (x < y) = false := by simp [h1]
    by_cases h2 : y < x
    · rw [if_pos h2]
      repeat' first
        | (refine Holds.condT ?_ ?_; (· (simp [go_sem, List.take_of_length_le, h1', h1, h2] <;> with_reducible rfl)))
        | (refine Holds.condF ?_ ?_; (· (simp [go_sem, List.take_of_length_le, h1', h1, h2] <;> with_reducible rfl)))
        | refine Holds.seq ?_
        | refine Holds.skip ?_
        | refine Holds.exit ?_
        | refine Holds.ret ?_
        | refine thenA_normal ?_
        | refine thenA_exit ?_
        | refine thenA_ret ?_
        | refine inB_normal ?_
        | refine inB_ret ?_
        | refine inB_here ?_
        | (refine inB_past ?_ ?_; (· exact rfl))
        | refine Holds.reg ?_
        | refine Holds.block ?_
        | refine GS.nil ?_
        | (refine GS.step (s' := ?_) ?_ ?_ ?_; rotate_left; (· exact rfl); (· (simp [go_sem, List.take_of_length_le, h1', h1, h2] <;> with_reducible rfl)))
        | (refine GS.skip ?_ ?_ ?_; (· exact rfl); (· exact rfl))
        | fail
      refine Out.mk (xs := ?_) ?_ ?_ (by first | exact .inr rfl | exact .inl rfl)
      rotate_left
      · simp [go_sem, List.take_of_length_le] <;> with_reducible rfl
      exact .v _
    · rw [if_neg h2]
      repeat' first
        | (refine Holds.condT ?_ ?_; (· (simp [go_sem, List.take_of_length_le, h1', h1, h2] <;> with_reducible rfl)))
        | (refine Holds.condF ?_ ?_; (· (simp [go_sem, List.take_of_length_le, h1', h1, h2] <;> with_reducible rfl)))
        | refine Holds.seq ?_
        | refine Holds.skip ?_
        | refine Holds.exit ?_
        | refine Holds.ret ?_
        | refine thenA_normal ?_
        | refine thenA_exit ?_
        | refine thenA_ret ?_
        | refine inB_normal ?_
        | refine inB_ret ?_
        | refine inB_here ?_
        | (refine inB_past ?_ ?_; (· exact rfl))
        | refine Holds.reg ?_
        | refine Holds.block ?_
        | refine GS.nil ?_
        | (refine GS.step (s' := ?_) ?_ ?_ ?_; rotate_left; (· exact rfl); (· (simp [go_sem, List.take_of_length_le, h1', h1, h2] <;> with_reducible rfl)))
        | (refine GS.skip ?_ ?_ ?_; (· exact rfl); (· exact rfl))
        | fail
      refine Out.mk (xs := ?_) ?_ ?_ (by first | exact .inr rfl | exact .inl rfl)
      rotate_left
      · simp [go_sem, List.take_of_length_le] <;> with_reducible rfl
      exact .v _
def orI : List Int → Int
  | [] => 0
  | x :: r => if x = 0 then orI r else x
theorem orI_drop (xs : List Int) (i : Nat) (x : Int) (h : xs[i]? = some x) : orI (xs.drop i) = if x = 0 then orI (xs.drop (i + 1)) else x := by
  obtain ⟨hi, rfl⟩ := List.getElem?_eq_some_iff.1 h
  rw [List.drop_eq_getElem_cons hi, orI]
theorem orInts (xs : List Int) (hx : xs.length < 4611686018427387904) : Pure Try.prog 81 [.im 1 (ints xs)] (.v (.int .i64 (orI xs))) := by
  refine Pure.mk (rs := [.tmp 2]) (nt := 18) Try.func81 (by kernel_rfl) rfl rfl rfl (by simp) ?_
  simp only [sl]
  repeat' first
    | refine Holds.seq ?_
    | refine Holds.skip ?_
    | refine Holds.exit ?_
    | refine Holds.ret ?_
    | refine thenA_normal ?_
    | refine thenA_exit ?_
    | refine thenA_ret ?_
    | refine inB_normal ?_
    | refine inB_ret ?_
    | refine inB_here ?_
    | (refine inB_past ?_ ?_; (· exact rfl))
    | refine Holds.reg ?_
    | refine Holds.block ?_
    | refine GS.nil ?_
    | (refine GS.step (s' := ?_) ?_ ?_ ?_; rotate_left; (· exact rfl); (· (simp [go_sem, List.take_of_length_le] <;> with_reducible rfl)))
    | (refine GS.skip ?_ ?_ ?_; (· exact rfl); (· exact rfl))
    | fail
  refine Holds.loop (ι := Nat) (fun i => ⟨[(2, .v (.int .i64 0)), (3, .v (.int .i64 0)), (6, .im 1 (ints xs)), (7, .v (.int .i64 xs.length)), (8, .v (.int .i64 i))], [], 0⟩) (fun i => i ≤ xs.length ∧ orI (xs.drop i) = orI xs) (fun i => xs.length - i) 0 ⟨Nat.zero_le _, rfl⟩ ?_ ?_
  · exact Cov.ofn (id) rfl (by simp [go_sem, List.take_of_length_le, ren, ren1, ren2, okr, okr1, okr2, ChkT, ChkN, BlkN, nf]) (by simp [go_sem, List.take_of_length_le, ren, ren1, ren2, okr, okr1, okr2, ChkT, ChkN, BlkN, nf])
  rintro i ⟨hi, hno⟩
  repeat' first
    | refine Holds.seq ?_
    | refine Holds.skip ?_
    | refine Holds.exit ?_
    | refine Holds.ret ?_
    | refine thenA_normal ?_
    | refine thenA_exit ?_
    | refine thenA_ret ?_
    | refine inB_normal ?_
    | refine inB_ret ?_
    | refine inB_here ?_
    | (refine inB_past ?_ ?_; (· exact rfl))
    | refine Holds.reg ?_
    | refine Holds.block ?_
    | refine GS.nil ?_
    | (refine GS.step (s' := ?_) ?_ ?_ ?_; rotate_left; (· exact rfl); (· (simp [go_sem, List.take_of_length_le] <;> with_reducible rfl)))
    | (refine GS.skip ?_ ?_ ?_; (· exact rfl); (· exact rfl))
    | fail
  refine Holds.cond rfl (fun hl => ?_) (fun hl => ?_)
  · have hlt : i < xs.length := by simpa using hl
    have hxi : xs[i]? = some xs[i] := List.getElem?_eq_getElem hlt
    have hd := orI_drop xs i _ hxi
    generalize xs[i] = x at hxi hd
    rw [hno] at hd
    by_cases hx0 : x = 0
    · subst hx0
      rw [if_pos rfl] at hd
      repeat' first
        | (refine Holds.condT ?_ ?_; (· (simp [go_sem, List.take_of_length_le, hxi, hlt, get_E hxi] <;> with_reducible rfl)))
        | (refine Holds.condF ?_ ?_; (· (simp [go_sem, List.take_of_length_le, hxi, hlt, get_E hxi] <;> with_reducible rfl)))
        | refine Holds.seq ?_
        | refine Holds.skip ?_
        | refine Holds.exit ?_
        | refine Holds.ret ?_
        | refine thenA_normal ?_
        | refine thenA_exit ?_
        | refine thenA_ret ?_
        | refine inB_normal ?_
        | refine inB_ret ?_
        | refine inB_here ?_
        | (refine inB_past ?_ ?_; (· exact rfl))
        | refine Holds.reg ?_
        | refine Holds.block ?_
        | refine GS.nil ?_
        | (refine GS.step (s' := ?_) ?_ ?_ ?_; rotate_left; (· exact rfl); (· (simp [go_sem, List.take_of_length_le, hxi, hlt, get_E hxi] <;> with_reducible rfl)))
        | (refine GS.skip ?_ ?_ ?_; (· exact rfl); (· exact rfl))
        | fail
      refine ⟨i + 1, ⟨by omega, hd.symm⟩, by omega, ?_⟩
      rw [wr64_id (by omega) (by omega)]
      exact Cov.ofn (id) rfl (by simp [go_sem, List.take_of_length_le, ren, ren1, ren2, okr, okr1, okr2, ChkT, ChkN, BlkN, nf]) (by simp [go_sem, List.take_of_length_le, ren, ren1, ren2, okr, okr1, okr2, ChkT, ChkN, BlkN, nf])
    · rw [if_neg hx0] at hd
      have hx0' : (x == 0) = false := by simp [hx0]
      rw [hd]
      repeat' first
        | (refine Holds.condT ?_ ?_; (· (simp [go_sem, List.take_of_length_le, hxi, hlt, get_E hxi, hx0', hx0] <;> with_reducible rfl)))
        | (refine Holds.condF ?_ ?_; (· (simp [go_sem, List.take_of_length_le, hxi, hlt, get_E hxi, hx0', hx0] <;> with_reducible rfl)))
        | refine Holds.seq ?_
        | refine Holds.skip ?_
        | refine Holds.exit ?_
        | refine Holds.ret ?_
        | refine thenA_normal ?_
        | refine thenA_exit ?_
        | refine thenA_ret ?_
        | refine inB_normal ?_
        | refine inB_ret ?_
        | refine inB_here ?_
        | (refine inB_past ?_ ?_; (· exact rfl))
        | refine Holds.reg ?_
        | refine Holds.block ?_
        | refine GS.nil ?_
        | (refine GS.step (s' := ?_) ?_ ?_ ?_; rotate_left; (· exact rfl); (· (simp [go_sem, List.take_of_length_le, hxi, hlt, get_E hxi, hx0', hx0] <;> with_reducible rfl)))
        | (refine GS.skip ?_ ?_ ?_; (· exact rfl); (· exact rfl))
        | fail
      refine Out.mk (xs := ?_) ?_ ?_ (by first | exact .inr rfl | exact .inl rfl)
      rotate_left
      · simp [go_sem, List.take_of_length_le] <;> with_reducible rfl
      exact .v _
  · have hle : i = xs.length := by
      have : ¬ i < xs.length := by simpa using hl
      omega
    subst hle
    rw [List.drop_length] at hno
    rw [← hno]
    repeat' first
      | refine Holds.seq ?_
      | refine Holds.skip ?_
      | refine Holds.exit ?_
      | refine Holds.ret ?_
      | refine thenA_normal ?_
      | refine thenA_exit ?_
      | refine thenA_ret ?_
      | refine inB_normal ?_
      | refine inB_ret ?_
      | refine inB_here ?_
      | (refine inB_past ?_ ?_; (· exact rfl))
      | refine Holds.reg ?_
      | refine Holds.block ?_
      | refine GS.nil ?_
      | (refine GS.step (s' := ?_) ?_ ?_ ?_; rotate_left; (· exact rfl); (· (simp [go_sem, List.take_of_length_le] <;> with_reducible rfl)))
      | (refine GS.skip ?_ ?_ ?_; (· exact rfl); (· exact rfl))
      | fail
    refine Out.mk (xs := ?_) ?_ ?_ (by first | exact .inr rfl | exact .inl rfl)
    rotate_left
    · simp [go_sem, List.take_of_length_le] <;> with_reducible rfl
    exact .v _
def cmpIt (x y : Item3) : Int := orI [cmpI x.2.2 y.2.2, cmpI x.1 y.1, cmpI x.2.1 y.2.1]
theorem compareItems (x y : Item3) : Pure Try.prog 45 [.ag (nodeC x), .ag (nodeC y)] (.v (.int .i64 (cmpIt x y))) := by
  have c1 := compareInt x.2.2 y.2.2
  have c2 := compareInt x.1 y.1
  have c3 := compareInt x.2.1 y.2.1
  have co := orInts [cmpI x.2.2 y.2.2, cmpI x.1 y.1, cmpI x.2.1 y.2.1] (by simp)
  obtain ⟨a, b, c⟩ := x
  obtain ⟨a', b', c'⟩ := y
  unfold cmpIt
  dsimp only at c1 c2 c3 co ⊢
  generalize cmpI c c' = k1 at c1 co ⊢
  generalize cmpI a a' = k2 at c2 co ⊢
  generalize cmpI b b' = k3 at c3 co ⊢
  refine Pure.mk (rs := [.tmp 4]) (nt := 22) Try.func45 (by kernel_rfl) rfl rfl rfl (by simp) ?_
  simp only [sl, nodeC]
  repeat' first
    | (refine Holds.condT ?_ ?_; (· (simp [go_sem, List.take_of_length_le, nodeC] <;> with_reducible rfl)))
    | (refine Holds.condF ?_ ?_; (· (simp [go_sem, List.take_of_length_le, nodeC] <;> with_reducible rfl)))
    | refine Holds.seq ?_
    | refine Holds.skip ?_
    | refine Holds.exit ?_
    | refine Holds.ret ?_
    | refine thenA_normal ?_
    | refine thenA_exit ?_
    | refine thenA_ret ?_
    | refine inB_normal ?_
    | refine inB_ret ?_
    | refine inB_here ?_
    | (refine inB_past ?_ ?_; (· exact rfl))
    | refine Holds.reg ?_
    | refine Holds.block ?_
    | refine GS.nil ?_
    | refine Gd.nil ?_
    | (refine GS.step (s' := ?_) ?_ ?_ ?_; rotate_left; (· exact rfl); (· (simp [go_sem, List.take_of_length_le, nodeC] <;> with_reducible rfl)))
    | (refine GS.skip ?_ ?_ ?_; (· exact rfl); (· exact rfl))
    | (refine Gd.go (s' := ?_) ?_ ?_ ?_; rotate_left; (· exact rfl); (· (simp [go_sem, List.take_of_length_le, nodeC] <;> with_reducible rfl)))
    | (refine Gd.skip ?_ ?_ ?_; (· exact rfl); (· exact rfl))
    | fail
  refine Holds.anx [] [2015] (fun n => true) mixed ?_ ?_ ?_; (· kernel_rfl); (· kernel_rfl)
  repeat' first
    | (refine Holds.condT ?_ ?_; (· (simp [go_sem, List.take_of_length_le, nodeC] <;> with_reducible rfl)))
    | (refine Holds.condF ?_ ?_; (· (simp [go_sem, List.take_of_length_le, nodeC] <;> with_reducible rfl)))
    | refine Holds.seq ?_
    | refine Holds.skip ?_
    | refine Holds.exit ?_
    | refine Holds.ret ?_
    | refine thenA_normal ?_
    | refine thenA_exit ?_
    | refine thenA_ret ?_
    | refine inB_normal ?_
    | refine inB_ret ?_
    | refine inB_here ?_
    | (refine inB_past ?_ ?_; (· exact rfl))
    | refine Holds.reg ?_
    | refine Holds.block ?_
    | refine GS.nil ?_
    | refine Gd.nil ?_
    | (refine GS.step (s' := ?_) ?_ ?_ ?_; rotate_left; (· exact rfl); (· (simp [go_sem, List.take_of_length_le, nodeC] <;> with_reducible rfl)))
    | (refine GS.skip ?_ ?_ ?_; (· exact rfl); (· exact rfl))
    | (refine Gd.go (s' := ?_) ?_ ?_ ?_; rotate_left; (· exact rfl); (· (simp [go_sem, List.take_of_length_le, nodeC] <;> with_reducible rfl)))
    | (refine Gd.skip ?_ ?_ ?_; (· exact rfl); (· exact rfl))
    | refine Gx.nil ?_
    | (refine Gx.go (s' := ?_) rfl ?_ ?_ ?_; rotate_left; (· exact rfl); (· (simp [go_sem, List.take_of_length_le, nodeC] <;> with_reducible rfl)))
    | (refine Gx.skip rfl ?_ ?_ ?_; (· exact rfl); (· exact rfl))
    | (refine Gx.skipO rfl ?_ ?_ ?_; (· exact rfl); (· exact rfl))
    | (refine Gx.wo (s' := ?_) rfl ?_ ?_ ?_; rotate_left; (· exact rfl); (· (simp [go_sem, List.take_of_length_le, nodeC] <;> with_reducible rfl)))
    | (refine Gx.skipW rfl ?_ ?_ ?_; (· exact rfl); (· exact rfl))
    | (refine Gx.skipH rfl ?_ ?_ ?_; (· exact rfl); (· exact rfl))
    | (refine Gx.hid (r := ?_) rfl ?_ ?_ ?_ ?_; rotate_left; (· exact rfl); (· exact rfl); (· (simp [go_sem, List.take_of_length_le, nodeC] <;> with_reducible rfl)))
    | (refine Gx.wr (s' := ?_) rfl ?_ ?_ ?_ ?_; rotate_left; (· exact rfl); (· (simp [go_sem, List.take_of_length_le, nodeC] <;> with_reducible rfl)); (· (simp [go_sem, List.take_of_length_le, nodeC])))
    | fail
  first | refine GS.cc (c1) rfl rfl rfl rfl (by simp [go_sem, List.take_of_length_le] <;> with_reducible rfl) rfl (by simp [go_sem, List.take_of_length_le]) ?_ | refine Gd.cc (c1) rfl rfl rfl rfl (by simp [go_sem, List.take_of_length_le] <;> with_reducible rfl) rfl (by simp [go_sem, List.take_of_length_le]) ?_ | refine Gx.cc (c1) rfl rfl rfl rfl rfl (by simp [go_sem, List.take_of_length_le] <;> with_reducible rfl) rfl (by simp [go_sem, List.take_of_length_le]) ?_
  repeat' first
    | (refine Holds.condT ?_ ?_; (· (simp [go_sem, List.take_of_length_le, nodeC] <;> with_reducible rfl)))
    | (refine Holds.condF ?_ ?_; (· (simp [go_sem, List.take_of_length_le, nodeC] <;> with_reducible rfl)))
    | refine Holds.seq ?_
    | refine Holds.skip ?_
    | refine Holds.exit ?_
    | refine Holds.ret ?_
    | refine thenA_normal ?_
    | refine thenA_exit ?_
    | refine thenA_ret ?_
    | refine inB_normal ?_
    | refine inB_ret ?_
    | refine inB_here ?_
    | (refine inB_past ?_ ?_; (· exact rfl))
    | refine Holds.reg ?_
    | refine Holds.block ?_
    | refine GS.nil ?_
    | refine Gd.nil ?_
    | (refine GS.step (s' := ?_) ?_ ?_ ?_; rotate_left; (· exact rfl); (· (simp [go_sem, List.take_of_length_le, nodeC] <;> with_reducible rfl)))
    | (refine GS.skip ?_ ?_ ?_; (· exact rfl); (· exact rfl))
    | (refine Gd.go (s' := ?_) ?_ ?_ ?_; rotate_left; (· exact rfl); (· (simp [go_sem, List.take_of_length_le, nodeC] <;> with_reducible rfl)))
    | (refine Gd.skip ?_ ?_ ?_; (· exact rfl); (· exact rfl))
    | refine Gx.nil ?_
    | (refine Gx.go (s' := ?_) rfl ?_ ?_ ?_; rotate_left; (· exact rfl); (· (simp [go_sem, List.take_of_length_le, nodeC] <;> with_reducible rfl)))
    | (refine Gx.skip rfl ?_ ?_ ?_; (· exact rfl); (· exact rfl))
    | (refine Gx.skipO rfl ?_ ?_ ?_; (· exact rfl); (· exact rfl))
    | (refine Gx.wo (s' := ?_) rfl ?_ ?_ ?_; rotate_left; (· exact rfl); (· (simp [go_sem, List.take_of_length_le, nodeC] <;> with_reducible rfl)))
    | (refine Gx.skipW rfl ?_ ?_ ?_; (· exact rfl); (· exact rfl))
    | (refine Gx.skipH rfl ?_ ?_ ?_; (· exact rfl); (· exact rfl))
    | (refine Gx.hid (r := ?_) rfl ?_ ?_ ?_ ?_; rotate_left; (· exact rfl); (· exact rfl); (· (simp [go_sem, List.take_of_length_le, nodeC] <;> with_reducible rfl)))
    | (refine Gx.wr (s' := ?_) rfl ?_ ?_ ?_ ?_; rotate_left; (· exact rfl); (· (simp [go_sem, List.take_of_length_le, nodeC] <;> with_reducible rfl)); (· (simp [go_sem, List.take_of_length_le, nodeC])))
    | fail
  first | refine GS.cc (c2) rfl rfl rfl rfl (by simp [go_sem, List.take_of_length_le] <;> with_reducible rfl) rfl (by simp [go_sem, List.take_of_length_le]) ?_ | refine Gd.cc (c2) rfl rfl rfl rfl (by simp [go_sem, List.take_of_length_le] <;> with_reducible rfl) rfl (by simp [go_sem, List.take_of_length_le]) ?_ | refine Gx.cc (c2) rfl rfl rfl rfl rfl (by simp [go_sem, List.take_of_length_le] <;> with_reducible rfl) rfl (by simp [go_sem, List.take_of_length_le]) ?_
  repeat' first
    | (refine Holds.condT ?_ ?_; (· (simp [go_sem, List.take_of_length_le, nodeC] <;> with_reducible rfl)))
    | (refine Holds.condF ?_ ?_; (· (simp [go_sem, List.take_of_length_le, nodeC] <;> with_reducible rfl)))
    | refine Holds.seq ?_
    | refine Holds.skip ?_
    | refine Holds.exit ?_
    | refine Holds.ret ?_
    | refine thenA_normal ?_
    | refine thenA_exit ?_
    | refine thenA_ret ?_
    | refine inB_normal ?_
    | refine inB_ret ?_
    | refine inB_here ?_
    | (refine inB_past ?_ ?_; (· exact rfl))
    | refine Holds.reg ?_
    | refine Holds.block ?_
    | refine GS.nil ?_
    | refine Gd.nil ?_
    | (refine GS.step (s' := ?_) ?_ ?_ ?_; rotate_left; (· exact rfl); (· (simp [go_sem, List.take_of_length_le, nodeC] <;> with_reducible rfl)))
    | (refine GS.skip ?_ ?_ ?_; (· exact rfl); (· exact rfl))
    | (refine Gd.go (s' := ?_) ?_ ?_ ?_; rotate_left; (· exact rfl); (· (simp [go_sem, List.take_of_length_le, nodeC] <;> with_reducible rfl)))
    | (refine Gd.skip ?_ ?_ ?_; (· exact rfl); (· exact rfl))
    | refine Gx.nil ?_
    | (refine Gx.go (s' := ?_) rfl ?_ ?_ ?_; rotate_left; (· exact rfl); (· (simp [go_sem, List.take_of_length_le, nodeC] <;> with_reducible rfl)))
    | (refine Gx.skip rfl ?_ ?_ ?_; (· exact rfl); (· exact rfl))
    | (refine Gx.skipO rfl ?_ ?_ ?_; (· exact rfl); (· exact rfl))
    | (refine Gx.wo (s' := ?_) rfl ?_ ?_ ?_; rotate_left; (· exact rfl); (· (simp [go_sem, List.take_of_length_le, nodeC] <;> with_reducible rfl)))
    | (refine Gx.skipW rfl ?_ ?_ ?_; (· exact rfl); (· exact rfl))
    | (refine Gx.skipH rfl ?_ ?_ ?_; (· exact rfl); (· exact rfl))
    | (refine Gx.hid (r := ?_) rfl ?_ ?_ ?_ ?_; rotate_left; (· exact rfl); (· exact rfl); (· (simp [go_sem, List.take_of_length_le, nodeC] <;> with_reducible rfl)))
    | (refine Gx.wr (s' := ?_) rfl ?_ ?_ ?_ ?_; rotate_left; (· exact rfl); (· (simp [go_sem, List.take_of_length_le, nodeC] <;> with_reducible rfl)); (· (simp [go_sem, List.take_of_length_le, nodeC])))
    | fail
  first | refine GS.cc (c3) rfl rfl rfl rfl (by simp [go_sem, List.take_of_length_le] <;> with_reducible rfl) rfl (by simp [go_sem, List.take_of_length_le]) ?_ | refine Gd.cc (c3) rfl rfl rfl rfl (by simp [go_sem, List.take_of_length_le] <;> with_reducible rfl) rfl (by simp [go_sem, List.take_of_length_le]) ?_ | refine Gx.cc (c3) rfl rfl rfl rfl rfl (by simp [go_sem, List.take_of_length_le] <;> with_reducible rfl) rfl (by simp [go_sem, List.take_of_length_le]) ?_
  repeat' first
    | (refine Holds.condT ?_ ?_; (· (simp [go_sem, List.take_of_length_le, nodeC] <;> with_reducible rfl)))
    | (refine Holds.condF ?_ ?_; (· (simp [go_sem, List.take_of_length_le, nodeC] <;> with_reducible rfl)))
    | refine Holds.seq ?_
    | refine Holds.skip ?_
    | refine Holds.exit ?_
    | refine Holds.ret ?_
    | refine thenA_normal ?_
    | refine thenA_exit ?_
    | refine thenA_ret ?_
    | refine inB_normal ?_
    | refine inB_ret ?_
    | refine inB_here ?_
    | (refine inB_past ?_ ?_; (· exact rfl))
    | refine Holds.reg ?_
    | refine Holds.block ?_
    | refine GS.nil ?_
    | refine Gd.nil ?_
    | (refine GS.step (s' := ?_) ?_ ?_ ?_; rotate_left; (· exact rfl); (· (simp [go_sem, List.take_of_length_le, nodeC] <;> with_reducible rfl)))
    | (refine GS.skip ?_ ?_ ?_; (· exact rfl); (· exact rfl))
    | (refine Gd.go (s' := ?_) ?_ ?_ ?_; rotate_left; (· exact rfl); (· (simp [go_sem, List.take_of_length_le, nodeC] <;> with_reducible rfl)))
    | (refine Gd.skip ?_ ?_ ?_; (· exact rfl); (· exact rfl))
    | refine Gx.nil ?_
    | (refine Gx.go (s' := ?_) rfl ?_ ?_ ?_; rotate_left; (· exact rfl); (· (simp [go_sem, List.take_of_length_le, nodeC] <;> with_reducible rfl)))
    | (refine Gx.skip rfl ?_ ?_ ?_; (· exact rfl); (· exact rfl))
    | (refine Gx.skipO rfl ?_ ?_ ?_; (· exact rfl); (· exact rfl))
    | (refine Gx.wo (s' := ?_) rfl ?_ ?_ ?_; rotate_left; (· exact rfl); (· (simp [go_sem, List.take_of_length_le, nodeC] <;> with_reducible rfl)))
    | (refine Gx.skipW rfl ?_ ?_ ?_; (· exact rfl); (· exact rfl))
    | (refine Gx.skipH rfl ?_ ?_ ?_; (· exact rfl); (· exact rfl))
    | (refine Gx.hid (r := ?_) rfl ?_ ?_ ?_ ?_; rotate_left; (· exact rfl); (· exact rfl); (· (simp [go_sem, List.take_of_length_le, nodeC] <;> with_reducible rfl)))
    | (refine Gx.wr (s' := ?_) rfl ?_ ?_ ?_ ?_; rotate_left; (· exact rfl); (· (simp [go_sem, List.take_of_length_le, nodeC] <;> with_reducible rfl)); (· (simp [go_sem, List.take_of_length_le, nodeC])))
    | fail
  refine Gx.bs (sz := 1) (e := 3) (rows := ints [k1, k2, k3]) [(9, .v (.int .i64 k1)), (14, .v (.int .i64 k2)), (19, .v (.int .i64 k3))] rfl rfl rfl rfl rfl (by simp [go_sem, List.take_of_length_le, Op.operands, cl, cl1, ints]) (by simp [go_sem, List.take_of_length_le, Op.operands, cl, cl1, ints]) (by simp [go_sem, List.take_of_length_le, Op.operands, cl, cl1, ints]) ?_
  repeat' first
    | (refine Holds.condT ?_ ?_; (· (simp [go_sem, List.take_of_length_le, ints] <;> with_reducible rfl)))
    | (refine Holds.condF ?_ ?_; (· (simp [go_sem, List.take_of_length_le, ints] <;> with_reducible rfl)))
    | refine Holds.seq ?_
    | refine Holds.skip ?_
    | refine Holds.exit ?_
    | refine Holds.ret ?_
    | refine thenA_normal ?_
    | refine thenA_exit ?_
    | refine thenA_ret ?_
    | refine inB_normal ?_
    | refine inB_ret ?_
    | refine inB_here ?_
    | (refine inB_past ?_ ?_; (· exact rfl))
    | refine Holds.reg ?_
    | refine Holds.block ?_
    | refine GS.nil ?_
    | refine Gd.nil ?_
    | (refine GS.step (s' := ?_) ?_ ?_ ?_; rotate_left; (· exact rfl); (· (simp [go_sem, List.take_of_length_le, ints] <;> with_reducible rfl)))
    | (refine GS.skip ?_ ?_ ?_; (· exact rfl); (· exact rfl))
    | (refine Gd.go (s' := ?_) ?_ ?_ ?_; rotate_left; (· exact rfl); (· (simp [go_sem, List.take_of_length_le, ints] <;> with_reducible rfl)))
    | (refine Gd.skip ?_ ?_ ?_; (· exact rfl); (· exact rfl))
    | refine Gx.nil ?_
    | (refine Gx.go (s' := ?_) rfl ?_ ?_ ?_; rotate_left; (· exact rfl); (· (simp [go_sem, List.take_of_length_le, ints] <;> with_reducible rfl)))
    | (refine Gx.skip rfl ?_ ?_ ?_; (· exact rfl); (· exact rfl))
    | (refine Gx.skipO rfl ?_ ?_ ?_; (· exact rfl); (· exact rfl))
    | (refine Gx.wo (s' := ?_) rfl ?_ ?_ ?_; rotate_left; (· exact rfl); (· (simp [go_sem, List.take_of_length_le, ints] <;> with_reducible rfl)))
    | (refine Gx.skipW rfl ?_ ?_ ?_; (· exact rfl); (· exact rfl))
    | (refine Gx.skipH rfl ?_ ?_ ?_; (· exact rfl); (· exact rfl))
    | (refine Gx.hid (r := ?_) rfl ?_ ?_ ?_ ?_; rotate_left; (· exact rfl); (· exact rfl); (· (simp [go_sem, List.take_of_length_le, ints] <;> with_reducible rfl)))
    | (refine Gx.wr (s' := ?_) rfl ?_ ?_ ?_ ?_; rotate_left; (· exact rfl); (· (simp [go_sem, List.take_of_length_le, ints] <;> with_reducible rfl)); (· (simp [go_sem, List.take_of_length_le, ints])))
    | fail
  first | refine GS.cc (co) rfl rfl rfl rfl (by simp [go_sem, List.take_of_length_le] <;> with_reducible rfl) rfl (by simp [go_sem, List.take_of_length_le]) ?_ | refine Gd.cc (co) rfl rfl rfl rfl (by simp [go_sem, List.take_of_length_le] <;> with_reducible rfl) rfl (by simp [go_sem, List.take_of_length_le]) ?_ | refine Gx.cc (co) rfl rfl rfl rfl rfl (by simp [go_sem, List.take_of_length_le] <;> with_reducible rfl) rfl (by simp [go_sem, List.take_of_length_le]) ?_
  repeat' first
    | (refine Holds.condT ?_ ?_; (· (simp [go_sem, List.take_of_length_le] <;> with_reducible rfl)))
    | (refine Holds.condF ?_ ?_; (· (simp [go_sem, List.take_of_length_le] <;> with_reducible rfl)))
    | refine Holds.seq ?_
    | refine Holds.skip ?_
    | refine Holds.exit ?_
    | refine Holds.ret ?_
    | refine thenA_normal ?_
    | refine thenA_exit ?_
    | refine thenA_ret ?_
    | refine inB_normal ?_
    | refine inB_ret ?_
    | refine inB_here ?_
    | (refine inB_past ?_ ?_; (· exact rfl))
    | refine Holds.reg ?_
    | refine Holds.block ?_
    | refine GS.nil ?_
    | refine Gd.nil ?_
    | (refine GS.step (s' := ?_) ?_ ?_ ?_; rotate_left; (· exact rfl); (· (simp [go_sem, List.take_of_length_le] <;> with_reducible rfl)))
    | (refine GS.skip ?_ ?_ ?_; (· exact rfl); (· exact rfl))
    | (refine Gd.go (s' := ?_) ?_ ?_ ?_; rotate_left; (· exact rfl); (· (simp [go_sem, List.take_of_length_le] <;> with_reducible rfl)))
    | (refine Gd.skip ?_ ?_ ?_; (· exact rfl); (· exact rfl))
    | refine Gx.nil ?_
    | (refine Gx.go (s' := ?_) rfl ?_ ?_ ?_; rotate_left; (· exact rfl); (· (simp [go_sem, List.take_of_length_le] <;> with_reducible rfl)))
    | (refine Gx.skip rfl ?_ ?_ ?_; (· exact rfl); (· exact rfl))
    | (refine Gx.skipO rfl ?_ ?_ ?_; (· exact rfl); (· exact rfl))
    | (refine Gx.wo (s' := ?_) rfl ?_ ?_ ?_; rotate_left; (· exact rfl); (· (simp [go_sem, List.take_of_length_le] <;> with_reducible rfl)))
    | (refine Gx.skipW rfl ?_ ?_ ?_; (· exact rfl); (· exact rfl))
    | (refine Gx.skipH rfl ?_ ?_ ?_; (· exact rfl); (· exact rfl))
    | (refine Gx.hid (r := ?_) rfl ?_ ?_ ?_ ?_; rotate_left; (· exact rfl); (· exact rfl); (· (simp [go_sem, List.take_of_length_le] <;> with_reducible rfl)))
    | (refine Gx.wr (s' := ?_) rfl ?_ ?_ ?_ ?_; rotate_left; (· exact rfl); (· (simp [go_sem, List.take_of_length_le] <;> with_reducible rfl)); (· (simp [go_sem, List.take_of_length_le])))
    | fail
  refine Out.mk (xs := ?_) ?_ ?_ (by first | exact .inr rfl | exact .inl rfl)
  rotate_left
  · simp [go_sem, List.take_of_length_le] <;> with_reducible rfl
  exact .v _
end Go.Proofs.Ytabdnpgahdbciaa.En
end
section
namespace Go.Proofs.Ytabdnpgahdbciaa.En
open Go.RowKit
set_option linter.unusedSimpArgs false
set_option linter.unusedVariables false
set_option maxHeartbeats 4000000
theorem cmpIt_lt (x y : Item3) : decide (cmpIt x y < 0) = lessI x y := by
  rw [Bool.eq_iff_iff, decide_eq_true_iff, lessI_iff]
  unfold cmpIt orI orI orI orI cmpI
  constructor
  · intro h
    split at h <;> split at h <;> (try split at h) <;> (try split at h) <;> (try split at h) <;> (try split at h) <;> omega
  · intro h
    split <;> split <;> (try split) <;> (try split) <;> (try split) <;> (try split) <;> omega
theorem lessI_eq {x y : Item3} (h1 : lessI x y = false) (h2 : lessI y x = false) : x = y := by
  have a := mt (lessI_iff x y).2 (by simp [h1])
  have b := mt (lessI_iff y x).2 (by simp [h2])
  obtain ⟨x1, x2, x3⟩ := x
  obtain ⟨y1, y2, y3⟩ := y
  dsimp only at a b
  rw [show x1 = y1 by omega, show x2 = y2 by omega, show x3 = y3 by omega]
theorem lessI_ntrans {x y z : Item3} (h1 : lessI x y = false) (h2 : lessI y z = false) : lessI x z = false := by
  have a := mt (lessI_iff x y).2 (by simp [h1])
  have b := mt (lessI_iff y z).2 (by simp [h2])
  cases h : lessI x z with
  | false => rfl
  | true => have := (lessI_iff x z).1 h; omega
theorem sortedI {xs : List Item3} (hn : xs.Nodup) : SortI (xs.mergeSort fun x y => !lessI y x) ∧ ∀ z, z ∈ (xs.mergeSort fun x y => !lessI y x) ↔ z ∈ xs := by
  have hp := List.mergeSort_perm xs fun x y => !lessI y x
  have hs := List.pairwise_mergeSort (le := fun x y => !lessI y x) (fun a b c h1 h2 => by
    simp only [Bool.not_eq_true'] at *
    exact lessI_ntrans h2 h1) (fun a b => by
    cases h : lessI b a with
    | false => simp
    | true =>
      cases h2 : lessI a b with
      | false => simp
      | true => have := lessI_trans h h2; rw [lessI_irr] at this; cases this) xs
  have hnd : (xs.mergeSort fun x y => !lessI y x).Nodup := hp.nodup_iff.2 hn
  refine ⟨?_, fun z => hp.mem_iff⟩
  refine (List.pairwise_iff_getElem.2 fun i j hi hj hij => ?_)
  have h1 := List.pairwise_iff_getElem.1 hs i j hi hj hij
  have h2 := List.pairwise_iff_getElem.1 hnd i j hi hj hij
  cases h : lessI (xs.mergeSort fun x y => !lessI y x)[i] (xs.mergeSort fun x y => !lessI y x)[j] with
  | true => rfl
  | false => exact absurd (lessI_eq h (by simpa using h1)) h2
noncomputable def itemsV (g : GrammarT) (w : List Int) (k : Int) : List Item3 × Bool := if (goodG g && wordV g.2.1 w) && inR k 0 (w.length : Int) then (at3 (setsC g w) k.toNat, true) else ([], false)
theorem itemsV_len (g : GrammarT) (w : List Int) (k : Int) : (itemsV g w k).1.length ≤ 880 := by
  unfold itemsV
  split
  · rename_i h
    rw [Bool.and_eq_true, Bool.and_eq_true] at h
    have hw := wordV_ok (good_toksG h.1.1).2 h.1.2
    have := ((setsC_R h.1.1 hw.1).1.few h.1.1 hw.1 k.toNat)
    dsimp only
    omega
  · simp
theorem specItemsAt (g : GrammarT) (w : List Int) (k : Int) (hx : g.2.2.length < 4611686018427387904) (hs : ∀ e ∈ g.2.2, e.2.length < 4611686018427387904) (hw : w.length < 4611686018427387904) : Pure Try.prog 19 [.ag (grammarC g), .im 1 (ints w), .v (.int .i64 k)] (.tu [.im 3 (nodes (itemsV g w k).1), .v (.bool (itemsV g w k).2)]) := by
  have cg := goodWord g w hx hs hw
  have ci := l1In k 0 (w.length : Int)
  unfold itemsV
  refine Pure.mk (rs := [.tmp 6, .tmp 7]) (nt := 25) Try.func19 (by kernel_rfl) rfl rfl rfl (by simp) ?_
  simp only [sl, grammarC]
  repeat' first
    | (refine Holds.condT ?_ ?_; (· (simp [go_sem, List.take_of_length_le] <;> with_reducible rfl)))
    | (refine Holds.condF ?_ ?_; (· (simp [go_sem, List.take_of_length_le] <;> with_reducible rfl)))
    | refine Holds.seq ?_
    | refine Holds.skip ?_
    | refine Holds.exit ?_
    | refine Holds.ret ?_
    | refine thenA_normal ?_
    | refine thenA_exit ?_
    | refine thenA_ret ?_
    | refine inB_normal ?_
    | refine inB_ret ?_
    | refine inB_here ?_
    | (refine inB_past ?_ ?_; (· exact rfl))
    | refine Holds.reg ?_
    | refine Holds.block ?_
    | refine GS.nil ?_
    | (refine GS.step (s' := ?_) ?_ ?_ ?_; rotate_left; (· exact rfl); (· (simp [go_sem, List.take_of_length_le] <;> with_reducible rfl)))
    | (refine GS.skip ?_ ?_ ?_; (· exact rfl); (· exact rfl))
    | fail
  cases hgw : (goodG g && wordV g.2.1 w) with
  | false =>
    rw [hgw] at cg
    rw [Bool.false_and]
    refine GS.cc (cg) rfl rfl rfl rfl (by simp [go_sem, List.take_of_length_le, grammarC] <;> with_reducible rfl) rfl (by simp [go_sem, List.take_of_length_le, grammarC]) ?_
    repeat' first
      | (refine Holds.condT ?_ ?_; (· (simp [go_sem, List.take_of_length_le] <;> with_reducible rfl)))
      | (refine Holds.condF ?_ ?_; (· (simp [go_sem, List.take_of_length_le] <;> with_reducible rfl)))
      | refine Holds.seq ?_
      | refine Holds.skip ?_
      | refine Holds.exit ?_
      | refine Holds.ret ?_
      | refine thenA_normal ?_
      | refine thenA_exit ?_
      | refine thenA_ret ?_
      | refine inB_normal ?_
      | refine inB_ret ?_
      | refine inB_here ?_
      | (refine inB_past ?_ ?_; (· exact rfl))
      | refine Holds.reg ?_
      | refine Holds.block ?_
      | refine GS.nil ?_
      | (refine GS.step (s' := ?_) ?_ ?_ ?_; rotate_left; (· exact rfl); (· (simp [go_sem, List.take_of_length_le] <;> with_reducible rfl)))
      | (refine GS.skip ?_ ?_ ?_; (· exact rfl); (· exact rfl))
      | fail
    refine Out.mk (xs := ?_) ?_ ?_ (by first | exact .inr rfl | exact .inl rfl)
    rotate_left
    · simp [go_sem, List.take_of_length_le] <;> with_reducible rfl
    exact Fz.tuL (.cons (Fz.nl _) (.cons (.v _) .nil))
  | true =>
    rw [hgw] at cg
    rw [Bool.true_and]
    rw [Bool.and_eq_true] at hgw
    have hwv := wordV_ok (good_toksG hgw.1).2 hgw.2
    refine GS.cc (cg) rfl rfl rfl rfl (by simp [go_sem, List.take_of_length_le, grammarC] <;> with_reducible rfl) rfl (by simp [go_sem, List.take_of_length_le, grammarC]) ?_
    repeat' first
      | (refine Holds.condT ?_ ?_; (· (simp [go_sem, List.take_of_length_le, grammarC] <;> with_reducible rfl)))
      | (refine Holds.condF ?_ ?_; (· (simp [go_sem, List.take_of_length_le, grammarC] <;> with_reducible rfl)))
      | refine Holds.seq ?_
      | refine Holds.skip ?_
      | refine Holds.exit ?_
      | refine Holds.ret ?_
      | refine thenA_normal ?_
      | refine thenA_exit ?_
      | refine thenA_ret ?_
      | refine inB_normal ?_
      | refine inB_ret ?_
      | refine inB_here ?_
      | (refine inB_past ?_ ?_; (· exact rfl))
      | refine Holds.reg ?_
      | refine Holds.block ?_
      | refine GS.nil ?_
      | (refine GS.step (s' := ?_) ?_ ?_ ?_; rotate_left; (· exact rfl); (· (simp [go_sem, List.take_of_length_le, grammarC] <;> with_reducible rfl)))
      | (refine GS.skip ?_ ?_ ?_; (· exact rfl); (· exact rfl))
      | fail
    refine GS.cc (ci) rfl rfl rfl rfl (by simp [go_sem, List.take_of_length_le, grammarC] <;> with_reducible rfl) rfl (by simp [go_sem, List.take_of_length_le, grammarC]) ?_
    cases hin : inR k 0 (w.length : Int) with
    | false =>
      repeat' first
        | (refine Holds.condT ?_ ?_; (· (simp [go_sem, List.take_of_length_le] <;> with_reducible rfl)))
        | (refine Holds.condF ?_ ?_; (· (simp [go_sem, List.take_of_length_le] <;> with_reducible rfl)))
        | refine Holds.seq ?_
        | refine Holds.skip ?_
        | refine Holds.exit ?_
        | refine Holds.ret ?_
        | refine thenA_normal ?_
        | refine thenA_exit ?_
        | refine thenA_ret ?_
        | refine inB_normal ?_
        | refine inB_ret ?_
        | refine inB_here ?_
        | (refine inB_past ?_ ?_; (· exact rfl))
        | refine Holds.reg ?_
        | refine Holds.block ?_
        | refine GS.nil ?_
        | (refine GS.step (s' := ?_) ?_ ?_ ?_; rotate_left; (· exact rfl); (· (simp [go_sem, List.take_of_length_le] <;> with_reducible rfl)))
        | (refine GS.skip ?_ ?_ ?_; (· exact rfl); (· exact rfl))
        | fail
      refine Out.mk (xs := ?_) ?_ ?_ (by first | exact .inr rfl | exact .inl rfl)
      rotate_left
      · simp [go_sem, List.take_of_length_le] <;> with_reducible rfl
      exact Fz.tuL (.cons (Fz.nl _) (.cons (.v _) .nil))
    | true =>
      have hk : 0 ≤ k ∧ k ≤ (w.length : Int) := by simpa [inR] using hin
      obtain ⟨n, rfl⟩ : ∃ n : Nat, k = (n : Int) := ⟨k.toNat, by omega⟩
      have cs := l13Sets g hgw.1 w hwv.1
      have hS := setsC_R hgw.1 hwv.1
      have hlen : n < (setsC g w).length := by rw [hS.1.ln]; omega
      have hat := at3_get hlen
      rw [Int.toNat_natCast]
      simp only [if_true]
      generalize setsC g w = sets at cs hat hlen ⊢
      generalize at3 sets n = S at hat ⊢
      repeat' first
        | (refine Holds.condT ?_ ?_; (· (simp [go_sem, List.take_of_length_le, grammarC] <;> with_reducible rfl)))
        | (refine Holds.condF ?_ ?_; (· (simp [go_sem, List.take_of_length_le, grammarC] <;> with_reducible rfl)))
        | refine Holds.seq ?_
        | refine Holds.skip ?_
        | refine Holds.exit ?_
        | refine Holds.ret ?_
        | refine thenA_normal ?_
        | refine thenA_exit ?_
        | refine thenA_ret ?_
        | refine inB_normal ?_
        | refine inB_ret ?_
        | refine inB_here ?_
        | (refine inB_past ?_ ?_; (· exact rfl))
        | refine Holds.reg ?_
        | refine Holds.block ?_
        | refine GS.nil ?_
        | (refine GS.step (s' := ?_) ?_ ?_ ?_; rotate_left; (· exact rfl); (· (simp [go_sem, List.take_of_length_le, grammarC] <;> with_reducible rfl)))
        | (refine GS.skip ?_ ?_ ?_; (· exact rfl); (· exact rfl))
        | fail
      refine GS.cc (cs) rfl rfl rfl rfl (by simp [go_sem, List.take_of_length_le, grammarC] <;> with_reducible rfl) rfl (by simp [go_sem, List.take_of_length_le, grammarC]) ?_
      repeat' first
        | (refine Holds.condT ?_ ?_; (· (simp [go_sem, List.take_of_length_le, hlen, get_E hat, hat, itemssC] <;> with_reducible rfl)))
        | (refine Holds.condF ?_ ?_; (· (simp [go_sem, List.take_of_length_le, hlen, get_E hat, hat, itemssC] <;> with_reducible rfl)))
        | refine Holds.seq ?_
        | refine Holds.skip ?_
        | refine Holds.exit ?_
        | refine Holds.ret ?_
        | refine thenA_normal ?_
        | refine thenA_exit ?_
        | refine thenA_ret ?_
        | refine inB_normal ?_
        | refine inB_ret ?_
        | refine inB_here ?_
        | (refine inB_past ?_ ?_; (· exact rfl))
        | refine Holds.reg ?_
        | refine Holds.block ?_
        | refine GS.nil ?_
        | (refine GS.step (s' := ?_) ?_ ?_ ?_; rotate_left; (· exact rfl); (· (simp [go_sem, List.take_of_length_le, hlen, get_E hat, hat, itemssC] <;> with_reducible rfl)))
        | (refine GS.skip ?_ ?_ ?_; (· exact rfl); (· exact rfl))
        | fail
      refine Out.mk (xs := ?_) ?_ ?_ (by first | exact .inr rfl | exact .inl rfl)
      rotate_left
      · simp [go_sem, List.take_of_length_le] <;> with_reducible rfl
      exact Fz.tuL (.cons (.im _ _) (.cons (.v _) .nil))
end Go.Proofs.Ytabdnpgahdbciaa.En
end
