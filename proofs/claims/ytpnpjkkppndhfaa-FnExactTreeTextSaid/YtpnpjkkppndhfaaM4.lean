/- Own words and walks of this claim, part 4: what the program's functions compute, for all the arguments that are named; no further conditions. -/
import Derived.Test.YtpnpjkkppndhfaaM3
import Derived.Test.YtpnpjkkppndhfaaM2
import Derived.WideMake
section
namespace Go.Proofs.Ytpnpjkkppndhfaa.En
open Go.RowKit
set_option linter.unusedSimpArgs false
set_option linter.unusedVariables false
set_option maxHeartbeats 8000000
def askedV (g : GrammarT) (non : Int) (tree : List Int) : Bool := goodG g && inR non 0 (g.1 - 1) && decide (tree.length ≤ 60)
theorem l11Asked (g : GrammarT) (non : Int) (tree : List Int) (hx : g.2.2.length < 4611686018427387904) (hs : ∀ e ∈ g.2.2, e.2.length < 4611686018427387904) : Pure Try.prog 24 [.ag (grammarC g), .v (.int .i64 non), .im 1 (ints tree)] (.v (.bool (askedV g non tree))) := by
  refine Pure.mk (rs := [.tmp 6]) (nt := 21) Try.func24 (by kernel_rfl) rfl rfl rfl (by simp) ?_
  simp only [sl, grammarC]
  have c1 := specGoodG g hx hs
  unfold askedV
  generalize hg : goodG g = b at c1
  repeat' first
    | refine Holds.seq ?_
    | refine Holds.skip ?_
    | refine Holds.exit ?_
    | refine Holds.ret ?_
    | refine thenA_normal ?_
    | refine thenA_exit ?_
    | refine thenA_ret ?_
    | refine inB_normal ?_
    | refine inB_ret ?_
    | refine inB_here ?_
    | (refine inB_past ?_ ?_; (· exact rfl))
    | refine Holds.reg ?_
    | refine Holds.block ?_
    | refine GS.nil ?_
    | (refine GS.step (s' := ?_) ?_ ?_ ?_; rotate_left; (· exact rfl); (· (simp [go_sem, List.take_of_length_le] <;> with_reducible rfl)))
    | (refine GS.skip ?_ ?_ ?_; (· exact rfl); (· exact rfl))
    | fail
  refine GS.cc (c1) rfl rfl rfl rfl (by simp [go_sem, List.take_of_length_le, grammarC] <;> with_reducible rfl) rfl (by simp [go_sem, List.take_of_length_le, grammarC]) ?_
  repeat' first
    | refine Holds.seq ?_
    | refine Holds.skip ?_
    | refine Holds.exit ?_
    | refine Holds.ret ?_
    | refine thenA_normal ?_
    | refine thenA_exit ?_
    | refine thenA_ret ?_
    | refine inB_normal ?_
    | refine inB_ret ?_
    | refine inB_here ?_
    | (refine inB_past ?_ ?_; (· exact rfl))
    | refine Holds.reg ?_
    | refine Holds.block ?_
    | refine GS.nil ?_
    | (refine GS.step (s' := ?_) ?_ ?_ ?_; rotate_left; (· exact rfl); (· (simp [go_sem, List.take_of_length_le] <;> with_reducible rfl)))
    | (refine GS.skip ?_ ?_ ?_; (· exact rfl); (· exact rfl))
    | fail
  refine GS.guard (t := 9) rfl (fun h => ?_) (fun h => ?_)
  · subst h
    have hok := goodG_ok hg
    have hw : wr64 (g.1 - 1) = g.1 - 1 := wr64_id (by have := hok.n0; have := hok.n1; omega) (by have := hok.n0; have := hok.n1; omega)
    repeat' first
      | refine Holds.seq ?_
      | refine Holds.skip ?_
      | refine Holds.exit ?_
      | refine Holds.ret ?_
      | refine thenA_normal ?_
      | refine thenA_exit ?_
      | refine thenA_ret ?_
      | refine inB_normal ?_
      | refine inB_ret ?_
      | refine inB_here ?_
      | (refine inB_past ?_ ?_; (· exact rfl))
      | refine Holds.reg ?_
      | refine Holds.block ?_
      | refine GS.nil ?_
      | (refine GS.step (s' := ?_) ?_ ?_ ?_; rotate_left; (· exact rfl); (· (simp [go_sem, List.take_of_length_le, hw] <;> with_reducible rfl)))
      | (refine GS.skip ?_ ?_ ?_; (· exact rfl); (· exact rfl))
      | fail
    refine GS.cc (l1In non 0 (g.1 - 1)) rfl rfl rfl rfl (by simp [go_sem, List.take_of_length_le] <;> with_reducible rfl) rfl (by simp [go_sem, List.take_of_length_le]) ?_
    generalize inR non 0 (g.1 - 1) = b2
    repeat' first
      | refine Holds.seq ?_
      | refine Holds.skip ?_
      | refine Holds.exit ?_
      | refine Holds.ret ?_
      | refine thenA_normal ?_
      | refine thenA_exit ?_
      | refine thenA_ret ?_
      | refine inB_normal ?_
      | refine inB_ret ?_
      | refine inB_here ?_
      | (refine inB_past ?_ ?_; (· exact rfl))
      | refine Holds.reg ?_
      | refine Holds.block ?_
      | refine GS.nil ?_
      | (refine GS.step (s' := ?_) ?_ ?_ ?_; rotate_left; (· exact rfl); (· (simp [go_sem, List.take_of_length_le] <;> with_reducible rfl)))
      | (refine GS.skip ?_ ?_ ?_; (· exact rfl); (· exact rfl))
      | fail
    refine GS.guard (t := 16) rfl (fun h => ?_) (fun h => ?_)
    · subst h
      rw [show decide (tree.length ≤ 60) = decide ((tree.length : Int) ≤ 60) by rw [decide_eq_decide]; omega]
      repeat' first
        | refine Holds.seq ?_
        | refine Holds.skip ?_
        | refine Holds.exit ?_
        | refine Holds.ret ?_
        | refine thenA_normal ?_
        | refine thenA_exit ?_
        | refine thenA_ret ?_
        | refine inB_normal ?_
        | refine inB_ret ?_
        | refine inB_here ?_
        | (refine inB_past ?_ ?_; (· exact rfl))
        | refine Holds.reg ?_
        | refine Holds.block ?_
        | refine GS.nil ?_
        | (refine GS.step (s' := ?_) ?_ ?_ ?_; rotate_left; (· exact rfl); (· (simp [go_sem, List.take_of_length_le] <;> with_reducible rfl)))
        | (refine GS.skip ?_ ?_ ?_; (· exact rfl); (· exact rfl))
        | fail
      refine Out.mk (xs := ?_) ?_ ?_ (by first | exact .inr rfl | exact .inl rfl)
      rotate_left
      · simp [go_sem, List.take_of_length_le] <;> with_reducible rfl
      exact .v _
    · subst h
      repeat' first
        | refine Holds.seq ?_
        | refine Holds.skip ?_
        | refine Holds.exit ?_
        | refine Holds.ret ?_
        | refine thenA_normal ?_
        | refine thenA_exit ?_
        | refine thenA_ret ?_
        | refine inB_normal ?_
        | refine inB_ret ?_
        | refine inB_here ?_
        | (refine inB_past ?_ ?_; (· exact rfl))
        | refine Holds.reg ?_
        | refine Holds.block ?_
        | refine GS.nil ?_
        | (refine GS.step (s' := ?_) ?_ ?_ ?_; rotate_left; (· exact rfl); (· (simp [go_sem, List.take_of_length_le] <;> with_reducible rfl)))
        | (refine GS.skip ?_ ?_ ?_; (· exact rfl); (· exact rfl))
        | fail
      refine Out.mk (xs := ?_) ?_ ?_ (by first | exact .inr rfl | exact .inl rfl)
      rotate_left
      · simp [go_sem, List.take_of_length_le] <;> with_reducible rfl
      exact .v _
  · subst h
    repeat' first
      | refine Holds.seq ?_
      | refine Holds.skip ?_
      | refine Holds.exit ?_
      | refine Holds.ret ?_
      | refine thenA_normal ?_
      | refine thenA_exit ?_
      | refine thenA_ret ?_
      | refine inB_normal ?_
      | refine inB_ret ?_
      | refine inB_here ?_
      | (refine inB_past ?_ ?_; (· exact rfl))
      | refine Holds.reg ?_
      | refine Holds.block ?_
      | refine GS.nil ?_
      | (refine GS.step (s' := ?_) ?_ ?_ ?_; rotate_left; (· exact rfl); (· (simp [go_sem, List.take_of_length_le] <;> with_reducible rfl)))
      | (refine GS.skip ?_ ?_ ?_; (· exact rfl); (· exact rfl))
      | fail
    refine Out.mk (xs := ?_) ?_ ?_ (by first | exact .inr rfl | exact .inl rfl)
    rotate_left
    · simp [go_sem, List.take_of_length_le] <;> with_reducible rfl
    exact .v _
theorem getD_at {α : Type} {xs : List α} {i : Nat} {x d : α} (h : xs[i]? = some x) : xs.getD i d = x := by rw [List.getD_eq_getElem?_getD, h]; rfl
/-- The three ways in which a head is not good. -/
theorem head_cases {g : GrammarT} {tree : List Int} {non : Int} {at' : Nat} (h : headOk g tree non at' = false) : tree.length ≤ at' ∨ (∃ z, tree[at']? = some z ∧ inR z 0 ((g.2.2.length : Int) - 1) = false) ∨ ∃ (k : Nat) (r : RuleT), tree[at']? = some (k : Int) ∧ k < g.2.2.length ∧ inR (k : Int) 0 ((g.2.2.length : Int) - 1) = true ∧ g.2.2[k]? = some r ∧ r.1 ≠ non := by
  by_cases h1 : tree.length ≤ at'
  · exact .inl h1
  · have hz : tree[at']? = some tree[at'] := List.getElem?_eq_getElem (by omega)
    generalize tree[at'] = z at hz
    cases h2 : inR z 0 ((g.2.2.length : Int) - 1) with
    | false => exact .inr (.inl ⟨z, hz, h2⟩)
    | true =>
      have h2' : 0 ≤ z ∧ z ≤ (g.2.2.length : Int) - 1 := by simpa [inR] using h2
      obtain ⟨k, rfl⟩ : ∃ k : Nat, z = k := ⟨z.toNat, by omega⟩
      have hk : k < g.2.2.length := by omega
      refine .inr (.inr ⟨k, g.2.2[k], hz, hk, h2, List.getElem?_eq_getElem hk, fun e => ?_⟩)
      unfold headOk ruleAt at h
      rw [getD_at hz, h2, Int.toNat_natCast, getD_at (List.getElem?_eq_getElem hk), decide_eq_true e, decide_eq_true (by omega)] at h
      cases h
theorem head_good {g : GrammarT} {tree : List Int} {non : Int} {at' : Nat} (h : headOk g tree non at' = true) : ∃ (k : Nat) (r : RuleT), at' < tree.length ∧ tree[at']? = some (k : Int) ∧ k < g.2.2.length ∧ inR (k : Int) 0 ((g.2.2.length : Int) - 1) = true ∧ g.2.2[k]? = some r ∧ r.1 = non ∧ ruleAt g tree at' = r ∧ tree.getD at' 0 = k := by
  have hlt := headOk_lt h
  have hz : tree[at']? = some tree[at'] := List.getElem?_eq_getElem hlt
  generalize tree[at'] = z at hz
  unfold headOk ruleAt at h
  rw [getD_at hz] at h
  simp only [Bool.and_eq_true, decide_eq_true_eq] at h
  obtain ⟨⟨_, h2⟩, h3⟩ := h
  have h2' : 0 ≤ z ∧ z ≤ (g.2.2.length : Int) - 1 := by simpa [inR] using h2
  obtain ⟨k, rfl⟩ : ∃ k : Nat, z = k := ⟨z.toNat, by omega⟩
  have hk : k < g.2.2.length := by omega
  have hr : g.2.2[k]? = some g.2.2[k] := List.getElem?_eq_getElem hk
  rw [Int.toNat_natCast, getD_at hr] at h3
  exact ⟨k, g.2.2[k], hlt, hz, hk, h2, hr, h3, by unfold ruleAt; rw [getD_at hz, Int.toNat_natCast, getD_at hr], getD_at hz⟩
theorem endFail (g : GrammarT) (hg : OkG g) (tree : List Int) (ht : tree.length ≤ 60) (non : Int) (at' : Nat) (ha : at' ≤ 100) (hh : headOk g tree non at' = false) : Pure Try.prog 47 [.ag (grammarC g), .v (.int .i64 non), .im 1 (ints tree), .v (.int .i64 at')] (.v (.int .i64 (-1))) := by
  have hgl := hg.len
  have hw : wr64 ((g.2.2.length : Int) - 1) = (g.2.2.length : Int) - 1 := wr64_id (by omega) (by omega)
  rcases head_cases hh with h1 | ⟨z, hz, h2⟩ | ⟨k, r, hz, hk, h2, hr, h3⟩
  · refine Pure.mk (rs := [.tmp 8]) (nt := 68) Try.func47 (by kernel_rfl) rfl rfl rfl (by simp) ?_
    simp only [sl, grammarC]
    repeat' first
      | refine Holds.seq ?_
      | refine Holds.skip ?_
      | refine Holds.exit ?_
      | refine Holds.ret ?_
      | refine thenA_normal ?_
      | refine thenA_exit ?_
      | refine thenA_ret ?_
      | refine inB_normal ?_
      | refine inB_ret ?_
      | refine inB_here ?_
      | (refine inB_past ?_ ?_; (· exact rfl))
      | refine Holds.reg ?_
      | refine Holds.block ?_
      | refine GS.nil ?_
      | refine Gd.nil ?_
      | (refine Holds.any mixed ?_ ?_; (· kernel_rfl))
      | (refine GS.step (s' := ?_) ?_ ?_ ?_; rotate_left; (· exact rfl); (· (simp [go_sem, List.take_of_length_le, h1] <;> with_reducible rfl)))
      | (refine GS.skip ?_ ?_ ?_; (· exact rfl); (· exact rfl))
      | (refine Gd.go (s' := ?_) ?_ ?_ ?_; rotate_left; (· exact rfl); (· (simp [go_sem, List.take_of_length_le, h1] <;> with_reducible rfl)))
      | (refine Gd.skip ?_ ?_ ?_; (· exact rfl); (· exact rfl))
      | fail
    refine Holds.cond rfl (fun h => ?_) (fun h => ?_)
    · repeat' first
        | refine Holds.seq ?_
        | refine Holds.skip ?_
        | refine Holds.exit ?_
        | refine Holds.ret ?_
        | refine thenA_normal ?_
        | refine thenA_exit ?_
        | refine thenA_ret ?_
        | refine inB_normal ?_
        | refine inB_ret ?_
        | refine inB_here ?_
        | (refine inB_past ?_ ?_; (· exact rfl))
        | refine Holds.reg ?_
        | refine Holds.block ?_
        | refine GS.nil ?_
        | refine Gd.nil ?_
        | (refine Holds.any mixed ?_ ?_; (· kernel_rfl))
        | (refine GS.step (s' := ?_) ?_ ?_ ?_; rotate_left; (· exact rfl); (· (simp [go_sem, List.take_of_length_le] <;> with_reducible rfl)))
        | (refine GS.skip ?_ ?_ ?_; (· exact rfl); (· exact rfl))
        | (refine Gd.go (s' := ?_) ?_ ?_ ?_; rotate_left; (· exact rfl); (· (simp [go_sem, List.take_of_length_le] <;> with_reducible rfl)))
        | (refine Gd.skip ?_ ?_ ?_; (· exact rfl); (· exact rfl))
        | fail
      refine Out.mk (xs := ?_) ?_ ?_ (by first | exact .inr rfl | exact .inl rfl)
      rotate_left
      · simp [go_sem, List.take_of_length_le] <;> with_reducible rfl
      exact .v _
    · cases h
  · refine Pure.mk (rs := [.tmp 8]) (nt := 68) Try.func47 (by kernel_rfl) rfl rfl rfl (by simp) ?_
    simp only [sl, grammarC]
    have hlt : at' < tree.length := (List.getElem?_eq_some_iff.1 hz).1
    repeat' first
      | refine Holds.seq ?_
      | refine Holds.skip ?_
      | refine Holds.exit ?_
      | refine Holds.ret ?_
      | refine thenA_normal ?_
      | refine thenA_exit ?_
      | refine thenA_ret ?_
      | refine inB_normal ?_
      | refine inB_ret ?_
      | refine inB_here ?_
      | (refine inB_past ?_ ?_; (· exact rfl))
      | refine Holds.reg ?_
      | refine Holds.block ?_
      | refine GS.nil ?_
      | refine Gd.nil ?_
      | (refine Holds.any mixed ?_ ?_; (· kernel_rfl))
      | (refine GS.step (s' := ?_) ?_ ?_ ?_; rotate_left; (· exact rfl); (· (simp [go_sem, List.take_of_length_le, show ¬ tree.length ≤ at' by omega, hz, hw] <;> with_reducible rfl)))
      | (refine GS.skip ?_ ?_ ?_; (· exact rfl); (· exact rfl))
      | (refine Gd.go (s' := ?_) ?_ ?_ ?_; rotate_left; (· exact rfl); (· (simp [go_sem, List.take_of_length_le, show ¬ tree.length ≤ at' by omega, hz, hw] <;> with_reducible rfl)))
      | (refine Gd.skip ?_ ?_ ?_; (· exact rfl); (· exact rfl))
      | fail
    first | refine GS.cc (l1In z 0 ((g.2.2.length : Int) - 1)) rfl rfl rfl rfl (by simp [go_sem, List.take_of_length_le] <;> with_reducible rfl) rfl (by simp [go_sem, List.take_of_length_le]) ?_ | refine Gd.cc (l1In z 0 ((g.2.2.length : Int) - 1)) rfl rfl rfl rfl (by simp [go_sem, List.take_of_length_le] <;> with_reducible rfl) rfl (by simp [go_sem, List.take_of_length_le]) ?_
    rw [h2]
    repeat' first
      | refine Holds.seq ?_
      | refine Holds.skip ?_
      | refine Holds.exit ?_
      | refine Holds.ret ?_
      | refine thenA_normal ?_
      | refine thenA_exit ?_
      | refine thenA_ret ?_
      | refine inB_normal ?_
      | refine inB_ret ?_
      | refine inB_here ?_
      | (refine inB_past ?_ ?_; (· exact rfl))
      | refine Holds.reg ?_
      | refine Holds.block ?_
      | refine GS.nil ?_
      | refine Gd.nil ?_
      | (refine Holds.any mixed ?_ ?_; (· kernel_rfl))
      | (refine GS.step (s' := ?_) ?_ ?_ ?_; rotate_left; (· exact rfl); (· (simp [go_sem, List.take_of_length_le] <;> with_reducible rfl)))
      | (refine GS.skip ?_ ?_ ?_; (· exact rfl); (· exact rfl))
      | (refine Gd.go (s' := ?_) ?_ ?_ ?_; rotate_left; (· exact rfl); (· (simp [go_sem, List.take_of_length_le] <;> with_reducible rfl)))
      | (refine Gd.skip ?_ ?_ ?_; (· exact rfl); (· exact rfl))
      | fail
    refine Holds.cond rfl (fun h => ?_) (fun h => ?_)
    · repeat' first
        | refine Holds.seq ?_
        | refine Holds.skip ?_
        | refine Holds.exit ?_
        | refine Holds.ret ?_
        | refine thenA_normal ?_
        | refine thenA_exit ?_
        | refine thenA_ret ?_
        | refine inB_normal ?_
        | refine inB_ret ?_
        | refine inB_here ?_
        | (refine inB_past ?_ ?_; (· exact rfl))
        | refine Holds.reg ?_
        | refine Holds.block ?_
        | refine GS.nil ?_
        | refine Gd.nil ?_
        | (refine Holds.any mixed ?_ ?_; (· kernel_rfl))
        | (refine GS.step (s' := ?_) ?_ ?_ ?_; rotate_left; (· exact rfl); (· (simp [go_sem, List.take_of_length_le] <;> with_reducible rfl)))
        | (refine GS.skip ?_ ?_ ?_; (· exact rfl); (· exact rfl))
        | (refine Gd.go (s' := ?_) ?_ ?_ ?_; rotate_left; (· exact rfl); (· (simp [go_sem, List.take_of_length_le] <;> with_reducible rfl)))
        | (refine Gd.skip ?_ ?_ ?_; (· exact rfl); (· exact rfl))
        | fail
      refine Out.mk (xs := ?_) ?_ ?_ (by first | exact .inr rfl | exact .inl rfl)
      rotate_left
      · simp [go_sem, List.take_of_length_le] <;> with_reducible rfl
      exact .v _
    · cases h
  · refine Pure.mk (rs := [.tmp 8]) (nt := 68) Try.func47 (by kernel_rfl) rfl rfl rfl (by simp) ?_
    simp only [sl, grammarC]
    have hlt : at' < tree.length := (List.getElem?_eq_some_iff.1 hz).1
    have h3b : (r.1 != non) = true := by simpa using h3
    repeat' first
      | refine Holds.seq ?_
      | refine Holds.skip ?_
      | refine Holds.exit ?_
      | refine Holds.ret ?_
      | refine thenA_normal ?_
      | refine thenA_exit ?_
      | refine thenA_ret ?_
      | refine inB_normal ?_
      | refine inB_ret ?_
      | refine inB_here ?_
      | (refine inB_past ?_ ?_; (· exact rfl))
      | refine Holds.reg ?_
      | refine Holds.block ?_
      | refine GS.nil ?_
      | refine Gd.nil ?_
      | (refine Holds.any mixed ?_ ?_; (· kernel_rfl))
      | (refine GS.step (s' := ?_) ?_ ?_ ?_; rotate_left; (· exact rfl); (· (simp [go_sem, List.take_of_length_le, show ¬ tree.length ≤ at' by omega, hz, hw] <;> with_reducible rfl)))
      | (refine GS.skip ?_ ?_ ?_; (· exact rfl); (· exact rfl))
      | (refine Gd.go (s' := ?_) ?_ ?_ ?_; rotate_left; (· exact rfl); (· (simp [go_sem, List.take_of_length_le, show ¬ tree.length ≤ at' by omega, hz, hw] <;> with_reducible rfl)))
      | (refine Gd.skip ?_ ?_ ?_; (· exact rfl); (· exact rfl))
      | fail
    first | refine GS.cc (l1In (k : Int) 0 ((g.2.2.length : Int) - 1)) rfl rfl rfl rfl (by simp [go_sem, List.take_of_length_le] <;> with_reducible rfl) rfl (by simp [go_sem, List.take_of_length_le]) ?_ | refine Gd.cc (l1In (k : Int) 0 ((g.2.2.length : Int) - 1)) rfl rfl rfl rfl (by simp [go_sem, List.take_of_length_le] <;> with_reducible rfl) rfl (by simp [go_sem, List.take_of_length_le]) ?_
    rw [h2]
    repeat' first
      | refine Holds.seq ?_
      | refine Holds.skip ?_
      | refine Holds.exit ?_
      | refine Holds.ret ?_
      | refine thenA_normal ?_
      | refine thenA_exit ?_
      | refine thenA_ret ?_
      | refine inB_normal ?_
      | refine inB_ret ?_
      | refine inB_here ?_
      | (refine inB_past ?_ ?_; (· exact rfl))
      | refine Holds.reg ?_
      | refine Holds.block ?_
      | refine GS.nil ?_
      | refine Gd.nil ?_
      | (refine Holds.any mixed ?_ ?_; (· kernel_rfl))
      | (refine GS.step (s' := ?_) ?_ ?_ ?_; rotate_left; (· exact rfl); (· (simp [go_sem, List.take_of_length_le, show ¬ tree.length ≤ at' by omega, hz, hr, ruleC, h3b] <;> with_reducible rfl)))
      | (refine GS.skip ?_ ?_ ?_; (· exact rfl); (· exact rfl))
      | (refine Gd.go (s' := ?_) ?_ ?_ ?_; rotate_left; (· exact rfl); (· (simp [go_sem, List.take_of_length_le, show ¬ tree.length ≤ at' by omega, hz, hr, ruleC, h3b] <;> with_reducible rfl)))
      | (refine Gd.skip ?_ ?_ ?_; (· exact rfl); (· exact rfl))
      | fail
    refine Holds.cond rfl (fun h => ?_) (fun h => ?_)
    · repeat' first
        | refine Holds.seq ?_
        | refine Holds.skip ?_
        | refine Holds.exit ?_
        | refine Holds.ret ?_
        | refine thenA_normal ?_
        | refine thenA_exit ?_
        | refine thenA_ret ?_
        | refine inB_normal ?_
        | refine inB_ret ?_
        | refine inB_here ?_
        | (refine inB_past ?_ ?_; (· exact rfl))
        | refine Holds.reg ?_
        | refine Holds.block ?_
        | refine GS.nil ?_
        | refine Gd.nil ?_
        | (refine Holds.any mixed ?_ ?_; (· kernel_rfl))
        | (refine GS.step (s' := ?_) ?_ ?_ ?_; rotate_left; (· exact rfl); (· (simp [go_sem, List.take_of_length_le] <;> with_reducible rfl)))
        | (refine GS.skip ?_ ?_ ?_; (· exact rfl); (· exact rfl))
        | (refine Gd.go (s' := ?_) ?_ ?_ ?_; rotate_left; (· exact rfl); (· (simp [go_sem, List.take_of_length_le] <;> with_reducible rfl)))
        | (refine Gd.skip ?_ ?_ ?_; (· exact rfl); (· exact rfl))
        | fail
      refine Out.mk (xs := ?_) ?_ ?_ (by first | exact .inr rfl | exact .inl rfl)
      rotate_left
      · simp [go_sem, List.take_of_length_le] <;> with_reducible rfl
      exact .v _
    · cases h
theorem l11End (g : GrammarT) (hg : OkG g) (tree : List Int) (ht : tree.length ≤ 60) : ∀ (f : Nat) (non : Int) (at' : Nat), at' ≤ 100 → tree.length < f + at' → Pure Try.prog 47 [.ag (grammarC g), .v (.int .i64 non), .im 1 (ints tree), .v (.int .i64 at')] (.v (.int .i64 (endF g tree f non at'))) := by
  intro f
  induction f with
  | zero =>
    intro non at' ha hf
    have hh : headOk g tree non at' = false := by
      cases e : headOk g tree non at' with
      | false => rfl
      | true => have := headOk_lt e; omega
    exact endFail g hg tree ht non at' ha hh
  | succ f ih =>
    intro non at' ha hf
    cases hh : headOk g tree non at' with
    | false =>
      rw [show endF g tree (f + 1) non at' = -1 by unfold endF; rw [hh]; rfl]
      exact endFail g hg tree ht non at' ha hh
    | true =>
      obtain ⟨k, r, hlt, hz, hk, h2, hr, h3, hra, _⟩ := head_good hh
      rw [show endF g tree (f + 1) non at' = endK (endF g tree f) r.2 (at' + 1) by unfold endF; rw [hh, hra]; rfl]
      have hrm := List.mem_of_getElem? hr
      have h4 := hg.r4 _ hrm
      have hgl := hg.len
      have hw : wr64 ((g.2.2.length : Int) - 1) = (g.2.2.length : Int) - 1 := wr64_id (by omega) (by omega)
      have hw1 : wr64 ((at' : Int) + 1) = ((at' + 1 : Nat) : Int) := wr64_id (by omega) (by omega)
      have h3b : (r.1 != non) = false := by simpa using h3
      obtain ⟨l, right⟩ := r
      dsimp only at h3 h4 h3b
      refine Pure.mk (rs := [.tmp 8]) (nt := 68) Try.func47 (by kernel_rfl) rfl rfl rfl (by simp) ?_
      simp only [sl, grammarC]
      repeat' first
        | refine Holds.seq ?_
        | refine Holds.skip ?_
        | refine Holds.exit ?_
        | refine Holds.ret ?_
        | refine thenA_normal ?_
        | refine thenA_exit ?_
        | refine thenA_ret ?_
        | refine inB_normal ?_
        | refine inB_ret ?_
        | refine inB_here ?_
        | (refine inB_past ?_ ?_; (· exact rfl))
        | refine Holds.reg ?_
        | refine Holds.block ?_
        | refine GS.nil ?_
        | refine Gd.nil ?_
        | (refine Holds.any mixed ?_ ?_; (· kernel_rfl))
        | (refine GS.step (s' := ?_) ?_ ?_ ?_; rotate_left; (· exact rfl); (· (simp [go_sem, List.take_of_length_le, show ¬ tree.length ≤ at' by omega, hz, hw] <;> with_reducible rfl)))
        | (refine GS.skip ?_ ?_ ?_; (· exact rfl); (· exact rfl))
        | (refine Gd.go (s' := ?_) ?_ ?_ ?_; rotate_left; (· exact rfl); (· (simp [go_sem, List.take_of_length_le, show ¬ tree.length ≤ at' by omega, hz, hw] <;> with_reducible rfl)))
        | (refine Gd.skip ?_ ?_ ?_; (· exact rfl); (· exact rfl))
        | fail
      first | refine GS.cc (l1In (k : Int) 0 ((g.2.2.length : Int) - 1)) rfl rfl rfl rfl (by simp [go_sem, List.take_of_length_le] <;> with_reducible rfl) rfl (by simp [go_sem, List.take_of_length_le]) ?_ | refine Gd.cc (l1In (k : Int) 0 ((g.2.2.length : Int) - 1)) rfl rfl rfl rfl (by simp [go_sem, List.take_of_length_le] <;> with_reducible rfl) rfl (by simp [go_sem, List.take_of_length_le]) ?_
      rw [h2]
      repeat' first
        | refine Holds.seq ?_
        | refine Holds.skip ?_
        | refine Holds.exit ?_
        | refine Holds.ret ?_
        | refine thenA_normal ?_
        | refine thenA_exit ?_
        | refine thenA_ret ?_
        | refine inB_normal ?_
        | refine inB_ret ?_
        | refine inB_here ?_
        | (refine inB_past ?_ ?_; (· exact rfl))
        | refine Holds.reg ?_
        | refine Holds.block ?_
        | refine GS.nil ?_
        | refine Gd.nil ?_
        | (refine Holds.any mixed ?_ ?_; (· kernel_rfl))
        | (refine GS.step (s' := ?_) ?_ ?_ ?_; rotate_left; (· exact rfl); (· (simp [go_sem, List.take_of_length_le, show ¬ tree.length ≤ at' by omega, hz, hr, ruleC, h3b] <;> with_reducible rfl)))
        | (refine GS.skip ?_ ?_ ?_; (· exact rfl); (· exact rfl))
        | (refine Gd.go (s' := ?_) ?_ ?_ ?_; rotate_left; (· exact rfl); (· (simp [go_sem, List.take_of_length_le, show ¬ tree.length ≤ at' by omega, hz, hr, ruleC, h3b] <;> with_reducible rfl)))
        | (refine Gd.skip ?_ ?_ ?_; (· exact rfl); (· exact rfl))
        | fail
      refine Holds.cond rfl (fun h => ?_) (fun h => ?_)
      · first | (cases h; done) | (simp at h; done) | (simp_all; done)
      clear h
      repeat' first
        | refine Holds.seq ?_
        | refine Holds.skip ?_
        | refine Holds.exit ?_
        | refine Holds.ret ?_
        | refine thenA_normal ?_
        | refine thenA_exit ?_
        | refine thenA_ret ?_
        | refine inB_normal ?_
        | refine inB_ret ?_
        | refine inB_here ?_
        | (refine inB_past ?_ ?_; (· exact rfl))
        | refine Holds.reg ?_
        | refine Holds.block ?_
        | refine GS.nil ?_
        | refine Gd.nil ?_
        | (refine Holds.any mixed ?_ ?_; (· kernel_rfl))
        | (refine GS.step (s' := ?_) ?_ ?_ ?_; rotate_left; (· exact rfl); (· (simp [go_sem, List.take_of_length_le, hz, hr, ruleC, hw1] <;> with_reducible rfl)))
        | (refine GS.skip ?_ ?_ ?_; (· exact rfl); (· exact rfl))
        | (refine Gd.go (s' := ?_) ?_ ?_ ?_; rotate_left; (· exact rfl); (· (simp [go_sem, List.take_of_length_le, hz, hr, ruleC, hw1] <;> with_reducible rfl)))
        | (refine Gd.skip ?_ ?_ ?_; (· exact rfl); (· exact rfl))
        | fail
      generalize hR : endK (endF g tree f) right (at' + 1) = R
      refine Holds.loop (ι := Nat × Nat) (fun i => ⟨[(2, .im 1 (ints tree)), (4, .pb 0 3 0 0), (9, .v (.int .i64 i.2)), (51, .im 1 (ints right)), (52, .v (.int .i64 right.length)), (53, .v (.int .i64 i.1))], [(0, ⟨31, 3, [grammarC g]⟩)], 1⟩)
        (fun i => i.1 ≤ right.length ∧ endK (endF g tree f) (right.drop i.1) i.2 = R ∧ at' + 1 ≤ i.2 ∧ i.2 ≤ tree.length) (fun i => right.length - i.1) (0, at' + 1) ⟨Nat.zero_le _, hR, Nat.le_refl _, by dsimp only; omega⟩ ?_ ?_
      · exact Cov.ofn (id) rfl (by simp [go_sem, List.take_of_length_le, ren, ren1, okr, okr1, ChkT, ChkN, BlkN, nf, grammarC]) (by simp [go_sem, List.take_of_length_le, ren, ren1, okr, okr1, ChkT, ChkN, BlkN, nf, grammarC])
      rintro ⟨j, e⟩ ⟨hj, hfold, he0, he1⟩
      dsimp only at hj hfold he0 he1 ⊢
      have step : wr64 ((j : Int) + 1) = ((j + 1 : Nat) : Int) := wr64_id (by omega) (by omega)
      repeat' first
        | refine Holds.seq ?_
        | refine Holds.skip ?_
        | refine Holds.exit ?_
        | refine Holds.ret ?_
        | refine thenA_normal ?_
        | refine thenA_exit ?_
        | refine thenA_ret ?_
        | refine inB_normal ?_
        | refine inB_ret ?_
        | refine inB_here ?_
        | (refine inB_past ?_ ?_; (· exact rfl))
        | refine Holds.reg ?_
        | refine Holds.block ?_
        | refine GS.nil ?_
        | refine Gd.nil ?_
        | (refine Holds.any mixed ?_ ?_; (· kernel_rfl))
        | (refine GS.step (s' := ?_) ?_ ?_ ?_; rotate_left; (· exact rfl); (· (simp [go_sem, List.take_of_length_le] <;> with_reducible rfl)))
        | (refine GS.skip ?_ ?_ ?_; (· exact rfl); (· exact rfl))
        | (refine Gd.go (s' := ?_) ?_ ?_ ?_; rotate_left; (· exact rfl); (· (simp [go_sem, List.take_of_length_le] <;> with_reducible rfl)))
        | (refine Gd.skip ?_ ?_ ?_; (· exact rfl); (· exact rfl))
        | fail
      refine Holds.cond rfl (fun hl => ?_) (fun hl => ?_)
      · have hjt : j < right.length := by simpa using hl
        have hxj : right[j]? = some right[j] := List.getElem?_eq_getElem hjt
        rw [List.drop_eq_getElem_cons hjt] at hfold
        unfold endK at hfold
        generalize right[j] = x at hxj hfold
        repeat' first
          | refine Holds.seq ?_
          | refine Holds.skip ?_
          | refine Holds.exit ?_
          | refine Holds.ret ?_
          | refine thenA_normal ?_
          | refine thenA_exit ?_
          | refine thenA_ret ?_
          | refine inB_normal ?_
          | refine inB_ret ?_
          | refine inB_here ?_
          | (refine inB_past ?_ ?_; (· exact rfl))
          | refine Holds.reg ?_
          | refine Holds.block ?_
          | refine GS.nil ?_
          | refine Gd.nil ?_
          | (refine Holds.any mixed ?_ ?_; (· kernel_rfl))
          | (refine GS.step (s' := ?_) ?_ ?_ ?_; rotate_left; (· exact rfl); (· (simp [go_sem, List.take_of_length_le, hxj] <;> with_reducible rfl)))
          | (refine GS.skip ?_ ?_ ?_; (· exact rfl); (· exact rfl))
          | (refine Gd.go (s' := ?_) ?_ ?_ ?_; rotate_left; (· exact rfl); (· (simp [go_sem, List.take_of_length_le, hxj] <;> with_reducible rfl)))
          | (refine Gd.skip ?_ ?_ ?_; (· exact rfl); (· exact rfl))
          | fail
        refine Holds.cond rfl (fun hx => ?_) (fun hx => ?_)
        · have hx : x < 0 := by simpa using hx
          rw [if_pos hx] at hfold
          repeat' first
            | refine Holds.seq ?_
            | refine Holds.skip ?_
            | refine Holds.exit ?_
            | refine Holds.ret ?_
            | refine thenA_normal ?_
            | refine thenA_exit ?_
            | refine thenA_ret ?_
            | refine inB_normal ?_
            | refine inB_ret ?_
            | refine inB_here ?_
            | (refine inB_past ?_ ?_; (· exact rfl))
            | refine Holds.reg ?_
            | refine Holds.block ?_
            | refine GS.nil ?_
            | refine Gd.nil ?_
            | (refine Holds.any mixed ?_ ?_; (· kernel_rfl))
            | (refine GS.step (s' := ?_) ?_ ?_ ?_; rotate_left; (· exact rfl); (· (simp [go_sem, List.take_of_length_le] <;> with_reducible rfl)))
            | (refine GS.skip ?_ ?_ ?_; (· exact rfl); (· exact rfl))
            | (refine Gd.go (s' := ?_) ?_ ?_ ?_; rotate_left; (· exact rfl); (· (simp [go_sem, List.take_of_length_le] <;> with_reducible rfl)))
            | (refine Gd.skip ?_ ?_ ?_; (· exact rfl); (· exact rfl))
            | fail
          refine ⟨(j + 1, e), ⟨by dsimp only; omega, hfold, he0, he1⟩, by dsimp only; omega, ?_⟩
          rw [step]
          exact Cov.ofn (id) rfl (by simp [go_sem, List.take_of_length_le, ren, ren1, okr, okr1, ChkT, ChkN, BlkN, nf, grammarC]) (by simp [go_sem, List.take_of_length_le, ren, ren1, okr, okr1, ChkT, ChkN, BlkN, nf, grammarC])
        have hx : ¬ x < 0 := by simpa using hx
        rw [if_neg hx] at hfold
        have hp := endF_props hg tree f x e
        have hi := ih x e (by omega) (by omega)
        generalize endF g tree f x e = q at hfold hp hi
        repeat' first
          | refine Holds.seq ?_
          | refine Holds.skip ?_
          | refine Holds.exit ?_
          | refine Holds.ret ?_
          | refine thenA_normal ?_
          | refine thenA_exit ?_
          | refine thenA_ret ?_
          | refine inB_normal ?_
          | refine inB_ret ?_
          | refine inB_here ?_
          | (refine inB_past ?_ ?_; (· exact rfl))
          | refine Holds.reg ?_
          | refine Holds.block ?_
          | refine GS.nil ?_
          | refine Gd.nil ?_
          | (refine Holds.any mixed ?_ ?_; (· kernel_rfl))
          | (refine GS.step (s' := ?_) ?_ ?_ ?_; rotate_left; (· exact rfl); (· (simp [go_sem, List.take_of_length_le, grammarC] <;> with_reducible rfl)))
          | (refine GS.skip ?_ ?_ ?_; (· exact rfl); (· exact rfl))
          | (refine Gd.go (s' := ?_) ?_ ?_ ?_; rotate_left; (· exact rfl); (· (simp [go_sem, List.take_of_length_le, grammarC] <;> with_reducible rfl)))
          | (refine Gd.skip ?_ ?_ ?_; (· exact rfl); (· exact rfl))
          | fail
        first | refine GS.cc (hi) rfl rfl rfl rfl (by simp [go_sem, List.take_of_length_le, grammarC] <;> with_reducible rfl) rfl (by simp [go_sem, List.take_of_length_le, grammarC]) ?_ | refine Gd.cc (hi) rfl rfl rfl rfl (by simp [go_sem, List.take_of_length_le, grammarC] <;> with_reducible rfl) rfl (by simp [go_sem, List.take_of_length_le, grammarC]) ?_
        repeat' first
          | refine Holds.seq ?_
          | refine Holds.skip ?_
          | refine Holds.exit ?_
          | refine Holds.ret ?_
          | refine thenA_normal ?_
          | refine thenA_exit ?_
          | refine thenA_ret ?_
          | refine inB_normal ?_
          | refine inB_ret ?_
          | refine inB_here ?_
          | (refine inB_past ?_ ?_; (· exact rfl))
          | refine Holds.reg ?_
          | refine Holds.block ?_
          | refine GS.nil ?_
          | refine Gd.nil ?_
          | (refine Holds.any mixed ?_ ?_; (· kernel_rfl))
          | (refine GS.step (s' := ?_) ?_ ?_ ?_; rotate_left; (· exact rfl); (· (simp [go_sem, List.take_of_length_le] <;> with_reducible rfl)))
          | (refine GS.skip ?_ ?_ ?_; (· exact rfl); (· exact rfl))
          | (refine Gd.go (s' := ?_) ?_ ?_ ?_; rotate_left; (· exact rfl); (· (simp [go_sem, List.take_of_length_le] <;> with_reducible rfl)))
          | (refine Gd.skip ?_ ?_ ?_; (· exact rfl); (· exact rfl))
          | fail
        refine Holds.cond rfl (fun hq => ?_) (fun hq => ?_)
        · have hq : q < 0 := by simpa using hq
          rw [if_pos hq] at hfold
          subst hfold
          repeat' first
            | refine Holds.seq ?_
            | refine Holds.skip ?_
            | refine Holds.exit ?_
            | refine Holds.ret ?_
            | refine thenA_normal ?_
            | refine thenA_exit ?_
            | refine thenA_ret ?_
            | refine inB_normal ?_
            | refine inB_ret ?_
            | refine inB_here ?_
            | (refine inB_past ?_ ?_; (· exact rfl))
            | refine Holds.reg ?_
            | refine Holds.block ?_
            | refine GS.nil ?_
            | refine Gd.nil ?_
            | (refine Holds.any mixed ?_ ?_; (· kernel_rfl))
            | (refine GS.step (s' := ?_) ?_ ?_ ?_; rotate_left; (· exact rfl); (· (simp [go_sem, List.take_of_length_le] <;> with_reducible rfl)))
            | (refine GS.skip ?_ ?_ ?_; (· exact rfl); (· exact rfl))
            | (refine Gd.go (s' := ?_) ?_ ?_ ?_; rotate_left; (· exact rfl); (· (simp [go_sem, List.take_of_length_le] <;> with_reducible rfl)))
            | (refine Gd.skip ?_ ?_ ?_; (· exact rfl); (· exact rfl))
            | fail
          refine Out.mk (xs := ?_) ?_ ?_ (by first | exact .inr rfl | exact .inl rfl)
          rotate_left
          · simp [go_sem, List.take_of_length_le] <;> with_reducible rfl
          exact .v _
        · have hq : ¬ q < 0 := by simpa using hq
          rw [if_neg hq] at hfold
          obtain ⟨p0, p1⟩ := hp hq
          obtain ⟨q, rfl⟩ : ∃ n : Nat, q = n := ⟨q.toNat, by omega⟩
          rw [Int.toNat_natCast] at hfold
          repeat' first
            | refine Holds.seq ?_
            | refine Holds.skip ?_
            | refine Holds.exit ?_
            | refine Holds.ret ?_
            | refine thenA_normal ?_
            | refine thenA_exit ?_
            | refine thenA_ret ?_
            | refine inB_normal ?_
            | refine inB_ret ?_
            | refine inB_here ?_
            | (refine inB_past ?_ ?_; (· exact rfl))
            | refine Holds.reg ?_
            | refine Holds.block ?_
            | refine GS.nil ?_
            | refine Gd.nil ?_
            | (refine Holds.any mixed ?_ ?_; (· kernel_rfl))
            | (refine GS.step (s' := ?_) ?_ ?_ ?_; rotate_left; (· exact rfl); (· (simp [go_sem, List.take_of_length_le] <;> with_reducible rfl)))
            | (refine GS.skip ?_ ?_ ?_; (· exact rfl); (· exact rfl))
            | (refine Gd.go (s' := ?_) ?_ ?_ ?_; rotate_left; (· exact rfl); (· (simp [go_sem, List.take_of_length_le] <;> with_reducible rfl)))
            | (refine Gd.skip ?_ ?_ ?_; (· exact rfl); (· exact rfl))
            | fail
          refine ⟨(j + 1, q), ⟨by dsimp only; omega, hfold, by dsimp only; omega, by dsimp only; omega⟩, by dsimp only; omega, ?_⟩
          rw [step]
          exact Cov.ofn (id) rfl (by simp [go_sem, List.take_of_length_le, ren, ren1, okr, okr1, ChkT, ChkN, BlkN, nf, grammarC]) (by simp [go_sem, List.take_of_length_le, ren, ren1, okr, okr1, ChkT, ChkN, BlkN, nf, grammarC])
      · have hje : j = right.length := by
          have : ¬ j < right.length := by simpa using hl
          omega
        subst hje
        rw [List.drop_length] at hfold
        unfold endK at hfold
        subst hfold
        repeat' first
          | refine Holds.seq ?_
          | refine Holds.skip ?_
          | refine Holds.exit ?_
          | refine Holds.ret ?_
          | refine thenA_normal ?_
          | refine thenA_exit ?_
          | refine thenA_ret ?_
          | refine inB_normal ?_
          | refine inB_ret ?_
          | refine inB_here ?_
          | (refine inB_past ?_ ?_; (· exact rfl))
          | refine Holds.reg ?_
          | refine Holds.block ?_
          | refine GS.nil ?_
          | refine Gd.nil ?_
          | (refine Holds.any mixed ?_ ?_; (· kernel_rfl))
          | (refine GS.step (s' := ?_) ?_ ?_ ?_; rotate_left; (· exact rfl); (· (simp [go_sem, List.take_of_length_le] <;> with_reducible rfl)))
          | (refine GS.skip ?_ ?_ ?_; (· exact rfl); (· exact rfl))
          | (refine Gd.go (s' := ?_) ?_ ?_ ?_; rotate_left; (· exact rfl); (· (simp [go_sem, List.take_of_length_le] <;> with_reducible rfl)))
          | (refine Gd.skip ?_ ?_ ?_; (· exact rfl); (· exact rfl))
          | fail
        refine Out.mk (xs := ?_) ?_ ?_ (by first | exact .inr rfl | exact .inl rfl)
        rotate_left
        · simp [go_sem, List.take_of_length_le] <;> with_reducible rfl
        exact .v _
def treeEndV (g : GrammarT) (non : Int) (tree : List Int) : Int × Bool := if askedV g non tree && decide (¬ endF g tree 61 non 0 < 0) then (endF g tree 61 non 0, true) else (0, false)
end Go.Proofs.Ytpnpjkkppndhfaa.En
end
section
namespace Go.Proofs.Ytpnpjkkppndhfaa.En
open Go.RowKit
set_option linter.unusedSimpArgs false
set_option linter.unusedVariables false
set_option maxHeartbeats 8000000
theorem Fz.pbL {bl : List (Nat × Blk)} {n sz : Nat} {k : Blk} {row ys : List AV} (hk : lb bl n = some k) (hx : k.xs = [row]) (hz : k.sz = sz) (h : FzL bl row ys) : Fz bl (.pb n sz 0 0) (.pi ys) := by
  subst hz
  exact .pb n 0 0 k row ys hk (by rw [hx]; rfl) (by rw [List.drop_zero]; exact Nat.le_of_eq h.len) (fun q x y h1 h2 => h.get q x y (by simpa using h1) h2)
theorem symbolOf (x : Int) (h0 : -100 ≤ x) (h1 : x ≤ 100) : Pure Try.prog 57 [.v (.int .i64 x)] (.v (.int .i64 (-1 - x))) := by
  refine Pure.mk (rs := [.tmp 2]) (nt := 5) Try.func57 (by kernel_rfl) rfl rfl rfl (by simp) ?_
  simp only [sl]
  have hw : wr64 (-1 - x) = -1 - x := wr64_id (by omega) (by omega)
  repeat' first
    | refine Holds.seq ?_
    | refine Holds.skip ?_
    | refine Holds.exit ?_
    | refine Holds.ret ?_
    | refine thenA_normal ?_
    | refine thenA_exit ?_
    | refine thenA_ret ?_
    | refine inB_normal ?_
    | refine inB_ret ?_
    | refine inB_here ?_
    | (refine inB_past ?_ ?_; (· exact rfl))
    | refine Holds.reg ?_
    | refine Holds.block ?_
    | refine GS.nil ?_
    | (refine GS.step (s' := ?_) ?_ ?_ ?_; rotate_left; (· exact rfl); (· (simp [go_sem, List.take_of_length_le, hw] <;> with_reducible rfl)))
    | (refine GS.skip ?_ ?_ ?_; (· exact rfl); (· exact rfl))
    | fail
  refine Out.mk (xs := ?_) ?_ ?_ (by first | exact .inr rfl | exact .inl rfl)
  rotate_left
  · simp [go_sem, List.take_of_length_le] <;> with_reducible rfl
  exact .v _
def tIns (g : GrammarT) (tree w : List Int) : List (Nat × Blk) := [(0, ⟨25, 1, [[.im 1 (ints tree)]]⟩), (1, ⟨31, 3, [grammarC g]⟩), (2, ⟨25, 1, [[.own 4 1 0 w.length]]⟩), (3, ⟨89, 1, [[.fn 56 [.pb 0 1 0 0, .pb 1 3 0 0, .pb 2 1 0 0, .pb 3 1 0 0]]]⟩), (4, ⟨3, 1, ints w⟩)]
def tOuts (g : GrammarT) (tree w : List Int) : List (Nat × Blk) := [(0, ⟨25, 1, [[.im 1 (ints tree)]]⟩), (1, ⟨31, 3, [grammarC g]⟩), (2, ⟨25, 1, [[.own 5 1 0 w.length]]⟩), (3, ⟨89, 1, [[.fn 56 [.pb 0 1 0 0, .pb 1 3 0 0, .pb 2 1 0 0, .pb 3 1 0 0]]]⟩), (5, ⟨3, 1, ints w⟩)]
def ptr : Option PT → AV
  | some p => .pi (partC p)
  | none => .v (.pointer none)
theorem treeFail (g : GrammarT) (hg : OkG g) (tree : List Int) (ht : tree.length ≤ 60) (non : Int) (at' : Nat) (w : List Int) (ha : at' ≤ 100) (hh : headOk g tree non at' = false) :
    Fn Try.prog 56 5 [.v (.int .i64 non), .v (.int .i64 at'), .pb 0 1 0 0, .pb 1 3 0 0, .pb 2 1 0 0, .pb 3 1 0 0] (tIns g tree w) (.tu [ptr none, .v (.bool false)]) 6 (tOuts g tree w) := by
  have hgl := hg.len
  have hw : wr64 ((g.2.2.length : Int) - 1) = (g.2.2.length : Int) - 1 := wr64_id (by omega) (by omega)
  rcases head_cases hh with h1 | ⟨z, hz, h2⟩ | ⟨k, r, hz, hk, h2, hr, h3⟩
  · refine Fn.mk (rs := [.tmp 8, .tmp 9]) (nt := 113) Try.func56 (by kernel_rfl) rfl rfl rfl (by simp) ?_
    simp only [sl, grammarC, tIns, tOuts, ptr]
    repeat' first
      | refine Holds.seq ?_
      | refine Holds.skip ?_
      | refine Holds.exit ?_
      | refine Holds.ret ?_
      | refine thenA_normal ?_
      | refine thenA_exit ?_
      | refine thenA_ret ?_
      | refine inB_normal ?_
      | refine inB_ret ?_
      | refine inB_here ?_
      | (refine inB_past ?_ ?_; (· exact rfl))
      | refine Holds.reg ?_
      | refine Holds.block ?_
      | refine GS.nil ?_
      | refine Gd.nil ?_
      | (refine Holds.any mixed ?_ ?_; (· kernel_rfl))
      | (refine GS.step (s' := ?_) ?_ ?_ ?_; rotate_left; (· exact rfl); (· (simp [go_sem, List.take_of_length_le, h1] <;> with_reducible rfl)))
      | (refine GS.skip ?_ ?_ ?_; (· exact rfl); (· exact rfl))
      | (refine Gd.go (s' := ?_) ?_ ?_ ?_; rotate_left; (· exact rfl); (· (simp [go_sem, List.take_of_length_le, h1] <;> with_reducible rfl)))
      | (refine Gd.skip ?_ ?_ ?_; (· exact rfl); (· exact rfl))
      | fail
    refine Holds.cond rfl (fun h => ?_) (fun h => ?_)
    · repeat' first
        | refine Holds.seq ?_
        | refine Holds.skip ?_
        | refine Holds.exit ?_
        | refine Holds.ret ?_
        | refine thenA_normal ?_
        | refine thenA_exit ?_
        | refine thenA_ret ?_
        | refine inB_normal ?_
        | refine inB_ret ?_
        | refine inB_here ?_
        | (refine inB_past ?_ ?_; (· exact rfl))
        | refine Holds.reg ?_
        | refine Holds.block ?_
        | refine GS.nil ?_
        | refine Gd.nil ?_
        | (refine Holds.any mixed ?_ ?_; (· kernel_rfl))
        | (refine GS.step (s' := ?_) ?_ ?_ ?_; rotate_left; (· exact rfl); (· (simp [go_sem, List.take_of_length_le] <;> with_reducible rfl)))
        | (refine GS.skip ?_ ?_ ?_; (· exact rfl); (· exact rfl))
        | (refine Gd.go (s' := ?_) ?_ ?_ ?_; rotate_left; (· exact rfl); (· (simp [go_sem, List.take_of_length_le] <;> with_reducible rfl)))
        | (refine Gd.skip ?_ ?_ ?_; (· exact rfl); (· exact rfl))
        | fail
      refine OutF.mkn (xs := ?_) (nm [0, 1, 2, 3, 4, 4]) ?_ ?_ ?_ ?_ ?_ (by first | exact .inr rfl | exact .inl rfl)
      rotate_left
      · simp [go_sem, List.take_of_length_le] <;> with_reducible rfl
      · simp [go_sem, List.take_of_length_le, ren, ren1, okr, okr1, ChkN, BlkN, List.range_succ, nf]
      · simp [go_sem, List.take_of_length_le, ren, ren1, okr, okr1, ChkN, BlkN, List.range_succ, nf]
      · simp [go_sem, List.take_of_length_le, ren, ren1, okr, okr1, ChkN, BlkN, List.range_succ, nf]
      · rfl
    · cases h
  · refine Fn.mk (rs := [.tmp 8, .tmp 9]) (nt := 113) Try.func56 (by kernel_rfl) rfl rfl rfl (by simp) ?_
    simp only [sl, grammarC, tIns, tOuts, ptr]
    have hlt : at' < tree.length := (List.getElem?_eq_some_iff.1 hz).1
    repeat' first
      | refine Holds.seq ?_
      | refine Holds.skip ?_
      | refine Holds.exit ?_
      | refine Holds.ret ?_
      | refine thenA_normal ?_
      | refine thenA_exit ?_
      | refine thenA_ret ?_
      | refine inB_normal ?_
      | refine inB_ret ?_
      | refine inB_here ?_
      | (refine inB_past ?_ ?_; (· exact rfl))
      | refine Holds.reg ?_
      | refine Holds.block ?_
      | refine GS.nil ?_
      | refine Gd.nil ?_
      | (refine Holds.any mixed ?_ ?_; (· kernel_rfl))
      | (refine GS.step (s' := ?_) ?_ ?_ ?_; rotate_left; (· exact rfl); (· (simp [go_sem, List.take_of_length_le, show ¬ tree.length ≤ at' by omega, hz, hw] <;> with_reducible rfl)))
      | (refine GS.skip ?_ ?_ ?_; (· exact rfl); (· exact rfl))
      | (refine Gd.go (s' := ?_) ?_ ?_ ?_; rotate_left; (· exact rfl); (· (simp [go_sem, List.take_of_length_le, show ¬ tree.length ≤ at' by omega, hz, hw] <;> with_reducible rfl)))
      | (refine Gd.skip ?_ ?_ ?_; (· exact rfl); (· exact rfl))
      | fail
    first | refine GS.cc (implIn z 0 ((g.2.2.length : Int) - 1)) rfl rfl rfl rfl (by simp [go_sem, List.take_of_length_le] <;> with_reducible rfl) rfl (by simp [go_sem, List.take_of_length_le]) ?_ | refine Gd.cc (implIn z 0 ((g.2.2.length : Int) - 1)) rfl rfl rfl rfl (by simp [go_sem, List.take_of_length_le] <;> with_reducible rfl) rfl (by simp [go_sem, List.take_of_length_le]) ?_
    rw [h2]
    repeat' first
      | refine Holds.seq ?_
      | refine Holds.skip ?_
      | refine Holds.exit ?_
      | refine Holds.ret ?_
      | refine thenA_normal ?_
      | refine thenA_exit ?_
      | refine thenA_ret ?_
      | refine inB_normal ?_
      | refine inB_ret ?_
      | refine inB_here ?_
      | (refine inB_past ?_ ?_; (· exact rfl))
      | refine Holds.reg ?_
      | refine Holds.block ?_
      | refine GS.nil ?_
      | refine Gd.nil ?_
      | (refine Holds.any mixed ?_ ?_; (· kernel_rfl))
      | (refine GS.step (s' := ?_) ?_ ?_ ?_; rotate_left; (· exact rfl); (· (simp [go_sem, List.take_of_length_le] <;> with_reducible rfl)))
      | (refine GS.skip ?_ ?_ ?_; (· exact rfl); (· exact rfl))
      | (refine Gd.go (s' := ?_) ?_ ?_ ?_; rotate_left; (· exact rfl); (· (simp [go_sem, List.take_of_length_le] <;> with_reducible rfl)))
      | (refine Gd.skip ?_ ?_ ?_; (· exact rfl); (· exact rfl))
      | fail
    refine Holds.cond rfl (fun h => ?_) (fun h => ?_)
    · repeat' first
        | refine Holds.seq ?_
        | refine Holds.skip ?_
        | refine Holds.exit ?_
        | refine Holds.ret ?_
        | refine thenA_normal ?_
        | refine thenA_exit ?_
        | refine thenA_ret ?_
        | refine inB_normal ?_
        | refine inB_ret ?_
        | refine inB_here ?_
        | (refine inB_past ?_ ?_; (· exact rfl))
        | refine Holds.reg ?_
        | refine Holds.block ?_
        | refine GS.nil ?_
        | refine Gd.nil ?_
        | (refine Holds.any mixed ?_ ?_; (· kernel_rfl))
        | (refine GS.step (s' := ?_) ?_ ?_ ?_; rotate_left; (· exact rfl); (· (simp [go_sem, List.take_of_length_le] <;> with_reducible rfl)))
        | (refine GS.skip ?_ ?_ ?_; (· exact rfl); (· exact rfl))
        | (refine Gd.go (s' := ?_) ?_ ?_ ?_; rotate_left; (· exact rfl); (· (simp [go_sem, List.take_of_length_le] <;> with_reducible rfl)))
        | (refine Gd.skip ?_ ?_ ?_; (· exact rfl); (· exact rfl))
        | fail
      refine OutF.mkn (xs := ?_) (nm [0, 1, 2, 3, 4, 4]) ?_ ?_ ?_ ?_ ?_ (by first | exact .inr rfl | exact .inl rfl)
      rotate_left
      · simp [go_sem, List.take_of_length_le] <;> with_reducible rfl
      · simp [go_sem, List.take_of_length_le, ren, ren1, okr, okr1, ChkN, BlkN, List.range_succ, nf]
      · simp [go_sem, List.take_of_length_le, ren, ren1, okr, okr1, ChkN, BlkN, List.range_succ, nf]
      · simp [go_sem, List.take_of_length_le, ren, ren1, okr, okr1, ChkN, BlkN, List.range_succ, nf]
      · rfl
    · cases h
  · refine Fn.mk (rs := [.tmp 8, .tmp 9]) (nt := 113) Try.func56 (by kernel_rfl) rfl rfl rfl (by simp) ?_
    simp only [sl, grammarC, tIns, tOuts, ptr]
    have hlt : at' < tree.length := (List.getElem?_eq_some_iff.1 hz).1
    have h3b : (r.1 != non) = true := by simpa using h3
    repeat' first
      | refine Holds.seq ?_
      | refine Holds.skip ?_
      | refine Holds.exit ?_
      | refine Holds.ret ?_
      | refine thenA_normal ?_
      | refine thenA_exit ?_
      | refine thenA_ret ?_
      | refine inB_normal ?_
      | refine inB_ret ?_
      | refine inB_here ?_
      | (refine inB_past ?_ ?_; (· exact rfl))
      | refine Holds.reg ?_
      | refine Holds.block ?_
      | refine GS.nil ?_
      | refine Gd.nil ?_
      | (refine Holds.any mixed ?_ ?_; (· kernel_rfl))
      | (refine GS.step (s' := ?_) ?_ ?_ ?_; rotate_left; (· exact rfl); (· (simp [go_sem, List.take_of_length_le, show ¬ tree.length ≤ at' by omega, hz, hw] <;> with_reducible rfl)))
      | (refine GS.skip ?_ ?_ ?_; (· exact rfl); (· exact rfl))
      | (refine Gd.go (s' := ?_) ?_ ?_ ?_; rotate_left; (· exact rfl); (· (simp [go_sem, List.take_of_length_le, show ¬ tree.length ≤ at' by omega, hz, hw] <;> with_reducible rfl)))
      | (refine Gd.skip ?_ ?_ ?_; (· exact rfl); (· exact rfl))
      | fail
    first | refine GS.cc (implIn (k : Int) 0 ((g.2.2.length : Int) - 1)) rfl rfl rfl rfl (by simp [go_sem, List.take_of_length_le] <;> with_reducible rfl) rfl (by simp [go_sem, List.take_of_length_le]) ?_ | refine Gd.cc (implIn (k : Int) 0 ((g.2.2.length : Int) - 1)) rfl rfl rfl rfl (by simp [go_sem, List.take_of_length_le] <;> with_reducible rfl) rfl (by simp [go_sem, List.take_of_length_le]) ?_
    rw [h2]
    repeat' first
      | refine Holds.seq ?_
      | refine Holds.skip ?_
      | refine Holds.exit ?_
      | refine Holds.ret ?_
      | refine thenA_normal ?_
      | refine thenA_exit ?_
      | refine thenA_ret ?_
      | refine inB_normal ?_
      | refine inB_ret ?_
      | refine inB_here ?_
      | (refine inB_past ?_ ?_; (· exact rfl))
      | refine Holds.reg ?_
      | refine Holds.block ?_
      | refine GS.nil ?_
      | refine Gd.nil ?_
      | (refine Holds.any mixed ?_ ?_; (· kernel_rfl))
      | (refine GS.step (s' := ?_) ?_ ?_ ?_; rotate_left; (· exact rfl); (· (simp [go_sem, List.take_of_length_le, show ¬ tree.length ≤ at' by omega, hz, hr, ruleC, h3b] <;> with_reducible rfl)))
      | (refine GS.skip ?_ ?_ ?_; (· exact rfl); (· exact rfl))
      | (refine Gd.go (s' := ?_) ?_ ?_ ?_; rotate_left; (· exact rfl); (· (simp [go_sem, List.take_of_length_le, show ¬ tree.length ≤ at' by omega, hz, hr, ruleC, h3b] <;> with_reducible rfl)))
      | (refine Gd.skip ?_ ?_ ?_; (· exact rfl); (· exact rfl))
      | fail
    refine Holds.cond rfl (fun h => ?_) (fun h => ?_)
    · repeat' first
        | refine Holds.seq ?_
        | refine Holds.skip ?_
        | refine Holds.exit ?_
        | refine Holds.ret ?_
        | refine thenA_normal ?_
        | refine thenA_exit ?_
        | refine thenA_ret ?_
        | refine inB_normal ?_
        | refine inB_ret ?_
        | refine inB_here ?_
        | (refine inB_past ?_ ?_; (· exact rfl))
        | refine Holds.reg ?_
        | refine Holds.block ?_
        | refine GS.nil ?_
        | refine Gd.nil ?_
        | (refine Holds.any mixed ?_ ?_; (· kernel_rfl))
        | (refine GS.step (s' := ?_) ?_ ?_ ?_; rotate_left; (· exact rfl); (· (simp [go_sem, List.take_of_length_le] <;> with_reducible rfl)))
        | (refine GS.skip ?_ ?_ ?_; (· exact rfl); (· exact rfl))
        | (refine Gd.go (s' := ?_) ?_ ?_ ?_; rotate_left; (· exact rfl); (· (simp [go_sem, List.take_of_length_le] <;> with_reducible rfl)))
        | (refine Gd.skip ?_ ?_ ?_; (· exact rfl); (· exact rfl))
        | fail
      refine OutF.mkn (xs := ?_) (nm [0, 1, 2, 3, 4, 4]) ?_ ?_ ?_ ?_ ?_ (by first | exact .inr rfl | exact .inl rfl)
      rotate_left
      · simp [go_sem, List.take_of_length_le] <;> with_reducible rfl
      · simp [go_sem, List.take_of_length_le, ren, ren1, okr, okr1, ChkN, BlkN, List.range_succ, nf]
      · simp [go_sem, List.take_of_length_le, ren, ren1, okr, okr1, ChkN, BlkN, List.range_succ, nf]
      · simp [go_sem, List.take_of_length_le, ren, ren1, okr, okr1, ChkN, BlkN, List.range_succ, nf]
      · rfl
    · cases h
theorem partC_fin (p : PT) : (partC p)[3]? = some (.v (.int .i64 p.fin)) := by
  obtain ⟨a, b, c, d, e, f, ks⟩ := p
  rfl
theorem treeF (g : GrammarT) (hg : OkG g) (tree : List Int) (ht : tree.length ≤ 60) : ∀ (f : Nat) (non : Int) (at' : Nat) (w : List Int), at' ≤ 100 → tree.length < f + at' → w.length ≤ 1000 + 4 * at' →
    Fn Try.prog 56 5 [.v (.int .i64 non), .v (.int .i64 at'), .pb 0 1 0 0, .pb 1 3 0 0, .pb 2 1 0 0, .pb 3 1 0 0] (tIns g tree w) (.tu [ptr (readF g tree f non at' w).1, .v (.bool (readF g tree f non at' w).1.isSome)]) 6 (tOuts g tree (readF g tree f non at' w).2) := by
  intro f
  induction f with
  | zero =>
    intro non at' w ha hf hwl
    have hh : headOk g tree non at' = false := by
      cases e : headOk g tree non at' with
      | false => rfl
      | true => have := headOk_lt e; omega
    exact treeFail g hg tree ht non at' w ha hh
  | succ f ih =>
    intro non at' w ha hf hwl
    cases hh : headOk g tree non at' with
    | false =>
      rw [show readF g tree (f + 1) non at' w = (none, w) by unfold readF; rw [hh]; rfl]
      exact treeFail g hg tree ht non at' w ha hh
    | true =>
      obtain ⟨k, r, hlt, hz, hk, h2, hr, h3, hra, hgd⟩ := head_good hh
      have hread : readF g tree (f + 1) non at' w = match kidsF (readF g tree f) r.2 (at' + 1) [] w with
        | (some (ks, e), w') => (some (.node non k at' e w.length w'.length ks), w')
        | (none, w') => (none, w') := by
        rw [readF, hh, hra, hgd]; rfl
      rw [hread]
      clear hread
      have hrm := List.mem_of_getElem? hr
      have h4 := hg.r4 _ hrm
      have hs0 := hg.s0 _ hrm
      have ht1 := hg.t1
      have hgl := hg.len
      have hw : wr64 ((g.2.2.length : Int) - 1) = (g.2.2.length : Int) - 1 := wr64_id (by omega) (by omega)
      have hw1 : wr64 ((at' : Int) + 1) = (at' : Int) + 1 := wr64_id (by omega) (by omega)
      have h3b : (r.1 != non) = false := by simpa using h3
      obtain ⟨l, right⟩ := r
      dsimp only at h3 h4 h3b hs0
      refine Fn.mk (rs := [.tmp 8, .tmp 9]) (nt := 113) Try.func56 (by kernel_rfl) rfl rfl rfl (by simp) ?_
      simp only [sl, grammarC, tIns, tOuts]
      generalize hR : kidsF (readF g tree f) right (at' + 1) [] w = R
      repeat' first
        | refine Holds.seq ?_
        | refine Holds.skip ?_
        | refine Holds.exit ?_
        | refine Holds.ret ?_
        | refine thenA_normal ?_
        | refine thenA_exit ?_
        | refine thenA_ret ?_
        | refine inB_normal ?_
        | refine inB_ret ?_
        | refine inB_here ?_
        | (refine inB_past ?_ ?_; (· exact rfl))
        | refine Holds.reg ?_
        | refine Holds.block ?_
        | refine GS.nil ?_
        | refine Gd.nil ?_
        | (refine Holds.any mixed ?_ ?_; (· kernel_rfl))
        | (refine GS.step (s' := ?_) ?_ ?_ ?_; rotate_left; (· exact rfl); (· (simp [go_sem, List.take_of_length_le, show ¬ tree.length ≤ at' by omega, hz, hw] <;> with_reducible rfl)))
        | (refine GS.skip ?_ ?_ ?_; (· exact rfl); (· exact rfl))
        | (refine Gd.go (s' := ?_) ?_ ?_ ?_; rotate_left; (· exact rfl); (· (simp [go_sem, List.take_of_length_le, show ¬ tree.length ≤ at' by omega, hz, hw] <;> with_reducible rfl)))
        | (refine Gd.skip ?_ ?_ ?_; (· exact rfl); (· exact rfl))
        | fail
      first | refine GS.cc (implIn (k : Int) 0 ((g.2.2.length : Int) - 1)) rfl rfl rfl rfl (by simp [go_sem, List.take_of_length_le] <;> with_reducible rfl) rfl (by simp [go_sem, List.take_of_length_le]) ?_ | refine Gd.cc (implIn (k : Int) 0 ((g.2.2.length : Int) - 1)) rfl rfl rfl rfl (by simp [go_sem, List.take_of_length_le] <;> with_reducible rfl) rfl (by simp [go_sem, List.take_of_length_le]) ?_
      rw [h2]
      repeat' first
        | refine Holds.seq ?_
        | refine Holds.skip ?_
        | refine Holds.exit ?_
        | refine Holds.ret ?_
        | refine thenA_normal ?_
        | refine thenA_exit ?_
        | refine thenA_ret ?_
        | refine inB_normal ?_
        | refine inB_ret ?_
        | refine inB_here ?_
        | (refine inB_past ?_ ?_; (· exact rfl))
        | refine Holds.reg ?_
        | refine Holds.block ?_
        | refine GS.nil ?_
        | refine Gd.nil ?_
        | (refine GS.step (s' := ?_) ?_ ?_ ?_; rotate_left; (· exact rfl); (· (simp [go_sem, List.take_of_length_le, show ¬ tree.length ≤ at' by omega, hz, hr, ruleC, h3b] <;> with_reducible rfl)))
        | (refine GS.skip ?_ ?_ ?_; (· exact rfl); (· exact rfl))
        | (refine Gd.go (s' := ?_) ?_ ?_ ?_; rotate_left; (· exact rfl); (· (simp [go_sem, List.take_of_length_le, show ¬ tree.length ≤ at' by omega, hz, hr, ruleC, h3b] <;> with_reducible rfl)))
        | (refine Gd.skip ?_ ?_ ?_; (· exact rfl); (· exact rfl))
        | fail
      refine Holds.cond rfl (fun h => ?_) (fun h => ?_)
      · first | (cases h; done) | (simp at h; done) | (simp_all; done)
      clear h
      repeat' first
        | refine Holds.seq ?_
        | refine Holds.skip ?_
        | refine Holds.exit ?_
        | refine Holds.ret ?_
        | refine thenA_normal ?_
        | refine thenA_exit ?_
        | refine thenA_ret ?_
        | refine inB_normal ?_
        | refine inB_ret ?_
        | refine inB_here ?_
        | (refine inB_past ?_ ?_; (· exact rfl))
        | refine Holds.reg ?_
        | refine Holds.block ?_
        | refine GS.nil ?_
        | refine Gd.nil ?_
        | (refine GS.step (s' := ?_) ?_ ?_ ?_; rotate_left; (· exact rfl); (· (simp [go_sem, List.take_of_length_le] <;> with_reducible rfl)))
        | (refine GS.skip ?_ ?_ ?_; (· exact rfl); (· exact rfl))
        | (refine Gd.go (s' := ?_) ?_ ?_ ?_; rotate_left; (· exact rfl); (· (simp [go_sem, List.take_of_length_le] <;> with_reducible rfl)))
        | (refine Gd.skip ?_ ?_ ?_; (· exact rfl); (· exact rfl))
        | fail
      refine Holds.anx [1010, 1011] [] (fun n => true) mixed ?_ ?_ ?_; (· kernel_rfl); (· kernel_rfl)
      repeat' first
        | refine Holds.seq ?_
        | refine Holds.skip ?_
        | refine Holds.exit ?_
        | refine Holds.ret ?_
        | refine thenA_normal ?_
        | refine thenA_exit ?_
        | refine thenA_ret ?_
        | refine inB_normal ?_
        | refine inB_ret ?_
        | refine inB_here ?_
        | (refine inB_past ?_ ?_; (· exact rfl))
        | refine Holds.reg ?_
        | refine Holds.block ?_
        | refine GS.nil ?_
        | refine Gd.nil ?_
        | (refine GS.step (s' := ?_) ?_ ?_ ?_; rotate_left; (· exact rfl); (· (simp [go_sem, List.take_of_length_le, hz, hw1] <;> with_reducible rfl)))
        | (refine GS.skip ?_ ?_ ?_; (· exact rfl); (· exact rfl))
        | (refine Gd.go (s' := ?_) ?_ ?_ ?_; rotate_left; (· exact rfl); (· (simp [go_sem, List.take_of_length_le, hz, hw1] <;> with_reducible rfl)))
        | (refine Gd.skip ?_ ?_ ?_; (· exact rfl); (· exact rfl))
        | refine Gx.nil ?_
        | (refine Gx.go (s' := ?_) rfl ?_ ?_ ?_; rotate_left; (· exact rfl); (· (simp [go_sem, List.take_of_length_le, hz, hw1] <;> with_reducible rfl)))
        | (refine Gx.skip rfl ?_ ?_ ?_; (· exact rfl); (· exact rfl))
        | (refine Gx.skipO rfl ?_ ?_ ?_; (· exact rfl); (· exact rfl))
        | (refine Gx.wo (s' := ?_) rfl ?_ ?_ ?_; rotate_left; (· exact rfl); (· (simp [go_sem, List.take_of_length_le, hz, hw1] <;> with_reducible rfl)))
        | (refine Gx.skipW rfl ?_ ?_ ?_; (· exact rfl); (· exact rfl))
        | (refine Gx.skipH rfl ?_ ?_ ?_; (· exact rfl); (· exact rfl))
        | (refine Gx.hid (r := ?_) rfl ?_ ?_ ?_ ?_; rotate_left; (· exact rfl); (· exact rfl); (· (simp [go_sem, List.take_of_length_le, hz, hw1] <;> with_reducible rfl)))
        | (refine Gx.wr (s' := ?_) rfl ?_ ?_ ?_ ?_; rotate_left; (· exact rfl); (· (simp [go_sem, List.take_of_length_le, hz, hw1] <;> with_reducible rfl)); (· (simp [go_sem, List.take_of_length_le, hz, hw1])))
        | fail
      repeat' first
        | refine Holds.seq ?_
        | refine Holds.skip ?_
        | refine Holds.exit ?_
        | refine Holds.ret ?_
        | refine thenA_normal ?_
        | refine thenA_exit ?_
        | refine thenA_ret ?_
        | refine inB_normal ?_
        | refine inB_ret ?_
        | refine inB_here ?_
        | (refine inB_past ?_ ?_; (· exact rfl))
        | refine Holds.reg ?_
        | refine Holds.block ?_
        | refine GS.nil ?_
        | refine Gd.nil ?_
        | (refine Holds.any mixed ?_ ?_; (· kernel_rfl))
        | (refine GS.step (s' := ?_) ?_ ?_ ?_; rotate_left; (· exact rfl); (· (simp [go_sem, List.take_of_length_le, hz, hr, ruleC] <;> with_reducible rfl)))
        | (refine GS.skip ?_ ?_ ?_; (· exact rfl); (· exact rfl))
        | (refine Gd.go (s' := ?_) ?_ ?_ ?_; rotate_left; (· exact rfl); (· (simp [go_sem, List.take_of_length_le, hz, hr, ruleC] <;> with_reducible rfl)))
        | (refine Gd.skip ?_ ?_ ?_; (· exact rfl); (· exact rfl))
        | refine Gx.nil ?_
        | (refine Gx.go (s' := ?_) rfl ?_ ?_ ?_; rotate_left; (· exact rfl); (· (simp [go_sem, List.take_of_length_le, hz, hr, ruleC] <;> with_reducible rfl)))
        | (refine Gx.skip rfl ?_ ?_ ?_; (· exact rfl); (· exact rfl))
        | (refine Gx.skipO rfl ?_ ?_ ?_; (· exact rfl); (· exact rfl))
        | (refine Gx.wo (s' := ?_) rfl ?_ ?_ ?_; rotate_left; (· exact rfl); (· (simp [go_sem, List.take_of_length_le, hz, hr, ruleC] <;> with_reducible rfl)))
        | (refine Gx.skipW rfl ?_ ?_ ?_; (· exact rfl); (· exact rfl))
        | (refine Gx.skipH rfl ?_ ?_ ?_; (· exact rfl); (· exact rfl))
        | (refine Gx.hid (r := ?_) rfl ?_ ?_ ?_ ?_; rotate_left; (· exact rfl); (· exact rfl); (· (simp [go_sem, List.take_of_length_le, hz, hr, ruleC] <;> with_reducible rfl)))
        | (refine Gx.wr (s' := ?_) rfl ?_ ?_ ?_ ?_; rotate_left; (· exact rfl); (· (simp [go_sem, List.take_of_length_le, hz, hr, ruleC] <;> with_reducible rfl)); (· (simp [go_sem, List.take_of_length_le, hz, hr, ruleC])))
        | fail
      refine Holds.nir 5 0 6 51 1 rfl rfl rfl (by simp [go_sem]; rfl) ?_
      refine Holds.loop (ι := Nat × Nat × List PT × List Int) (fun i => ⟨[(2, .pb 0 1 0 0), (3, .pb 1 3 0 0), (4, .pb 2 1 0 0), (5, .pb 3 1 0 0), (10, .pb 6 7 0 0), (64, .im 1 (ints right)), (65, .v (.int .i64 right.length)), (66, .v (.int .i64 i.1))],
          [(0, ⟨25, 1, [[.im 1 (ints tree)]]⟩), (1, ⟨31, 3, [[.v (.int .i64 g.1), .v (.int .i64 g.2.1), .im 2 (rules g.2.2)]]⟩), (2, ⟨25, 1, [[.own 5 1 0 i.2.2.2.length]]⟩), (3, ⟨89, 1, [[.fn 56 [.pb 0 1 0 0, .pb 1 3 0 0, .pb 2 1 0 0, .pb 3 1 0 0]]]⟩), (5, ⟨3, 1, ints i.2.2.2⟩),
           (6, ⟨63, 7, [[.v (.int .i64 non), .v (.int .i64 k), .v (.int .i64 at'), .v (.int .i64 i.2.1), .v (.int .i64 w.length), .v (.int .i64 0), .own 7 1 0 i.2.2.1.length]]⟩), (7, ⟨51, 1, kidsC i.2.2.1⟩)], 8⟩)
        (fun i => i.1 ≤ right.length ∧ kidsF (readF g tree f) (right.drop i.1) i.2.1 i.2.2.1 i.2.2.2 = R ∧ at' + 1 ≤ i.2.1 ∧ i.2.1 ≤ tree.length ∧ i.2.2.2.length ≤ w.length + i.1 + 4 * (i.2.1 - at' - 1) ∧ i.2.2.1.length ≤ i.1) (fun i => right.length - i.1) (0, at' + 1, [], w) ⟨Nat.zero_le _, hR, Nat.le_refl _, by dsimp only; omega, by dsimp only; omega, Nat.le_refl _⟩ ?_ ?_
      · exact Cov.ofn (nm [0, 1, 2, 3, 4, 4, 5, 6]) rfl (by simp [go_sem, List.take_of_length_le, ren, ren1, okr, okr1, ChkT, ChkN, BlkN, nf, kidsC]) (by simp [go_sem, List.take_of_length_le, ren, ren1, okr, okr1, ChkT, ChkN, BlkN, nf, kidsC])
      rintro ⟨j, e, ks, w'⟩ ⟨hj, hfold, he0, he1, hwl', hkl⟩
      dsimp only at hj hfold he0 he1 hwl' hkl ⊢
      have step : wr64 ((j : Int) + 1) = ((j + 1 : Nat) : Int) := wr64_id (by omega) (by omega)
      repeat' first
        | refine Holds.seq ?_
        | refine Holds.skip ?_
        | refine Holds.exit ?_
        | refine Holds.ret ?_
        | refine thenA_normal ?_
        | refine thenA_exit ?_
        | refine thenA_ret ?_
        | refine inB_normal ?_
        | refine inB_ret ?_
        | refine inB_here ?_
        | (refine inB_past ?_ ?_; (· exact rfl))
        | refine Holds.reg ?_
        | refine Holds.block ?_
        | refine GS.nil ?_
        | refine Gd.nil ?_
        | (refine Holds.any mixed ?_ ?_; (· kernel_rfl))
        | (refine GS.step (s' := ?_) ?_ ?_ ?_; rotate_left; (· exact rfl); (· (simp [go_sem, List.take_of_length_le] <;> with_reducible rfl)))
        | (refine GS.skip ?_ ?_ ?_; (· exact rfl); (· exact rfl))
        | (refine Gd.go (s' := ?_) ?_ ?_ ?_; rotate_left; (· exact rfl); (· (simp [go_sem, List.take_of_length_le] <;> with_reducible rfl)))
        | (refine Gd.skip ?_ ?_ ?_; (· exact rfl); (· exact rfl))
        | refine Gx.nil ?_
        | (refine Gx.go (s' := ?_) rfl ?_ ?_ ?_; rotate_left; (· exact rfl); (· (simp [go_sem, List.take_of_length_le] <;> with_reducible rfl)))
        | (refine Gx.skip rfl ?_ ?_ ?_; (· exact rfl); (· exact rfl))
        | (refine Gx.skipO rfl ?_ ?_ ?_; (· exact rfl); (· exact rfl))
        | (refine Gx.wo (s' := ?_) rfl ?_ ?_ ?_; rotate_left; (· exact rfl); (· (simp [go_sem, List.take_of_length_le] <;> with_reducible rfl)))
        | (refine Gx.skipW rfl ?_ ?_ ?_; (· exact rfl); (· exact rfl))
        | (refine Gx.skipH rfl ?_ ?_ ?_; (· exact rfl); (· exact rfl))
        | (refine Gx.hid (r := ?_) rfl ?_ ?_ ?_ ?_; rotate_left; (· exact rfl); (· exact rfl); (· (simp [go_sem, List.take_of_length_le] <;> with_reducible rfl)))
        | (refine Gx.wr (s' := ?_) rfl ?_ ?_ ?_ ?_; rotate_left; (· exact rfl); (· (simp [go_sem, List.take_of_length_le] <;> with_reducible rfl)); (· (simp [go_sem, List.take_of_length_le])))
        | fail
      refine Holds.cond rfl (fun hl => ?_) (fun hl => ?_)
      · have hjt : j < right.length := by simpa using hl
        have hxj : right[j]? = some right[j] := List.getElem?_eq_getElem hjt
        have hxs := hs0 _ (List.getElem_mem hjt)
        rw [List.drop_eq_getElem_cons hjt] at hfold
        unfold kidsF at hfold
        generalize right[j] = x at hxj hfold hxs
        repeat' first
          | refine Holds.seq ?_
          | refine Holds.skip ?_
          | refine Holds.exit ?_
          | refine Holds.ret ?_
          | refine thenA_normal ?_
          | refine thenA_exit ?_
          | refine thenA_ret ?_
          | refine inB_normal ?_
          | refine inB_ret ?_
          | refine inB_here ?_
          | (refine inB_past ?_ ?_; (· exact rfl))
          | refine Holds.reg ?_
          | refine Holds.block ?_
          | refine GS.nil ?_
          | refine Gd.nil ?_
          | (refine GS.step (s' := ?_) ?_ ?_ ?_; rotate_left; (· exact rfl); (· (simp [go_sem, List.take_of_length_le, hxj] <;> with_reducible rfl)))
          | (refine GS.skip ?_ ?_ ?_; (· exact rfl); (· exact rfl))
          | (refine Gd.go (s' := ?_) ?_ ?_ ?_; rotate_left; (· exact rfl); (· (simp [go_sem, List.take_of_length_le, hxj] <;> with_reducible rfl)))
          | (refine Gd.skip ?_ ?_ ?_; (· exact rfl); (· exact rfl))
          | refine Gx.nil ?_
          | (refine Gx.go (s' := ?_) rfl ?_ ?_ ?_; rotate_left; (· exact rfl); (· (simp [go_sem, List.take_of_length_le, hxj] <;> with_reducible rfl)))
          | (refine Gx.skip rfl ?_ ?_ ?_; (· exact rfl); (· exact rfl))
          | (refine Gx.skipO rfl ?_ ?_ ?_; (· exact rfl); (· exact rfl))
          | (refine Gx.wo (s' := ?_) rfl ?_ ?_ ?_; rotate_left; (· exact rfl); (· (simp [go_sem, List.take_of_length_le, hxj] <;> with_reducible rfl)))
          | (refine Gx.skipW rfl ?_ ?_ ?_; (· exact rfl); (· exact rfl))
          | (refine Gx.skipH rfl ?_ ?_ ?_; (· exact rfl); (· exact rfl))
          | (refine Gx.hid (r := ?_) rfl ?_ ?_ ?_ ?_; rotate_left; (· exact rfl); (· exact rfl); (· (simp [go_sem, List.take_of_length_le, hxj] <;> with_reducible rfl)))
          | (refine Gx.wr (s' := ?_) rfl ?_ ?_ ?_ ?_; rotate_left; (· exact rfl); (· (simp [go_sem, List.take_of_length_le, hxj] <;> with_reducible rfl)); (· (simp [go_sem, List.take_of_length_le, hxj])))
          | fail
        refine Holds.cond rfl (fun hx => ?_) (fun hx => ?_)
        · have hx : x < 0 := by simpa using hx
          rw [if_pos hx] at hfold
          repeat' first
            | refine Holds.seq ?_
            | refine Holds.skip ?_
            | refine Holds.exit ?_
            | refine Holds.ret ?_
            | refine thenA_normal ?_
            | refine thenA_exit ?_
            | refine thenA_ret ?_
            | refine inB_normal ?_
            | refine inB_ret ?_
            | refine inB_here ?_
            | (refine inB_past ?_ ?_; (· exact rfl))
            | refine Holds.reg ?_
            | refine Holds.block ?_
            | refine GS.nil ?_
            | refine Gd.nil ?_
            | (refine GS.step (s' := ?_) ?_ ?_ ?_; rotate_left; (· exact rfl); (· (simp [go_sem, List.take_of_length_le] <;> with_reducible rfl)))
            | (refine GS.skip ?_ ?_ ?_; (· exact rfl); (· exact rfl))
            | (refine Gd.go (s' := ?_) ?_ ?_ ?_; rotate_left; (· exact rfl); (· (simp [go_sem, List.take_of_length_le] <;> with_reducible rfl)))
            | (refine Gd.skip ?_ ?_ ?_; (· exact rfl); (· exact rfl))
            | refine Gx.nil ?_
            | (refine Gx.go (s' := ?_) rfl ?_ ?_ ?_; rotate_left; (· exact rfl); (· (simp [go_sem, List.take_of_length_le] <;> with_reducible rfl)))
            | (refine Gx.skip rfl ?_ ?_ ?_; (· exact rfl); (· exact rfl))
            | (refine Gx.skipO rfl ?_ ?_ ?_; (· exact rfl); (· exact rfl))
            | (refine Gx.wo (s' := ?_) rfl ?_ ?_ ?_; rotate_left; (· exact rfl); (· (simp [go_sem, List.take_of_length_le] <;> with_reducible rfl)))
            | (refine Gx.skipW rfl ?_ ?_ ?_; (· exact rfl); (· exact rfl))
            | (refine Gx.skipH rfl ?_ ?_ ?_; (· exact rfl); (· exact rfl))
            | (refine Gx.hid (r := ?_) rfl ?_ ?_ ?_ ?_; rotate_left; (· exact rfl); (· exact rfl); (· (simp [go_sem, List.take_of_length_le] <;> with_reducible rfl)))
            | (refine Gx.wr (s' := ?_) rfl ?_ ?_ ?_ ?_; rotate_left; (· exact rfl); (· (simp [go_sem, List.take_of_length_le] <;> with_reducible rfl)); (· (simp [go_sem, List.take_of_length_le])))
            | fail
          refine Holds.anx [3, 1004, 1005] [0] (fun n => decide (8 ≤ n)) mixed ?_ ?_ ?_; (· kernel_rfl); (· kernel_rfl)
          repeat' first
            | refine Holds.seq ?_
            | refine Holds.skip ?_
            | refine Holds.exit ?_
            | refine Holds.ret ?_
            | refine thenA_normal ?_
            | refine thenA_exit ?_
            | refine thenA_ret ?_
            | refine inB_normal ?_
            | refine inB_ret ?_
            | refine inB_here ?_
            | (refine inB_past ?_ ?_; (· exact rfl))
            | refine Holds.reg ?_
            | refine Holds.block ?_
            | refine GS.nil ?_
            | refine Gd.nil ?_
            | (refine GS.step (s' := ?_) ?_ ?_ ?_; rotate_left; (· exact rfl); (· (simp [go_sem, List.take_of_length_le] <;> with_reducible rfl)))
            | (refine GS.skip ?_ ?_ ?_; (· exact rfl); (· exact rfl))
            | (refine Gd.go (s' := ?_) ?_ ?_ ?_; rotate_left; (· exact rfl); (· (simp [go_sem, List.take_of_length_le] <;> with_reducible rfl)))
            | (refine Gd.skip ?_ ?_ ?_; (· exact rfl); (· exact rfl))
            | refine Gx.nil ?_
            | (refine Gx.go (s' := ?_) rfl ?_ ?_ ?_; rotate_left; (· exact rfl); (· (simp [go_sem, List.take_of_length_le] <;> with_reducible rfl)))
            | (refine Gx.skip rfl ?_ ?_ ?_; (· exact rfl); (· exact rfl))
            | (refine Gx.skipO rfl ?_ ?_ ?_; (· exact rfl); (· exact rfl))
            | (refine Gx.wo (s' := ?_) rfl ?_ ?_ ?_; rotate_left; (· exact rfl); (· (simp [go_sem, List.take_of_length_le] <;> with_reducible rfl)))
            | (refine Gx.skipW rfl ?_ ?_ ?_; (· exact rfl); (· exact rfl))
            | (refine Gx.skipH rfl ?_ ?_ ?_; (· exact rfl); (· exact rfl))
            | (refine Gx.hid (r := ?_) rfl ?_ ?_ ?_ ?_; rotate_left; (· exact rfl); (· exact rfl); (· (simp [go_sem, List.take_of_length_le] <;> with_reducible rfl)))
            | (refine Gx.wr (s' := ?_) rfl ?_ ?_ ?_ ?_; rotate_left; (· exact rfl); (· (simp [go_sem, List.take_of_length_le] <;> with_reducible rfl)); (· (simp [go_sem, List.take_of_length_le])))
            | fail
          first | refine GS.cc (symbolOf x (by omega) (by omega)) rfl rfl rfl rfl (by simp [go_sem, List.take_of_length_le] <;> with_reducible rfl) rfl (by simp [go_sem, List.take_of_length_le]) ?_ | refine Gd.cc (symbolOf x (by omega) (by omega)) rfl rfl rfl rfl (by simp [go_sem, List.take_of_length_le] <;> with_reducible rfl) rfl (by simp [go_sem, List.take_of_length_le]) ?_ | refine Gx.cc (symbolOf x (by omega) (by omega)) rfl rfl rfl rfl rfl (by simp [go_sem, List.take_of_length_le] <;> with_reducible rfl) rfl (by simp [go_sem, List.take_of_length_le]) ?_
          repeat' first
            | refine Holds.seq ?_
            | refine Holds.skip ?_
            | refine Holds.exit ?_
            | refine Holds.ret ?_
            | refine thenA_normal ?_
            | refine thenA_exit ?_
            | refine thenA_ret ?_
            | refine inB_normal ?_
            | refine inB_ret ?_
            | refine inB_here ?_
            | (refine inB_past ?_ ?_; (· exact rfl))
            | refine Holds.reg ?_
            | refine Holds.block ?_
            | refine GS.nil ?_
            | refine Gd.nil ?_
            | (refine GS.step (s' := ?_) ?_ ?_ ?_; rotate_left; (· exact rfl); (· (simp [go_sem, List.take_of_length_le, show (w'.length + 1) * 8 ≤ 140737488355328 by omega] <;> with_reducible rfl)))
            | (refine GS.skip ?_ ?_ ?_; (· exact rfl); (· exact rfl))
            | (refine Gd.go (s' := ?_) ?_ ?_ ?_; rotate_left; (· exact rfl); (· (simp [go_sem, List.take_of_length_le, show (w'.length + 1) * 8 ≤ 140737488355328 by omega] <;> with_reducible rfl)))
            | (refine Gd.skip ?_ ?_ ?_; (· exact rfl); (· exact rfl))
            | refine Gx.nil ?_
            | (refine Gx.go (s' := ?_) rfl ?_ ?_ ?_; rotate_left; (· exact rfl); (· (simp [go_sem, List.take_of_length_le, show (w'.length + 1) * 8 ≤ 140737488355328 by omega] <;> with_reducible rfl)))
            | (refine Gx.skip rfl ?_ ?_ ?_; (· exact rfl); (· exact rfl))
            | (refine Gx.skipO rfl ?_ ?_ ?_; (· exact rfl); (· exact rfl))
            | (refine Gx.wo (s' := ?_) rfl ?_ ?_ ?_; rotate_left; (· exact rfl); (· (simp [go_sem, List.take_of_length_le, show (w'.length + 1) * 8 ≤ 140737488355328 by omega] <;> with_reducible rfl)))
            | (refine Gx.skipW rfl ?_ ?_ ?_; (· exact rfl); (· exact rfl))
            | (refine Gx.skipH rfl ?_ ?_ ?_; (· exact rfl); (· exact rfl))
            | (refine Gx.hid (r := ?_) rfl ?_ ?_ ?_ ?_; rotate_left; (· exact rfl); (· exact rfl); (· (simp [go_sem, List.take_of_length_le, show (w'.length + 1) * 8 ≤ 140737488355328 by omega] <;> with_reducible rfl)))
            | (refine Gx.wr (s' := ?_) rfl ?_ ?_ ?_ ?_; rotate_left; (· exact rfl); (· (simp [go_sem, List.take_of_length_le, show (w'.length + 1) * 8 ≤ 140737488355328 by omega] <;> with_reducible rfl)); (· (simp [go_sem, List.take_of_length_le, show (w'.length + 1) * 8 ≤ 140737488355328 by omega])))
            | fail
          refine ⟨(j + 1, e, ks, w' ++ [-1 - x]), ⟨by dsimp only; omega, hfold, he0, he1, by simp; omega, by dsimp only; omega⟩, by dsimp only; omega, ?_⟩
          rw [step]
          exact Cov.ofn (nm [0, 1, 2, 3, 4, 10, 6, 7]) rfl (by simp [go_sem, List.take_of_length_le, ren, ren1, okr, okr1, ChkT, ChkN, BlkN, nf, ints_snoc]) (by simp [go_sem, List.take_of_length_le, ren, ren1, okr, okr1, ChkT, ChkN, BlkN, nf, ints_snoc])
        have hx : ¬ x < 0 := by simpa using hx
        rw [if_neg hx] at hfold
        have hp := readF_props hg tree f x e w'
        have hi := ih x e w' (by omega) (by omega) (by omega)
        generalize readF g tree f x e w' = q at hfold hp hi
        obtain ⟨q, w1⟩ := q
        simp only [tIns, tOuts, grammarC] at hi
        cases q with
        | none =>
          dsimp only at hfold
          subst hfold
          simp only [ptr, Option.isSome_none] at hi ⊢
          repeat' first
            | refine Holds.seq ?_
            | refine Holds.skip ?_
            | refine Holds.exit ?_
            | refine Holds.ret ?_
            | refine thenA_normal ?_
            | refine thenA_exit ?_
            | refine thenA_ret ?_
            | refine inB_normal ?_
            | refine inB_ret ?_
            | refine inB_here ?_
            | (refine inB_past ?_ ?_; (· exact rfl))
            | refine Holds.reg ?_
            | refine Holds.block ?_
            | refine GS.nil ?_
            | refine Gd.nil ?_
            | (refine GS.step (s' := ?_) ?_ ?_ ?_; rotate_left; (· exact rfl); (· (simp [go_sem, List.take_of_length_le] <;> with_reducible rfl)))
            | (refine GS.skip ?_ ?_ ?_; (· exact rfl); (· exact rfl))
            | (refine Gd.go (s' := ?_) ?_ ?_ ?_; rotate_left; (· exact rfl); (· (simp [go_sem, List.take_of_length_le] <;> with_reducible rfl)))
            | (refine Gd.skip ?_ ?_ ?_; (· exact rfl); (· exact rfl))
            | refine Gx.nil ?_
            | (refine Gx.go (s' := ?_) rfl ?_ ?_ ?_; rotate_left; (· exact rfl); (· (simp [go_sem, List.take_of_length_le] <;> with_reducible rfl)))
            | (refine Gx.skip rfl ?_ ?_ ?_; (· exact rfl); (· exact rfl))
            | (refine Gx.skipO rfl ?_ ?_ ?_; (· exact rfl); (· exact rfl))
            | (refine Gx.wo (s' := ?_) rfl ?_ ?_ ?_; rotate_left; (· exact rfl); (· (simp [go_sem, List.take_of_length_le] <;> with_reducible rfl)))
            | (refine Gx.skipW rfl ?_ ?_ ?_; (· exact rfl); (· exact rfl))
            | (refine Gx.skipH rfl ?_ ?_ ?_; (· exact rfl); (· exact rfl))
            | (refine Gx.hid (r := ?_) rfl ?_ ?_ ?_ ?_; rotate_left; (· exact rfl); (· exact rfl); (· (simp [go_sem, List.take_of_length_le] <;> with_reducible rfl)))
            | (refine Gx.wr (s' := ?_) rfl ?_ ?_ ?_ ?_; rotate_left; (· exact rfl); (· (simp [go_sem, List.take_of_length_le] <;> with_reducible rfl)); (· (simp [go_sem, List.take_of_length_le])))
            | fail
          refine Holds.anx [1006] [] (fun n => true) mixed ?_ ?_ ?_; (· kernel_rfl); (· kernel_rfl)
          repeat' first
            | refine Holds.seq ?_
            | refine Holds.skip ?_
            | refine Holds.exit ?_
            | refine Holds.ret ?_
            | refine thenA_normal ?_
            | refine thenA_exit ?_
            | refine thenA_ret ?_
            | refine inB_normal ?_
            | refine inB_ret ?_
            | refine inB_here ?_
            | (refine inB_past ?_ ?_; (· exact rfl))
            | refine Holds.reg ?_
            | refine Holds.block ?_
            | refine GS.nil ?_
            | refine Gd.nil ?_
            | (refine GS.step (s' := ?_) ?_ ?_ ?_; rotate_left; (· exact rfl); (· (simp [go_sem, List.take_of_length_le] <;> with_reducible rfl)))
            | (refine GS.skip ?_ ?_ ?_; (· exact rfl); (· exact rfl))
            | (refine Gd.go (s' := ?_) ?_ ?_ ?_; rotate_left; (· exact rfl); (· (simp [go_sem, List.take_of_length_le] <;> with_reducible rfl)))
            | (refine Gd.skip ?_ ?_ ?_; (· exact rfl); (· exact rfl))
            | refine Gx.nil ?_
            | (refine Gx.go (s' := ?_) rfl ?_ ?_ ?_; rotate_left; (· exact rfl); (· (simp [go_sem, List.take_of_length_le] <;> with_reducible rfl)))
            | (refine Gx.skip rfl ?_ ?_ ?_; (· exact rfl); (· exact rfl))
            | (refine Gx.skipO rfl ?_ ?_ ?_; (· exact rfl); (· exact rfl))
            | (refine Gx.wo (s' := ?_) rfl ?_ ?_ ?_; rotate_left; (· exact rfl); (· (simp [go_sem, List.take_of_length_le] <;> with_reducible rfl)))
            | (refine Gx.skipW rfl ?_ ?_ ?_; (· exact rfl); (· exact rfl))
            | (refine Gx.skipH rfl ?_ ?_ ?_; (· exact rfl); (· exact rfl))
            | (refine Gx.hid (r := ?_) rfl ?_ ?_ ?_ ?_; rotate_left; (· exact rfl); (· exact rfl); (· (simp [go_sem, List.take_of_length_le] <;> with_reducible rfl)))
            | (refine Gx.wr (s' := ?_) rfl ?_ ?_ ?_ ?_; rotate_left; (· exact rfl); (· (simp [go_sem, List.take_of_length_le] <;> with_reducible rfl)); (· (simp [go_sem, List.take_of_length_le])))
            | fail
          first | refine GS.fnn [0, 1, 2, 3, 5] (hi) rfl rfl rfl rfl (by simp [go_sem, List.take_of_length_le, ren, ren1, okr, okr1, ChkN, BlkN, List.range_succ, nf] <;> with_reducible rfl) (by simp [go_sem, List.take_of_length_le, ren, ren1, okr, okr1, ChkN, BlkN, List.range_succ, nf]) (by simp [go_sem, List.take_of_length_le, ren, ren1, okr, okr1, ChkN, BlkN, List.range_succ, nf]) (by simp [List.range_succ, lb]) (ChkN.toB (by simp [go_sem, List.take_of_length_le, ren, ren1, okr, okr1, ChkN, BlkN, List.range_succ, nf])) (by decide) (by simp) rfl (.nfr (by simp [nf]) (.nfr (by simp [nf]) (.okw (by simp [okr, okr1]) (.okw (by simp [okr, okr1]) (.nfr (by simp) .nil))))) (by simp [go_sem, List.take_of_length_le, ren, ren1, okr, okr1, ChkN, BlkN, List.range_succ, nf] <;> with_reducible rfl) ?_ | refine Gx.fnn [0, 1, 2, 3, 5] (hi) rfl rfl rfl rfl rfl (by simp [go_sem, List.take_of_length_le, ren, ren1, okr, okr1, ChkN, BlkN, List.range_succ, nf] <;> with_reducible rfl) (by simp [go_sem, List.take_of_length_le, ren, ren1, okr, okr1, ChkN, BlkN, List.range_succ, nf]) (by simp [go_sem, List.take_of_length_le, ren, ren1, okr, okr1, ChkN, BlkN, List.range_succ, nf]) (by simp [List.range_succ, lb]) (ChkN.toB (by simp [go_sem, List.take_of_length_le, ren, ren1, okr, okr1, ChkN, BlkN, List.range_succ, nf])) (by decide) (by simp) rfl (.nfr (by simp [nf]) (.nfr (by simp [nf]) (.okw (by simp [okr, okr1]) (.okw (by simp [okr, okr1]) (.nfr (by simp) .nil))))) (by simp [go_sem, List.take_of_length_le, ren, ren1, okr, okr1, ChkN, BlkN, List.range_succ, nf]) (by simp [go_sem, List.take_of_length_le, ren, ren1, okr, okr1, ChkN, BlkN, List.range_succ, nf] <;> with_reducible rfl) ?_ | refine Gx.fnno [0, 1, 2, 3, 5] (hi) rfl rfl rfl rfl rfl (by simp [go_sem, List.take_of_length_le, ren, ren1, okr, okr1, ChkN, BlkN, List.range_succ, nf] <;> with_reducible rfl) (by simp [go_sem, List.take_of_length_le, ren, ren1, okr, okr1, ChkN, BlkN, List.range_succ, nf]) (by simp [go_sem, List.take_of_length_le, ren, ren1, okr, okr1, ChkN, BlkN, List.range_succ, nf]) (by simp [List.range_succ, lb]) (ChkN.toB (by simp [go_sem, List.take_of_length_le, ren, ren1, okr, okr1, ChkN, BlkN, List.range_succ, nf])) (by decide) (by simp) rfl (.nfr (by simp [nf]) (.nfr (by simp [nf]) (.okw (by simp [okr, okr1]) (.okw (by simp [okr, okr1]) (.nfr (by simp) .nil))))) (by simp [go_sem, List.take_of_length_le, ren, ren1, okr, okr1, ChkN, BlkN, List.range_succ, nf] <;> with_reducible rfl) ?_
          repeat' first
            | refine Holds.seq ?_
            | refine Holds.skip ?_
            | refine Holds.exit ?_
            | refine Holds.ret ?_
            | refine thenA_normal ?_
            | refine thenA_exit ?_
            | refine thenA_ret ?_
            | refine inB_normal ?_
            | refine inB_ret ?_
            | refine inB_here ?_
            | (refine inB_past ?_ ?_; (· exact rfl))
            | refine Holds.reg ?_
            | refine Holds.block ?_
            | refine GS.nil ?_
            | refine Gd.nil ?_
            | (refine GS.step (s' := ?_) ?_ ?_ ?_; rotate_left; (· exact rfl); (· (simp [go_sem, List.take_of_length_le] <;> with_reducible rfl)))
            | (refine GS.skip ?_ ?_ ?_; (· exact rfl); (· exact rfl))
            | (refine Gd.go (s' := ?_) ?_ ?_ ?_; rotate_left; (· exact rfl); (· (simp [go_sem, List.take_of_length_le] <;> with_reducible rfl)))
            | (refine Gd.skip ?_ ?_ ?_; (· exact rfl); (· exact rfl))
            | refine Gx.nil ?_
            | (refine Gx.go (s' := ?_) rfl ?_ ?_ ?_; rotate_left; (· exact rfl); (· (simp [go_sem, List.take_of_length_le] <;> with_reducible rfl)))
            | (refine Gx.skip rfl ?_ ?_ ?_; (· exact rfl); (· exact rfl))
            | (refine Gx.skipO rfl ?_ ?_ ?_; (· exact rfl); (· exact rfl))
            | (refine Gx.wo (s' := ?_) rfl ?_ ?_ ?_; rotate_left; (· exact rfl); (· (simp [go_sem, List.take_of_length_le] <;> with_reducible rfl)))
            | (refine Gx.skipW rfl ?_ ?_ ?_; (· exact rfl); (· exact rfl))
            | (refine Gx.skipH rfl ?_ ?_ ?_; (· exact rfl); (· exact rfl))
            | (refine Gx.hid (r := ?_) rfl ?_ ?_ ?_ ?_; rotate_left; (· exact rfl); (· exact rfl); (· (simp [go_sem, List.take_of_length_le] <;> with_reducible rfl)))
            | (refine Gx.wr (s' := ?_) rfl ?_ ?_ ?_ ?_; rotate_left; (· exact rfl); (· (simp [go_sem, List.take_of_length_le] <;> with_reducible rfl)); (· (simp [go_sem, List.take_of_length_le])))
            | fail
          refine Holds.cond rfl (fun h => ?_) (fun h => ?_)
          · repeat' first
              | refine Holds.seq ?_
              | refine Holds.skip ?_
              | refine Holds.exit ?_
              | refine Holds.ret ?_
              | refine thenA_normal ?_
              | refine thenA_exit ?_
              | refine thenA_ret ?_
              | refine inB_normal ?_
              | refine inB_ret ?_
              | refine inB_here ?_
              | (refine inB_past ?_ ?_; (· exact rfl))
              | refine Holds.reg ?_
              | refine Holds.block ?_
              | refine GS.nil ?_
              | refine Gd.nil ?_
              | (refine GS.step (s' := ?_) ?_ ?_ ?_; rotate_left; (· exact rfl); (· (simp [go_sem, List.take_of_length_le] <;> with_reducible rfl)))
              | (refine GS.skip ?_ ?_ ?_; (· exact rfl); (· exact rfl))
              | (refine Gd.go (s' := ?_) ?_ ?_ ?_; rotate_left; (· exact rfl); (· (simp [go_sem, List.take_of_length_le] <;> with_reducible rfl)))
              | (refine Gd.skip ?_ ?_ ?_; (· exact rfl); (· exact rfl))
              | refine Gx.nil ?_
              | (refine Gx.go (s' := ?_) rfl ?_ ?_ ?_; rotate_left; (· exact rfl); (· (simp [go_sem, List.take_of_length_le] <;> with_reducible rfl)))
              | (refine Gx.skip rfl ?_ ?_ ?_; (· exact rfl); (· exact rfl))
              | (refine Gx.skipO rfl ?_ ?_ ?_; (· exact rfl); (· exact rfl))
              | (refine Gx.wo (s' := ?_) rfl ?_ ?_ ?_; rotate_left; (· exact rfl); (· (simp [go_sem, List.take_of_length_le] <;> with_reducible rfl)))
              | (refine Gx.skipW rfl ?_ ?_ ?_; (· exact rfl); (· exact rfl))
              | (refine Gx.skipH rfl ?_ ?_ ?_; (· exact rfl); (· exact rfl))
              | (refine Gx.hid (r := ?_) rfl ?_ ?_ ?_ ?_; rotate_left; (· exact rfl); (· exact rfl); (· (simp [go_sem, List.take_of_length_le] <;> with_reducible rfl)))
              | (refine Gx.wr (s' := ?_) rfl ?_ ?_ ?_ ?_; rotate_left; (· exact rfl); (· (simp [go_sem, List.take_of_length_le] <;> with_reducible rfl)); (· (simp [go_sem, List.take_of_length_le])))
              | fail
            refine OutF.mkn (xs := ?_) (nm [0, 1, 2, 3, 4, 8]) ?_ ?_ ?_ ?_ ?_ (by first | exact .inr rfl | exact .inl rfl)
            rotate_left
            · simp [go_sem, List.take_of_length_le] <;> with_reducible rfl
            · simp [go_sem, List.take_of_length_le, ren, ren1, okr, okr1, ChkN, BlkN, List.range_succ, nf]
            · simp [go_sem, List.take_of_length_le, ren, ren1, okr, okr1, ChkN, BlkN, List.range_succ, nf]
            · simp [go_sem, List.take_of_length_le, ren, ren1, okr, okr1, ChkN, BlkN, List.range_succ, nf]
            · rfl
          · cases h
        | some p =>
          dsimp only at hfold
          obtain ⟨p0, p1, p2⟩ := hp p w1 rfl
          have hfin := partC_fin p
          simp only [ptr, Option.isSome_some] at hi
          repeat' first
            | refine Holds.seq ?_
            | refine Holds.skip ?_
            | refine Holds.exit ?_
            | refine Holds.ret ?_
            | refine thenA_normal ?_
            | refine thenA_exit ?_
            | refine thenA_ret ?_
            | refine inB_normal ?_
            | refine inB_ret ?_
            | refine inB_here ?_
            | (refine inB_past ?_ ?_; (· exact rfl))
            | refine Holds.reg ?_
            | refine Holds.block ?_
            | refine GS.nil ?_
            | refine Gd.nil ?_
            | (refine GS.step (s' := ?_) ?_ ?_ ?_; rotate_left; (· exact rfl); (· (simp [go_sem, List.take_of_length_le] <;> with_reducible rfl)))
            | (refine GS.skip ?_ ?_ ?_; (· exact rfl); (· exact rfl))
            | (refine Gd.go (s' := ?_) ?_ ?_ ?_; rotate_left; (· exact rfl); (· (simp [go_sem, List.take_of_length_le] <;> with_reducible rfl)))
            | (refine Gd.skip ?_ ?_ ?_; (· exact rfl); (· exact rfl))
            | refine Gx.nil ?_
            | (refine Gx.go (s' := ?_) rfl ?_ ?_ ?_; rotate_left; (· exact rfl); (· (simp [go_sem, List.take_of_length_le] <;> with_reducible rfl)))
            | (refine Gx.skip rfl ?_ ?_ ?_; (· exact rfl); (· exact rfl))
            | (refine Gx.skipO rfl ?_ ?_ ?_; (· exact rfl); (· exact rfl))
            | (refine Gx.wo (s' := ?_) rfl ?_ ?_ ?_; rotate_left; (· exact rfl); (· (simp [go_sem, List.take_of_length_le] <;> with_reducible rfl)))
            | (refine Gx.skipW rfl ?_ ?_ ?_; (· exact rfl); (· exact rfl))
            | (refine Gx.skipH rfl ?_ ?_ ?_; (· exact rfl); (· exact rfl))
            | (refine Gx.hid (r := ?_) rfl ?_ ?_ ?_ ?_; rotate_left; (· exact rfl); (· exact rfl); (· (simp [go_sem, List.take_of_length_le] <;> with_reducible rfl)))
            | (refine Gx.wr (s' := ?_) rfl ?_ ?_ ?_ ?_; rotate_left; (· exact rfl); (· (simp [go_sem, List.take_of_length_le] <;> with_reducible rfl)); (· (simp [go_sem, List.take_of_length_le])))
            | fail
          refine Holds.anx [1006] [] (fun n => true) mixed ?_ ?_ ?_; (· kernel_rfl); (· kernel_rfl)
          repeat' first
            | refine Holds.seq ?_
            | refine Holds.skip ?_
            | refine Holds.exit ?_
            | refine Holds.ret ?_
            | refine thenA_normal ?_
            | refine thenA_exit ?_
            | refine thenA_ret ?_
            | refine inB_normal ?_
            | refine inB_ret ?_
            | refine inB_here ?_
            | (refine inB_past ?_ ?_; (· exact rfl))
            | refine Holds.reg ?_
            | refine Holds.block ?_
            | refine GS.nil ?_
            | refine Gd.nil ?_
            | (refine GS.step (s' := ?_) ?_ ?_ ?_; rotate_left; (· exact rfl); (· (simp [go_sem, List.take_of_length_le] <;> with_reducible rfl)))
            | (refine GS.skip ?_ ?_ ?_; (· exact rfl); (· exact rfl))
            | (refine Gd.go (s' := ?_) ?_ ?_ ?_; rotate_left; (· exact rfl); (· (simp [go_sem, List.take_of_length_le] <;> with_reducible rfl)))
            | (refine Gd.skip ?_ ?_ ?_; (· exact rfl); (· exact rfl))
            | refine Gx.nil ?_
            | (refine Gx.go (s' := ?_) rfl ?_ ?_ ?_; rotate_left; (· exact rfl); (· (simp [go_sem, List.take_of_length_le] <;> with_reducible rfl)))
            | (refine Gx.skip rfl ?_ ?_ ?_; (· exact rfl); (· exact rfl))
            | (refine Gx.skipO rfl ?_ ?_ ?_; (· exact rfl); (· exact rfl))
            | (refine Gx.wo (s' := ?_) rfl ?_ ?_ ?_; rotate_left; (· exact rfl); (· (simp [go_sem, List.take_of_length_le] <;> with_reducible rfl)))
            | (refine Gx.skipW rfl ?_ ?_ ?_; (· exact rfl); (· exact rfl))
            | (refine Gx.skipH rfl ?_ ?_ ?_; (· exact rfl); (· exact rfl))
            | (refine Gx.hid (r := ?_) rfl ?_ ?_ ?_ ?_; rotate_left; (· exact rfl); (· exact rfl); (· (simp [go_sem, List.take_of_length_le] <;> with_reducible rfl)))
            | (refine Gx.wr (s' := ?_) rfl ?_ ?_ ?_ ?_; rotate_left; (· exact rfl); (· (simp [go_sem, List.take_of_length_le] <;> with_reducible rfl)); (· (simp [go_sem, List.take_of_length_le])))
            | fail
          first | refine GS.fnn [0, 1, 2, 3, 5] (hi) rfl rfl rfl rfl (by simp [go_sem, List.take_of_length_le, ren, ren1, okr, okr1, ChkN, BlkN, List.range_succ, nf] <;> with_reducible rfl) (by simp [go_sem, List.take_of_length_le, ren, ren1, okr, okr1, ChkN, BlkN, List.range_succ, nf]) (by simp [go_sem, List.take_of_length_le, ren, ren1, okr, okr1, ChkN, BlkN, List.range_succ, nf]) (by simp [List.range_succ, lb]) (ChkN.toB (by simp [go_sem, List.take_of_length_le, ren, ren1, okr, okr1, ChkN, BlkN, List.range_succ, nf])) (by decide) (by simp) rfl (.nfr (by simp [nf]) (.nfr (by simp [nf]) (.okw (by simp [okr, okr1]) (.okw (by simp [okr, okr1]) (.nfr (by simp) .nil))))) (by simp [go_sem, List.take_of_length_le, ren, ren1, okr, okr1, ChkN, BlkN, List.range_succ, nf] <;> with_reducible rfl) ?_ | refine Gx.fnn [0, 1, 2, 3, 5] (hi) rfl rfl rfl rfl rfl (by simp [go_sem, List.take_of_length_le, ren, ren1, okr, okr1, ChkN, BlkN, List.range_succ, nf] <;> with_reducible rfl) (by simp [go_sem, List.take_of_length_le, ren, ren1, okr, okr1, ChkN, BlkN, List.range_succ, nf]) (by simp [go_sem, List.take_of_length_le, ren, ren1, okr, okr1, ChkN, BlkN, List.range_succ, nf]) (by simp [List.range_succ, lb]) (ChkN.toB (by simp [go_sem, List.take_of_length_le, ren, ren1, okr, okr1, ChkN, BlkN, List.range_succ, nf])) (by decide) (by simp) rfl (.nfr (by simp [nf]) (.nfr (by simp [nf]) (.okw (by simp [okr, okr1]) (.okw (by simp [okr, okr1]) (.nfr (by simp) .nil))))) (by simp [go_sem, List.take_of_length_le, ren, ren1, okr, okr1, ChkN, BlkN, List.range_succ, nf]) (by simp [go_sem, List.take_of_length_le, ren, ren1, okr, okr1, ChkN, BlkN, List.range_succ, nf] <;> with_reducible rfl) ?_ | refine Gx.fnno [0, 1, 2, 3, 5] (hi) rfl rfl rfl rfl rfl (by simp [go_sem, List.take_of_length_le, ren, ren1, okr, okr1, ChkN, BlkN, List.range_succ, nf] <;> with_reducible rfl) (by simp [go_sem, List.take_of_length_le, ren, ren1, okr, okr1, ChkN, BlkN, List.range_succ, nf]) (by simp [go_sem, List.take_of_length_le, ren, ren1, okr, okr1, ChkN, BlkN, List.range_succ, nf]) (by simp [List.range_succ, lb]) (ChkN.toB (by simp [go_sem, List.take_of_length_le, ren, ren1, okr, okr1, ChkN, BlkN, List.range_succ, nf])) (by decide) (by simp) rfl (.nfr (by simp [nf]) (.nfr (by simp [nf]) (.okw (by simp [okr, okr1]) (.okw (by simp [okr, okr1]) (.nfr (by simp) .nil))))) (by simp [go_sem, List.take_of_length_le, ren, ren1, okr, okr1, ChkN, BlkN, List.range_succ, nf] <;> with_reducible rfl) ?_
          repeat' first
            | refine Holds.seq ?_
            | refine Holds.skip ?_
            | refine Holds.exit ?_
            | refine Holds.ret ?_
            | refine thenA_normal ?_
            | refine thenA_exit ?_
            | refine thenA_ret ?_
            | refine inB_normal ?_
            | refine inB_ret ?_
            | refine inB_here ?_
            | (refine inB_past ?_ ?_; (· exact rfl))
            | refine Holds.reg ?_
            | refine Holds.block ?_
            | refine GS.nil ?_
            | refine Gd.nil ?_
            | (refine GS.step (s' := ?_) ?_ ?_ ?_; rotate_left; (· exact rfl); (· (simp [go_sem, List.take_of_length_le] <;> with_reducible rfl)))
            | (refine GS.skip ?_ ?_ ?_; (· exact rfl); (· exact rfl))
            | (refine Gd.go (s' := ?_) ?_ ?_ ?_; rotate_left; (· exact rfl); (· (simp [go_sem, List.take_of_length_le] <;> with_reducible rfl)))
            | (refine Gd.skip ?_ ?_ ?_; (· exact rfl); (· exact rfl))
            | refine Gx.nil ?_
            | (refine Gx.go (s' := ?_) rfl ?_ ?_ ?_; rotate_left; (· exact rfl); (· (simp [go_sem, List.take_of_length_le] <;> with_reducible rfl)))
            | (refine Gx.skip rfl ?_ ?_ ?_; (· exact rfl); (· exact rfl))
            | (refine Gx.skipO rfl ?_ ?_ ?_; (· exact rfl); (· exact rfl))
            | (refine Gx.wo (s' := ?_) rfl ?_ ?_ ?_; rotate_left; (· exact rfl); (· (simp [go_sem, List.take_of_length_le] <;> with_reducible rfl)))
            | (refine Gx.skipW rfl ?_ ?_ ?_; (· exact rfl); (· exact rfl))
            | (refine Gx.skipH rfl ?_ ?_ ?_; (· exact rfl); (· exact rfl))
            | (refine Gx.hid (r := ?_) rfl ?_ ?_ ?_ ?_; rotate_left; (· exact rfl); (· exact rfl); (· (simp [go_sem, List.take_of_length_le] <;> with_reducible rfl)))
            | (refine Gx.wr (s' := ?_) rfl ?_ ?_ ?_ ?_; rotate_left; (· exact rfl); (· (simp [go_sem, List.take_of_length_le] <;> with_reducible rfl)); (· (simp [go_sem, List.take_of_length_le])))
            | fail
          refine Holds.cond rfl (fun h => ?_) (fun h => ?_)
          · cases h
          repeat' first
            | refine Holds.seq ?_
            | refine Holds.skip ?_
            | refine Holds.exit ?_
            | refine Holds.ret ?_
            | refine thenA_normal ?_
            | refine thenA_exit ?_
            | refine thenA_ret ?_
            | refine inB_normal ?_
            | refine inB_ret ?_
            | refine inB_here ?_
            | (refine inB_past ?_ ?_; (· exact rfl))
            | refine Holds.reg ?_
            | refine Holds.block ?_
            | refine GS.nil ?_
            | refine Gd.nil ?_
            | (refine GS.step (s' := ?_) ?_ ?_ ?_; rotate_left; (· exact rfl); (· (simp [go_sem, List.take_of_length_le, hfin, show (ks.length + 1) * 8 ≤ 140737488355328 by omega] <;> with_reducible rfl)))
            | (refine GS.skip ?_ ?_ ?_; (· exact rfl); (· exact rfl))
            | (refine Gd.go (s' := ?_) ?_ ?_ ?_; rotate_left; (· exact rfl); (· (simp [go_sem, List.take_of_length_le, hfin, show (ks.length + 1) * 8 ≤ 140737488355328 by omega] <;> with_reducible rfl)))
            | (refine Gd.skip ?_ ?_ ?_; (· exact rfl); (· exact rfl))
            | refine Gx.nil ?_
            | (refine Gx.go (s' := ?_) rfl ?_ ?_ ?_; rotate_left; (· exact rfl); (· (simp [go_sem, List.take_of_length_le, hfin, show (ks.length + 1) * 8 ≤ 140737488355328 by omega] <;> with_reducible rfl)))
            | (refine Gx.skip rfl ?_ ?_ ?_; (· exact rfl); (· exact rfl))
            | (refine Gx.skipO rfl ?_ ?_ ?_; (· exact rfl); (· exact rfl))
            | (refine Gx.wo (s' := ?_) rfl ?_ ?_ ?_; rotate_left; (· exact rfl); (· (simp [go_sem, List.take_of_length_le, hfin, show (ks.length + 1) * 8 ≤ 140737488355328 by omega] <;> with_reducible rfl)))
            | (refine Gx.skipW rfl ?_ ?_ ?_; (· exact rfl); (· exact rfl))
            | (refine Gx.skipH rfl ?_ ?_ ?_; (· exact rfl); (· exact rfl))
            | (refine Gx.hid (r := ?_) rfl ?_ ?_ ?_ ?_; rotate_left; (· exact rfl); (· exact rfl); (· (simp [go_sem, List.take_of_length_le, hfin, show (ks.length + 1) * 8 ≤ 140737488355328 by omega] <;> with_reducible rfl)))
            | (refine Gx.wr (s' := ?_) rfl ?_ ?_ ?_ ?_; rotate_left; (· exact rfl); (· (simp [go_sem, List.take_of_length_le, hfin, show (ks.length + 1) * 8 ≤ 140737488355328 by omega] <;> with_reducible rfl)); (· (simp [go_sem, List.take_of_length_le, hfin, show (ks.length + 1) * 8 ≤ 140737488355328 by omega])))
            | fail
          refine ⟨(j + 1, p.fin, ks ++ [p], w1), ⟨by dsimp only; omega, hfold, by dsimp only; omega, by dsimp only; omega, by dsimp only; omega, by simp; omega⟩, by dsimp only; omega, ?_⟩
          rw [step]
          exact Cov.ofn (nm [0, 1, 2, 3, 4, 8, 6, 11]) rfl (by simp [go_sem, List.take_of_length_le, ren, ren1, okr, okr1, ChkT, ChkN, BlkN, nf, kidsC_snoc]) (by simp [go_sem, List.take_of_length_le, ren, ren1, okr, okr1, ChkT, ChkN, BlkN, nf, kidsC_snoc])
      · have hje : j = right.length := by
          have : ¬ j < right.length := by simpa using hl
          omega
        subst hje
        rw [List.drop_length] at hfold
        unfold kidsF at hfold
        subst hfold
        dsimp only
        simp only [ptr, Option.isSome_some]
        repeat' first
          | refine Holds.seq ?_
          | refine Holds.skip ?_
          | refine Holds.exit ?_
          | refine Holds.ret ?_
          | refine thenA_normal ?_
          | refine thenA_exit ?_
          | refine thenA_ret ?_
          | refine inB_normal ?_
          | refine inB_ret ?_
          | refine inB_here ?_
          | (refine inB_past ?_ ?_; (· exact rfl))
          | refine Holds.reg ?_
          | refine Holds.block ?_
          | refine GS.nil ?_
          | refine Gd.nil ?_
          | (refine GS.step (s' := ?_) ?_ ?_ ?_; rotate_left; (· exact rfl); (· (simp [go_sem, List.take_of_length_le] <;> with_reducible rfl)))
          | (refine GS.skip ?_ ?_ ?_; (· exact rfl); (· exact rfl))
          | (refine Gd.go (s' := ?_) ?_ ?_ ?_; rotate_left; (· exact rfl); (· (simp [go_sem, List.take_of_length_le] <;> with_reducible rfl)))
          | (refine Gd.skip ?_ ?_ ?_; (· exact rfl); (· exact rfl))
          | refine Gx.nil ?_
          | (refine Gx.go (s' := ?_) rfl ?_ ?_ ?_; rotate_left; (· exact rfl); (· (simp [go_sem, List.take_of_length_le] <;> with_reducible rfl)))
          | (refine Gx.skip rfl ?_ ?_ ?_; (· exact rfl); (· exact rfl))
          | (refine Gx.skipO rfl ?_ ?_ ?_; (· exact rfl); (· exact rfl))
          | (refine Gx.wo (s' := ?_) rfl ?_ ?_ ?_; rotate_left; (· exact rfl); (· (simp [go_sem, List.take_of_length_le] <;> with_reducible rfl)))
          | (refine Gx.skipW rfl ?_ ?_ ?_; (· exact rfl); (· exact rfl))
          | (refine Gx.skipH rfl ?_ ?_ ?_; (· exact rfl); (· exact rfl))
          | (refine Gx.hid (r := ?_) rfl ?_ ?_ ?_ ?_; rotate_left; (· exact rfl); (· exact rfl); (· (simp [go_sem, List.take_of_length_le] <;> with_reducible rfl)))
          | (refine Gx.wr (s' := ?_) rfl ?_ ?_ ?_ ?_; rotate_left; (· exact rfl); (· (simp [go_sem, List.take_of_length_le] <;> with_reducible rfl)); (· (simp [go_sem, List.take_of_length_le])))
          | fail
        refine OutF.cov (Cov.freeze [6, 7] (ts := [(8, .pi (partC (.node non k at' e w.length w'.length ks)))]) (.cons rfl (Fz.pbL rfl rfl rfl (.cons (.v _) (.cons (.v _) (.cons (.v _) (.cons (.v _) (.cons (.v _) (.cons (.v _) (.cons (Fz.all rfl rfl (by simp) rfl (kidsC_cl _)) .nil)))))))) .nil)) ?_
        refine OutF.mkn (xs := ?_) (nm [0, 1, 2, 3, 4, 5]) ?_ ?_ ?_ ?_ ?_ (by first | exact .inr rfl | exact .inl rfl)
        rotate_left
        · simp [go_sem, List.take_of_length_le, frz] <;> with_reducible rfl
        · simp [go_sem, List.take_of_length_le, ren, ren1, okr, okr1, ChkN, BlkN, List.range_succ, nf, frz]
        · simp [go_sem, List.take_of_length_le, ren, ren1, okr, okr1, ChkN, BlkN, List.range_succ, nf, frz]
        · simp [go_sem, List.take_of_length_le, ren, ren1, okr, okr1, ChkN, BlkN, List.range_succ, nf, frz]
        · rfl
end Go.Proofs.Ytpnpjkkppndhfaa.En
end
section
namespace Go.Proofs.Ytpnpjkkppndhfaa.En
open Go.RowKit
set_option linter.unusedSimpArgs false
set_option linter.unusedVariables false
set_option maxHeartbeats 8000000
theorem gTree (g : GrammarT) (hg : OkG g) (tree : List Int) (ht : tree.length ≤ 60) (non : Int) : Pure Try.prog 34 [.ag (grammarC g), .v (.int .i64 non), .im 1 (ints tree)] (.tu [ptr (readF g tree 61 non 0 []).1, .im 1 (ints (readF g tree 61 non 0 []).2), .v (.bool (readF g tree 61 non 0 []).1.isSome)]) := by
  refine Pure.mk (rs := [.tmp 6, .tmp 7, .tmp 8]) (nt := 24) Try.func34 (by kernel_rfl) rfl rfl rfl (by simp) ?_
  simp only [sl, grammarC]
  have hf := treeF g hg tree ht 61 non 0 [] (by omega) (by omega) (by simp)
  generalize readF g tree 61 non 0 [] = R at hf
  obtain ⟨q, w⟩ := R
  simp only [tIns, tOuts, grammarC, List.length_nil, ints_nil] at hf
  cases q with
  | none =>
    simp only [ptr, Option.isSome_none] at hf ⊢
    repeat' first
      | refine Holds.seq ?_
      | refine Holds.skip ?_
      | refine Holds.exit ?_
      | refine Holds.ret ?_
      | refine thenA_normal ?_
      | refine thenA_exit ?_
      | refine thenA_ret ?_
      | refine inB_normal ?_
      | refine inB_ret ?_
      | refine inB_here ?_
      | (refine inB_past ?_ ?_; (· exact rfl))
      | refine Holds.reg ?_
      | refine Holds.block ?_
      | refine GS.nil ?_
      | refine Gd.nil ?_
      | (refine Holds.any mixed ?_ ?_; (· kernel_rfl))
      | (refine GS.step (s' := ?_) ?_ ?_ ?_; rotate_left; (· exact rfl); (· (simp [go_sem, List.take_of_length_le] <;> with_reducible rfl)))
      | (refine GS.skip ?_ ?_ ?_; (· exact rfl); (· exact rfl))
      | (refine Gd.go (s' := ?_) ?_ ?_ ?_; rotate_left; (· exact rfl); (· (simp [go_sem, List.take_of_length_le] <;> with_reducible rfl)))
      | (refine Gd.skip ?_ ?_ ?_; (· exact rfl); (· exact rfl))
      | fail
    refine GS.fnn [1, 0, 3, 4, 2] (hf) rfl rfl rfl rfl (by simp [go_sem, List.take_of_length_le, ren, ren1, okr, okr1, ChkN, BlkN, List.range_succ, nf] <;> with_reducible rfl) (by simp [go_sem, List.take_of_length_le, ren, ren1, okr, okr1, ChkN, BlkN, List.range_succ, nf]) (by simp [go_sem, List.take_of_length_le, ren, ren1, okr, okr1, ChkN, BlkN, List.range_succ, nf]) (by simp [List.range_succ, lb]) (ChkN.toB (by simp [go_sem, List.take_of_length_le, ren, ren1, okr, okr1, ChkN, BlkN, List.range_succ, nf])) (by decide) (by simp) rfl (.nfr (by simp [nf]) (.nfr (by simp [nf]) (.okw (by simp [okr, okr1]) (.okw (by simp [okr, okr1]) (.nfr (by simp) .nil))))) (by simp [go_sem, List.take_of_length_le, ren, ren1, okr, okr1, ChkN, BlkN, List.range_succ, nf] <;> with_reducible rfl) ?_
    repeat' first
      | refine Holds.seq ?_
      | refine Holds.skip ?_
      | refine Holds.exit ?_
      | refine Holds.ret ?_
      | refine thenA_normal ?_
      | refine thenA_exit ?_
      | refine thenA_ret ?_
      | refine inB_normal ?_
      | refine inB_ret ?_
      | refine inB_here ?_
      | (refine inB_past ?_ ?_; (· exact rfl))
      | refine Holds.reg ?_
      | refine Holds.block ?_
      | refine GS.nil ?_
      | refine Gd.nil ?_
      | (refine Holds.any mixed ?_ ?_; (· kernel_rfl))
      | (refine GS.step (s' := ?_) ?_ ?_ ?_; rotate_left; (· exact rfl); (· (simp [go_sem, List.take_of_length_le] <;> with_reducible rfl)))
      | (refine GS.skip ?_ ?_ ?_; (· exact rfl); (· exact rfl))
      | (refine Gd.go (s' := ?_) ?_ ?_ ?_; rotate_left; (· exact rfl); (· (simp [go_sem, List.take_of_length_le] <;> with_reducible rfl)))
      | (refine Gd.skip ?_ ?_ ?_; (· exact rfl); (· exact rfl))
      | fail
    refine Out.mk (xs := ?_) ?_ ?_ (by first | exact .inr rfl | exact .inl rfl)
    rotate_left
    · simp [go_sem, List.take_of_length_le] <;> with_reducible rfl
    exact Fz.tuL (.cons (.v _) (.cons (Fz.all rfl rfl (by simp) rfl (ints_cl _)) (.cons (.v _) .nil)))
  | some p =>
    simp only [ptr, Option.isSome_some] at hf ⊢
    repeat' first
      | refine Holds.seq ?_
      | refine Holds.skip ?_
      | refine Holds.exit ?_
      | refine Holds.ret ?_
      | refine thenA_normal ?_
      | refine thenA_exit ?_
      | refine thenA_ret ?_
      | refine inB_normal ?_
      | refine inB_ret ?_
      | refine inB_here ?_
      | (refine inB_past ?_ ?_; (· exact rfl))
      | refine Holds.reg ?_
      | refine Holds.block ?_
      | refine GS.nil ?_
      | refine Gd.nil ?_
      | (refine Holds.any mixed ?_ ?_; (· kernel_rfl))
      | (refine GS.step (s' := ?_) ?_ ?_ ?_; rotate_left; (· exact rfl); (· (simp [go_sem, List.take_of_length_le] <;> with_reducible rfl)))
      | (refine GS.skip ?_ ?_ ?_; (· exact rfl); (· exact rfl))
      | (refine Gd.go (s' := ?_) ?_ ?_ ?_; rotate_left; (· exact rfl); (· (simp [go_sem, List.take_of_length_le] <;> with_reducible rfl)))
      | (refine Gd.skip ?_ ?_ ?_; (· exact rfl); (· exact rfl))
      | fail
    refine GS.fnn [1, 0, 3, 4, 2] (hf) rfl rfl rfl rfl (by simp [go_sem, List.take_of_length_le, ren, ren1, okr, okr1, ChkN, BlkN, List.range_succ, nf] <;> with_reducible rfl) (by simp [go_sem, List.take_of_length_le, ren, ren1, okr, okr1, ChkN, BlkN, List.range_succ, nf]) (by simp [go_sem, List.take_of_length_le, ren, ren1, okr, okr1, ChkN, BlkN, List.range_succ, nf]) (by simp [List.range_succ, lb]) (ChkN.toB (by simp [go_sem, List.take_of_length_le, ren, ren1, okr, okr1, ChkN, BlkN, List.range_succ, nf])) (by decide) (by simp) rfl (.nfr (by simp [nf]) (.nfr (by simp [nf]) (.okw (by simp [okr, okr1]) (.okw (by simp [okr, okr1]) (.nfr (by simp) .nil))))) (by simp [go_sem, List.take_of_length_le, ren, ren1, okr, okr1, ChkN, BlkN, List.range_succ, nf] <;> with_reducible rfl) ?_
    repeat' first
      | refine Holds.seq ?_
      | refine Holds.skip ?_
      | refine Holds.exit ?_
      | refine Holds.ret ?_
      | refine thenA_normal ?_
      | refine thenA_exit ?_
      | refine thenA_ret ?_
      | refine inB_normal ?_
      | refine inB_ret ?_
      | refine inB_here ?_
      | (refine inB_past ?_ ?_; (· exact rfl))
      | refine Holds.reg ?_
      | refine Holds.block ?_
      | refine GS.nil ?_
      | refine Gd.nil ?_
      | (refine Holds.any mixed ?_ ?_; (· kernel_rfl))
      | (refine GS.step (s' := ?_) ?_ ?_ ?_; rotate_left; (· exact rfl); (· (simp [go_sem, List.take_of_length_le] <;> with_reducible rfl)))
      | (refine GS.skip ?_ ?_ ?_; (· exact rfl); (· exact rfl))
      | (refine Gd.go (s' := ?_) ?_ ?_ ?_; rotate_left; (· exact rfl); (· (simp [go_sem, List.take_of_length_le] <;> with_reducible rfl)))
      | (refine Gd.skip ?_ ?_ ?_; (· exact rfl); (· exact rfl))
      | fail
    refine Out.mk (xs := ?_) ?_ ?_ (by first | exact .inr rfl | exact .inl rfl)
    rotate_left
    · simp [go_sem, List.take_of_length_le] <;> with_reducible rfl
    exact Fz.tuL (.cons (.pi _) (.cons (Fz.all rfl rfl (by simp) rfl (ints_cl _)) (.cons (.v _) .nil)))
end Go.Proofs.Ytpnpjkkppndhfaa.En
end
section
namespace Go.Proofs.Ytpnpjkkppndhfaa.En
open Go.RowKit
set_option linter.unusedSimpArgs false
set_option linter.unusedVariables false
theorem kids_shift {rd : Int → Nat → List Int → Option PT × List Int} (h : ∀ x e w, (rd x e w).2 = w ++ (rd x e []).2 ∧ (rd x e w).1.map PT.fin = (rd x e []).1.map PT.fin) :
    ∀ (xs : List Int) (e : Nat) (ks ks0 : List PT) (w : List Int), (kidsF rd xs e ks w).2 = w ++ (kidsF rd xs e ks0 []).2 ∧ (kidsF rd xs e ks w).1.map (·.2) = (kidsF rd xs e ks0 []).1.map (·.2) := by
  intro xs
  induction xs with
  | nil => intro e ks ks0 w; simp [kidsF]
  | cons x xs ih =>
    intro e ks ks0 w
    unfold kidsF
    by_cases h0 : x < 0
    · rw [if_pos h0, if_pos h0]
      obtain ⟨a1, a2⟩ := ih e ks ks (w ++ [-1 - x])
      obtain ⟨b1, b2⟩ := ih e ks0 ks ([] ++ [-1 - x])
      exact ⟨by rw [a1, b1]; simp, by rw [a2, b2]⟩
    · rw [if_neg h0, if_neg h0]
      obtain ⟨g1, g2⟩ := h x e w
      generalize rd x e w = q at g1 g2
      generalize rd x e [] = q0 at g1 g2
      obtain ⟨q, w1⟩ := q
      obtain ⟨q0, w0⟩ := q0
      dsimp only at g1 g2
      subst g1
      cases q with
      | none =>
        cases q0 with
        | none => exact ⟨rfl, rfl⟩
        | some p0 => simp at g2
      | some p =>
        cases q0 with
        | none => simp at g2
        | some p0 =>
          have hf : p.fin = p0.fin := by simpa using g2
          dsimp only
          obtain ⟨a1, a2⟩ := ih p.fin (ks ++ [p]) (ks ++ [p]) (w ++ w0)
          obtain ⟨b1, b2⟩ := ih p0.fin (ks0 ++ [p0]) (ks ++ [p]) w0
          rw [← hf] at b1 b2
          exact ⟨by rw [a1, ← hf, b1]; simp, by rw [a2, ← hf, b2]⟩
theorem read_shift (g : GrammarT) (tree : List Int) : ∀ (f : Nat) (non : Int) (at' : Nat) (w : List Int), (readF g tree f non at' w).2 = w ++ (readF g tree f non at' []).2 ∧ (readF g tree f non at' w).1.map PT.fin = (readF g tree f non at' []).1.map PT.fin := by
  intro f
  induction f with
  | zero => intro non at' w; simp [readF]
  | succ f ih =>
    intro non at' w
    unfold readF
    split
    · obtain ⟨h1, h2⟩ := kids_shift ih (ruleAt g tree at').2 (at' + 1) [] [] w
      generalize kidsF (readF g tree f) (ruleAt g tree at').2 (at' + 1) [] w = q at h1 h2
      generalize kidsF (readF g tree f) (ruleAt g tree at').2 (at' + 1) [] [] = q0 at h1 h2
      obtain ⟨q, w1⟩ := q
      obtain ⟨q0, w0⟩ := q0
      dsimp only at h1 h2
      subst h1
      cases q with
      | none =>
        cases q0 with
        | none => exact ⟨rfl, rfl⟩
        | some p0 => simp at h2
      | some p =>
        cases q0 with
        | none => simp at h2
        | some p0 =>
          have hf : p.2 = p0.2 := by simpa using h2
          obtain ⟨k, e⟩ := p
          obtain ⟨k0, e0⟩ := p0
          dsimp only at hf
          subst hf
          exact ⟨rfl, rfl⟩
    · simp
/-- A rule's place. -/
def inTree (g : GrammarT) (tree : List Int) (i : Nat) : Prop := ∃ k : Nat, tree[i]? = some (k : Int) ∧ k < g.2.2.length
theorem kids_cover {g : GrammarT} {tree : List Int} {rd : Int → Nat → List Int → Option PT × List Int} (h : ∀ x e w p w', rd x e w = (some p, w') → e < p.fin ∧ ∀ i, e ≤ i → i < p.fin → inTree g tree i) :
    ∀ (xs : List Int) (e : Nat) (ks : List PT) (w : List Int) (ks' : List PT) (e' : Nat) (w' : List Int), kidsF rd xs e ks w = (some (ks', e'), w') → e ≤ e' ∧ ∀ i, e ≤ i → i < e' → inTree g tree i := by
  intro xs
  induction xs with
  | nil =>
    intro e ks w ks' e' w' h
    simp only [kidsF, Prod.mk.injEq, Option.some.injEq] at h
    obtain ⟨⟨rfl, rfl⟩, rfl⟩ := h
    exact ⟨Nat.le_refl _, fun i h1 h2 => absurd h2 (by omega)⟩
  | cons x xs ih =>
    intro e ks w ks' e' w' hk
    unfold kidsF at hk
    by_cases h0 : x < 0
    · rw [if_pos h0] at hk
      exact ih _ _ _ _ _ _ hk
    · rw [if_neg h0] at hk
      split at hk
      · rename_i p w1 hp
        obtain ⟨g1, g2⟩ := h x e w p w1 hp
        obtain ⟨k1, k2⟩ := ih _ _ _ _ _ _ hk
        refine ⟨by omega, fun i h1 h2 => ?_⟩
        by_cases hi : i < p.fin
        · exact g2 i h1 hi
        · exact k2 i (by omega) h2
      · cases hk
theorem read_cover (g : GrammarT) (tree : List Int) : ∀ (f : Nat) (non : Int) (at' : Nat) (w : List Int) (p : PT) (w' : List Int), readF g tree f non at' w = (some p, w') → at' < p.fin ∧ ∀ i, at' ≤ i → i < p.fin → inTree g tree i := by
  intro f
  induction f with
  | zero => intro non at' w p w' h; cases h
  | succ f ih =>
    intro non at' w p w' h
    unfold readF at h
    split at h
    · rename_i hh
      obtain ⟨k, r, hlt, hz, hk, _⟩ := head_good hh
      split at h
      · rename_i ks e w1 hkk
        cases h
        obtain ⟨a, b⟩ := kids_cover ih _ _ _ _ _ _ _ hkk
        refine ⟨by simp only [PT.fin]; omega, fun i h1 h2 => ?_⟩
        simp only [PT.fin] at h2
        by_cases hi : i = at'
        · subst hi; exact ⟨k, hz, hk⟩
        · exact b i (by omega) h2
      · cases h
    · cases h
/-- Is the list a tree of the nonterminal? -/
def isTreeV (g : GrammarT) (non : Int) (tree : List Int) : Bool := decide (endF g tree 61 non 0 = tree.length)
end Go.Proofs.Ytpnpjkkppndhfaa.En
end
section
namespace Go.Proofs.Ytpnpjkkppndhfaa.En
open Go.RowKit
set_option linter.unusedSimpArgs false
set_option linter.unusedVariables false
set_option maxHeartbeats 8000000
def wordV (toks : Int) (w : List Int) : Bool := decide (w.length ≤ 10) && w.all fun n => inR n 0 (toks - 1)
theorem l1Word (g : GrammarT) (w : List Int) (h0 : -1000000 ≤ g.2.1) (h1 : g.2.1 ≤ 1000000) (hw : w.length < 4611686018427387904) : Pure Try.prog 42 [.ag (grammarC g), .im 1 (ints w)] (.v (.bool (wordV g.2.1 w))) := by
  refine Pure.mk (rs := [.tmp 4]) (nt := 15) Try.func42 (by kernel_rfl) rfl rfl rfl (by simp) ?_
  simp only [sl, grammarC]
  have hws : wr64 (g.2.1 - 1) = g.2.1 - 1 := wr64_id (by omega) (by omega)
  have c := l1All w 0 (g.2.1 - 1) hw
  unfold wordV
  rw [show decide (w.length ≤ 10) = decide ((w.length : Int) ≤ 10) by rw [decide_eq_decide]; omega]
  generalize (w.all fun n => inR n 0 (g.2.1 - 1)) = b at c
  repeat' first
    | refine Holds.seq ?_
    | refine Holds.skip ?_
    | refine Holds.exit ?_
    | refine Holds.ret ?_
    | refine thenA_normal ?_
    | refine thenA_exit ?_
    | refine thenA_ret ?_
    | refine inB_normal ?_
    | refine inB_ret ?_
    | refine inB_here ?_
    | (refine inB_past ?_ ?_; (· exact rfl))
    | refine Holds.reg ?_
    | refine Holds.block ?_
    | refine GS.nil ?_
    | (refine GS.step (s' := ?_) ?_ ?_ ?_; rotate_left; (· exact rfl); (· (simp [go_sem, List.take_of_length_le] <;> with_reducible rfl)))
    | (refine GS.skip ?_ ?_ ?_; (· exact rfl); (· exact rfl))
    | fail
  refine GS.guard (t := 8) rfl (fun h => ?_) (fun h => ?_)
  · repeat' first
      | refine Holds.seq ?_
      | refine Holds.skip ?_
      | refine Holds.exit ?_
      | refine Holds.ret ?_
      | refine thenA_normal ?_
      | refine thenA_exit ?_
      | refine thenA_ret ?_
      | refine inB_normal ?_
      | refine inB_ret ?_
      | refine inB_here ?_
      | (refine inB_past ?_ ?_; (· exact rfl))
      | refine Holds.reg ?_
      | refine Holds.block ?_
      | refine GS.nil ?_
      | (refine GS.step (s' := ?_) ?_ ?_ ?_; rotate_left; (· exact rfl); (· (simp [go_sem, List.take_of_length_le, hws] <;> with_reducible rfl)))
      | (refine GS.skip ?_ ?_ ?_; (· exact rfl); (· exact rfl))
      | fail
    refine GS.cc (c) rfl rfl rfl rfl (by simp [go_sem, List.take_of_length_le] <;> with_reducible rfl) rfl (by simp [go_sem, List.take_of_length_le]) ?_
    repeat' first
      | refine Holds.seq ?_
      | refine Holds.skip ?_
      | refine Holds.exit ?_
      | refine Holds.ret ?_
      | refine thenA_normal ?_
      | refine thenA_exit ?_
      | refine thenA_ret ?_
      | refine inB_normal ?_
      | refine inB_ret ?_
      | refine inB_here ?_
      | (refine inB_past ?_ ?_; (· exact rfl))
      | refine Holds.reg ?_
      | refine Holds.block ?_
      | refine GS.nil ?_
      | (refine GS.step (s' := ?_) ?_ ?_ ?_; rotate_left; (· exact rfl); (· (simp [go_sem, List.take_of_length_le] <;> with_reducible rfl)))
      | (refine GS.skip ?_ ?_ ?_; (· exact rfl); (· exact rfl))
      | fail
    rw [h]
    refine Out.mk (xs := ?_) ?_ ?_ (by first | exact .inr rfl | exact .inl rfl)
    rotate_left
    · simp [go_sem, List.take_of_length_le] <;> with_reducible rfl
    exact .v _
  · repeat' first
      | refine Holds.seq ?_
      | refine Holds.skip ?_
      | refine Holds.exit ?_
      | refine Holds.ret ?_
      | refine thenA_normal ?_
      | refine thenA_exit ?_
      | refine thenA_ret ?_
      | refine inB_normal ?_
      | refine inB_ret ?_
      | refine inB_here ?_
      | (refine inB_past ?_ ?_; (· exact rfl))
      | refine Holds.reg ?_
      | refine Holds.block ?_
      | refine GS.nil ?_
      | (refine GS.step (s' := ?_) ?_ ?_ ?_; rotate_left; (· exact rfl); (· (simp [go_sem, List.take_of_length_le] <;> with_reducible rfl)))
      | (refine GS.skip ?_ ?_ ?_; (· exact rfl); (· exact rfl))
      | fail
    rw [h]
    refine Out.mk (xs := ?_) ?_ ?_ (by first | exact .inr rfl | exact .inl rfl)
    rotate_left
    · simp [go_sem, List.take_of_length_le] <;> with_reducible rfl
    exact .v _
theorem goodWord (g : GrammarT) (w : List Int) (hx : g.2.2.length < 4611686018427387904) (hs : ∀ e ∈ g.2.2, e.2.length < 4611686018427387904) (hw : w.length < 4611686018427387904) : Pure Try.prog 36 [.ag (grammarC g), .im 1 (ints w)] (.v (.bool (goodG g && wordV g.2.1 w))) := by
  refine Pure.mk (rs := [.tmp 4]) (nt := 12) Try.func36 (by kernel_rfl) rfl rfl rfl (by simp) ?_
  simp only [sl, grammarC]
  have c1 := specGoodG g hx hs
  generalize hg : goodG g = b at c1
  repeat' first
    | refine Holds.seq ?_
    | refine Holds.skip ?_
    | refine Holds.exit ?_
    | refine Holds.ret ?_
    | refine thenA_normal ?_
    | refine thenA_exit ?_
    | refine thenA_ret ?_
    | refine inB_normal ?_
    | refine inB_ret ?_
    | refine inB_here ?_
    | (refine inB_past ?_ ?_; (· exact rfl))
    | refine Holds.reg ?_
    | refine Holds.block ?_
    | refine GS.nil ?_
    | (refine GS.step (s' := ?_) ?_ ?_ ?_; rotate_left; (· exact rfl); (· (simp [go_sem, List.take_of_length_le] <;> with_reducible rfl)))
    | (refine GS.skip ?_ ?_ ?_; (· exact rfl); (· exact rfl))
    | fail
  refine GS.cc (c1) rfl rfl rfl rfl (by simp [go_sem, List.take_of_length_le, grammarC] <;> with_reducible rfl) rfl (by simp [go_sem, List.take_of_length_le, grammarC]) ?_
  repeat' first
    | refine Holds.seq ?_
    | refine Holds.skip ?_
    | refine Holds.exit ?_
    | refine Holds.ret ?_
    | refine thenA_normal ?_
    | refine thenA_exit ?_
    | refine thenA_ret ?_
    | refine inB_normal ?_
    | refine inB_ret ?_
    | refine inB_here ?_
    | (refine inB_past ?_ ?_; (· exact rfl))
    | refine Holds.reg ?_
    | refine Holds.block ?_
    | refine GS.nil ?_
    | (refine GS.step (s' := ?_) ?_ ?_ ?_; rotate_left; (· exact rfl); (· (simp [go_sem, List.take_of_length_le] <;> with_reducible rfl)))
    | (refine GS.skip ?_ ?_ ?_; (· exact rfl); (· exact rfl))
    | fail
  refine GS.guard (t := 7) rfl (fun h => ?_) (fun h => ?_)
  · subst h
    have hok := goodG_ok hg
    repeat' first
      | refine Holds.seq ?_
      | refine Holds.skip ?_
      | refine Holds.exit ?_
      | refine Holds.ret ?_
      | refine thenA_normal ?_
      | refine thenA_exit ?_
      | refine thenA_ret ?_
      | refine inB_normal ?_
      | refine inB_ret ?_
      | refine inB_here ?_
      | (refine inB_past ?_ ?_; (· exact rfl))
      | refine Holds.reg ?_
      | refine Holds.block ?_
      | refine GS.nil ?_
      | (refine GS.step (s' := ?_) ?_ ?_ ?_; rotate_left; (· exact rfl); (· (simp [go_sem, List.take_of_length_le, grammarC] <;> with_reducible rfl)))
      | (refine GS.skip ?_ ?_ ?_; (· exact rfl); (· exact rfl))
      | fail
    refine GS.cc (l1Word g w (by have := hok.t0; omega) (by have := hok.t1; omega) hw) rfl rfl rfl rfl (by simp [go_sem, List.take_of_length_le, grammarC] <;> with_reducible rfl) rfl (by simp [go_sem, List.take_of_length_le, grammarC]) ?_
    repeat' first
      | refine Holds.seq ?_
      | refine Holds.skip ?_
      | refine Holds.exit ?_
      | refine Holds.ret ?_
      | refine thenA_normal ?_
      | refine thenA_exit ?_
      | refine thenA_ret ?_
      | refine inB_normal ?_
      | refine inB_ret ?_
      | refine inB_here ?_
      | (refine inB_past ?_ ?_; (· exact rfl))
      | refine Holds.reg ?_
      | refine Holds.block ?_
      | refine GS.nil ?_
      | (refine GS.step (s' := ?_) ?_ ?_ ?_; rotate_left; (· exact rfl); (· (simp [go_sem, List.take_of_length_le] <;> with_reducible rfl)))
      | (refine GS.skip ?_ ?_ ?_; (· exact rfl); (· exact rfl))
      | fail
    refine Out.mk (xs := ?_) ?_ ?_ (by first | exact .inr rfl | exact .inl rfl)
    rotate_left
    · simp [go_sem, List.take_of_length_le] <;> with_reducible rfl
    exact .v _
  · subst h
    repeat' first
      | refine Holds.seq ?_
      | refine Holds.skip ?_
      | refine Holds.exit ?_
      | refine Holds.ret ?_
      | refine thenA_normal ?_
      | refine thenA_exit ?_
      | refine thenA_ret ?_
      | refine inB_normal ?_
      | refine inB_ret ?_
      | refine inB_here ?_
      | (refine inB_past ?_ ?_; (· exact rfl))
      | refine Holds.reg ?_
      | refine Holds.block ?_
      | refine GS.nil ?_
      | (refine GS.step (s' := ?_) ?_ ?_ ?_; rotate_left; (· exact rfl); (· (simp [go_sem, List.take_of_length_le] <;> with_reducible rfl)))
      | (refine GS.skip ?_ ?_ ?_; (· exact rfl); (· exact rfl))
      | fail
    refine Out.mk (xs := ?_) ?_ ?_ (by first | exact .inr rfl | exact .inl rfl)
    rotate_left
    · simp [go_sem, List.take_of_length_le] <;> with_reducible rfl
    exact .v _
end Go.Proofs.Ytpnpjkkppndhfaa.En
end
section
namespace Go.Proofs.Ytpnpjkkppndhfaa.En
open Go.RowKit
set_option linter.unusedSimpArgs false
set_option linter.unusedVariables false
set_option maxHeartbeats 8000000
theorem gB_at2 {B : List Int} {k : Nat} {b : Int} (h : B[k]? = some b) : gB B k = b := by
  unfold gB
  rw [Int.toNat_natCast, List.getD_eq_getElem?_getD, h]; rfl
theorem endF_nil (g : GrammarT) (non : Int) : ∀ f, endF g [] f non 0 = -1
  | 0 => rfl
  | f + 1 => by
    unfold endF
    rw [show headOk g [] non 0 = false by unfold headOk; simp]
    rfl
theorem l11Is (g : GrammarT) (hg : OkG g) (tree : List Int) (ht : tree.length ≤ 60) (non : Int) : Pure Try.prog 25 [.ag (grammarC g), .v (.int .i64 non), .im 1 (ints tree)] (.v (.bool (isTreeV g non tree))) := by
  refine Pure.mk (rs := [.tmp 6]) (nt := 19) Try.func25 (by kernel_rfl) rfl rfl rfl (by simp) ?_
  simp only [sl, grammarC]
  have he := l11End g hg tree ht 61 non 0 (by omega) (by omega)
  unfold isTreeV
  by_cases h0 : 0 < tree.length
  · generalize endF g tree 61 non 0 = q at he
    rw [show decide (q = (tree.length : Int)) = (q == (tree.length : Int)) by rw [Bool.eq_iff_iff]; simp]
    repeat' first
      | refine Holds.seq ?_
      | refine Holds.skip ?_
      | refine Holds.exit ?_
      | refine Holds.ret ?_
      | refine thenA_normal ?_
      | refine thenA_exit ?_
      | refine thenA_ret ?_
      | refine inB_normal ?_
      | refine inB_ret ?_
      | refine inB_here ?_
      | (refine inB_past ?_ ?_; (· exact rfl))
      | refine Holds.reg ?_
      | refine Holds.block ?_
      | refine GS.nil ?_
      | (refine GS.step (s' := ?_) ?_ ?_ ?_; rotate_left; (· exact rfl); (· (simp [go_sem, List.take_of_length_le, h0] <;> with_reducible rfl)))
      | (refine GS.skip ?_ ?_ ?_; (· exact rfl); (· exact rfl))
      | fail
    refine GS.cc (he) rfl rfl rfl rfl (by simp [go_sem, List.take_of_length_le, grammarC] <;> with_reducible rfl) rfl (by simp [go_sem, List.take_of_length_le, grammarC]) ?_
    repeat' first
      | refine Holds.seq ?_
      | refine Holds.skip ?_
      | refine Holds.exit ?_
      | refine Holds.ret ?_
      | refine thenA_normal ?_
      | refine thenA_exit ?_
      | refine thenA_ret ?_
      | refine inB_normal ?_
      | refine inB_ret ?_
      | refine inB_here ?_
      | (refine inB_past ?_ ?_; (· exact rfl))
      | refine Holds.reg ?_
      | refine Holds.block ?_
      | refine GS.nil ?_
      | (refine GS.step (s' := ?_) ?_ ?_ ?_; rotate_left; (· exact rfl); (· (simp [go_sem, List.take_of_length_le] <;> with_reducible rfl)))
      | (refine GS.skip ?_ ?_ ?_; (· exact rfl); (· exact rfl))
      | fail
    refine Out.mk (xs := ?_) ?_ ?_ (by first | exact .inr rfl | exact .inl rfl)
    rotate_left
    · simp [go_sem, List.take_of_length_le] <;> with_reducible rfl
    exact .v _
  · have hn : tree = [] := List.eq_nil_of_length_eq_zero (by omega)
    subst hn
    rw [endF_nil, decide_eq_false (by simp)]
    repeat' first
      | refine Holds.seq ?_
      | refine Holds.skip ?_
      | refine Holds.exit ?_
      | refine Holds.ret ?_
      | refine thenA_normal ?_
      | refine thenA_exit ?_
      | refine thenA_ret ?_
      | refine inB_normal ?_
      | refine inB_ret ?_
      | refine inB_here ?_
      | (refine inB_past ?_ ?_; (· exact rfl))
      | refine Holds.reg ?_
      | refine Holds.block ?_
      | refine GS.nil ?_
      | (refine GS.step (s' := ?_) ?_ ?_ ?_; rotate_left; (· exact rfl); (· (simp [go_sem, List.take_of_length_le] <;> with_reducible rfl)))
      | (refine GS.skip ?_ ?_ ?_; (· exact rfl); (· exact rfl))
      | fail
    refine Out.mk (xs := ?_) ?_ ?_ (by first | exact .inr rfl | exact .inl rfl)
    rotate_left
    · simp [go_sem, List.take_of_length_le] <;> with_reducible rfl
    exact .v _
def sumT (cs tree : List Int) : Int := tree.foldl (fun n r => n + gB cs r) 0
theorem isTree_facts {g : GrammarT} {tree : List Int} (h : isTreeV g 0 tree = true) : (∃ p w, readF g tree 61 0 0 [] = (some p, w) ∧ p.fin = tree.length) ∧ ∀ i, i < tree.length → inTree g tree i := by
  unfold isTreeV at h
  have h := of_decide_eq_true h
  have e := end_read g tree 61 0 0 []
  rw [h] at e
  have hc := read_cover g tree 61 0 0 []
  generalize readF g tree 61 0 0 [] = q at e hc
  obtain ⟨q, w⟩ := q
  cases q with
  | none => dsimp only at e; omega
  | some p =>
    dsimp only at e
    have hf : p.fin = tree.length := by omega
    exact ⟨⟨p, w, rfl, hf⟩, fun i hi => (hc p w rfl).2 i (by omega) (by omega)⟩
def costV (g : GrammarT) (cs tree : List Int) : Int × Bool := if goodC g cs && decide (tree.length ≤ 60) && isTreeV g 0 tree then (sumT cs tree, true) else (0, false)
theorem wholeBad (g : GrammarT) (tree : List Int) (hx : g.2.2.length < 4611686018427387904) (hs : ∀ e ∈ g.2.2, e.2.length < 4611686018427387904) (hb : (goodG g && decide (tree.length ≤ 60)) = false) : Pure Try.prog 28 [.ag (grammarC g), .im 1 (ints tree)] (.tu [.v (.pointer none), .v (.slice none 0 0), .v (.bool false)]) := by
  refine Pure.mk (rs := [.tmp 4, .tmp 5, .tmp 6]) (nt := 37) Try.func28 (by kernel_rfl) rfl rfl rfl (by simp) ?_
  simp only [sl, grammarC]
  have c1 := implGoodG g hx hs
  generalize goodG g = b at c1 hb
  repeat' first
    | refine Holds.seq ?_
    | refine Holds.skip ?_
    | refine Holds.exit ?_
    | refine Holds.ret ?_
    | refine thenA_normal ?_
    | refine thenA_exit ?_
    | refine thenA_ret ?_
    | refine inB_normal ?_
    | refine inB_ret ?_
    | refine inB_here ?_
    | (refine inB_past ?_ ?_; (· exact rfl))
    | refine Holds.reg ?_
    | refine Holds.block ?_
    | refine GS.nil ?_
    | refine Gd.nil ?_
    | (refine Holds.any mixed ?_ ?_; (· kernel_rfl))
    | (refine GS.step (s' := ?_) ?_ ?_ ?_; rotate_left; (· exact rfl); (· (simp [go_sem, List.take_of_length_le] <;> with_reducible rfl)))
    | (refine GS.skip ?_ ?_ ?_; (· exact rfl); (· exact rfl))
    | (refine Gd.go (s' := ?_) ?_ ?_ ?_; rotate_left; (· exact rfl); (· (simp [go_sem, List.take_of_length_le] <;> with_reducible rfl)))
    | (refine Gd.skip ?_ ?_ ?_; (· exact rfl); (· exact rfl))
    | fail
  first | refine GS.cc (c1) rfl rfl rfl rfl (by simp [go_sem, List.take_of_length_le, grammarC] <;> with_reducible rfl) rfl (by simp [go_sem, List.take_of_length_le, grammarC]) ?_ | refine Gd.cc (c1) rfl rfl rfl rfl (by simp [go_sem, List.take_of_length_le, grammarC] <;> with_reducible rfl) rfl (by simp [go_sem, List.take_of_length_le, grammarC]) ?_
  repeat' first
    | refine Holds.seq ?_
    | refine Holds.skip ?_
    | refine Holds.exit ?_
    | refine Holds.ret ?_
    | refine thenA_normal ?_
    | refine thenA_exit ?_
    | refine thenA_ret ?_
    | refine inB_normal ?_
    | refine inB_ret ?_
    | refine inB_here ?_
    | (refine inB_past ?_ ?_; (· exact rfl))
    | refine Holds.reg ?_
    | refine Holds.block ?_
    | refine GS.nil ?_
    | refine Gd.nil ?_
    | (refine Holds.any mixed ?_ ?_; (· kernel_rfl))
    | (refine GS.step (s' := ?_) ?_ ?_ ?_; rotate_left; (· exact rfl); (· (simp [go_sem, List.take_of_length_le] <;> with_reducible rfl)))
    | (refine GS.skip ?_ ?_ ?_; (· exact rfl); (· exact rfl))
    | (refine Gd.go (s' := ?_) ?_ ?_ ?_; rotate_left; (· exact rfl); (· (simp [go_sem, List.take_of_length_le] <;> with_reducible rfl)))
    | (refine Gd.skip ?_ ?_ ?_; (· exact rfl); (· exact rfl))
    | fail
  refine GS.guard (t := 13) rfl (fun h => ?_) (fun h => ?_)
  · repeat' first
      | refine Holds.seq ?_
      | refine Holds.skip ?_
      | refine Holds.exit ?_
      | refine Holds.ret ?_
      | refine thenA_normal ?_
      | refine thenA_exit ?_
      | refine thenA_ret ?_
      | refine inB_normal ?_
      | refine inB_ret ?_
      | refine inB_here ?_
      | (refine inB_past ?_ ?_; (· exact rfl))
      | refine Holds.reg ?_
      | refine Holds.block ?_
      | refine GS.nil ?_
      | refine Gd.nil ?_
      | (refine Holds.any mixed ?_ ?_; (· kernel_rfl))
      | (refine GS.step (s' := ?_) ?_ ?_ ?_; rotate_left; (· exact rfl); (· (simp [go_sem, List.take_of_length_le] <;> with_reducible rfl)))
      | (refine GS.skip ?_ ?_ ?_; (· exact rfl); (· exact rfl))
      | (refine Gd.go (s' := ?_) ?_ ?_ ?_; rotate_left; (· exact rfl); (· (simp [go_sem, List.take_of_length_le] <;> with_reducible rfl)))
      | (refine Gd.skip ?_ ?_ ?_; (· exact rfl); (· exact rfl))
      | fail
    refine Holds.cond rfl (fun h => ?_) (fun h => ?_)
    · repeat' first
        | refine Holds.seq ?_
        | refine Holds.skip ?_
        | refine Holds.exit ?_
        | refine Holds.ret ?_
        | refine thenA_normal ?_
        | refine thenA_exit ?_
        | refine thenA_ret ?_
        | refine inB_normal ?_
        | refine inB_ret ?_
        | refine inB_here ?_
        | (refine inB_past ?_ ?_; (· exact rfl))
        | refine Holds.reg ?_
        | refine Holds.block ?_
        | refine GS.nil ?_
        | refine Gd.nil ?_
        | (refine Holds.any mixed ?_ ?_; (· kernel_rfl))
        | (refine GS.step (s' := ?_) ?_ ?_ ?_; rotate_left; (· exact rfl); (· (simp [go_sem, List.take_of_length_le] <;> with_reducible rfl)))
        | (refine GS.skip ?_ ?_ ?_; (· exact rfl); (· exact rfl))
        | (refine Gd.go (s' := ?_) ?_ ?_ ?_; rotate_left; (· exact rfl); (· (simp [go_sem, List.take_of_length_le] <;> with_reducible rfl)))
        | (refine Gd.skip ?_ ?_ ?_; (· exact rfl); (· exact rfl))
        | fail
      refine Out.mk (xs := ?_) ?_ ?_ (by first | exact .inr rfl | exact .inl rfl)
      rotate_left
      · simp [go_sem, List.take_of_length_le] <;> with_reducible rfl
      exact Fz.cl rfl
    · cases h
  have h : b = true := by simpa using h
  subst h
  have ht : ¬ tree.length ≤ 60 := by simpa using hb
  repeat' first
    | refine Holds.seq ?_
    | refine Holds.skip ?_
    | refine Holds.exit ?_
    | refine Holds.ret ?_
    | refine thenA_normal ?_
    | refine thenA_exit ?_
    | refine thenA_ret ?_
    | refine inB_normal ?_
    | refine inB_ret ?_
    | refine inB_here ?_
    | (refine inB_past ?_ ?_; (· exact rfl))
    | refine Holds.reg ?_
    | refine Holds.block ?_
    | refine GS.nil ?_
    | refine Gd.nil ?_
    | (refine Holds.any mixed ?_ ?_; (· kernel_rfl))
    | (refine GS.step (s' := ?_) ?_ ?_ ?_; rotate_left; (· exact rfl); (· (simp [go_sem, List.take_of_length_le, show (60 : Int) < tree.length by omega] <;> with_reducible rfl)))
    | (refine GS.skip ?_ ?_ ?_; (· exact rfl); (· exact rfl))
    | (refine Gd.go (s' := ?_) ?_ ?_ ?_; rotate_left; (· exact rfl); (· (simp [go_sem, List.take_of_length_le, show (60 : Int) < tree.length by omega] <;> with_reducible rfl)))
    | (refine Gd.skip ?_ ?_ ?_; (· exact rfl); (· exact rfl))
    | fail
  refine Holds.cond rfl (fun h => ?_) (fun h => ?_)
  · repeat' first
      | refine Holds.seq ?_
      | refine Holds.skip ?_
      | refine Holds.exit ?_
      | refine Holds.ret ?_
      | refine thenA_normal ?_
      | refine thenA_exit ?_
      | refine thenA_ret ?_
      | refine inB_normal ?_
      | refine inB_ret ?_
      | refine inB_here ?_
      | (refine inB_past ?_ ?_; (· exact rfl))
      | refine Holds.reg ?_
      | refine Holds.block ?_
      | refine GS.nil ?_
      | refine Gd.nil ?_
      | (refine Holds.any mixed ?_ ?_; (· kernel_rfl))
      | (refine GS.step (s' := ?_) ?_ ?_ ?_; rotate_left; (· exact rfl); (· (simp [go_sem, List.take_of_length_le] <;> with_reducible rfl)))
      | (refine GS.skip ?_ ?_ ?_; (· exact rfl); (· exact rfl))
      | (refine Gd.go (s' := ?_) ?_ ?_ ?_; rotate_left; (· exact rfl); (· (simp [go_sem, List.take_of_length_le] <;> with_reducible rfl)))
      | (refine Gd.skip ?_ ?_ ?_; (· exact rfl); (· exact rfl))
      | fail
    refine Out.mk (xs := ?_) ?_ ?_ (by first | exact .inr rfl | exact .inl rfl)
    rotate_left
    · simp [go_sem, List.take_of_length_le] <;> with_reducible rfl
    exact Fz.cl rfl
  · first | (cases h; done) | (simp at h; omega)
theorem wholeOk (g : GrammarT) (tree : List Int) (hx : g.2.2.length < 4611686018427387904) (hs : ∀ e ∈ g.2.2, e.2.length < 4611686018427387904) (hgg : goodG g = true) (ht : tree.length ≤ 60) : Pure Try.prog 28 [.ag (grammarC g), .im 1 (ints tree)] (.tu [ptr (readF g tree 61 0 0 []).1, .im 1 (ints (readF g tree 61 0 0 []).2), .v (.bool (isTreeV g 0 tree))]) := by
  refine Pure.mk (rs := [.tmp 4, .tmp 5, .tmp 6]) (nt := 37) Try.func28 (by kernel_rfl) rfl rfl rfl (by simp) ?_
  simp only [sl, grammarC]
  have c1 := implGoodG g hx hs
  rw [hgg] at c1
  have hok := goodG_ok hgg
  have he := end_read g tree 61 0 0 []
  have hf := gTree g hok tree ht 0
  unfold isTreeV
  generalize readF g tree 61 0 0 [] = R at hf he
  obtain ⟨q, w⟩ := R
  rw [he]
  repeat' first
    | refine Holds.seq ?_
    | refine Holds.skip ?_
    | refine Holds.exit ?_
    | refine Holds.ret ?_
    | refine thenA_normal ?_
    | refine thenA_exit ?_
    | refine thenA_ret ?_
    | refine inB_normal ?_
    | refine inB_ret ?_
    | refine inB_here ?_
    | (refine inB_past ?_ ?_; (· exact rfl))
    | refine Holds.reg ?_
    | refine Holds.block ?_
    | refine GS.nil ?_
    | refine Gd.nil ?_
    | (refine Holds.any mixed ?_ ?_; (· kernel_rfl))
    | (refine GS.step (s' := ?_) ?_ ?_ ?_; rotate_left; (· exact rfl); (· (simp [go_sem, List.take_of_length_le] <;> with_reducible rfl)))
    | (refine GS.skip ?_ ?_ ?_; (· exact rfl); (· exact rfl))
    | (refine Gd.go (s' := ?_) ?_ ?_ ?_; rotate_left; (· exact rfl); (· (simp [go_sem, List.take_of_length_le] <;> with_reducible rfl)))
    | (refine Gd.skip ?_ ?_ ?_; (· exact rfl); (· exact rfl))
    | fail
  first | refine GS.cc (c1) rfl rfl rfl rfl (by simp [go_sem, List.take_of_length_le, grammarC] <;> with_reducible rfl) rfl (by simp [go_sem, List.take_of_length_le, grammarC]) ?_ | refine Gd.cc (c1) rfl rfl rfl rfl (by simp [go_sem, List.take_of_length_le, grammarC] <;> with_reducible rfl) rfl (by simp [go_sem, List.take_of_length_le, grammarC]) ?_
  repeat' first
    | refine Holds.seq ?_
    | refine Holds.skip ?_
    | refine Holds.exit ?_
    | refine Holds.ret ?_
    | refine thenA_normal ?_
    | refine thenA_exit ?_
    | refine thenA_ret ?_
    | refine inB_normal ?_
    | refine inB_ret ?_
    | refine inB_here ?_
    | (refine inB_past ?_ ?_; (· exact rfl))
    | refine Holds.reg ?_
    | refine Holds.block ?_
    | refine GS.nil ?_
    | refine Gd.nil ?_
    | (refine Holds.any mixed ?_ ?_; (· kernel_rfl))
    | (refine GS.step (s' := ?_) ?_ ?_ ?_; rotate_left; (· exact rfl); (· (simp [go_sem, List.take_of_length_le] <;> with_reducible rfl)))
    | (refine GS.skip ?_ ?_ ?_; (· exact rfl); (· exact rfl))
    | (refine Gd.go (s' := ?_) ?_ ?_ ?_; rotate_left; (· exact rfl); (· (simp [go_sem, List.take_of_length_le] <;> with_reducible rfl)))
    | (refine Gd.skip ?_ ?_ ?_; (· exact rfl); (· exact rfl))
    | fail
  refine Holds.cond rfl (fun h => ?_) (fun h => ?_)
  · first | (cases h; done) | (simp at h; omega)
  cases q with
  | none =>
    simp only [ptr, Option.isSome_none] at hf ⊢
    rw [decide_eq_false (by omega)]
    repeat' first
      | refine Holds.seq ?_
      | refine Holds.skip ?_
      | refine Holds.exit ?_
      | refine Holds.ret ?_
      | refine thenA_normal ?_
      | refine thenA_exit ?_
      | refine thenA_ret ?_
      | refine inB_normal ?_
      | refine inB_ret ?_
      | refine inB_here ?_
      | (refine inB_past ?_ ?_; (· exact rfl))
      | refine Holds.reg ?_
      | refine Holds.block ?_
      | refine GS.nil ?_
      | refine Gd.nil ?_
      | (refine Holds.any mixed ?_ ?_; (· kernel_rfl))
      | (refine GS.step (s' := ?_) ?_ ?_ ?_; rotate_left; (· exact rfl); (· (simp [go_sem, List.take_of_length_le, grammarC] <;> with_reducible rfl)))
      | (refine GS.skip ?_ ?_ ?_; (· exact rfl); (· exact rfl))
      | (refine Gd.go (s' := ?_) ?_ ?_ ?_; rotate_left; (· exact rfl); (· (simp [go_sem, List.take_of_length_le, grammarC] <;> with_reducible rfl)))
      | (refine Gd.skip ?_ ?_ ?_; (· exact rfl); (· exact rfl))
      | fail
    first | refine GS.cc (hf) rfl rfl rfl rfl (by simp [go_sem, List.take_of_length_le, grammarC] <;> with_reducible rfl) rfl (by simp [go_sem, List.take_of_length_le, grammarC]) ?_ | refine Gd.cc (hf) rfl rfl rfl rfl (by simp [go_sem, List.take_of_length_le, grammarC] <;> with_reducible rfl) rfl (by simp [go_sem, List.take_of_length_le, grammarC]) ?_
    repeat' first
      | refine Holds.seq ?_
      | refine Holds.skip ?_
      | refine Holds.exit ?_
      | refine Holds.ret ?_
      | refine thenA_normal ?_
      | refine thenA_exit ?_
      | refine thenA_ret ?_
      | refine inB_normal ?_
      | refine inB_ret ?_
      | refine inB_here ?_
      | (refine inB_past ?_ ?_; (· exact rfl))
      | refine Holds.reg ?_
      | refine Holds.block ?_
      | refine GS.nil ?_
      | refine Gd.nil ?_
      | (refine Holds.any mixed ?_ ?_; (· kernel_rfl))
      | (refine GS.step (s' := ?_) ?_ ?_ ?_; rotate_left; (· exact rfl); (· (simp [go_sem, List.take_of_length_le] <;> with_reducible rfl)))
      | (refine GS.skip ?_ ?_ ?_; (· exact rfl); (· exact rfl))
      | (refine Gd.go (s' := ?_) ?_ ?_ ?_; rotate_left; (· exact rfl); (· (simp [go_sem, List.take_of_length_le] <;> with_reducible rfl)))
      | (refine Gd.skip ?_ ?_ ?_; (· exact rfl); (· exact rfl))
      | fail
    refine Out.mk (xs := ?_) ?_ ?_ (by first | exact .inr rfl | exact .inl rfl)
    rotate_left
    · simp [go_sem, List.take_of_length_le] <;> with_reducible rfl
    exact Fz.cl rfl
  | some p =>
    have hfin := partC_fin p
    simp only [ptr, Option.isSome_some] at hf ⊢
    rw [show decide ((p.fin : Int) = (tree.length : Int)) = ((p.fin : Int) == (tree.length : Int)) by rw [Bool.eq_iff_iff]; simp]
    repeat' first
      | refine Holds.seq ?_
      | refine Holds.skip ?_
      | refine Holds.exit ?_
      | refine Holds.ret ?_
      | refine thenA_normal ?_
      | refine thenA_exit ?_
      | refine thenA_ret ?_
      | refine inB_normal ?_
      | refine inB_ret ?_
      | refine inB_here ?_
      | (refine inB_past ?_ ?_; (· exact rfl))
      | refine Holds.reg ?_
      | refine Holds.block ?_
      | refine GS.nil ?_
      | refine Gd.nil ?_
      | (refine Holds.any mixed ?_ ?_; (· kernel_rfl))
      | (refine GS.step (s' := ?_) ?_ ?_ ?_; rotate_left; (· exact rfl); (· (simp [go_sem, List.take_of_length_le, grammarC] <;> with_reducible rfl)))
      | (refine GS.skip ?_ ?_ ?_; (· exact rfl); (· exact rfl))
      | (refine Gd.go (s' := ?_) ?_ ?_ ?_; rotate_left; (· exact rfl); (· (simp [go_sem, List.take_of_length_le, grammarC] <;> with_reducible rfl)))
      | (refine Gd.skip ?_ ?_ ?_; (· exact rfl); (· exact rfl))
      | fail
    first | refine GS.cc (hf) rfl rfl rfl rfl (by simp [go_sem, List.take_of_length_le, grammarC] <;> with_reducible rfl) rfl (by simp [go_sem, List.take_of_length_le, grammarC]) ?_ | refine Gd.cc (hf) rfl rfl rfl rfl (by simp [go_sem, List.take_of_length_le, grammarC] <;> with_reducible rfl) rfl (by simp [go_sem, List.take_of_length_le, grammarC]) ?_
    repeat' first
      | refine Holds.seq ?_
      | refine Holds.skip ?_
      | refine Holds.exit ?_
      | refine Holds.ret ?_
      | refine thenA_normal ?_
      | refine thenA_exit ?_
      | refine thenA_ret ?_
      | refine inB_normal ?_
      | refine inB_ret ?_
      | refine inB_here ?_
      | (refine inB_past ?_ ?_; (· exact rfl))
      | refine Holds.reg ?_
      | refine Holds.block ?_
      | refine GS.nil ?_
      | refine Gd.nil ?_
      | (refine Holds.any mixed ?_ ?_; (· kernel_rfl))
      | (refine GS.step (s' := ?_) ?_ ?_ ?_; rotate_left; (· exact rfl); (· (simp [go_sem, List.take_of_length_le, hfin] <;> with_reducible rfl)))
      | (refine GS.skip ?_ ?_ ?_; (· exact rfl); (· exact rfl))
      | (refine Gd.go (s' := ?_) ?_ ?_ ?_; rotate_left; (· exact rfl); (· (simp [go_sem, List.take_of_length_le, hfin] <;> with_reducible rfl)))
      | (refine Gd.skip ?_ ?_ ?_; (· exact rfl); (· exact rfl))
      | fail
    refine Out.mk (xs := ?_) ?_ ?_ (by first | exact .inr rfl | exact .inl rfl)
    rotate_left
    · simp [go_sem, List.take_of_length_le] <;> with_reducible rfl
    exact Fz.cl rfl
end Go.Proofs.Ytpnpjkkppndhfaa.En
end
section
namespace Go.Proofs.Ytpnpjkkppndhfaa.En
open Go.RowKit
set_option linter.unusedSimpArgs false
set_option linter.unusedVariables false
set_option maxHeartbeats 8000000
section
attribute [local semireducible] G GS
variable {P : Program} {nt : NT} {s : AS} {ops : Array Oper} {K : AS → Prop} {i : Nat} {o : Oper} {l : List Oper}
/-- max of two whole numbers. -/
theorem GS.maxI {x y : Operand} {ts : Array TypeId} {a b : Int} (hop : o.op = .call ⟨.builtin .max, #[x, y], ts⟩) (hg : gd ops s o = some true) (hd : okd nt.n o.dst = true) (hx : ev s x = some (.v (.int .i64 a))) (hy : ev s y = some (.v (.int .i64 b)))
    (h : GS P nt ops K l (i + 1) (put s o.dst (.v (.int .i64 (if b > a then b else a))))) : GS P nt ops K (o :: l) i s :=
  GS.cons (fun ho r' hr' => fun C ac w S Ow L Q hn hR hQ => by
    subst hn
    rw [wpOps_cons]
    unfold wpOp
    simp only [ho]
    rw [gd_sound hR hg]
    simp only [if_true]
    left
    obtain ⟨ex, _⟩ := (ev_rep hR hx).v_inv
    obtain ⟨ey, _⟩ := (ev_rep hR hy).v_inv
    have hrun : (execOp ac.eval o).run P w = .ok (.value (.int .i64 (if b > a then b else a))) w := by
      unfold execOp
      simp [hop, resolve, Builtin.max_, Builtin.max2, ex, ey, builtin, invoke]
    unfold Oper.wp
    rw [hrun]
    exact hr' C _ _ _ _ _ Q rfl (hR.put o.dst hd (.v _ rfl)) hQ) h
end
mutual
def heightP : PT → Nat
  | .node _ _ _ _ _ _ ks => heightL 0 ks + 1
def heightL : Nat → List PT → Nat
  | m, [] => m
  | m, k :: ks => heightL (max m (heightP k)) ks
end
theorem heightL_le : ∀ (ks : List PT) (m : Nat), m ≤ heightL m ks ∧ ∀ k ∈ ks, heightP k ≤ heightL m ks
  | [], m => by simp [heightL]
  | k :: ks, m => by
    have := heightL_le ks (max m (heightP k))
    unfold heightL
    refine ⟨by omega, fun q hq => ?_⟩
    rcases List.mem_cons.1 hq with rfl | hq
    · omega
    · exact this.2 q hq
theorem heightL_snoc (p : PT) : ∀ (ks : List PT) (m : Nat), heightL m (ks ++ [p]) = max (heightL m ks) (heightP p)
  | [], m => by simp [heightL]
  | k :: ks, m => by
    simp only [List.cons_append, heightL]
    exact heightL_snoc p ks _
theorem kids_height {rd : Int → Nat → List Int → Option PT × List Int} {n : Nat} (h : ∀ x e w p w', rd x e w = (some p, w') → heightP p ≤ n) :
    ∀ (xs : List Int) (e : Nat) (ks : List PT) (w : List Int) (K : List PT) (E : Nat) (w' : List Int), heightL 0 ks ≤ n → kidsF rd xs e ks w = (some (K, E), w') → heightL 0 K ≤ n := by
  intro xs
  induction xs with
  | nil =>
    intro e ks w K E w' hk h
    simp only [kidsF, Prod.mk.injEq, Option.some.injEq] at h
    obtain ⟨⟨rfl, rfl⟩, rfl⟩ := h
    exact hk
  | cons x xs ih =>
    intro e ks w K E w' hk hh
    unfold kidsF at hh
    by_cases h0 : x < 0
    · rw [if_pos h0] at hh
      exact ih _ _ _ _ _ _ hk hh
    · rw [if_neg h0] at hh
      split at hh
      · rename_i p w1 hp
        refine ih _ _ _ _ _ _ ?_ hh
        rw [heightL_snoc]
        have := h x e w p w1 hp
        omega
      · cases hh
theorem read_height (g : GrammarT) (tree : List Int) : ∀ (f : Nat) (non : Int) (at' : Nat) (w : List Int) (p : PT) (w' : List Int), readF g tree f non at' w = (some p, w') → heightP p ≤ f := by
  intro f
  induction f with
  | zero => intro non at' w p w' h; cases h
  | succ f ih =>
    intro non at' w p w' h
    unfold readF at h
    split at h
    · split at h
      · rename_i ks e w1 hk
        cases h
        have := kids_height ih _ _ _ _ _ _ _ (by simp [heightL]) hk
        unfold heightP
        omega
      · cases h
    · cases h
theorem kidsC_map : ∀ ks : List PT, kidsC ks = ks.map fun k => [AV.pi (partC k)]
  | [] => rfl
  | k :: ks => by simp [kidsC, kidsC_map ks]
theorem kidsC_get (ks : List PT) (i : Nat) : (kidsC ks)[i]? = (ks[i]?).map fun k => [AV.pi (partC k)] := by rw [kidsC_map]; simp
mutual
def okP : PT → Bool
  | .node _ _ _ _ _ _ ks => decide (ks.length ≤ 1000) && okKs ks
def okKs : List PT → Bool
  | [] => true
  | k :: ks => okP k && okKs ks
end
theorem okKs_mem : ∀ (ks : List PT), okKs ks = true → ∀ k ∈ ks, okP k = true
  | [], _, k, h => by cases h
  | q :: ks, h, k, hk => by
    simp only [okKs, Bool.and_eq_true] at h
    rcases List.mem_cons.1 hk with rfl | hk
    · exact h.1
    · exact okKs_mem ks h.2 k hk
theorem okKs_snoc (p : PT) (hp : okP p = true) : ∀ (ks : List PT), okKs ks = true → okKs (ks ++ [p]) = true
  | [], _ => by simp [okKs, hp]
  | q :: ks, h => by
    simp only [okKs, Bool.and_eq_true] at h
    simp only [List.cons_append, okKs, h.1, okKs_snoc p hp ks h.2, Bool.and_self]
theorem kids_ok {rd : Int → Nat → List Int → Option PT × List Int} (h : ∀ x e w p w', rd x e w = (some p, w') → okP p = true) :
    ∀ (xs : List Int) (e : Nat) (ks : List PT) (w : List Int) (K : List PT) (E : Nat) (w' : List Int), okKs ks = true → kidsF rd xs e ks w = (some (K, E), w') → okKs K = true ∧ K.length ≤ ks.length + xs.length := by
  intro xs
  induction xs with
  | nil =>
    intro e ks w K E w' hk h
    simp only [kidsF, Prod.mk.injEq, Option.some.injEq] at h
    obtain ⟨⟨rfl, rfl⟩, rfl⟩ := h
    exact ⟨hk, by simp⟩
  | cons x xs ih =>
    intro e ks w K E w' hk hh
    unfold kidsF at hh
    by_cases h0 : x < 0
    · rw [if_pos h0] at hh
      have := ih _ _ _ _ _ _ hk hh
      exact ⟨this.1, by simp; omega⟩
    · rw [if_neg h0] at hh
      split at hh
      · rename_i p w1 hp
        have := ih _ _ _ _ _ _ (okKs_snoc p (h x e w p w1 hp) ks hk) hh
        simp at this ⊢
        exact ⟨this.1, by omega⟩
      · cases hh
theorem read_ok {g : GrammarT} (hg : OkG g) (tree : List Int) : ∀ (f : Nat) (non : Int) (at' : Nat) (w : List Int) (p : PT) (w' : List Int), readF g tree f non at' w = (some p, w') → okP p = true := by
  intro f
  induction f with
  | zero => intro non at' w p w' h; cases h
  | succ f ih =>
    intro non at' w p w' h
    unfold readF at h
    split at h
    · rename_i hh
      obtain ⟨k, r, _, _, _, _, hr, _, hra, _⟩ := head_good hh
      split at h
      · rename_i ks e w1 hk
        cases h
        have := kids_ok ih _ _ _ _ _ _ _ rfl hk
        rw [hra] at this
        have h4 := hg.r4 _ (List.mem_of_getElem? hr)
        simp at this
        simp only [okP, Bool.and_eq_true, decide_eq_true_eq]
        exact ⟨by omega, this.1⟩
      · cases h
    · cases h
def hgt : Option PT → Nat
  | some p => heightP p
  | none => 0
def heightV (g : GrammarT) (tree : List Int) : Int × Bool := if goodG g && decide (tree.length ≤ 60) && isTreeV g 0 tree then ((hgt (readF g tree 61 0 0 []).1 : Int), true) else (0, false)
theorem asked_eq (g : GrammarT) (tree : List Int) : askedV g 0 tree = (goodG g && decide (tree.length ≤ 60)) := by
  unfold askedV
  cases h : goodG g with
  | false => rfl
  | true =>
    have := (goodG_ok h).n0
    rw [show inR 0 0 (g.1 - 1) = true by simp [inR]; omega]
    rfl
end Go.Proofs.Ytpnpjkkppndhfaa.En
end
section
namespace Go.Proofs.Ytpnpjkkppndhfaa.En
open Go.RowKit
set_option linter.unusedSimpArgs false
set_option linter.unusedVariables false
section
attribute [local semireducible] G Gq Holds GS Pure Out Fn OutF

/-- Speaks of no row that nobody writes. -/
inductive Ony : AV → Prop
  | v (x : Value) : Ony (.v x)
  | own (n sz off len : Nat) : Ony (.own n sz off len)
  | pb (n sz j i : Nat) : Ony (.pb n sz j i)
  | ag (xs : List AV) (h : ∀ x ∈ xs, Ony x) : Ony (.ag xs)
  | tu (xs : List AV) (h : ∀ x ∈ xs, Ony x) : Ony (.tu xs)
  | ow (e : TypeId) (sz : Nat) (xs : List (List AV)) (h : ∀ row ∈ xs, ∀ x ∈ row, Ony x) : Ony (.ow e sz xs)
def onyR (xs : List (List AV)) : Prop := ∀ row ∈ xs, ∀ x ∈ row, Ony x
@[simp] theorem onyR_nil : onyR [] := fun _ h => by cases h
@[simp] theorem Ony_v (x : Value) : Ony (.v x) := .v x
@[simp] theorem Ony_own (n sz off len : Nat) : Ony (.own n sz off len) := .own n sz off len
@[simp] theorem Ony_ag (xs : List AV) : Ony (.ag xs) ↔ ∀ x ∈ xs, Ony x := ⟨fun h => by cases h; assumption, .ag xs⟩
@[simp] theorem Ony_tu (xs : List AV) : Ony (.tu xs) ↔ ∀ x ∈ xs, Ony x := ⟨fun h => by cases h; assumption, .tu xs⟩
@[simp] theorem Ony_ow (e : TypeId) (sz : Nat) (xs : List (List AV)) : Ony (.ow e sz xs) ↔ onyR xs := ⟨fun h => by cases h; assumption, .ow e sz xs⟩
theorem Ony.agL {xs : List AV} (h : ∀ x ∈ xs, Ony x) : Ony (.ag xs) := .ag xs h

theorem Rep.ony {w : World} {S S2 : Nat → Prop} {Ow : Owners} {L : Names} {p : Path} {x : AV} {u : Value} (h : Rep w S Ow L p x u) (ho : Ony x) : Rep w S2 Ow L p x u := by
  induction h with
  | v x h => exact .v x h
  | ag xs us h _ ih =>
    cases ho with
    | ag _ ho => exact .ag xs us h fun i x u hx hu => ih i x u hx hu (ho x (List.mem_of_getElem? hx))
  | tu xs us h _ ih =>
    cases ho with
    | tu _ ho => exact .tu xs us h fun i x u hx hu => ih i x u hx hu (ho x (List.mem_of_getElem? hx))
  | im => cases ho
  | ow e sz xs b o cap cs us ho' hh hs hc hz hcell _ ih =>
    cases ho with
    | ow _ _ _ ho => exact .ow e sz xs b o cap cs us ho' hh hs hc hz hcell fun j row i x hj hi => ih j row i x hj hi (ho row (List.mem_of_getElem? hj) x (List.mem_of_getElem? hi))
  | ow_nil e sz A => exact .ow_nil e sz A
  | own n sz off len b o cap h hl => exact .own n sz off len b o cap h hl
  | own_end n sz off b o cap a h hl => exact .own_end n sz off b o cap a h hl
  | own_nil n sz A h => exact .own_nil n sz A h
  | own_gone n sz off len u h h1 => exact .own_gone n sz off len u h h1
  | pb n sz j i b o cap h => exact .pb n sz j i b o cap h
  | pb_gone n sz j i u h h1 => exact .pb_gone n sz j i u h h1
  | pi => cases ho
  | fn => cases ho
theorem BlkRep.ony {w : World} {S S2 : Nat → Prop} {Ow : Owners} {L : Names} {n : Nat} {k : Blk} {loc : Loc} (h : BlkRep w S Ow L n k loc) (ho : onyR k.xs) : BlkRep w S2 Ow L n k loc := by
  cases loc with
  | none => exact h
  | some p =>
    obtain ⟨h1, cs, us, h2, h3, h4, h5, h6, h7⟩ := h
    exact ⟨h1, cs, us, h2, h3, h4, h5, h6, fun j row i x hj hi => (h7 j row i x hj hi).ony (ho row (List.mem_of_getElem? hj) x (List.mem_of_getElem? hi))⟩

variable {P : Program} {nt : NT} {s s' : AS} {ops : Array Oper} {K : AS → Prop} {i : Nat} {o : Oper} {l : List Oper}

/-- Behind a call that yields new rows: they are put in. -/
def aft0 (s : AS) (m : Nat) (bl' : List (Nat × Blk)) : AS := ⟨s.tm, bl' ++ s.bl, s.nx + m⟩

theorem fn0_enter {w : World} {S1 : Nat → Prop} (hlt : ∀ k, S1 k → k < w.heap.size) : RelX ⟨w, fun _ => False, S1, ⟨0, 0⟩, fixOf 0 noName⟩ ⟨[], [], 0⟩ a0 w S1 noOwner noName :=
  { fix := fun n loc hn => absurd (fixOf_eq (k := 0) (L := noName) (n := n) (loc := loc) |>.1 hn).1 (Nat.not_lt_zero n)
    keep := Keep.refl _ _, inS := fun _ h => h, upS := fun _ h => .inl h, ltS := hlt, owS := fun _ _ => rfl, ow := fun b p hb => by cases hb
    ow0 := fun b q hb => by cases hb
    blk := fun n kk hn => by cases hn
    fresh := fun n _ => rfl, named := fun n hn => by cases hn
    freshO := fun b n q hb => by cases hb
    slot := fun t x hx => by cases hx
    size := rfl, defers := rfl }

theorem fnd_wp {Q : Exit → Act → World → Prop} {K : Act → World → Prop} {C : Ctx} {a : Act} {w : World} {S : Nat → Prop} {Ow : Owners} {L : Names} {c : Operand} {aas : Array Operand} {ts : Array TypeId} {f : FuncId} {xs cap args : List AV} {m : Nat} {outs bl' : List (Nat × Blk)} {r : AV} (ho : ops[i]? = some o) (hg : gd ops s o = some true) (hop : o.op = .call ⟨.value c, aas, ts⟩) (hd : okd nt.n o.dst = true)
    (hc : ev s c = some (.fn f cap)) (he : aas.toList.mapM (ev s) = some xs) (hf : FzL s.bl (xs ++ cap) args) (hom : outs.all (fun p => decide (p.1 < m)) = true)
    (hp : Fn P f 0 args [] r m outs) (hor : Ony r) (hoo : ∀ p ∈ outs, onyR p.2.xs) (hr : okr m r = true) (hren : RenB (fun n => s.nx + n) m outs bl') (hn : C.nt = nt) (hR : RelX C s a w S Ow L) (hK : ∀ a' w' S' Ow' L', RelX C (put (aft0 s m bl') o.dst (En.ren (fun n => s.nx + n) r)) a' w' S' Ow' L' → K a' w') : wpOp P ops Q i K a w := by
  subst hn
  unfold wpOp
  simp only [ho]
  rw [gd_sound hR hg]
  simp only [if_true]
  left
  have hcr := ev_rep hR hc
  obtain ⟨us0, e, hl0, hr0⟩ := hcr.fn_inv
  rw [e] at hcr
  obtain ⟨hlen, hrep⟩ := args_rep hR he hcr hf
  unfold Oper.wp
  rw [exec_call hop e hp.1]
  refine Calls.mono (hp.2 w (fun _ => False) (lent S Ow) noOwner noName _ (fn0_enter (lent_lt hR)) hlen (fun i x u hx hu => (hrep i x u hx hu).any)) fun e' w' => ?_
  rintro ⟨v, rfl, S', Ow', L', hX, hv⟩
  have hB : Below w.heap.size w w' := hX.keep.below
  have hR1 := hR.grown hB
  have hsize : w.heap.size ≤ w'.heap.size := hB.size
  have hlow : C.W.heap.size ≤ w.heap.size := hR.keep.size
  have new : ∀ b p, Ow' b = some p → w.heap.size ≤ b ∧ b < w'.heap.size := fun b p hb => by
    obtain ⟨g1, g2⟩ := hX.ow b p hb
    rcases g1 with g | g
    · exact ⟨g, g2⟩
    · exact absurd g (fun h => h)
  have oldn : ∀ b, b < w.heap.size → Ow' b = none := fun b hb => by
    cases e : Ow' b with
    | none => rfl
    | some p => have := (new b p e).1; omega
  let ρ : Nat → Nat := fun n => s.nx + n
  have inj' : ∀ i j, i < m → j < m → ρ i = ρ j → i = j := fun i j _ _ e => by simp only [ρ] at e; omega
  let L2 : Names := fun n => if n < s.nx then L n else L' (n - s.nx)
  have L2r : ∀ n, n < m → L2 (ρ n) = L' n := fun n _ => by
    have : ¬ s.nx + n < s.nx := by omega
    simp only [L2, ρ, if_neg this]; congr 1; omega
  have L2n : ∀ n, L n = .free ∨ L2 n = L n ∨ L2 n = .gone := fun n => by
    rcases Nat.lt_or_ge n s.nx with g | g
    · exact .inr (.inl (by simp only [L2, if_pos g]))
    · exact .inl (hR.fresh n g)
  let Ow2 : Owners := fun b => match Ow' b with
    | some ((n + 1) :: q) => some ((ρ n + 1) :: q)
    | _ => Ow b
  have O1 : ∀ b n q, Ow' b = some ((n + 1) :: q) → Ow2 b = some ((ρ n + 1) :: q) := fun b n q hb => by simp only [Ow2, hb]
  have O2 : ∀ b p, Ow2 b = some p → (∃ n q, Ow' b = some ((n + 1) :: q) ∧ p = (ρ n + 1) :: q) ∨ Ow b = some p := fun b p hb => by
    simp only [Ow2] at hb
    split at hb
    · rename_i n q e; cases hb; exact .inl ⟨n, q, e, rfl⟩
    · exact .inr hb
  have O3 : ∀ b p, Ow b = some p → Ow2 b = some p := fun b p hb => by
    have := oldn b (hR.ow b p hb).2
    simp only [Ow2, this]; exact hb
  have hbl : ∀ n kk, lb (bl' ++ s.bl) n = some kk → (∃ j k0, j < m ∧ ρ j = n ∧ lb outs j = some k0 ∧ BlkC ρ m k0 kk) ∨ lb s.bl n = some kk := fun n kk hn => by
    rw [lb_append] at hn
    split at hn
    · rename_i k1 e
      cases hn
      exact .inl (hren.get hom inj' e)
    · exact .inr hn
  have hR2 : RelX C (aft0 s m bl') a w' S Ow2 L2 := by
    refine { fix := fix_of hR.fix L2n, keep := hR1.keep, inS := hR1.inS, upS := hR1.upS, ltS := hR1.ltS, owS := fun b hb => ?_, ow := fun b p hb => ?_, ow0 := fun b q hb => ?_, blk := fun n kk hn => ?_, fresh := fun n hn => ?_, named := fun n hn => ?_, freshO := fun b n q hb => ?_, slot := fun t x hx => ?_, size := hR1.size, defers := hR1.defers }
    · have := oldn b (hR.ltS b hb)
      simp only [Ow2, this]; exact hR.owS b hb
    · rcases O2 b p hb with ⟨n, q, h1, rfl⟩ | h3
      · obtain ⟨g1, g2⟩ := new b _ h1
        exact ⟨.inl (by omega), g2⟩
      · exact ⟨(hR.ow b p h3).1, by have := (hR.ow b p h3).2; omega⟩
    · rcases O2 b _ hb with ⟨n, q', h1, e⟩ | h3
      · cases e
      · exact hR.ow0 b q h3
    · rcases hbl n kk hn with ⟨j, k0, h1, rfl, h3, h4⟩ | h3
      · obtain ⟨loc, hl, hBk⟩ := hX.blk j k0 h3
        exact ⟨loc, by rw [L2r j h1]; exact hl, (hBk.ony (hoo (j, k0) (lb_mem h3))).fwd h4 L2r (fun b q hb => O1 b j q hb)⟩
      · obtain ⟨loc, hl, hBk⟩ := hR1.blk n kk h3
        have hnx : n < s.nx := by
          rcases Nat.lt_or_ge n s.nx with g | g
          · exact g
          · rw [hR.fresh n g] at hl; cases hl
        exact ⟨loc, by simp only [L2, if_pos hnx]; exact hl, hBk.names L2n (fun b q hb => O3 b _ hb)⟩
    · have hn' : s.nx + m ≤ n := hn
      simp only [L2, if_neg (show ¬ n < s.nx by omega)]
      exact hX.fresh _ (show m ≤ n - s.nx by omega)
    · have hn' : n < s.nx + m := hn
      rcases Nat.lt_or_ge n s.nx with g | g
      · simp only [L2, if_pos g]; exact hR.named n g
      · simp only [L2, if_neg (Nat.not_lt.2 g)]; exact hX.named _ (show n - s.nx < m by omega)
    · show n ≤ s.nx + m
      rcases O2 b _ hb with ⟨n', q', h1, e⟩ | h3
      · cases e
        have : n' + 1 ≤ m := hX.freshO b _ _ h1
        simp only [ρ]; omega
      · have := hR.freshO b _ _ h3; omega
    · obtain ⟨u, hu, hRp⟩ := hR1.slot t x hx
      exact ⟨u, hu, hRp.names L2n (fun b q hb => absurd hb (hR.ow0 b q))⟩
  have hv2 : Rep w' S Ow2 L2 [0] (En.ren ρ r) v := (hv.ony hor).fwd L2r (fun b q hb => absurd hb (hX.ow0 b q)) hr
  exact hK _ _ _ _ _ (hR2.put o.dst hd hv2)
/-- A call of a function that is lent rows to look at, and yields new rows. -/
theorem GS.fnd {c : Operand} {aas : Array Operand} {ts : Array TypeId} {f : FuncId} {xs cap args : List AV} {m : Nat} {outs bl' : List (Nat × Blk)} {r : AV} (hp : Fn P f 0 args [] r m outs) (hop : o.op = .call ⟨.value c, aas, ts⟩) (hg : gd ops s o = some true) (hd : okd nt.n o.dst = true)
    (hc : ev s c = some (.fn f cap)) (he : aas.toList.mapM (ev s) = some xs) (hf : FzL s.bl (xs ++ cap) args) (hom : outs.all (fun p => decide (p.1 < m)) = true)
    (hor : Ony r) (hoo : ∀ p ∈ outs, onyR p.2.xs) (hr : okr m r = true) (hren : RenB (fun n => s.nx + n) m outs bl') (h : GS P nt ops K l (i + 1) (put (aft0 s m bl') o.dst (En.ren (fun n => s.nx + n) r))) : GS P nt ops K (o :: l) i s :=
  GS.cons (fun ho r' hr' => fun C a w S Ow L Q hn hR hQ => by
    rw [wpOps_cons]
    exact fnd_wp ho hg hop hd hc he hf hom hp hor hoo hr hren hn hR fun a' w' S' Ow' L' hR' => hr' C _ _ _ _ _ Q hn hR' hQ) h
/-- What yields new rows may be taken to yield rows that nobody writes. -/
theorem Fn.pure {f : FuncId} {args : List AV} {m : Nat} {outs : List (Nat × Blk)} {r r' : AV} (hp : Fn P f 0 args [] r m outs) (hf : Fz outs r r') : Pure P f args r' := by
  refine ⟨hp.1, fun W S us hlt hl hrep => ?_⟩
  refine Calls.mono (hp.2 W (fun _ => False) S noOwner noName us (fn0_enter hlt) hl (fun i x u hx hu => (hrep i x u hx hu).any)) fun e w' => ?_
  rintro ⟨v, rfl, S', Ow', L', hX, hv⟩
  refine ⟨v, rfl, hX.keep.below, lent S' Ow', fun k hk => .inl (hX.inS k hk), fun k hk => ⟨lent_lt hX k hk, ?_⟩, hv.fz hX hf⟩
  rcases hk with hk | hk
  · rcases hX.upS k hk with g | g | g
    · exact .inl g
    · exact .inr g
    · exact absurd g (fun h => h)
  · cases e : Ow' k with
    | none => exact absurd e hk
    | some p =>
      rcases (hX.ow k p e).1 with g | g
      · exact .inr g
      · exact absurd g (fun h => h)

/-! #### an inner row is closed again -/
theorem Rep.nf {w : World} {S : Nat → Prop} {Ow Ow' : Owners} {L L' : Names} {p p' : Path} {x : AV} {u : Value} (h : Rep w S Ow L p x u) (hx : En.nf x = true) (hO : ∀ k q, Ow k = some (p ++ q) → Ow' k = some (p' ++ q)) : Rep w S Ow' L' p' x u := by
  have e : En.ren1 id x = x := by cases x <;> simp_all [En.nf, En.ren1]
  exact Rep.ren1 (nx := 0) (ρ := id) (fun n hn => absurd hn (Nat.not_lt_zero n)) hO (by cases x <;> simp_all [En.nf, okr1]) (by rw [e]; exact h)
def reclo (n j i m : Nat) : Path → Path
  | a :: r => if a = m + 1 then (n + 1) :: j :: i :: r else a :: r
  | [] => []
/-- The state in which the row m is an inner row of the row n again. -/
def clo (s : AS) (n j i : Nat) : AS := match lb s.bl n with
  | some b => match b.xs[j]? with
    | some row => match row[i]? with
      | some (.own m z 0 len) => match lb s.bl m with
        | some k => ⟨s.tm, st (rm s.bl m) n { b with xs := b.xs.set j (row.set i (.ow k.e k.sz k.xs)) }, s.nx⟩
        | none => s
      | _ => s
    | none => s
  | none => s
theorem RelX.close {C : Ctx} {a : Act} {w : World} {S : Nat → Prop} {Ow : Owners} {L : Names} (h : RelX C s a w S Ow L) {n j i m z len : Nat} {b k : Blk} {row : List AV} (hb : lb s.bl n = some b) (hrow : b.xs[j]? = some row) (hi : row[i]? = some (.own m z 0 len)) (hm : lb s.bl m = some k) (hmn : m ≠ n) (hz : k.sz = z) (hlen : len = k.xs.length) (hnf : nfr k.xs) :
    ∃ Ow' L', RelX C ⟨s.tm, st (rm s.bl m) n { b with xs := b.xs.set j (row.set i (.ow k.e k.sz k.xs)) }, s.nx⟩ a w S Ow' L' := by
  subst hz hlen
  obtain ⟨loc, hl, hB⟩ := h.blk n b hb
  obtain ⟨loc2, hl2, hB2⟩ := h.blk m k hm
  obtain ⟨b', o', cap, rfl, hob, hrl, cs, us, hh, hfit, hcell, hrep⟩ := blk_row hB hrow
  have hlt : ∀ {x : Nat} {lc : Loc}, L x = .at lc → x < s.nx := fun {x lc} e => by
    rcases Nat.lt_or_ge x s.nx with g | g
    · exact g
    · rw [h.fresh x g] at e; cases e
  have hnx := hlt hl
  let L' : Names := fun x => if x = m then .gone else L x
  let Ow' : Owners := fun c => (Ow c).map (reclo n j i m)
  have hLn : ∀ x, L x = .free ∨ L' x = L x ∨ L' x = .gone := fun x => by
    by_cases e : x = m
    · exact .inr (.inr (by simp [L', e]))
    · exact .inr (.inl (by simp [L', e]))
  have hOs : ∀ c x q, x ≠ m → Ow c = some ((x + 1) :: q) → Ow' c = some ((x + 1) :: q) := fun c x q hx hc => by simp [Ow', hc, reclo, hx]
  have hOm : ∀ c q, Ow c = some ((m + 1) :: q) → Ow' c = some ((n + 1) :: j :: i :: q) := fun c q hc => by simp [Ow', hc, reclo]
  have hOe : ∀ c p, Ow' c = some p → ∃ p0, Ow c = some p0 ∧ p = reclo n j i m p0 := fun c p hc => by
    simp only [Ow', Option.map_eq_some_iff] at hc
    obtain ⟨p0, h1, h2⟩ := hc
    exact ⟨p0, h1, h2.symm⟩
  have key : ∀ u, Rep w S Ow L [n + 1, j, i] (.own m k.sz 0 k.xs.length) u → Rep w S Ow' L' [n + 1, j, i] (.ow k.e k.sz k.xs) u := fun u hu => by
    rcases own_inv hu with ⟨b2, o2, cap2, hL, hle, rfl⟩ | ⟨b2, o2, cap2, ad, hL, hle, h0, rfl⟩ | ⟨hL, _, h0, A, rfl⟩ | hg
    · rw [hl2] at hL
      cases hL
      obtain ⟨g1, cs2, us2, g2, g3, g4, g5, g6, g7⟩ := hB2
      have := Rep.ow (w := w) (S := S) (Ow := Ow') (L := L') (p := [n + 1, j, i]) k.e k.sz k.xs b2 o2 cap2 cs2 us2 (hOm _ _ g1) g2 g3 g4 g5 g6 (fun j' row' i' x hj' hi' => (g7 j' row' i' x hj' hi').nf (hnf row' (List.mem_of_getElem? hj') x (List.mem_of_getElem? hi')) (fun c q hc => hOm c _ hc))
      simpa using this
    · have : k.xs = [] := List.eq_nil_of_length_eq_zero h0
      rw [this]
      exact .ow_nil _ _ _
    · have : k.xs = [] := List.eq_nil_of_length_eq_zero h0
      rw [this]
      exact .ow_nil _ _ _
    · rw [hl2] at hg; cases hg
  refine ⟨Ow', L', { fix := fix_of h.fix hLn, keep := h.keep, inS := h.inS, upS := h.upS, ltS := h.ltS, owS := fun c hc => by simp [Ow', h.owS c hc], ow := fun c p hc => ?_, ow0 := fun c q hc => ?_, blk := ?_, fresh := fun x hx => ?_, named := fun x hx => ?_, freshO := fun c x q hc => ?_, slot := fun t x hx => ?_, size := h.size, defers := h.defers }⟩
  · obtain ⟨p0, h1, _⟩ := hOe c p hc
    exact h.ow c p0 h1
  · obtain ⟨p0, h1, h2⟩ := hOe c _ hc
    unfold reclo at h2
    split at h2
    · split at h2
      · cases h2
      · exact h.ow0 c q (by rw [h1, h2])
    · cases h2
  · intro x kk hx
    simp only [lb_st, lb_rm] at hx
    by_cases e : n = x
    · subst e
      rw [if_pos rfl, if_neg hmn, hb] at hx
      simp only [Option.map_some, Option.some.injEq] at hx
      subst hx
      refine ⟨some (b', o', cap), by simp only [L']; rw [if_neg (fun e => hmn e.symm)]; exact hl, ?_⟩
      obtain ⟨g1, cs', us', g2, g3, g4, g5, g6, g7⟩ := hB
      have hcs : cs' = cs := by rw [g2] at hh; cases hh; rfl
      subst hcs
      refine ⟨hOs _ _ _ (fun e => hmn e.symm) g1, cs', us', g2, g3, by simpa using g4, fun j' row' hj' => ?_, fun j' row' i' x hj' hi' => ?_, fun j' row' i' x hj' hi' => ?_⟩
      · rw [List.getElem?_set] at hj'
        split at hj'
        · split at hj'
          · cases hj'; simpa using hrl
          · cases hj'
        · exact g5 j' row' hj'
      · rw [List.getElem?_set] at hj'
        split at hj'
        · rename_i ej
          subst ej
          split at hj'
          · cases hj'
            have hlt' : i' < row.length := by have := (List.getElem?_eq_some_iff.1 hi').1; simpa using this
            exact g6 j row i' row[i'] hrow (List.getElem?_eq_getElem hlt')
          · cases hj'
        · exact g6 j' row' i' x hj' hi'
      · have other : ∀ (j2 i2 : Nat) (x2 : AV) (u2 : Value), Rep w S Ow L [n + 1, j2, i2] x2 u2 → Rep w S Ow' L' [n + 1, j2, i2] x2 u2 := fun j2 i2 x2 u2 hr2 =>
          hr2.names hLn (fun c q hc => hOs c n _ (fun e => hmn e.symm) hc)
        rw [List.getElem?_set] at hj'
        split at hj'
        · rename_i ej
          subst ej
          split at hj'
          · cases hj'
            rw [List.getElem?_set] at hi'
            split at hi'
            · rename_i ei
              subst ei
              split at hi'
              · cases hi'
                exact key _ (g7 j row i _ hrow hi)
              · cases hi'
            · exact other j i' x _ (g7 j row i' x hrow hi')
          · cases hj'
        · exact other j' i' x _ (g7 j' row' i' x hj' hi')
    · rw [if_neg e] at hx
      by_cases e2 : m = x
      · rw [if_pos e2] at hx; cases hx
      · rw [if_neg e2] at hx
        obtain ⟨loc3, hl3, hB3⟩ := h.blk x kk hx
        exact ⟨loc3, by simp only [L']; rw [if_neg (fun e => e2 e.symm)]; exact hl3, hB3.names hLn (fun c q hc => hOs c x _ (fun e => e2 e.symm) hc)⟩
  · have : x ≠ m := fun e => by have := hlt hl2; rw [← e] at this; exact Nat.lt_irrefl _ (Nat.lt_of_lt_of_le this hx)
    simp only [L', if_neg this]; exact h.fresh x hx
  · by_cases e : x = m
    · simp [L', e]
    · simp only [L', if_neg e]; exact h.named x hx
  · obtain ⟨p0, h1, h2⟩ := hOe c _ hc
    unfold reclo at h2
    split at h2
    · split at h2
      · cases h2; exact hnx
      · cases h2; exact h.freshO c _ _ h1
    · cases h2
  · obtain ⟨v, hv, hR⟩ := h.slot t x hx
    exact ⟨v, hv, hR.names hLn (fun c q hc => absurd hc (h.ow0 c q))⟩
theorem Cov.close {q : Nat} (n j i : Nat) {m z len : Nat} {b k : Blk} {row : List AV} (hb : lb s.bl n = some b) (hrow : b.xs[j]? = some row) (hi : row[i]? = some (.own m z 0 len)) (hm : lb s.bl m = some k) (hmn : (m == n) = false) (hz : k.sz = z) (hlen : len = k.xs.length) (hnf : nfr k.xs) : Cov q ⟨s.tm, st (rm s.bl m) n { b with xs := b.xs.set j (row.set i (.ow k.e k.sz k.xs)) }, s.nx⟩ s :=
  fun _ _ _ S _ _ _ h => ⟨S, h.close hb hrow hi hm (by simpa using hmn) hz hlen hnf⟩
theorem GS.close (n j i : Nat) {m z len : Nat} {b k : Blk} {row : List AV} (hb : lb s.bl n = some b) (hrow : b.xs[j]? = some row) (hi : row[i]? = some (.own m z 0 len)) (hm : lb s.bl m = some k) (hmn : (m == n) = false) (hz : k.sz = z) (hlen : len = k.xs.length) (hnf : nfr k.xs) (hs : (⟨s.tm, st (rm s.bl m) n { b with xs := b.xs.set j (row.set i (.ow k.e k.sz k.xs)) }, s.nx⟩ : AS) = s') {p : Nat} (h : GS P nt ops K l p s') : GS P nt ops K l p s :=
  GS.cov (Cov.close n j i hb hrow hi hm hmn hz hlen hnf) (by rw [hs]; exact h)
theorem Holds.close {c : Code} {Q : Exit → AS → Prop} (n j i : Nat) {m z len : Nat} {b k : Blk} {row : List AV} (hb : lb s.bl n = some b) (hrow : b.xs[j]? = some row) (hi : row[i]? = some (.own m z 0 len)) (hm : lb s.bl m = some k) (hmn : (m == n) = false) (hz : k.sz = z) (hlen : len = k.xs.length) (hnf : nfr k.xs) (hs : (⟨s.tm, st (rm s.bl m) n { b with xs := b.xs.set j (row.set i (.ow k.e k.sz k.xs)) }, s.nx⟩ : AS) = s') (h : Holds P nt c Q s') : Holds P nt c Q s :=
  Holds.cov (Cov.close n j i hb hrow hi hm hmn hz hlen hnf) (by rw [hs]; exact h)
theorem GS.fnnd {c : Operand} {aas : Array Operand} {ts : Array TypeId} {f : FuncId} {xs cap args : List AV} {m : Nat} {outs bl' : List (Nat × Blk)} {r : AV} {s1 : AS} (hp : Fn P f 0 args [] r m outs) (hop : o.op = .call ⟨.value c, aas, ts⟩) (hg : gd ops s o = some true) (hd : okd nt.n o.dst = true)
    (hc : ev s c = some (.fn f cap)) (he : aas.toList.mapM (ev s) = some xs) (hf : FzL s.bl (xs ++ cap) args) (hom : outs.all (fun p => decide (p.1 < m)) = true)
    (hor : Ony r) (hoo : ∀ p ∈ outs, onyR p.2.xs) (hr : okr m r = true) (hren : RenB (fun n => s.nx + n) m outs bl') (hs1 : put (aft0 s m bl') o.dst (En.ren (fun n => s.nx + n) r) = s1) (h : GS P nt ops K l (i + 1) s1) : GS P nt ops K (o :: l) i s := by
  subst hs1
  exact GS.fnd hp hop hg hd hc he hf hom hor hoo hr hren h
end
attribute [go_sem] aft0
end Go.Proofs.Ytpnpjkkppndhfaa.En
end
section
namespace Go.Proofs.Ytpnpjkkppndhfaa.En
open Go.RowKit
set_option linter.unusedSimpArgs false
set_option linter.unusedVariables false
section
attribute [local semireducible] G Gq Holds GS Pure Out Fn OutF
variable {P : Program} {nt : NT} {s s' : AS} {ops : Array Oper} {K : AS → Prop} {i : Nat} {o : Oper} {l : List Oper}
/-- A name for a value of one cell of which nothing is known. -/
theorem RelX.opq {C : Ctx} {a : Act} {w : World} {S : Nat → Prop} {Ow : Owners} {L : Names} (h : RelX C s a w S Ow L) :
    ∃ L', RelX C ⟨s.tm, s.bl, s.nx + 1⟩ a w S Ow L' ∧ L' s.nx = .gone := by
  have hLn : ∀ n, L n = .free ∨ (if n = s.nx then NL.gone else L n) = L n ∨ (if n = s.nx then NL.gone else L n) = .gone := fun n => by
    by_cases e : n = s.nx
    · exact .inl (h.fresh n (by omega))
    · simp [e]
  refine ⟨fun n => if n = s.nx then .gone else L n, ?_, by simp⟩
  refine { fix := fix_of h.fix hLn, keep := h.keep, inS := h.inS, upS := h.upS, ltS := h.ltS, owS := h.owS, ow := h.ow, ow0 := h.ow0, blk := ?_, fresh := ?_, named := ?_, freshO := fun b n q hq => Nat.le_succ_of_le (h.freshO b n q hq), slot := ?_, size := h.size, defers := h.defers }
  · intro n kk hn
    obtain ⟨loc, hl, hB⟩ := h.blk n kk hn
    have e : n ≠ s.nx := fun e => by rw [e, h.fresh _ (Nat.le_refl _)] at hl; cases hl
    exact ⟨loc, by simp [e, hl], hB.names hLn (fun _ _ hq => hq)⟩
  · intro n hn
    have hn' : s.nx + 1 ≤ n := hn
    simp only [show n ≠ s.nx by omega, if_false]
    exact h.fresh n (by omega)
  · intro n hn
    have hn' : n < s.nx + 1 := hn
    by_cases e : n = s.nx
    · simp [e]
    · simp only [e, if_false]; exact h.named n (by omega)
  · intro t x hx
    obtain ⟨v, hv, hR⟩ := h.slot t x hx
    exact ⟨v, hv, hR.names hLn (fun _ _ hq => hq)⟩
theorem GS.mkMap {t : TypeId} {s1 : AS} (hop : o.op = .makeMap t none) (hg : gd ops s o = some true) (hd : okd nt.n o.dst = true) (hs1 : put ⟨s.tm, s.bl, s.nx + 1⟩ o.dst (.own s.nx 1 0 0) = s1) (h : GS P nt ops K l (i + 1) s1) : GS P nt ops K (o :: l) i s :=
  GS.cons (fun ho r' hr' => fun C ac w S Ow L Q hn hR hQ => by
    subst hn hs1
    rw [wpOps_cons]
    unfold wpOp
    simp only [ho]
    rw [gd_sound hR hg]
    simp only [if_true]
    left
    have hrun : (execOp ac.eval o).run P w = .ok (.value (.map (some w.heap.size))) (w.alloc (.map #[] 0)) := by
      unfold execOp
      simp [hop, run_makeMap_plain]
    unfold Oper.wp
    rw [hrun]
    have hb : Below w.heap.size w (w.alloc (.map #[] 0)) := ⟨rfl, rfl, rfl, by simp, fun k hk => heap_alloc_old w _ k hk⟩
    obtain ⟨L', h1, h2⟩ := (hR.grown hb).opq
    exact hr' C _ _ _ _ _ Q rfl (h1.put o.dst hd (.own_gone _ _ _ _ _ h2 rfl)) hQ) h
theorem Cov.open {q n j i : Nat} {b : Blk} {row : List AV} {e : TypeId} {z : Nat} {ys : List (List AV)} (hb : lb s.bl n = some b) (hrow : b.xs[j]? = some row) (hi : row[i]? = some (.ow e z ys)) :
    Cov q ⟨s.tm, (s.nx, ⟨e, z, ys⟩) :: st s.bl n { b with xs := b.xs.set j (row.set i (.own s.nx z 0 ys.length)) }, s.nx + 1⟩ s :=
  fun _ _ _ S _ _ _ h => by
    obtain ⟨Ow', L', u, h1, _⟩ := h.openOw hb hrow hi
    exact ⟨S, Ow', L', h1⟩
theorem Holds.open {c : Code} {Q : Exit → AS → Prop} (n j i : Nat) {b : Blk} {row : List AV} {e : TypeId} {z : Nat} {ys : List (List AV)} (hb : lb s.bl n = some b) (hrow : b.xs[j]? = some row) (hi : row[i]? = some (.ow e z ys))
    (hs : (⟨s.tm, (s.nx, ⟨e, z, ys⟩) :: st s.bl n { b with xs := b.xs.set j (row.set i (.own s.nx z 0 ys.length)) }, s.nx + 1⟩ : AS) = s') (h : Holds P nt c Q s') : Holds P nt c Q s := Holds.cov (Cov.open hb hrow hi) (by rw [hs]; exact h)
theorem GS.open (n j i : Nat) {b : Blk} {row : List AV} {e : TypeId} {z : Nat} {ys : List (List AV)} (hb : lb s.bl n = some b) (hrow : b.xs[j]? = some row) (hi : row[i]? = some (.ow e z ys))
    (hs : (⟨s.tm, (s.nx, ⟨e, z, ys⟩) :: st s.bl n { b with xs := b.xs.set j (row.set i (.own s.nx z 0 ys.length)) }, s.nx + 1⟩ : AS) = s') {p : Nat} (h : GS P nt ops K l p s') : GS P nt ops K l p s := GS.cov (Cov.open hb hrow hi) (by rw [hs]; exact h)
theorem Holds.condT {c : Operand} {x y : Code} {Q : Exit → AS → Prop} (hc : ev s c = some (.v (.bool true))) (h : Holds P nt x Q s) : Holds P nt (.cond c x y) Q s := Holds.cond hc (fun _ => h) (fun g => by cases g)
theorem Holds.condF {c : Operand} {x y : Code} {Q : Exit → AS → Prop} (hc : ev s c = some (.v (.bool false))) (h : Holds P nt y Q s) : Holds P nt (.cond c x y) Q s := Holds.cond hc (fun g => by cases g) (fun _ => h)
end
/-- The first cells of a variable in memory, lent to be looked at. -/
theorem Fz.pbP {bl : List (Nat × Blk)} {n sz : Nat} {k : Blk} {row zs : List AV} (hk : lb bl n = some k) (hx : k.xs = [row ++ zs]) (hz : k.sz = sz) (h : ∀ x ∈ row, En.cl1 x = true) : Fz bl (.pb n sz 0 0) (.pi row) := by
  subst hz
  refine .pb n 0 0 k (row ++ zs) row hk (by rw [hx]; rfl) (by simp) (fun q x y h1 h2 => ?_)
  rw [List.drop_zero, List.getElem?_append_left (List.getElem?_eq_some_iff.1 h2).1, h2] at h1
  have e := Option.some.inj h1
  subst e
  exact .cl1 (h _ (List.mem_of_getElem? h2))
end Go.Proofs.Ytpnpjkkppndhfaa.En
end
section
namespace Go.Proofs.Ytpnpjkkppndhfaa.En
open Go.RowKit
set_option linter.unusedSimpArgs false
set_option linter.unusedVariables false
set_option maxHeartbeats 8000000
def bs (l : List UInt8) : ByteArray := ⟨l.toArray⟩
theorem bs_append (a b : List UInt8) : bs a ++ bs b = bs (a ++ b) := by
  unfold bs
  refine ByteArray.ext ?_
  rw [ByteArray.data_append]
  simp
@[simp] theorem bs_size (a : List UInt8) : (bs a).size = a.length := by simp [bs, ByteArray.size]
theorem bs_toList (a : List UInt8) : (bs a).toList = a := by simp [bs]
def letterB (x : Int) : List UInt8 := if x = -1 then [97] else if x = -2 then [98] else if x = -3 then [99] else if x = -4 then [100] else if x = 0 then [83] else if x = 1 then [65] else if x = 2 then [66] else if x = 3 then [67] else if x = 4 then [68] else [69]
theorem letterB_len (x : Int) : (letterB x).length = 1 := by unfold letterB; repeat' split <;> try rfl
theorem ten {x : Int} (h0 : -4 ≤ x) (h1 : x ≤ 5) : x = -4 ∨ x = -3 ∨ x = -2 ∨ x = -1 ∨ x = 0 ∨ x = 1 ∨ x = 2 ∨ x = 3 ∨ x = 4 ∨ x = 5 := by omega
theorem ex1 : (ByteArray.mk #[83, 65, 66, 67, 68, 69]).extract 0 1 = bs [83] := by decide
theorem ex2 : (ByteArray.mk #[83, 65, 66, 67, 68, 69]).extract 1 2 = bs [65] := by decide
theorem ex3 : (ByteArray.mk #[83, 65, 66, 67, 68, 69]).extract 2 3 = bs [66] := by decide
theorem ex4 : (ByteArray.mk #[83, 65, 66, 67, 68, 69]).extract 3 4 = bs [67] := by decide
theorem ex5 : (ByteArray.mk #[83, 65, 66, 67, 68, 69]).extract 4 5 = bs [68] := by decide
theorem ex6 : (ByteArray.mk #[83, 65, 66, 67, 68, 69]).extract 5 6 = bs [69] := by decide
theorem ey1 : (ByteArray.mk #[97, 98, 99, 100]).extract 0 1 = bs [97] := by decide
theorem ey2 : (ByteArray.mk #[97, 98, 99, 100]).extract 1 2 = bs [98] := by decide
theorem ey3 : (ByteArray.mk #[97, 98, 99, 100]).extract 2 3 = bs [99] := by decide
theorem ey4 : (ByteArray.mk #[97, 98, 99, 100]).extract 3 4 = bs [100] := by decide
theorem sz6 : (ByteArray.mk #[83, 65, 66, 67, 68, 69]).size = 6 := rfl
theorem sz4 : (ByteArray.mk #[97, 98, 99, 100]).size = 4 := rfl
theorem en1 : Utf8.encode 97 = bs [97] := by decide
theorem en2 : Utf8.encode 98 = bs [98] := by decide
theorem en3 : Utf8.encode 99 = bs [99] := by decide
theorem en4 : Utf8.encode 100 = bs [100] := by decide
theorem l2Letter (x : Int) (h0 : -4 ≤ x) (h1 : x ≤ 5) : Pure Try.prog 48 [.v (.int .i64 x)] (.v (.string (bs (letterB x)))) := by
  refine Pure.mk (rs := [.tmp 2]) (nt := 14) Try.func48 (by kernel_rfl) rfl rfl rfl (by simp) ?_
  simp only [sl]
  rcases ten h0 h1 with rfl | rfl | rfl | rfl | rfl | rfl | rfl | rfl | rfl | rfl
  all_goals
    repeat' first
      | (refine Holds.condT ?_ ?_; (· (simp [go_sem, List.take_of_length_le, wr64, IntKind.wrap, sz6, sz4, ex1, ex2, ex3, ex4, ex5, ex6, ey1, ey2, ey3, ey4] <;> with_reducible rfl)))
      | (refine Holds.condF ?_ ?_; (· (simp [go_sem, List.take_of_length_le, wr64, IntKind.wrap, sz6, sz4, ex1, ex2, ex3, ex4, ex5, ex6, ey1, ey2, ey3, ey4] <;> with_reducible rfl)))
      | refine Holds.seq ?_
      | refine Holds.skip ?_
      | refine Holds.exit ?_
      | refine Holds.ret ?_
      | refine thenA_normal ?_
      | refine thenA_exit ?_
      | refine thenA_ret ?_
      | refine inB_normal ?_
      | refine inB_ret ?_
      | refine inB_here ?_
      | (refine inB_past ?_ ?_; (· exact rfl))
      | refine Holds.reg ?_
      | refine Holds.block ?_
      | refine GS.nil ?_
      | (refine GS.step (s' := ?_) ?_ ?_ ?_; rotate_left; (· exact rfl); (· (simp [go_sem, List.take_of_length_le, wr64, IntKind.wrap, sz6, sz4, ex1, ex2, ex3, ex4, ex5, ex6, ey1, ey2, ey3, ey4] <;> with_reducible rfl)))
      | (refine GS.skip ?_ ?_ ?_; (· exact rfl); (· exact rfl))
      | fail
    refine Out.mk (xs := ?_) ?_ ?_ (by first | exact .inr rfl | exact .inl rfl)
    rotate_left
    · simp [go_sem, List.take_of_length_le] <;> with_reducible rfl
    exact .v _
theorem letterOf (x : Int) (h0 : -4 ≤ x) (h1 : x ≤ 5) : Pure Try.prog 50 [.v (.int .i64 x)] (.v (.string (bs (letterB x)))) := by
  refine Pure.mk (rs := [.tmp 2]) (nt := 13) Try.func50 (by kernel_rfl) rfl rfl rfl (by simp) ?_
  simp only [sl]
  rcases ten h0 h1 with rfl | rfl | rfl | rfl | rfl | rfl | rfl | rfl | rfl | rfl
  all_goals
    repeat' first
      | (refine Holds.condT ?_ ?_; (· (simp [go_sem, List.take_of_length_le, wr64, IntKind.wrap, sz6, sz4, ex1, ex2, ex3, ex4, ex5, ex6, en1, en2, en3, en4] <;> with_reducible rfl)))
      | (refine Holds.condF ?_ ?_; (· (simp [go_sem, List.take_of_length_le, wr64, IntKind.wrap, sz6, sz4, ex1, ex2, ex3, ex4, ex5, ex6, en1, en2, en3, en4] <;> with_reducible rfl)))
      | refine Holds.seq ?_
      | refine Holds.skip ?_
      | refine Holds.exit ?_
      | refine Holds.ret ?_
      | refine thenA_normal ?_
      | refine thenA_exit ?_
      | refine thenA_ret ?_
      | refine inB_normal ?_
      | refine inB_ret ?_
      | refine inB_here ?_
      | (refine inB_past ?_ ?_; (· exact rfl))
      | refine Holds.reg ?_
      | refine Holds.block ?_
      | refine GS.nil ?_
      | (refine GS.step (s' := ?_) ?_ ?_ ?_; rotate_left; (· exact rfl); (· (simp [go_sem, List.take_of_length_le, wr64, IntKind.wrap, sz6, sz4, ex1, ex2, ex3, ex4, ex5, ex6, en1, en2, en3, en4] <;> with_reducible rfl)))
      | (refine GS.skip ?_ ?_ ?_; (· exact rfl); (· exact rfl))
      | fail
    refine Out.mk (xs := ?_) ?_ ?_ (by first | exact .inr rfl | exact .inl rfl)
    rotate_left
    · simp [go_sem, List.take_of_length_le] <;> with_reducible rfl
    exact .v _
end Go.Proofs.Ytpnpjkkppndhfaa.En
end
section
namespace Go.Proofs.Ytpnpjkkppndhfaa.En
open Go.RowKit
set_option linter.unusedSimpArgs false
set_option linter.unusedVariables false
set_option maxHeartbeats 8000000
def rightOf (g : GrammarT) (b : Int) : List Int := (g.2.2.getD b.toNat (0, [])).2
def inter : List Int → List (List UInt8) → List UInt8
  | [], _ => []
  | x :: xs, ts => if x < 0 then letterB x ++ inter xs ts else match ts with
    | t :: ts' => t ++ inter xs ts'
    | [] => inter xs []
mutual
def textP (g : GrammarT) : PT → List UInt8
  | .node a b _ _ _ _ ks => [40] ++ letterB a ++ inter (rightOf g b) (textL g ks) ++ [41]
def textL (g : GrammarT) : List PT → List (List UInt8)
  | [] => []
  | k :: ks => textP g k :: textL g ks
end
theorem textL_map (g : GrammarT) : ∀ ks : List PT, textL g ks = ks.map (textP g)
  | [] => rfl
  | k :: ks => by simp [textL, textL_map g ks]
def numK (xs : List Int) : Nat := (xs.filter fun x => decide (0 ≤ x)).length
theorem numK_neg {x : Int} (h : x < 0) (xs : List Int) : numK (x :: xs) = numK xs := by
  unfold numK; rw [List.filter_cons_of_neg (by simp; omega)]
theorem numK_pos {x : Int} (h : ¬ x < 0) (xs : List Int) : numK (x :: xs) = numK xs + 1 := by
  unfold numK; rw [List.filter_cons_of_pos (by simp; omega)]; simp
mutual
def okX (g : GrammarT) : PT → Bool
  | .node a b _ _ _ _ ks => decide (0 ≤ a ∧ a ≤ 5) && decide (0 ≤ b ∧ b.toNat < g.2.2.length) && decide (numK (rightOf g b) = ks.length) && okXs g ks
def okXs (g : GrammarT) : List PT → Bool
  | [] => true
  | k :: ks => okX g k && okXs g ks
end
theorem okXs_mem (g : GrammarT) : ∀ (ks : List PT), okXs g ks = true → ∀ k ∈ ks, okX g k = true
  | [], _, k, h => by cases h
  | q :: ks, h, k, hk => by
    simp only [okXs, Bool.and_eq_true] at h
    rcases List.mem_cons.1 hk with rfl | hk
    · exact h.1
    · exact okXs_mem g ks h.2 k hk
theorem okXs_snoc (g : GrammarT) (p : PT) (hp : okX g p = true) : ∀ (ks : List PT), okXs g ks = true → okXs g (ks ++ [p]) = true
  | [], _ => by simp [okXs, hp]
  | q :: ks, h => by
    simp only [okXs, Bool.and_eq_true] at h
    simp only [List.cons_append, okXs, h.1, okXs_snoc g p hp ks h.2, Bool.and_self]
theorem kids_okX (g : GrammarT) {rd : Int → Nat → List Int → Option PT × List Int} (h : ∀ x e w p w', rd x e w = (some p, w') → okX g p = true) :
    ∀ (xs : List Int) (e : Nat) (ks : List PT) (w : List Int) (K : List PT) (E : Nat) (w' : List Int), okXs g ks = true → kidsF rd xs e ks w = (some (K, E), w') → okXs g K = true ∧ K.length = ks.length + numK xs := by
  intro xs
  induction xs with
  | nil =>
    intro e ks w K E w' hk h
    simp only [kidsF, Prod.mk.injEq, Option.some.injEq] at h
    obtain ⟨⟨rfl, rfl⟩, rfl⟩ := h
    exact ⟨hk, by simp [numK]⟩
  | cons x xs ih =>
    intro e ks w K E w' hk hh
    unfold kidsF at hh
    by_cases h0 : x < 0
    · rw [if_pos h0] at hh
      rw [numK_neg h0]
      exact ih _ _ _ _ _ _ hk hh
    · rw [if_neg h0] at hh
      rw [numK_pos h0]
      split at hh
      · rename_i p w1 hp
        have := ih _ _ _ _ _ _ (okXs_snoc g p (h x e w p w1 hp) ks hk) hh
        simp at this ⊢
        exact ⟨this.1, by omega⟩
      · cases hh
theorem ruleAt_right (g : GrammarT) (tree : List Int) (a : Nat) : (ruleAt g tree a).2 = rightOf g (tree.getD a 0) := rfl
theorem read_okX {g : GrammarT} (hg : OkG g) (tree : List Int) : ∀ (f : Nat) (non : Int) (at' : Nat) (w : List Int) (p : PT) (w' : List Int), readF g tree f non at' w = (some p, w') → okX g p = true := by
  intro f
  induction f with
  | zero => intro non at' w p w' h; cases h
  | succ f ih =>
    intro non at' w p w' h
    unfold readF at h
    split at h
    · rename_i hh
      obtain ⟨k, r, hlt, hz, hk, _, hr, hl, hra, hgd⟩ := head_good hh
      split at h
      · rename_i ks e w1 hk2
        cases h
        have := kids_okX g ih _ _ _ _ _ _ _ rfl hk2
        rw [ruleAt_right] at this
        have hm := List.mem_of_getElem? hr
        have l0 := hg.l0 _ hm
        have l1 := hg.l1 _ hm
        have n1 := hg.n1
        simp only [okX, Bool.and_eq_true, decide_eq_true_eq, this.1, hgd]
        rw [hgd] at this
        refine ⟨⟨⟨⟨by omega, by omega⟩, by omega, by omega⟩, ?_⟩, trivial⟩
        have := this.2
        simp at this; omega
      · cases h
    · cases h
theorem kids_pre {rd : Int → Nat → List Int → Option PT × List Int} : ∀ (xs : List Int) (e : Nat) (ks : List PT) (w : List Int) (K : List PT) (E : Nat) (w' : List Int), kidsF rd xs e ks w = (some (K, E), w') → ∃ K2, K = ks ++ K2 := by
  intro xs
  induction xs with
  | nil =>
    intro e ks w K E w' h
    simp only [kidsF, Prod.mk.injEq, Option.some.injEq] at h
    obtain ⟨⟨rfl, rfl⟩, rfl⟩ := h
    exact ⟨[], by simp⟩
  | cons x xs ih =>
    intro e ks w K E w' hh
    unfold kidsF at hh
    split at hh
    · exact ih _ _ _ _ _ _ hh
    · split at hh
      · obtain ⟨K2, h⟩ := ih _ _ _ _ _ _ hh
        exact ⟨[_] ++ K2, by rw [h, List.append_assoc]⟩
      · cases hh
theorem kids_textlen (g : GrammarT) {rd : Int → Nat → List Int → Option PT × List Int} (h : ∀ x e w p w', rd x e w = (some p, w') → e < p.fin ∧ (textP g p).length ≤ 7 * (p.fin - e)) :
    ∀ (xs : List Int) (e : Nat) (ks : List PT) (w : List Int) (K : List PT) (E : Nat) (w' : List Int), kidsF rd xs e ks w = (some (K, E), w') → ∃ K2, K = ks ++ K2 ∧ e ≤ E ∧ (inter xs (textL g K2)).length ≤ xs.length + 7 * (E - e) := by
  intro xs
  induction xs with
  | nil =>
    intro e ks w K E w' h
    simp only [kidsF, Prod.mk.injEq, Option.some.injEq] at h
    obtain ⟨⟨rfl, rfl⟩, rfl⟩ := h
    exact ⟨[], by simp, Nat.le_refl _, by simp [inter]⟩
  | cons x xs ih =>
    intro e ks w K E w' hh
    unfold kidsF at hh
    by_cases h0 : x < 0
    · rw [if_pos h0] at hh
      obtain ⟨K2, h1, h2, h3⟩ := ih _ _ _ _ _ _ hh
      refine ⟨K2, h1, h2, ?_⟩
      simp only [inter, if_pos h0, List.length_append, letterB_len, List.length_cons]
      omega
    · rw [if_neg h0] at hh
      split at hh
      · rename_i p w1 hp
        obtain ⟨g1, g2⟩ := h x e w p w1 hp
        obtain ⟨K2, h1, h2, h3⟩ := ih _ _ _ _ _ _ hh
        refine ⟨p :: K2, by rw [h1]; simp, by omega, ?_⟩
        simp only [inter, if_neg h0, textL, List.length_append, List.length_cons]
        omega
      · cases hh
theorem read_textlen {g : GrammarT} (hg : OkG g) (tree : List Int) : ∀ (f : Nat) (non : Int) (at' : Nat) (w : List Int) (p : PT) (w' : List Int), readF g tree f non at' w = (some p, w') → at' < p.fin ∧ (textP g p).length ≤ 7 * (p.fin - at') := by
  intro f
  induction f with
  | zero => intro non at' w p w' h; cases h
  | succ f ih =>
    intro non at' w p w' h
    unfold readF at h
    split at h
    · rename_i hh
      obtain ⟨k, r, hlt, hz, hk, _, hr, hl, hra, hgd⟩ := head_good hh
      split at h
      · rename_i ks e w1 hk2
        cases h
        obtain ⟨K2, h1, h2, h3⟩ := kids_textlen g ih _ _ _ _ _ _ _ hk2
        simp only [List.nil_append] at h1
        subst h1
        have hm := List.mem_of_getElem? hr
        have r4 := hg.r4 _ hm
        rw [hra] at h3
        have hro : rightOf g (tree.getD at' 0) = r.2 := by rw [← ruleAt_right, hra]
        simp only [PT.fin, textP, hro, List.length_append, letterB_len, List.length_cons, List.length_nil]
        omega
      · cases h
    · cases h
theorem c40 : (ByteArray.mk #[40]) = bs [40] := rfl
theorem c41 : (ByteArray.mk #[41]) = bs [41] := rfl
theorem c0 : (ByteArray.mk #[]) = bs [] := rfl
theorem pre_drop {K ks : List PT} {p : PT} {K3 : List PT} (h : K = ks ++ [p] ++ K3) : K.drop ks.length = p :: K.drop (ks.length + 1) := by
  subst h
  simp
theorem l11Text (g : GrammarT) (hg : OkG g) (tree : List Int) (ht : tree.length ≤ 60) : ∀ (f : Nat) (non : Int) (at' : Nat) (w0 : List Int) (p : PT) (w : List Int), at' ≤ 100 → tree.length < f + at' → readF g tree f non at' w0 = (some p, w) →
    Pure Try.prog 26 [.ag (grammarC g), .im 1 (ints tree), .v (.int .i64 at')] (.tu [.v (.string (bs (textP g p))), .v (.int .i64 p.fin)]) := by
  intro f
  induction f with
  | zero => intro non at' w0 p w _ _ h; cases h
  | succ f ih =>
    intro non at' w0 p w ha hf hread
    have htl := read_textlen hg tree (f + 1) non at' w0 p w hread
    have hpr := readF_props hg tree (f + 1) non at' w0 p w hread
    unfold readF at hread
    cases hh : headOk g tree non at' with
    | false => rw [hh] at hread; simp at hread
    | true =>
      obtain ⟨k, r, hlt, hz, hk, h2, hr, h3, hra, hgd⟩ := head_good hh
      rw [hh, if_pos rfl, hra] at hread
      have hrm := List.mem_of_getElem? hr
      have h4 := hg.r4 _ hrm
      have hs0 := hg.s0 _ hrm
      have hl0 := hg.l0 _ hrm
      have hl1 := hg.l1 _ hrm
      have hn1 := hg.n1
      have ht1 := hg.t1
      have hro : rightOf g (tree.getD at' 0) = r.2 := by rw [← ruleAt_right, hra]
      obtain ⟨l, right⟩ := r
      dsimp only at h3 h4 hs0 hl0 hl1 hread hro
      generalize hR : kidsF (readF g tree f) right (at' + 1) [] w0 = R at hread
      obtain ⟨q, W⟩ := R
      cases q with
      | none => simp at hread
      | some q =>
        obtain ⟨K, E⟩ := q
        dsimp only at hread
        have hpe := congrArg Prod.fst hread
        simp only [Option.some.injEq] at hpe
        rw [← hpe] at htl hpr ⊢
        simp only [textP, hro, PT.fin] at htl hpr ⊢
        clear hpe hread
        rw [← h3] at htl ⊢
        generalize hTot : [40] ++ letterB l ++ inter right (textL g K) = Tot at htl ⊢
        have hTl : Tot.length ≤ 1000 := by have := htl.2; simp only [List.length_append, List.length_cons, List.length_nil] at this; omega
        have hw1 : wr64 ((at' : Int) + 1) = ((at' + 1 : Nat) : Int) := wr64_id (by omega) (by omega)
        have cl := l2Letter l (by omega) (by omega)
        have hll := letterB_len l
        refine Pure.mk (rs := [.tmp 6, .tmp 7]) (nt := 62) Try.func26 (by kernel_rfl) rfl rfl rfl (by simp) ?_
        simp only [sl, grammarC]
        repeat' first
          | (refine Holds.condT ?_ ?_; (· (simp [go_sem, List.take_of_length_le, hz, hr, ruleC] <;> with_reducible rfl)))
          | (refine Holds.condF ?_ ?_; (· (simp [go_sem, List.take_of_length_le, hz, hr, ruleC] <;> with_reducible rfl)))
          | refine Holds.seq ?_
          | refine Holds.skip ?_
          | refine Holds.exit ?_
          | refine Holds.ret ?_
          | refine thenA_normal ?_
          | refine thenA_exit ?_
          | refine thenA_ret ?_
          | refine inB_normal ?_
          | refine inB_ret ?_
          | refine inB_here ?_
          | (refine inB_past ?_ ?_; (· exact rfl))
          | refine Holds.reg ?_
          | refine Holds.block ?_
          | refine GS.nil ?_
          | refine Gd.nil ?_
          | (refine Holds.any mixed ?_ ?_; (· kernel_rfl))
          | (refine GS.step (s' := ?_) ?_ ?_ ?_; rotate_left; (· exact rfl); (· (simp [go_sem, List.take_of_length_le, hz, hr, ruleC] <;> with_reducible rfl)))
          | (refine GS.skip ?_ ?_ ?_; (· exact rfl); (· exact rfl))
          | (refine Gd.go (s' := ?_) ?_ ?_ ?_; rotate_left; (· exact rfl); (· (simp [go_sem, List.take_of_length_le, hz, hr, ruleC] <;> with_reducible rfl)))
          | (refine Gd.skip ?_ ?_ ?_; (· exact rfl); (· exact rfl))
          | fail
        first | refine GS.cc (cl) rfl rfl rfl rfl (by simp [go_sem, List.take_of_length_le] <;> with_reducible rfl) rfl (by simp [go_sem, List.take_of_length_le]) ?_ | refine Gd.cc (cl) rfl rfl rfl rfl (by simp [go_sem, List.take_of_length_le] <;> with_reducible rfl) rfl (by simp [go_sem, List.take_of_length_le]) ?_
        repeat' first
          | (refine Holds.condT ?_ ?_; (· (simp [go_sem, List.take_of_length_le, c40, bs_append, hll, hz, hr, ruleC, hw1] <;> with_reducible rfl)))
          | (refine Holds.condF ?_ ?_; (· (simp [go_sem, List.take_of_length_le, c40, bs_append, hll, hz, hr, ruleC, hw1] <;> with_reducible rfl)))
          | refine Holds.seq ?_
          | refine Holds.skip ?_
          | refine Holds.exit ?_
          | refine Holds.ret ?_
          | refine thenA_normal ?_
          | refine thenA_exit ?_
          | refine thenA_ret ?_
          | refine inB_normal ?_
          | refine inB_ret ?_
          | refine inB_here ?_
          | (refine inB_past ?_ ?_; (· exact rfl))
          | refine Holds.reg ?_
          | refine Holds.block ?_
          | refine GS.nil ?_
          | refine Gd.nil ?_
          | (refine Holds.any mixed ?_ ?_; (· kernel_rfl))
          | (refine GS.step (s' := ?_) ?_ ?_ ?_; rotate_left; (· exact rfl); (· (simp [go_sem, List.take_of_length_le, c40, bs_append, hll, hz, hr, ruleC, hw1] <;> with_reducible rfl)))
          | (refine GS.skip ?_ ?_ ?_; (· exact rfl); (· exact rfl))
          | (refine Gd.go (s' := ?_) ?_ ?_ ?_; rotate_left; (· exact rfl); (· (simp [go_sem, List.take_of_length_le, c40, bs_append, hll, hz, hr, ruleC, hw1] <;> with_reducible rfl)))
          | (refine Gd.skip ?_ ?_ ?_; (· exact rfl); (· exact rfl))
          | fail
        refine Holds.loop (ι := Nat × Nat × List PT × List Int × List UInt8) (fun i => ⟨[(1, .im 1 (ints tree)), (3, .pb 0 3 0 0), (8, .v (.string (bs i.2.2.2.2))), (9, .v (.int .i64 i.2.1)), (35, .im 1 (ints right)), (36, .v (.int .i64 right.length)), (37, .v (.int .i64 i.1))], [(0, ⟨31, 3, [[.v (.int .i64 g.1), .v (.int .i64 g.2.1), .im 2 (rules g.2.2)]]⟩)], 1⟩)
          (fun i => i.1 ≤ right.length ∧ kidsF (readF g tree f) (right.drop i.1) i.2.1 i.2.2.1 i.2.2.2.1 = (some (K, E), W) ∧ at' + 1 ≤ i.2.1 ∧ i.2.1 ≤ tree.length ∧ Tot = i.2.2.2.2 ++ inter (right.drop i.1) (textL g (K.drop i.2.2.1.length))) (fun i => right.length - i.1) (0, at' + 1, [], w0, [40] ++ letterB l) ⟨Nat.zero_le _, hR, Nat.le_refl _, by dsimp only; omega, by dsimp only; rw [← hTot]; simp⟩ ?_ ?_
        · exact Cov.ofn (id) rfl (by simp [go_sem, List.take_of_length_le, ren, ren1, okr, okr1, ChkT, ChkN, BlkN, nf, textL]) (by simp [go_sem, List.take_of_length_le, ren, ren1, okr, okr1, ChkT, ChkN, BlkN, nf, textL])
        rintro ⟨j, e, ks, w', s⟩ ⟨hj, hfold, he0, he1, hs⟩
        dsimp only at hj hfold he0 he1 hs ⊢
        have step : wr64 ((j : Int) + 1) = ((j + 1 : Nat) : Int) := wr64_id (by omega) (by omega)
        have hsl : s.length ≤ 1000 := by rw [hs] at hTl; simp only [List.length_append] at hTl; omega
        repeat' first
          | (refine Holds.condT ?_ ?_; (· (simp [go_sem, List.take_of_length_le] <;> with_reducible rfl)))
          | (refine Holds.condF ?_ ?_; (· (simp [go_sem, List.take_of_length_le] <;> with_reducible rfl)))
          | refine Holds.seq ?_
          | refine Holds.skip ?_
          | refine Holds.exit ?_
          | refine Holds.ret ?_
          | refine thenA_normal ?_
          | refine thenA_exit ?_
          | refine thenA_ret ?_
          | refine inB_normal ?_
          | refine inB_ret ?_
          | refine inB_here ?_
          | (refine inB_past ?_ ?_; (· exact rfl))
          | refine Holds.reg ?_
          | refine Holds.block ?_
          | refine GS.nil ?_
          | refine Gd.nil ?_
          | (refine Holds.any mixed ?_ ?_; (· kernel_rfl))
          | (refine GS.step (s' := ?_) ?_ ?_ ?_; rotate_left; (· exact rfl); (· (simp [go_sem, List.take_of_length_le] <;> with_reducible rfl)))
          | (refine GS.skip ?_ ?_ ?_; (· exact rfl); (· exact rfl))
          | (refine Gd.go (s' := ?_) ?_ ?_ ?_; rotate_left; (· exact rfl); (· (simp [go_sem, List.take_of_length_le] <;> with_reducible rfl)))
          | (refine Gd.skip ?_ ?_ ?_; (· exact rfl); (· exact rfl))
          | fail
        refine Holds.cond rfl (fun hl => ?_) (fun hl => ?_)
        · have hjt : j < right.length := by simpa using hl
          have hxj : right[j]? = some right[j] := List.getElem?_eq_getElem hjt
          have hxs := hs0 _ (List.getElem_mem hjt)
          rw [List.drop_eq_getElem_cons hjt] at hfold hs
          unfold kidsF at hfold
          generalize right[j] = x at hxj hfold hs hxs
          by_cases hx : x < 0
          · rw [if_pos hx] at hfold
            simp only [inter, if_pos hx] at hs
            have clx := l2Letter x (by omega) (by omega)
            have hlx := letterB_len x
            repeat' first
              | (refine Holds.condT ?_ ?_; (· (simp [go_sem, List.take_of_length_le, hxj, hx] <;> with_reducible rfl)))
              | (refine Holds.condF ?_ ?_; (· (simp [go_sem, List.take_of_length_le, hxj, hx] <;> with_reducible rfl)))
              | refine Holds.seq ?_
              | refine Holds.skip ?_
              | refine Holds.exit ?_
              | refine Holds.ret ?_
              | refine thenA_normal ?_
              | refine thenA_exit ?_
              | refine thenA_ret ?_
              | refine inB_normal ?_
              | refine inB_ret ?_
              | refine inB_here ?_
              | (refine inB_past ?_ ?_; (· exact rfl))
              | refine Holds.reg ?_
              | refine Holds.block ?_
              | refine GS.nil ?_
              | refine Gd.nil ?_
              | (refine Holds.any mixed ?_ ?_; (· kernel_rfl))
              | (refine GS.step (s' := ?_) ?_ ?_ ?_; rotate_left; (· exact rfl); (· (simp [go_sem, List.take_of_length_le, hxj, hx] <;> with_reducible rfl)))
              | (refine GS.skip ?_ ?_ ?_; (· exact rfl); (· exact rfl))
              | (refine Gd.go (s' := ?_) ?_ ?_ ?_; rotate_left; (· exact rfl); (· (simp [go_sem, List.take_of_length_le, hxj, hx] <;> with_reducible rfl)))
              | (refine Gd.skip ?_ ?_ ?_; (· exact rfl); (· exact rfl))
              | fail
            first | refine GS.cc (clx) rfl rfl rfl rfl (by simp [go_sem, List.take_of_length_le] <;> with_reducible rfl) rfl (by simp [go_sem, List.take_of_length_le]) ?_ | refine Gd.cc (clx) rfl rfl rfl rfl (by simp [go_sem, List.take_of_length_le] <;> with_reducible rfl) rfl (by simp [go_sem, List.take_of_length_le]) ?_
            repeat' first
              | (refine Holds.condT ?_ ?_; (· (simp [go_sem, List.take_of_length_le, bs_append, hlx, (show s.length + 1 ≤ 9223372036854775807 by omega)] <;> with_reducible rfl)))
              | (refine Holds.condF ?_ ?_; (· (simp [go_sem, List.take_of_length_le, bs_append, hlx, (show s.length + 1 ≤ 9223372036854775807 by omega)] <;> with_reducible rfl)))
              | refine Holds.seq ?_
              | refine Holds.skip ?_
              | refine Holds.exit ?_
              | refine Holds.ret ?_
              | refine thenA_normal ?_
              | refine thenA_exit ?_
              | refine thenA_ret ?_
              | refine inB_normal ?_
              | refine inB_ret ?_
              | refine inB_here ?_
              | (refine inB_past ?_ ?_; (· exact rfl))
              | refine Holds.reg ?_
              | refine Holds.block ?_
              | refine GS.nil ?_
              | refine Gd.nil ?_
              | (refine Holds.any mixed ?_ ?_; (· kernel_rfl))
              | (refine GS.step (s' := ?_) ?_ ?_ ?_; rotate_left; (· exact rfl); (· (simp [go_sem, List.take_of_length_le, bs_append, hlx, (show s.length + 1 ≤ 9223372036854775807 by omega)] <;> with_reducible rfl)))
              | (refine GS.skip ?_ ?_ ?_; (· exact rfl); (· exact rfl))
              | (refine Gd.go (s' := ?_) ?_ ?_ ?_; rotate_left; (· exact rfl); (· (simp [go_sem, List.take_of_length_le, bs_append, hlx, (show s.length + 1 ≤ 9223372036854775807 by omega)] <;> with_reducible rfl)))
              | (refine Gd.skip ?_ ?_ ?_; (· exact rfl); (· exact rfl))
              | fail
            refine ⟨(j + 1, e, ks, w' ++ [-1 - x], s ++ letterB x), ⟨by dsimp only; omega, hfold, he0, he1, by dsimp only; rw [hs, List.append_assoc]⟩, by dsimp only; omega, ?_⟩
            rw [step]
            exact Cov.ofn (id) rfl (by simp [go_sem, List.take_of_length_le, ren, ren1, okr, okr1, ChkT, ChkN, BlkN, nf]) (by simp [go_sem, List.take_of_length_le, ren, ren1, okr, okr1, ChkT, ChkN, BlkN, nf])
          · rw [if_neg hx] at hfold
            have hp := readF_props hg tree f x e w'
            have hi := ih x e w'
            generalize readF g tree f x e w' = q at hfold hp hi
            obtain ⟨q, w1⟩ := q
            cases q with
            | none => simp at hfold
            | some p1 =>
              obtain ⟨b0, b1, b2⟩ := hp p1 w1 rfl
              have hi := hi p1 w1 (by omega) (by omega) rfl
              dsimp only at hfold
              obtain ⟨K3, hK⟩ := kids_pre _ _ _ _ _ _ _ hfold
              rw [pre_drop hK] at hs
              simp only [inter, if_neg hx, textL] at hs
              have hl2 : s.length + (textP g p1).length ≤ 9223372036854775807 := by rw [hs] at hTl; simp only [List.length_append] at hTl; omega
              generalize textP g p1 = tp at hi hs hl2
              repeat' first
                | (refine Holds.condT ?_ ?_; (· (simp [go_sem, List.take_of_length_le, hxj, hx, grammarC] <;> with_reducible rfl)))
                | (refine Holds.condF ?_ ?_; (· (simp [go_sem, List.take_of_length_le, hxj, hx, grammarC] <;> with_reducible rfl)))
                | refine Holds.seq ?_
                | refine Holds.skip ?_
                | refine Holds.exit ?_
                | refine Holds.ret ?_
                | refine thenA_normal ?_
                | refine thenA_exit ?_
                | refine thenA_ret ?_
                | refine inB_normal ?_
                | refine inB_ret ?_
                | refine inB_here ?_
                | (refine inB_past ?_ ?_; (· exact rfl))
                | refine Holds.reg ?_
                | refine Holds.block ?_
                | refine GS.nil ?_
                | refine Gd.nil ?_
                | (refine Holds.any mixed ?_ ?_; (· kernel_rfl))
                | (refine GS.step (s' := ?_) ?_ ?_ ?_; rotate_left; (· exact rfl); (· (simp [go_sem, List.take_of_length_le, hxj, hx, grammarC] <;> with_reducible rfl)))
                | (refine GS.skip ?_ ?_ ?_; (· exact rfl); (· exact rfl))
                | (refine Gd.go (s' := ?_) ?_ ?_ ?_; rotate_left; (· exact rfl); (· (simp [go_sem, List.take_of_length_le, hxj, hx, grammarC] <;> with_reducible rfl)))
                | (refine Gd.skip ?_ ?_ ?_; (· exact rfl); (· exact rfl))
                | fail
              first | refine GS.cc (hi) rfl rfl rfl rfl (by simp [go_sem, List.take_of_length_le, grammarC] <;> with_reducible rfl) rfl (by simp [go_sem, List.take_of_length_le, grammarC]) ?_ | refine Gd.cc (hi) rfl rfl rfl rfl (by simp [go_sem, List.take_of_length_le, grammarC] <;> with_reducible rfl) rfl (by simp [go_sem, List.take_of_length_le, grammarC]) ?_
              repeat' first
                | (refine Holds.condT ?_ ?_; (· (simp [go_sem, List.take_of_length_le, bs_append, hl2] <;> with_reducible rfl)))
                | (refine Holds.condF ?_ ?_; (· (simp [go_sem, List.take_of_length_le, bs_append, hl2] <;> with_reducible rfl)))
                | refine Holds.seq ?_
                | refine Holds.skip ?_
                | refine Holds.exit ?_
                | refine Holds.ret ?_
                | refine thenA_normal ?_
                | refine thenA_exit ?_
                | refine thenA_ret ?_
                | refine inB_normal ?_
                | refine inB_ret ?_
                | refine inB_here ?_
                | (refine inB_past ?_ ?_; (· exact rfl))
                | refine Holds.reg ?_
                | refine Holds.block ?_
                | refine GS.nil ?_
                | refine Gd.nil ?_
                | (refine Holds.any mixed ?_ ?_; (· kernel_rfl))
                | (refine GS.step (s' := ?_) ?_ ?_ ?_; rotate_left; (· exact rfl); (· (simp [go_sem, List.take_of_length_le, bs_append, hl2] <;> with_reducible rfl)))
                | (refine GS.skip ?_ ?_ ?_; (· exact rfl); (· exact rfl))
                | (refine Gd.go (s' := ?_) ?_ ?_ ?_; rotate_left; (· exact rfl); (· (simp [go_sem, List.take_of_length_le, bs_append, hl2] <;> with_reducible rfl)))
                | (refine Gd.skip ?_ ?_ ?_; (· exact rfl); (· exact rfl))
                | fail
              refine ⟨(j + 1, p1.fin, ks ++ [p1], w1, s ++ tp), ⟨by dsimp only; omega, hfold, by dsimp only; omega, by dsimp only; omega, by dsimp only; rw [hs, List.append_assoc, List.length_append]; rfl⟩, by dsimp only; omega, ?_⟩
              rw [step]
              exact Cov.ofn (id) rfl (by simp [go_sem, List.take_of_length_le, ren, ren1, okr, okr1, ChkT, ChkN, BlkN, nf]) (by simp [go_sem, List.take_of_length_le, ren, ren1, okr, okr1, ChkT, ChkN, BlkN, nf])
        · have hje : j = right.length := by
            have : ¬ j < right.length := by simpa using hl
            omega
          subst hje
          rw [List.drop_length] at hfold hs
          unfold kidsF at hfold
          simp only [Prod.mk.injEq, Option.some.injEq] at hfold
          obtain ⟨⟨rfl, rfl⟩, _⟩ := hfold
          simp only [inter, List.append_nil] at hs
          subst hs
          repeat' first
            | (refine Holds.condT ?_ ?_; (· (simp [go_sem, List.take_of_length_le, c41, bs_append, (show Tot.length + 1 ≤ 9223372036854775807 by omega)] <;> with_reducible rfl)))
            | (refine Holds.condF ?_ ?_; (· (simp [go_sem, List.take_of_length_le, c41, bs_append, (show Tot.length + 1 ≤ 9223372036854775807 by omega)] <;> with_reducible rfl)))
            | refine Holds.seq ?_
            | refine Holds.skip ?_
            | refine Holds.exit ?_
            | refine Holds.ret ?_
            | refine thenA_normal ?_
            | refine thenA_exit ?_
            | refine thenA_ret ?_
            | refine inB_normal ?_
            | refine inB_ret ?_
            | refine inB_here ?_
            | (refine inB_past ?_ ?_; (· exact rfl))
            | refine Holds.reg ?_
            | refine Holds.block ?_
            | refine GS.nil ?_
            | refine Gd.nil ?_
            | (refine Holds.any mixed ?_ ?_; (· kernel_rfl))
            | (refine GS.step (s' := ?_) ?_ ?_ ?_; rotate_left; (· exact rfl); (· (simp [go_sem, List.take_of_length_le, c41, bs_append, (show Tot.length + 1 ≤ 9223372036854775807 by omega)] <;> with_reducible rfl)))
            | (refine GS.skip ?_ ?_ ?_; (· exact rfl); (· exact rfl))
            | (refine Gd.go (s' := ?_) ?_ ?_ ?_; rotate_left; (· exact rfl); (· (simp [go_sem, List.take_of_length_le, c41, bs_append, (show Tot.length + 1 ≤ 9223372036854775807 by omega)] <;> with_reducible rfl)))
            | (refine Gd.skip ?_ ?_ ?_; (· exact rfl); (· exact rfl))
            | fail
          refine Out.mk (xs := ?_) ?_ ?_ (by first | exact .inr rfl | exact .inl rfl)
          rotate_left
          · simp [go_sem, List.take_of_length_le] <;> with_reducible rfl
          exact Fz.cl rfl
theorem partText (g : GrammarT) (hg : OkG g) : ∀ (n : Nat) (p : PT), heightP p ≤ n → okX g p = true → okP p = true → (textP g p).length ≤ 1000 → Pure Try.prog 29 [.pi (partC p), .ag (grammarC g)] (.v (.string (bs (textP g p)))) := by
  intro n
  induction n with
  | zero =>
    intro p hp
    obtain ⟨a, b, c, d, e, f, ks⟩ := p
    unfold heightP at hp
    omega
  | succ n ih =>
    intro p hp hok hokp hlen
    obtain ⟨a, b, c, d, e, f, ks⟩ := p
    unfold heightP at hp
    simp only [okP, Bool.and_eq_true, decide_eq_true_eq] at hokp
    simp only [okX, Bool.and_eq_true, decide_eq_true_eq] at hok
    obtain ⟨⟨⟨⟨ha0, ha5⟩, hb0, hbl⟩, hcnt⟩, hkids⟩ := hok
    have hle := heightL_le ks 0
    obtain ⟨bn, hbn⟩ : ∃ bn : Nat, b = (bn : Int) := ⟨b.toNat, by omega⟩
    subst hbn
    simp only [Int.toNat_natCast] at hbl
    have hr : g.2.2[bn]? = some g.2.2[bn] := List.getElem?_eq_getElem hbl
    have hrm := List.getElem_mem hbl
    have hro : rightOf g (bn : Int) = g.2.2[bn].2 := by unfold rightOf; rw [Int.toNat_natCast, List.getD_eq_getElem?_getD, hr]; rfl
    have h4 := hg.r4 _ hrm
    have hs0 := hg.s0 _ hrm
    have ht1 := hg.t1
    simp only [textP, hro] at hlen ⊢
    rw [hro] at hcnt
    generalize g.2.2[bn] = r at hr hlen hcnt h4 hs0
    obtain ⟨l, right⟩ := r
    dsimp only at hlen hcnt h4 hs0 ⊢
    generalize hTot : [40] ++ letterB a ++ inter right (textL g ks) = Tot at hlen ⊢
    have hTl : Tot.length ≤ 1000 := by simp only [List.length_append] at hlen; omega
    have cl := letterOf a (by omega) (by omega)
    have hll := letterB_len a
    refine Pure.mk (rs := [.tmp 4]) (nt := 51) Try.func29 (by kernel_rfl) rfl rfl rfl (by simp) ?_
    simp only [sl, partC, grammarC]
    repeat' first
      | (refine Holds.condT ?_ ?_; (· (simp [go_sem, List.take_of_length_le] <;> with_reducible rfl)))
      | (refine Holds.condF ?_ ?_; (· (simp [go_sem, List.take_of_length_le] <;> with_reducible rfl)))
      | refine Holds.seq ?_
      | refine Holds.skip ?_
      | refine Holds.exit ?_
      | refine Holds.ret ?_
      | refine thenA_normal ?_
      | refine thenA_exit ?_
      | refine thenA_ret ?_
      | refine inB_normal ?_
      | refine inB_ret ?_
      | refine inB_here ?_
      | (refine inB_past ?_ ?_; (· exact rfl))
      | refine Holds.reg ?_
      | refine Holds.block ?_
      | refine GS.nil ?_
      | refine Gd.nil ?_
      | (refine Holds.any mixed ?_ ?_; (· kernel_rfl))
      | (refine GS.step (s' := ?_) ?_ ?_ ?_; rotate_left; (· exact rfl); (· (simp [go_sem, List.take_of_length_le] <;> with_reducible rfl)))
      | (refine GS.skip ?_ ?_ ?_; (· exact rfl); (· exact rfl))
      | (refine Gd.go (s' := ?_) ?_ ?_ ?_; rotate_left; (· exact rfl); (· (simp [go_sem, List.take_of_length_le] <;> with_reducible rfl)))
      | (refine Gd.skip ?_ ?_ ?_; (· exact rfl); (· exact rfl))
      | fail
    first | refine GS.cc (cl) rfl rfl rfl rfl (by simp [go_sem, List.take_of_length_le] <;> with_reducible rfl) rfl (by simp [go_sem, List.take_of_length_le]) ?_ | refine Gd.cc (cl) rfl rfl rfl rfl (by simp [go_sem, List.take_of_length_le] <;> with_reducible rfl) rfl (by simp [go_sem, List.take_of_length_le]) ?_
    repeat' first
      | (refine Holds.condT ?_ ?_; (· (simp [go_sem, List.take_of_length_le, c40, bs_append, hll, grammarC, hr, ruleC] <;> with_reducible rfl)))
      | (refine Holds.condF ?_ ?_; (· (simp [go_sem, List.take_of_length_le, c40, bs_append, hll, grammarC, hr, ruleC] <;> with_reducible rfl)))
      | refine Holds.seq ?_
      | refine Holds.skip ?_
      | refine Holds.exit ?_
      | refine Holds.ret ?_
      | refine thenA_normal ?_
      | refine thenA_exit ?_
      | refine thenA_ret ?_
      | refine inB_normal ?_
      | refine inB_ret ?_
      | refine inB_here ?_
      | (refine inB_past ?_ ?_; (· exact rfl))
      | refine Holds.reg ?_
      | refine Holds.block ?_
      | refine GS.nil ?_
      | refine Gd.nil ?_
      | (refine Holds.any mixed ?_ ?_; (· kernel_rfl))
      | (refine GS.step (s' := ?_) ?_ ?_ ?_; rotate_left; (· exact rfl); (· (simp [go_sem, List.take_of_length_le, c40, bs_append, hll, grammarC, hr, ruleC] <;> with_reducible rfl)))
      | (refine GS.skip ?_ ?_ ?_; (· exact rfl); (· exact rfl))
      | (refine Gd.go (s' := ?_) ?_ ?_ ?_; rotate_left; (· exact rfl); (· (simp [go_sem, List.take_of_length_le, c40, bs_append, hll, grammarC, hr, ruleC] <;> with_reducible rfl)))
      | (refine Gd.skip ?_ ?_ ?_; (· exact rfl); (· exact rfl))
      | fail
    refine Holds.loop (ι := Nat × Nat × List UInt8) (fun i => ⟨[(0, .pi (partC (.node a bn c d e f ks))), (3, .pb 0 3 0 0), (5, .v (.string (bs i.2.2))), (6, .v (.int .i64 i.2.1)), (23, .im 1 (ints right)), (24, .v (.int .i64 right.length)), (25, .v (.int .i64 i.1))], [(0, ⟨31, 3, [grammarC g]⟩)], 1⟩)
      (fun i => i.1 ≤ right.length ∧ i.2.1 + numK (right.drop i.1) = ks.length ∧ Tot = i.2.2 ++ inter (right.drop i.1) (textL g (ks.drop i.2.1))) (fun i => right.length - i.1) (0, 0, [40] ++ letterB a) ⟨Nat.zero_le _, by dsimp only; rw [List.drop_zero, Nat.zero_add]; exact hcnt, by dsimp only; rw [← hTot]; simp⟩ ?_ ?_
    · exact Cov.ofn (id) rfl (by simp [go_sem, List.take_of_length_le, ren, ren1, okr, okr1, ChkT, ChkN, BlkN, nf, grammarC, partC]) (by simp [go_sem, List.take_of_length_le, ren, ren1, okr, okr1, ChkT, ChkN, BlkN, nf, grammarC, partC])
    rintro ⟨j, m, s⟩ ⟨hj, hm, hs⟩
    dsimp only at hj hm hs ⊢
    have step : wr64 ((j : Int) + 1) = ((j + 1 : Nat) : Int) := wr64_id (by omega) (by omega)
    have hsl : s.length ≤ 1000 := by rw [hs] at hTl; simp only [List.length_append] at hTl; omega
    repeat' first
      | (refine Holds.condT ?_ ?_; (· (simp [go_sem, List.take_of_length_le] <;> with_reducible rfl)))
      | (refine Holds.condF ?_ ?_; (· (simp [go_sem, List.take_of_length_le] <;> with_reducible rfl)))
      | refine Holds.seq ?_
      | refine Holds.skip ?_
      | refine Holds.exit ?_
      | refine Holds.ret ?_
      | refine thenA_normal ?_
      | refine thenA_exit ?_
      | refine thenA_ret ?_
      | refine inB_normal ?_
      | refine inB_ret ?_
      | refine inB_here ?_
      | (refine inB_past ?_ ?_; (· exact rfl))
      | refine Holds.reg ?_
      | refine Holds.block ?_
      | refine GS.nil ?_
      | refine Gd.nil ?_
      | (refine Holds.any mixed ?_ ?_; (· kernel_rfl))
      | (refine GS.step (s' := ?_) ?_ ?_ ?_; rotate_left; (· exact rfl); (· (simp [go_sem, List.take_of_length_le] <;> with_reducible rfl)))
      | (refine GS.skip ?_ ?_ ?_; (· exact rfl); (· exact rfl))
      | (refine Gd.go (s' := ?_) ?_ ?_ ?_; rotate_left; (· exact rfl); (· (simp [go_sem, List.take_of_length_le] <;> with_reducible rfl)))
      | (refine Gd.skip ?_ ?_ ?_; (· exact rfl); (· exact rfl))
      | fail
    refine Holds.cond rfl (fun hl => ?_) (fun hl => ?_)
    · have hjt : j < right.length := by simpa using hl
      have hxj : right[j]? = some right[j] := List.getElem?_eq_getElem hjt
      have hxs := hs0 _ (List.getElem_mem hjt)
      rw [List.drop_eq_getElem_cons hjt] at hm hs
      generalize right[j] = x at hxj hm hs hxs
      by_cases hx : x < 0
      · rw [numK_neg hx] at hm
        simp only [inter, if_pos hx] at hs
        have clx := letterOf x (by omega) (by omega)
        have hlx := letterB_len x
        repeat' first
          | (refine Holds.condT ?_ ?_; (· (simp [go_sem, List.take_of_length_le, hxj, hx] <;> with_reducible rfl)))
          | (refine Holds.condF ?_ ?_; (· (simp [go_sem, List.take_of_length_le, hxj, hx] <;> with_reducible rfl)))
          | refine Holds.seq ?_
          | refine Holds.skip ?_
          | refine Holds.exit ?_
          | refine Holds.ret ?_
          | refine thenA_normal ?_
          | refine thenA_exit ?_
          | refine thenA_ret ?_
          | refine inB_normal ?_
          | refine inB_ret ?_
          | refine inB_here ?_
          | (refine inB_past ?_ ?_; (· exact rfl))
          | refine Holds.reg ?_
          | refine Holds.block ?_
          | refine GS.nil ?_
          | refine Gd.nil ?_
          | (refine Holds.any mixed ?_ ?_; (· kernel_rfl))
          | (refine GS.step (s' := ?_) ?_ ?_ ?_; rotate_left; (· exact rfl); (· (simp [go_sem, List.take_of_length_le, hxj, hx] <;> with_reducible rfl)))
          | (refine GS.skip ?_ ?_ ?_; (· exact rfl); (· exact rfl))
          | (refine Gd.go (s' := ?_) ?_ ?_ ?_; rotate_left; (· exact rfl); (· (simp [go_sem, List.take_of_length_le, hxj, hx] <;> with_reducible rfl)))
          | (refine Gd.skip ?_ ?_ ?_; (· exact rfl); (· exact rfl))
          | fail
        first | refine GS.cc (clx) rfl rfl rfl rfl (by simp [go_sem, List.take_of_length_le] <;> with_reducible rfl) rfl (by simp [go_sem, List.take_of_length_le]) ?_ | refine Gd.cc (clx) rfl rfl rfl rfl (by simp [go_sem, List.take_of_length_le] <;> with_reducible rfl) rfl (by simp [go_sem, List.take_of_length_le]) ?_
        repeat' first
          | (refine Holds.condT ?_ ?_; (· (simp [go_sem, List.take_of_length_le, bs_append, hlx, (show s.length + 1 ≤ 9223372036854775807 by omega)] <;> with_reducible rfl)))
          | (refine Holds.condF ?_ ?_; (· (simp [go_sem, List.take_of_length_le, bs_append, hlx, (show s.length + 1 ≤ 9223372036854775807 by omega)] <;> with_reducible rfl)))
          | refine Holds.seq ?_
          | refine Holds.skip ?_
          | refine Holds.exit ?_
          | refine Holds.ret ?_
          | refine thenA_normal ?_
          | refine thenA_exit ?_
          | refine thenA_ret ?_
          | refine inB_normal ?_
          | refine inB_ret ?_
          | refine inB_here ?_
          | (refine inB_past ?_ ?_; (· exact rfl))
          | refine Holds.reg ?_
          | refine Holds.block ?_
          | refine GS.nil ?_
          | refine Gd.nil ?_
          | (refine Holds.any mixed ?_ ?_; (· kernel_rfl))
          | (refine GS.step (s' := ?_) ?_ ?_ ?_; rotate_left; (· exact rfl); (· (simp [go_sem, List.take_of_length_le, bs_append, hlx, (show s.length + 1 ≤ 9223372036854775807 by omega)] <;> with_reducible rfl)))
          | (refine GS.skip ?_ ?_ ?_; (· exact rfl); (· exact rfl))
          | (refine Gd.go (s' := ?_) ?_ ?_ ?_; rotate_left; (· exact rfl); (· (simp [go_sem, List.take_of_length_le, bs_append, hlx, (show s.length + 1 ≤ 9223372036854775807 by omega)] <;> with_reducible rfl)))
          | (refine Gd.skip ?_ ?_ ?_; (· exact rfl); (· exact rfl))
          | fail
        refine ⟨(j + 1, m, s ++ letterB x), ⟨by dsimp only; omega, hm, by dsimp only; rw [hs, List.append_assoc]⟩, by dsimp only; omega, ?_⟩
        rw [step]
        exact Cov.ofn (id) rfl (by simp [go_sem, List.take_of_length_le, ren, ren1, okr, okr1, ChkT, ChkN, BlkN, nf, partC, grammarC]) (by simp [go_sem, List.take_of_length_le, ren, ren1, okr, okr1, ChkT, ChkN, BlkN, nf, partC, grammarC])
      · rw [numK_pos hx] at hm
        have hmk : m < ks.length := by omega
        have hkm := List.getElem_mem hmk
        have hxk : ks[m]? = some ks[m] := List.getElem?_eq_getElem hmk
        rw [List.drop_eq_getElem_cons hmk] at hs
        simp only [inter, if_neg hx, textL] at hs
        have hl2 : s.length + (textP g ks[m]).length ≤ 1000 := by rw [hs] at hTl; simp only [List.length_append] at hTl; omega
        have hi := ih ks[m] (by have := hle.2 _ hkm; omega) (okXs_mem g ks hkids _ hkm) (okKs_mem ks hokp.2 _ hkm) (by omega)
        generalize ks[m] = kd at hxk hs hl2 hi
        generalize textP g kd = tp at hs hl2 hi
        have hms : wr64 ((m : Int) + 1) = ((m + 1 : Nat) : Int) := wr64_id (by have := hokp.1; omega) (by have := hokp.1; omega)
        repeat' first
          | (refine Holds.condT ?_ ?_; (· (simp [go_sem, List.take_of_length_le, hxj, hx, partC, kidsC_get, hxk, grammarC] <;> with_reducible rfl)))
          | (refine Holds.condF ?_ ?_; (· (simp [go_sem, List.take_of_length_le, hxj, hx, partC, kidsC_get, hxk, grammarC] <;> with_reducible rfl)))
          | refine Holds.seq ?_
          | refine Holds.skip ?_
          | refine Holds.exit ?_
          | refine Holds.ret ?_
          | refine thenA_normal ?_
          | refine thenA_exit ?_
          | refine thenA_ret ?_
          | refine inB_normal ?_
          | refine inB_ret ?_
          | refine inB_here ?_
          | (refine inB_past ?_ ?_; (· exact rfl))
          | refine Holds.reg ?_
          | refine Holds.block ?_
          | refine GS.nil ?_
          | refine Gd.nil ?_
          | (refine Holds.any mixed ?_ ?_; (· kernel_rfl))
          | (refine GS.step (s' := ?_) ?_ ?_ ?_; rotate_left; (· exact rfl); (· (simp [go_sem, List.take_of_length_le, hxj, hx, partC, kidsC_get, hxk, grammarC] <;> with_reducible rfl)))
          | (refine GS.skip ?_ ?_ ?_; (· exact rfl); (· exact rfl))
          | (refine Gd.go (s' := ?_) ?_ ?_ ?_; rotate_left; (· exact rfl); (· (simp [go_sem, List.take_of_length_le, hxj, hx, partC, kidsC_get, hxk, grammarC] <;> with_reducible rfl)))
          | (refine Gd.skip ?_ ?_ ?_; (· exact rfl); (· exact rfl))
          | fail
        first | refine GS.cc (hi) rfl rfl rfl rfl (by simp [go_sem, List.take_of_length_le, grammarC, partC] <;> with_reducible rfl) rfl (by simp [go_sem, List.take_of_length_le, grammarC, partC]) ?_ | refine Gd.cc (hi) rfl rfl rfl rfl (by simp [go_sem, List.take_of_length_le, grammarC, partC] <;> with_reducible rfl) rfl (by simp [go_sem, List.take_of_length_le, grammarC, partC]) ?_
        repeat' first
          | (refine Holds.condT ?_ ?_; (· (simp [go_sem, List.take_of_length_le, bs_append, hms, (show s.length + tp.length ≤ 9223372036854775807 by omega)] <;> with_reducible rfl)))
          | (refine Holds.condF ?_ ?_; (· (simp [go_sem, List.take_of_length_le, bs_append, hms, (show s.length + tp.length ≤ 9223372036854775807 by omega)] <;> with_reducible rfl)))
          | refine Holds.seq ?_
          | refine Holds.skip ?_
          | refine Holds.exit ?_
          | refine Holds.ret ?_
          | refine thenA_normal ?_
          | refine thenA_exit ?_
          | refine thenA_ret ?_
          | refine inB_normal ?_
          | refine inB_ret ?_
          | refine inB_here ?_
          | (refine inB_past ?_ ?_; (· exact rfl))
          | refine Holds.reg ?_
          | refine Holds.block ?_
          | refine GS.nil ?_
          | refine Gd.nil ?_
          | (refine Holds.any mixed ?_ ?_; (· kernel_rfl))
          | (refine GS.step (s' := ?_) ?_ ?_ ?_; rotate_left; (· exact rfl); (· (simp [go_sem, List.take_of_length_le, bs_append, hms, (show s.length + tp.length ≤ 9223372036854775807 by omega)] <;> with_reducible rfl)))
          | (refine GS.skip ?_ ?_ ?_; (· exact rfl); (· exact rfl))
          | (refine Gd.go (s' := ?_) ?_ ?_ ?_; rotate_left; (· exact rfl); (· (simp [go_sem, List.take_of_length_le, bs_append, hms, (show s.length + tp.length ≤ 9223372036854775807 by omega)] <;> with_reducible rfl)))
          | (refine Gd.skip ?_ ?_ ?_; (· exact rfl); (· exact rfl))
          | fail
        refine ⟨(j + 1, m + 1, s ++ tp), ⟨by dsimp only; omega, by dsimp only; omega, by dsimp only; rw [hs, List.append_assoc]⟩, by dsimp only; omega, ?_⟩
        rw [step]
        exact Cov.ofn (id) rfl (by simp [go_sem, List.take_of_length_le, ren, ren1, okr, okr1, ChkT, ChkN, BlkN, nf, partC, grammarC]) (by simp [go_sem, List.take_of_length_le, ren, ren1, okr, okr1, ChkT, ChkN, BlkN, nf, partC, grammarC])
    · have hje : j = right.length := by
        have : ¬ j < right.length := by simpa using hl
        omega
      subst hje
      rw [List.drop_length] at hs
      simp only [inter, List.append_nil] at hs
      subst hs
      repeat' first
        | (refine Holds.condT ?_ ?_; (· (simp [go_sem, List.take_of_length_le, c41, bs_append, (show Tot.length + 1 ≤ 9223372036854775807 by omega)] <;> with_reducible rfl)))
        | (refine Holds.condF ?_ ?_; (· (simp [go_sem, List.take_of_length_le, c41, bs_append, (show Tot.length + 1 ≤ 9223372036854775807 by omega)] <;> with_reducible rfl)))
        | refine Holds.seq ?_
        | refine Holds.skip ?_
        | refine Holds.exit ?_
        | refine Holds.ret ?_
        | refine thenA_normal ?_
        | refine thenA_exit ?_
        | refine thenA_ret ?_
        | refine inB_normal ?_
        | refine inB_ret ?_
        | refine inB_here ?_
        | (refine inB_past ?_ ?_; (· exact rfl))
        | refine Holds.reg ?_
        | refine Holds.block ?_
        | refine GS.nil ?_
        | refine Gd.nil ?_
        | (refine Holds.any mixed ?_ ?_; (· kernel_rfl))
        | (refine GS.step (s' := ?_) ?_ ?_ ?_; rotate_left; (· exact rfl); (· (simp [go_sem, List.take_of_length_le, c41, bs_append, (show Tot.length + 1 ≤ 9223372036854775807 by omega)] <;> with_reducible rfl)))
        | (refine GS.skip ?_ ?_ ?_; (· exact rfl); (· exact rfl))
        | (refine Gd.go (s' := ?_) ?_ ?_ ?_; rotate_left; (· exact rfl); (· (simp [go_sem, List.take_of_length_le, c41, bs_append, (show Tot.length + 1 ≤ 9223372036854775807 by omega)] <;> with_reducible rfl)))
        | (refine Gd.skip ?_ ?_ ?_; (· exact rfl); (· exact rfl))
        | fail
      refine Out.mk (xs := ?_) ?_ ?_ (by first | exact .inr rfl | exact .inl rfl)
      rotate_left
      · simp [go_sem, List.take_of_length_le] <;> with_reducible rfl
      exact .v _
end Go.Proofs.Ytpnpjkkppndhfaa.En
end
