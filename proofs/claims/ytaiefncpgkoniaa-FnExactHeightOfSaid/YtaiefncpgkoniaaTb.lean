/- Trees as lists of rules: the specification's side. -/
import Derived.Test.YtaiefncpgkoniaaTa
namespace Go.Proofs.Ytaiefncpgkoniaa.En
open Go.RowKit
set_option linter.unusedSimpArgs false
set_option linter.unusedVariables false
set_option maxHeartbeats 8000000
def askedV (g : GrammarT) (non : Int) (tree : List Int) : Bool := goodG g && inR non 0 (g.1 - 1) && decide (tree.length ≤ 60)
theorem l11Asked (g : GrammarT) (non : Int) (tree : List Int) (hx : g.2.2.length < 4611686018427387904) (hs : ∀ e ∈ g.2.2, e.2.length < 4611686018427387904) : Pure Try.prog 32 [.ag (grammarC g), .v (.int .i64 non), .im 1 (ints tree)] (.v (.bool (askedV g non tree))) := by
  refine Pure.mk (rs := [.tmp 6]) (nt := 21) Try.func32 (by kernel_rfl) rfl rfl rfl (by simp) ?_
  simp only [sl, grammarC]
  have c1 := specGoodG g hx hs
  unfold askedV
  generalize hg : goodG g = b at c1
  repeat' first
    | refine Holds.seq ?_
    | refine Holds.skip ?_
    | refine Holds.exit ?_
    | refine Holds.ret ?_
    | refine thenA_normal ?_
    | refine thenA_exit ?_
    | refine thenA_ret ?_
    | refine inB_normal ?_
    | refine inB_ret ?_
    | refine inB_here ?_
    | (refine inB_past ?_ ?_; (· exact rfl))
    | refine Holds.reg ?_
    | refine Holds.block ?_
    | refine GS.nil ?_
    | (refine GS.step (s' := ?_) ?_ ?_ ?_; rotate_left; (· exact rfl); (· (simp [go_sem, List.take_of_length_le] <;> with_reducible rfl)))
    | (refine GS.skip ?_ ?_ ?_; (· exact rfl); (· exact rfl))
    | fail
  refine GS.cc (c1) rfl rfl rfl rfl (by simp [go_sem, List.take_of_length_le, grammarC] <;> with_reducible rfl) rfl (by simp [go_sem, List.take_of_length_le, grammarC]) ?_
  repeat' first
    | refine Holds.seq ?_
    | refine Holds.skip ?_
    | refine Holds.exit ?_
    | refine Holds.ret ?_
    | refine thenA_normal ?_
    | refine thenA_exit ?_
    | refine thenA_ret ?_
    | refine inB_normal ?_
    | refine inB_ret ?_
    | refine inB_here ?_
    | (refine inB_past ?_ ?_; (· exact rfl))
    | refine Holds.reg ?_
    | refine Holds.block ?_
    | refine GS.nil ?_
    | (refine GS.step (s' := ?_) ?_ ?_ ?_; rotate_left; (· exact rfl); (· (simp [go_sem, List.take_of_length_le] <;> with_reducible rfl)))
    | (refine GS.skip ?_ ?_ ?_; (· exact rfl); (· exact rfl))
    | fail
  refine GS.guard (t := 9) rfl (fun h => ?_) (fun h => ?_)
  · subst h
    have hok := goodG_ok hg
    have hw : wr64 (g.1 - 1) = g.1 - 1 := wr64_id (by have := hok.n0; have := hok.n1; omega) (by have := hok.n0; have := hok.n1; omega)
    repeat' first
      | refine Holds.seq ?_
      | refine Holds.skip ?_
      | refine Holds.exit ?_
      | refine Holds.ret ?_
      | refine thenA_normal ?_
      | refine thenA_exit ?_
      | refine thenA_ret ?_
      | refine inB_normal ?_
      | refine inB_ret ?_
      | refine inB_here ?_
      | (refine inB_past ?_ ?_; (· exact rfl))
      | refine Holds.reg ?_
      | refine Holds.block ?_
      | refine GS.nil ?_
      | (refine GS.step (s' := ?_) ?_ ?_ ?_; rotate_left; (· exact rfl); (· (simp [go_sem, List.take_of_length_le, hw] <;> with_reducible rfl)))
      | (refine GS.skip ?_ ?_ ?_; (· exact rfl); (· exact rfl))
      | fail
    refine GS.cc (l1In non 0 (g.1 - 1)) rfl rfl rfl rfl (by simp [go_sem, List.take_of_length_le] <;> with_reducible rfl) rfl (by simp [go_sem, List.take_of_length_le]) ?_
    generalize inR non 0 (g.1 - 1) = b2
    repeat' first
      | refine Holds.seq ?_
      | refine Holds.skip ?_
      | refine Holds.exit ?_
      | refine Holds.ret ?_
      | refine thenA_normal ?_
      | refine thenA_exit ?_
      | refine thenA_ret ?_
      | refine inB_normal ?_
      | refine inB_ret ?_
      | refine inB_here ?_
      | (refine inB_past ?_ ?_; (· exact rfl))
      | refine Holds.reg ?_
      | refine Holds.block ?_
      | refine GS.nil ?_
      | (refine GS.step (s' := ?_) ?_ ?_ ?_; rotate_left; (· exact rfl); (· (simp [go_sem, List.take_of_length_le] <;> with_reducible rfl)))
      | (refine GS.skip ?_ ?_ ?_; (· exact rfl); (· exact rfl))
      | fail
    refine GS.guard (t := 16) rfl (fun h => ?_) (fun h => ?_)
    · subst h
      rw [show decide (tree.length ≤ 60) = decide ((tree.length : Int) ≤ 60) by rw [decide_eq_decide]; omega]
      repeat' first
        | refine Holds.seq ?_
        | refine Holds.skip ?_
        | refine Holds.exit ?_
        | refine Holds.ret ?_
        | refine thenA_normal ?_
        | refine thenA_exit ?_
        | refine thenA_ret ?_
        | refine inB_normal ?_
        | refine inB_ret ?_
        | refine inB_here ?_
        | (refine inB_past ?_ ?_; (· exact rfl))
        | refine Holds.reg ?_
        | refine Holds.block ?_
        | refine GS.nil ?_
        | (refine GS.step (s' := ?_) ?_ ?_ ?_; rotate_left; (· exact rfl); (· (simp [go_sem, List.take_of_length_le] <;> with_reducible rfl)))
        | (refine GS.skip ?_ ?_ ?_; (· exact rfl); (· exact rfl))
        | fail
      refine Out.mk (xs := ?_) ?_ ?_ (by first | exact .inr rfl | exact .inl rfl)
      rotate_left
      · simp [go_sem, List.take_of_length_le] <;> with_reducible rfl
      exact .v _
    · subst h
      repeat' first
        | refine Holds.seq ?_
        | refine Holds.skip ?_
        | refine Holds.exit ?_
        | refine Holds.ret ?_
        | refine thenA_normal ?_
        | refine thenA_exit ?_
        | refine thenA_ret ?_
        | refine inB_normal ?_
        | refine inB_ret ?_
        | refine inB_here ?_
        | (refine inB_past ?_ ?_; (· exact rfl))
        | refine Holds.reg ?_
        | refine Holds.block ?_
        | refine GS.nil ?_
        | (refine GS.step (s' := ?_) ?_ ?_ ?_; rotate_left; (· exact rfl); (· (simp [go_sem, List.take_of_length_le] <;> with_reducible rfl)))
        | (refine GS.skip ?_ ?_ ?_; (· exact rfl); (· exact rfl))
        | fail
      refine Out.mk (xs := ?_) ?_ ?_ (by first | exact .inr rfl | exact .inl rfl)
      rotate_left
      · simp [go_sem, List.take_of_length_le] <;> with_reducible rfl
      exact .v _
  · subst h
    repeat' first
      | refine Holds.seq ?_
      | refine Holds.skip ?_
      | refine Holds.exit ?_
      | refine Holds.ret ?_
      | refine thenA_normal ?_
      | refine thenA_exit ?_
      | refine thenA_ret ?_
      | refine inB_normal ?_
      | refine inB_ret ?_
      | refine inB_here ?_
      | (refine inB_past ?_ ?_; (· exact rfl))
      | refine Holds.reg ?_
      | refine Holds.block ?_
      | refine GS.nil ?_
      | (refine GS.step (s' := ?_) ?_ ?_ ?_; rotate_left; (· exact rfl); (· (simp [go_sem, List.take_of_length_le] <;> with_reducible rfl)))
      | (refine GS.skip ?_ ?_ ?_; (· exact rfl); (· exact rfl))
      | fail
    refine Out.mk (xs := ?_) ?_ ?_ (by first | exact .inr rfl | exact .inl rfl)
    rotate_left
    · simp [go_sem, List.take_of_length_le] <;> with_reducible rfl
    exact .v _
theorem getD_at {α : Type} {xs : List α} {i : Nat} {x d : α} (h : xs[i]? = some x) : xs.getD i d = x := by rw [List.getD_eq_getElem?_getD, h]; rfl
/-- The three ways in which a head is not good. -/
theorem head_cases {g : GrammarT} {tree : List Int} {non : Int} {at' : Nat} (h : headOk g tree non at' = false) : tree.length ≤ at' ∨ (∃ z, tree[at']? = some z ∧ inR z 0 ((g.2.2.length : Int) - 1) = false) ∨ ∃ (k : Nat) (r : RuleT), tree[at']? = some (k : Int) ∧ k < g.2.2.length ∧ inR (k : Int) 0 ((g.2.2.length : Int) - 1) = true ∧ g.2.2[k]? = some r ∧ r.1 ≠ non := by
  by_cases h1 : tree.length ≤ at'
  · exact .inl h1
  · have hz : tree[at']? = some tree[at'] := List.getElem?_eq_getElem (by omega)
    generalize tree[at'] = z at hz
    cases h2 : inR z 0 ((g.2.2.length : Int) - 1) with
    | false => exact .inr (.inl ⟨z, hz, h2⟩)
    | true =>
      have h2' : 0 ≤ z ∧ z ≤ (g.2.2.length : Int) - 1 := by simpa [inR] using h2
      obtain ⟨k, rfl⟩ : ∃ k : Nat, z = k := ⟨z.toNat, by omega⟩
      have hk : k < g.2.2.length := by omega
      refine .inr (.inr ⟨k, g.2.2[k], hz, hk, h2, List.getElem?_eq_getElem hk, fun e => ?_⟩)
      unfold headOk ruleAt at h
      rw [getD_at hz, h2, Int.toNat_natCast, getD_at (List.getElem?_eq_getElem hk), decide_eq_true e, decide_eq_true (by omega)] at h
      cases h
theorem head_good {g : GrammarT} {tree : List Int} {non : Int} {at' : Nat} (h : headOk g tree non at' = true) : ∃ (k : Nat) (r : RuleT), at' < tree.length ∧ tree[at']? = some (k : Int) ∧ k < g.2.2.length ∧ inR (k : Int) 0 ((g.2.2.length : Int) - 1) = true ∧ g.2.2[k]? = some r ∧ r.1 = non ∧ ruleAt g tree at' = r ∧ tree.getD at' 0 = k := by
  have hlt := headOk_lt h
  have hz : tree[at']? = some tree[at'] := List.getElem?_eq_getElem hlt
  generalize tree[at'] = z at hz
  unfold headOk ruleAt at h
  rw [getD_at hz] at h
  simp only [Bool.and_eq_true, decide_eq_true_eq] at h
  obtain ⟨⟨_, h2⟩, h3⟩ := h
  have h2' : 0 ≤ z ∧ z ≤ (g.2.2.length : Int) - 1 := by simpa [inR] using h2
  obtain ⟨k, rfl⟩ : ∃ k : Nat, z = k := ⟨z.toNat, by omega⟩
  have hk : k < g.2.2.length := by omega
  have hr : g.2.2[k]? = some g.2.2[k] := List.getElem?_eq_getElem hk
  rw [Int.toNat_natCast, getD_at hr] at h3
  exact ⟨k, g.2.2[k], hlt, hz, hk, h2, hr, h3, by unfold ruleAt; rw [getD_at hz, Int.toNat_natCast, getD_at hr], getD_at hz⟩
theorem endFail (g : GrammarT) (hg : OkG g) (tree : List Int) (ht : tree.length ≤ 60) (non : Int) (at' : Nat) (ha : at' ≤ 100) (hh : headOk g tree non at' = false) : Pure Try.prog 38 [.ag (grammarC g), .v (.int .i64 non), .im 1 (ints tree), .v (.int .i64 at')] (.v (.int .i64 (-1))) := by
  have hgl := hg.len
  have hw : wr64 ((g.2.2.length : Int) - 1) = (g.2.2.length : Int) - 1 := wr64_id (by omega) (by omega)
  rcases head_cases hh with h1 | ⟨z, hz, h2⟩ | ⟨k, r, hz, hk, h2, hr, h3⟩
  · refine Pure.mk (rs := [.tmp 8]) (nt := 68) Try.func38 (by kernel_rfl) rfl rfl rfl (by simp) ?_
    simp only [sl, grammarC]
    repeat' first
      | refine Holds.seq ?_
      | refine Holds.skip ?_
      | refine Holds.exit ?_
      | refine Holds.ret ?_
      | refine thenA_normal ?_
      | refine thenA_exit ?_
      | refine thenA_ret ?_
      | refine inB_normal ?_
      | refine inB_ret ?_
      | refine inB_here ?_
      | (refine inB_past ?_ ?_; (· exact rfl))
      | refine Holds.reg ?_
      | refine Holds.block ?_
      | refine GS.nil ?_
      | refine Gd.nil ?_
      | (refine Holds.any mixed ?_ ?_; (· kernel_rfl))
      | (refine GS.step (s' := ?_) ?_ ?_ ?_; rotate_left; (· exact rfl); (· (simp [go_sem, List.take_of_length_le, h1] <;> with_reducible rfl)))
      | (refine GS.skip ?_ ?_ ?_; (· exact rfl); (· exact rfl))
      | (refine Gd.go (s' := ?_) ?_ ?_ ?_; rotate_left; (· exact rfl); (· (simp [go_sem, List.take_of_length_le, h1] <;> with_reducible rfl)))
      | (refine Gd.skip ?_ ?_ ?_; (· exact rfl); (· exact rfl))
      | fail
    refine Holds.cond rfl (fun h => ?_) (fun h => ?_)
    · repeat' first
        | refine Holds.seq ?_
        | refine Holds.skip ?_
        | refine Holds.exit ?_
        | refine Holds.ret ?_
        | refine thenA_normal ?_
        | refine thenA_exit ?_
        | refine thenA_ret ?_
        | refine inB_normal ?_
        | refine inB_ret ?_
        | refine inB_here ?_
        | (refine inB_past ?_ ?_; (· exact rfl))
        | refine Holds.reg ?_
        | refine Holds.block ?_
        | refine GS.nil ?_
        | refine Gd.nil ?_
        | (refine Holds.any mixed ?_ ?_; (· kernel_rfl))
        | (refine GS.step (s' := ?_) ?_ ?_ ?_; rotate_left; (· exact rfl); (· (simp [go_sem, List.take_of_length_le] <;> with_reducible rfl)))
        | (refine GS.skip ?_ ?_ ?_; (· exact rfl); (· exact rfl))
        | (refine Gd.go (s' := ?_) ?_ ?_ ?_; rotate_left; (· exact rfl); (· (simp [go_sem, List.take_of_length_le] <;> with_reducible rfl)))
        | (refine Gd.skip ?_ ?_ ?_; (· exact rfl); (· exact rfl))
        | fail
      refine Out.mk (xs := ?_) ?_ ?_ (by first | exact .inr rfl | exact .inl rfl)
      rotate_left
      · simp [go_sem, List.take_of_length_le] <;> with_reducible rfl
      exact .v _
    · cases h
  · refine Pure.mk (rs := [.tmp 8]) (nt := 68) Try.func38 (by kernel_rfl) rfl rfl rfl (by simp) ?_
    simp only [sl, grammarC]
    have hlt : at' < tree.length := (List.getElem?_eq_some_iff.1 hz).1
    repeat' first
      | refine Holds.seq ?_
      | refine Holds.skip ?_
      | refine Holds.exit ?_
      | refine Holds.ret ?_
      | refine thenA_normal ?_
      | refine thenA_exit ?_
      | refine thenA_ret ?_
      | refine inB_normal ?_
      | refine inB_ret ?_
      | refine inB_here ?_
      | (refine inB_past ?_ ?_; (· exact rfl))
      | refine Holds.reg ?_
      | refine Holds.block ?_
      | refine GS.nil ?_
      | refine Gd.nil ?_
      | (refine Holds.any mixed ?_ ?_; (· kernel_rfl))
      | (refine GS.step (s' := ?_) ?_ ?_ ?_; rotate_left; (· exact rfl); (· (simp [go_sem, List.take_of_length_le, show ¬ tree.length ≤ at' by omega, hz, hw] <;> with_reducible rfl)))
      | (refine GS.skip ?_ ?_ ?_; (· exact rfl); (· exact rfl))
      | (refine Gd.go (s' := ?_) ?_ ?_ ?_; rotate_left; (· exact rfl); (· (simp [go_sem, List.take_of_length_le, show ¬ tree.length ≤ at' by omega, hz, hw] <;> with_reducible rfl)))
      | (refine Gd.skip ?_ ?_ ?_; (· exact rfl); (· exact rfl))
      | fail
    first | refine GS.cc (l1In z 0 ((g.2.2.length : Int) - 1)) rfl rfl rfl rfl (by simp [go_sem, List.take_of_length_le] <;> with_reducible rfl) rfl (by simp [go_sem, List.take_of_length_le]) ?_ | refine Gd.cc (l1In z 0 ((g.2.2.length : Int) - 1)) rfl rfl rfl rfl (by simp [go_sem, List.take_of_length_le] <;> with_reducible rfl) rfl (by simp [go_sem, List.take_of_length_le]) ?_
    rw [h2]
    repeat' first
      | refine Holds.seq ?_
      | refine Holds.skip ?_
      | refine Holds.exit ?_
      | refine Holds.ret ?_
      | refine thenA_normal ?_
      | refine thenA_exit ?_
      | refine thenA_ret ?_
      | refine inB_normal ?_
      | refine inB_ret ?_
      | refine inB_here ?_
      | (refine inB_past ?_ ?_; (· exact rfl))
      | refine Holds.reg ?_
      | refine Holds.block ?_
      | refine GS.nil ?_
      | refine Gd.nil ?_
      | (refine Holds.any mixed ?_ ?_; (· kernel_rfl))
      | (refine GS.step (s' := ?_) ?_ ?_ ?_; rotate_left; (· exact rfl); (· (simp [go_sem, List.take_of_length_le] <;> with_reducible rfl)))
      | (refine GS.skip ?_ ?_ ?_; (· exact rfl); (· exact rfl))
      | (refine Gd.go (s' := ?_) ?_ ?_ ?_; rotate_left; (· exact rfl); (· (simp [go_sem, List.take_of_length_le] <;> with_reducible rfl)))
      | (refine Gd.skip ?_ ?_ ?_; (· exact rfl); (· exact rfl))
      | fail
    refine Holds.cond rfl (fun h => ?_) (fun h => ?_)
    · repeat' first
        | refine Holds.seq ?_
        | refine Holds.skip ?_
        | refine Holds.exit ?_
        | refine Holds.ret ?_
        | refine thenA_normal ?_
        | refine thenA_exit ?_
        | refine thenA_ret ?_
        | refine inB_normal ?_
        | refine inB_ret ?_
        | refine inB_here ?_
        | (refine inB_past ?_ ?_; (· exact rfl))
        | refine Holds.reg ?_
        | refine Holds.block ?_
        | refine GS.nil ?_
        | refine Gd.nil ?_
        | (refine Holds.any mixed ?_ ?_; (· kernel_rfl))
        | (refine GS.step (s' := ?_) ?_ ?_ ?_; rotate_left; (· exact rfl); (· (simp [go_sem, List.take_of_length_le] <;> with_reducible rfl)))
        | (refine GS.skip ?_ ?_ ?_; (· exact rfl); (· exact rfl))
        | (refine Gd.go (s' := ?_) ?_ ?_ ?_; rotate_left; (· exact rfl); (· (simp [go_sem, List.take_of_length_le] <;> with_reducible rfl)))
        | (refine Gd.skip ?_ ?_ ?_; (· exact rfl); (· exact rfl))
        | fail
      refine Out.mk (xs := ?_) ?_ ?_ (by first | exact .inr rfl | exact .inl rfl)
      rotate_left
      · simp [go_sem, List.take_of_length_le] <;> with_reducible rfl
      exact .v _
    · cases h
  · refine Pure.mk (rs := [.tmp 8]) (nt := 68) Try.func38 (by kernel_rfl) rfl rfl rfl (by simp) ?_
    simp only [sl, grammarC]
    have hlt : at' < tree.length := (List.getElem?_eq_some_iff.1 hz).1
    have h3b : (r.1 != non) = true := by simpa using h3
    repeat' first
      | refine Holds.seq ?_
      | refine Holds.skip ?_
      | refine Holds.exit ?_
      | refine Holds.ret ?_
      | refine thenA_normal ?_
      | refine thenA_exit ?_
      | refine thenA_ret ?_
      | refine inB_normal ?_
      | refine inB_ret ?_
      | refine inB_here ?_
      | (refine inB_past ?_ ?_; (· exact rfl))
      | refine Holds.reg ?_
      | refine Holds.block ?_
      | refine GS.nil ?_
      | refine Gd.nil ?_
      | (refine Holds.any mixed ?_ ?_; (· kernel_rfl))
      | (refine GS.step (s' := ?_) ?_ ?_ ?_; rotate_left; (· exact rfl); (· (simp [go_sem, List.take_of_length_le, show ¬ tree.length ≤ at' by omega, hz, hw] <;> with_reducible rfl)))
      | (refine GS.skip ?_ ?_ ?_; (· exact rfl); (· exact rfl))
      | (refine Gd.go (s' := ?_) ?_ ?_ ?_; rotate_left; (· exact rfl); (· (simp [go_sem, List.take_of_length_le, show ¬ tree.length ≤ at' by omega, hz, hw] <;> with_reducible rfl)))
      | (refine Gd.skip ?_ ?_ ?_; (· exact rfl); (· exact rfl))
      | fail
    first | refine GS.cc (l1In (k : Int) 0 ((g.2.2.length : Int) - 1)) rfl rfl rfl rfl (by simp [go_sem, List.take_of_length_le] <;> with_reducible rfl) rfl (by simp [go_sem, List.take_of_length_le]) ?_ | refine Gd.cc (l1In (k : Int) 0 ((g.2.2.length : Int) - 1)) rfl rfl rfl rfl (by simp [go_sem, List.take_of_length_le] <;> with_reducible rfl) rfl (by simp [go_sem, List.take_of_length_le]) ?_
    rw [h2]
    repeat' first
      | refine Holds.seq ?_
      | refine Holds.skip ?_
      | refine Holds.exit ?_
      | refine Holds.ret ?_
      | refine thenA_normal ?_
      | refine thenA_exit ?_
      | refine thenA_ret ?_
      | refine inB_normal ?_
      | refine inB_ret ?_
      | refine inB_here ?_
      | (refine inB_past ?_ ?_; (· exact rfl))
      | refine Holds.reg ?_
      | refine Holds.block ?_
      | refine GS.nil ?_
      | refine Gd.nil ?_
      | (refine Holds.any mixed ?_ ?_; (· kernel_rfl))
      | (refine GS.step (s' := ?_) ?_ ?_ ?_; rotate_left; (· exact rfl); (· (simp [go_sem, List.take_of_length_le, show ¬ tree.length ≤ at' by omega, hz, hr, ruleC, h3b] <;> with_reducible rfl)))
      | (refine GS.skip ?_ ?_ ?_; (· exact rfl); (· exact rfl))
      | (refine Gd.go (s' := ?_) ?_ ?_ ?_; rotate_left; (· exact rfl); (· (simp [go_sem, List.take_of_length_le, show ¬ tree.length ≤ at' by omega, hz, hr, ruleC, h3b] <;> with_reducible rfl)))
      | (refine Gd.skip ?_ ?_ ?_; (· exact rfl); (· exact rfl))
      | fail
    refine Holds.cond rfl (fun h => ?_) (fun h => ?_)
    · repeat' first
        | refine Holds.seq ?_
        | refine Holds.skip ?_
        | refine Holds.exit ?_
        | refine Holds.ret ?_
        | refine thenA_normal ?_
        | refine thenA_exit ?_
        | refine thenA_ret ?_
        | refine inB_normal ?_
        | refine inB_ret ?_
        | refine inB_here ?_
        | (refine inB_past ?_ ?_; (· exact rfl))
        | refine Holds.reg ?_
        | refine Holds.block ?_
        | refine GS.nil ?_
        | refine Gd.nil ?_
        | (refine Holds.any mixed ?_ ?_; (· kernel_rfl))
        | (refine GS.step (s' := ?_) ?_ ?_ ?_; rotate_left; (· exact rfl); (· (simp [go_sem, List.take_of_length_le] <;> with_reducible rfl)))
        | (refine GS.skip ?_ ?_ ?_; (· exact rfl); (· exact rfl))
        | (refine Gd.go (s' := ?_) ?_ ?_ ?_; rotate_left; (· exact rfl); (· (simp [go_sem, List.take_of_length_le] <;> with_reducible rfl)))
        | (refine Gd.skip ?_ ?_ ?_; (· exact rfl); (· exact rfl))
        | fail
      refine Out.mk (xs := ?_) ?_ ?_ (by first | exact .inr rfl | exact .inl rfl)
      rotate_left
      · simp [go_sem, List.take_of_length_le] <;> with_reducible rfl
      exact .v _
    · cases h
theorem l11End (g : GrammarT) (hg : OkG g) (tree : List Int) (ht : tree.length ≤ 60) : ∀ (f : Nat) (non : Int) (at' : Nat), at' ≤ 100 → tree.length < f + at' → Pure Try.prog 38 [.ag (grammarC g), .v (.int .i64 non), .im 1 (ints tree), .v (.int .i64 at')] (.v (.int .i64 (endF g tree f non at'))) := by
  intro f
  induction f with
  | zero =>
    intro non at' ha hf
    have hh : headOk g tree non at' = false := by
      cases e : headOk g tree non at' with
      | false => rfl
      | true => have := headOk_lt e; omega
    exact endFail g hg tree ht non at' ha hh
  | succ f ih =>
    intro non at' ha hf
    cases hh : headOk g tree non at' with
    | false =>
      rw [show endF g tree (f + 1) non at' = -1 by unfold endF; rw [hh]; rfl]
      exact endFail g hg tree ht non at' ha hh
    | true =>
      obtain ⟨k, r, hlt, hz, hk, h2, hr, h3, hra, _⟩ := head_good hh
      rw [show endF g tree (f + 1) non at' = endK (endF g tree f) r.2 (at' + 1) by unfold endF; rw [hh, hra]; rfl]
      have hrm := List.mem_of_getElem? hr
      have h4 := hg.r4 _ hrm
      have hgl := hg.len
      have hw : wr64 ((g.2.2.length : Int) - 1) = (g.2.2.length : Int) - 1 := wr64_id (by omega) (by omega)
      have hw1 : wr64 ((at' : Int) + 1) = ((at' + 1 : Nat) : Int) := wr64_id (by omega) (by omega)
      have h3b : (r.1 != non) = false := by simpa using h3
      obtain ⟨l, right⟩ := r
      dsimp only at h3 h4 h3b
      refine Pure.mk (rs := [.tmp 8]) (nt := 68) Try.func38 (by kernel_rfl) rfl rfl rfl (by simp) ?_
      simp only [sl, grammarC]
      repeat' first
        | refine Holds.seq ?_
        | refine Holds.skip ?_
        | refine Holds.exit ?_
        | refine Holds.ret ?_
        | refine thenA_normal ?_
        | refine thenA_exit ?_
        | refine thenA_ret ?_
        | refine inB_normal ?_
        | refine inB_ret ?_
        | refine inB_here ?_
        | (refine inB_past ?_ ?_; (· exact rfl))
        | refine Holds.reg ?_
        | refine Holds.block ?_
        | refine GS.nil ?_
        | refine Gd.nil ?_
        | (refine Holds.any mixed ?_ ?_; (· kernel_rfl))
        | (refine GS.step (s' := ?_) ?_ ?_ ?_; rotate_left; (· exact rfl); (· (simp [go_sem, List.take_of_length_le, show ¬ tree.length ≤ at' by omega, hz, hw] <;> with_reducible rfl)))
        | (refine GS.skip ?_ ?_ ?_; (· exact rfl); (· exact rfl))
        | (refine Gd.go (s' := ?_) ?_ ?_ ?_; rotate_left; (· exact rfl); (· (simp [go_sem, List.take_of_length_le, show ¬ tree.length ≤ at' by omega, hz, hw] <;> with_reducible rfl)))
        | (refine Gd.skip ?_ ?_ ?_; (· exact rfl); (· exact rfl))
        | fail
      first | refine GS.cc (l1In (k : Int) 0 ((g.2.2.length : Int) - 1)) rfl rfl rfl rfl (by simp [go_sem, List.take_of_length_le] <;> with_reducible rfl) rfl (by simp [go_sem, List.take_of_length_le]) ?_ | refine Gd.cc (l1In (k : Int) 0 ((g.2.2.length : Int) - 1)) rfl rfl rfl rfl (by simp [go_sem, List.take_of_length_le] <;> with_reducible rfl) rfl (by simp [go_sem, List.take_of_length_le]) ?_
      rw [h2]
      repeat' first
        | refine Holds.seq ?_
        | refine Holds.skip ?_
        | refine Holds.exit ?_
        | refine Holds.ret ?_
        | refine thenA_normal ?_
        | refine thenA_exit ?_
        | refine thenA_ret ?_
        | refine inB_normal ?_
        | refine inB_ret ?_
        | refine inB_here ?_
        | (refine inB_past ?_ ?_; (· exact rfl))
        | refine Holds.reg ?_
        | refine Holds.block ?_
        | refine GS.nil ?_
        | refine Gd.nil ?_
        | (refine Holds.any mixed ?_ ?_; (· kernel_rfl))
        | (refine GS.step (s' := ?_) ?_ ?_ ?_; rotate_left; (· exact rfl); (· (simp [go_sem, List.take_of_length_le, show ¬ tree.length ≤ at' by omega, hz, hr, ruleC, h3b] <;> with_reducible rfl)))
        | (refine GS.skip ?_ ?_ ?_; (· exact rfl); (· exact rfl))
        | (refine Gd.go (s' := ?_) ?_ ?_ ?_; rotate_left; (· exact rfl); (· (simp [go_sem, List.take_of_length_le, show ¬ tree.length ≤ at' by omega, hz, hr, ruleC, h3b] <;> with_reducible rfl)))
        | (refine Gd.skip ?_ ?_ ?_; (· exact rfl); (· exact rfl))
        | fail
      refine Holds.cond rfl (fun h => ?_) (fun h => ?_)
      · first | (cases h; done) | (simp at h; done) | (simp_all; done)
      clear h
      repeat' first
        | refine Holds.seq ?_
        | refine Holds.skip ?_
        | refine Holds.exit ?_
        | refine Holds.ret ?_
        | refine thenA_normal ?_
        | refine thenA_exit ?_
        | refine thenA_ret ?_
        | refine inB_normal ?_
        | refine inB_ret ?_
        | refine inB_here ?_
        | (refine inB_past ?_ ?_; (· exact rfl))
        | refine Holds.reg ?_
        | refine Holds.block ?_
        | refine GS.nil ?_
        | refine Gd.nil ?_
        | (refine Holds.any mixed ?_ ?_; (· kernel_rfl))
        | (refine GS.step (s' := ?_) ?_ ?_ ?_; rotate_left; (· exact rfl); (· (simp [go_sem, List.take_of_length_le, hz, hr, ruleC, hw1] <;> with_reducible rfl)))
        | (refine GS.skip ?_ ?_ ?_; (· exact rfl); (· exact rfl))
        | (refine Gd.go (s' := ?_) ?_ ?_ ?_; rotate_left; (· exact rfl); (· (simp [go_sem, List.take_of_length_le, hz, hr, ruleC, hw1] <;> with_reducible rfl)))
        | (refine Gd.skip ?_ ?_ ?_; (· exact rfl); (· exact rfl))
        | fail
      generalize hR : endK (endF g tree f) right (at' + 1) = R
      refine Holds.loop (ι := Nat × Nat) (fun i => ⟨[(2, .im 1 (ints tree)), (4, .pb 0 3 0 0), (9, .v (.int .i64 i.2)), (51, .im 1 (ints right)), (52, .v (.int .i64 right.length)), (53, .v (.int .i64 i.1))], [(0, ⟨31, 3, [grammarC g]⟩)], 1⟩)
        (fun i => i.1 ≤ right.length ∧ endK (endF g tree f) (right.drop i.1) i.2 = R ∧ at' + 1 ≤ i.2 ∧ i.2 ≤ tree.length) (fun i => right.length - i.1) (0, at' + 1) ⟨Nat.zero_le _, hR, Nat.le_refl _, by dsimp only; omega⟩ ?_ ?_
      · exact Cov.ofn (id) rfl (by simp [go_sem, List.take_of_length_le, ren, ren1, okr, okr1, ChkT, ChkN, BlkN, nf, grammarC]) (by simp [go_sem, List.take_of_length_le, ren, ren1, okr, okr1, ChkT, ChkN, BlkN, nf, grammarC])
      rintro ⟨j, e⟩ ⟨hj, hfold, he0, he1⟩
      dsimp only at hj hfold he0 he1 ⊢
      have step : wr64 ((j : Int) + 1) = ((j + 1 : Nat) : Int) := wr64_id (by omega) (by omega)
      repeat' first
        | refine Holds.seq ?_
        | refine Holds.skip ?_
        | refine Holds.exit ?_
        | refine Holds.ret ?_
        | refine thenA_normal ?_
        | refine thenA_exit ?_
        | refine thenA_ret ?_
        | refine inB_normal ?_
        | refine inB_ret ?_
        | refine inB_here ?_
        | (refine inB_past ?_ ?_; (· exact rfl))
        | refine Holds.reg ?_
        | refine Holds.block ?_
        | refine GS.nil ?_
        | refine Gd.nil ?_
        | (refine Holds.any mixed ?_ ?_; (· kernel_rfl))
        | (refine GS.step (s' := ?_) ?_ ?_ ?_; rotate_left; (· exact rfl); (· (simp [go_sem, List.take_of_length_le] <;> with_reducible rfl)))
        | (refine GS.skip ?_ ?_ ?_; (· exact rfl); (· exact rfl))
        | (refine Gd.go (s' := ?_) ?_ ?_ ?_; rotate_left; (· exact rfl); (· (simp [go_sem, List.take_of_length_le] <;> with_reducible rfl)))
        | (refine Gd.skip ?_ ?_ ?_; (· exact rfl); (· exact rfl))
        | fail
      refine Holds.cond rfl (fun hl => ?_) (fun hl => ?_)
      · have hjt : j < right.length := by simpa using hl
        have hxj : right[j]? = some right[j] := List.getElem?_eq_getElem hjt
        rw [List.drop_eq_getElem_cons hjt] at hfold
        unfold endK at hfold
        generalize right[j] = x at hxj hfold
        repeat' first
          | refine Holds.seq ?_
          | refine Holds.skip ?_
          | refine Holds.exit ?_
          | refine Holds.ret ?_
          | refine thenA_normal ?_
          | refine thenA_exit ?_
          | refine thenA_ret ?_
          | refine inB_normal ?_
          | refine inB_ret ?_
          | refine inB_here ?_
          | (refine inB_past ?_ ?_; (· exact rfl))
          | refine Holds.reg ?_
          | refine Holds.block ?_
          | refine GS.nil ?_
          | refine Gd.nil ?_
          | (refine Holds.any mixed ?_ ?_; (· kernel_rfl))
          | (refine GS.step (s' := ?_) ?_ ?_ ?_; rotate_left; (· exact rfl); (· (simp [go_sem, List.take_of_length_le, hxj] <;> with_reducible rfl)))
          | (refine GS.skip ?_ ?_ ?_; (· exact rfl); (· exact rfl))
          | (refine Gd.go (s' := ?_) ?_ ?_ ?_; rotate_left; (· exact rfl); (· (simp [go_sem, List.take_of_length_le, hxj] <;> with_reducible rfl)))
          | (refine Gd.skip ?_ ?_ ?_; (· exact rfl); (· exact rfl))
          | fail
        refine Holds.cond rfl (fun hx => ?_) (fun hx => ?_)
        · have hx : x < 0 := by simpa using hx
          rw [if_pos hx] at hfold
          repeat' first
            | refine Holds.seq ?_
            | refine Holds.skip ?_
            | refine Holds.exit ?_
            | refine Holds.ret ?_
            | refine thenA_normal ?_
            | refine thenA_exit ?_
            | refine thenA_ret ?_
            | refine inB_normal ?_
            | refine inB_ret ?_
            | refine inB_here ?_
            | (refine inB_past ?_ ?_; (· exact rfl))
            | refine Holds.reg ?_
            | refine Holds.block ?_
            | refine GS.nil ?_
            | refine Gd.nil ?_
            | (refine Holds.any mixed ?_ ?_; (· kernel_rfl))
            | (refine GS.step (s' := ?_) ?_ ?_ ?_; rotate_left; (· exact rfl); (· (simp [go_sem, List.take_of_length_le] <;> with_reducible rfl)))
            | (refine GS.skip ?_ ?_ ?_; (· exact rfl); (· exact rfl))
            | (refine Gd.go (s' := ?_) ?_ ?_ ?_; rotate_left; (· exact rfl); (· (simp [go_sem, List.take_of_length_le] <;> with_reducible rfl)))
            | (refine Gd.skip ?_ ?_ ?_; (· exact rfl); (· exact rfl))
            | fail
          refine ⟨(j + 1, e), ⟨by dsimp only; omega, hfold, he0, he1⟩, by dsimp only; omega, ?_⟩
          rw [step]
          exact Cov.ofn (id) rfl (by simp [go_sem, List.take_of_length_le, ren, ren1, okr, okr1, ChkT, ChkN, BlkN, nf, grammarC]) (by simp [go_sem, List.take_of_length_le, ren, ren1, okr, okr1, ChkT, ChkN, BlkN, nf, grammarC])
        have hx : ¬ x < 0 := by simpa using hx
        rw [if_neg hx] at hfold
        have hp := endF_props hg tree f x e
        have hi := ih x e (by omega) (by omega)
        generalize endF g tree f x e = q at hfold hp hi
        repeat' first
          | refine Holds.seq ?_
          | refine Holds.skip ?_
          | refine Holds.exit ?_
          | refine Holds.ret ?_
          | refine thenA_normal ?_
          | refine thenA_exit ?_
          | refine thenA_ret ?_
          | refine inB_normal ?_
          | refine inB_ret ?_
          | refine inB_here ?_
          | (refine inB_past ?_ ?_; (· exact rfl))
          | refine Holds.reg ?_
          | refine Holds.block ?_
          | refine GS.nil ?_
          | refine Gd.nil ?_
          | (refine Holds.any mixed ?_ ?_; (· kernel_rfl))
          | (refine GS.step (s' := ?_) ?_ ?_ ?_; rotate_left; (· exact rfl); (· (simp [go_sem, List.take_of_length_le, grammarC] <;> with_reducible rfl)))
          | (refine GS.skip ?_ ?_ ?_; (· exact rfl); (· exact rfl))
          | (refine Gd.go (s' := ?_) ?_ ?_ ?_; rotate_left; (· exact rfl); (· (simp [go_sem, List.take_of_length_le, grammarC] <;> with_reducible rfl)))
          | (refine Gd.skip ?_ ?_ ?_; (· exact rfl); (· exact rfl))
          | fail
        first | refine GS.cc (hi) rfl rfl rfl rfl (by simp [go_sem, List.take_of_length_le, grammarC] <;> with_reducible rfl) rfl (by simp [go_sem, List.take_of_length_le, grammarC]) ?_ | refine Gd.cc (hi) rfl rfl rfl rfl (by simp [go_sem, List.take_of_length_le, grammarC] <;> with_reducible rfl) rfl (by simp [go_sem, List.take_of_length_le, grammarC]) ?_
        repeat' first
          | refine Holds.seq ?_
          | refine Holds.skip ?_
          | refine Holds.exit ?_
          | refine Holds.ret ?_
          | refine thenA_normal ?_
          | refine thenA_exit ?_
          | refine thenA_ret ?_
          | refine inB_normal ?_
          | refine inB_ret ?_
          | refine inB_here ?_
          | (refine inB_past ?_ ?_; (· exact rfl))
          | refine Holds.reg ?_
          | refine Holds.block ?_
          | refine GS.nil ?_
          | refine Gd.nil ?_
          | (refine Holds.any mixed ?_ ?_; (· kernel_rfl))
          | (refine GS.step (s' := ?_) ?_ ?_ ?_; rotate_left; (· exact rfl); (· (simp [go_sem, List.take_of_length_le] <;> with_reducible rfl)))
          | (refine GS.skip ?_ ?_ ?_; (· exact rfl); (· exact rfl))
          | (refine Gd.go (s' := ?_) ?_ ?_ ?_; rotate_left; (· exact rfl); (· (simp [go_sem, List.take_of_length_le] <;> with_reducible rfl)))
          | (refine Gd.skip ?_ ?_ ?_; (· exact rfl); (· exact rfl))
          | fail
        refine Holds.cond rfl (fun hq => ?_) (fun hq => ?_)
        · have hq : q < 0 := by simpa using hq
          rw [if_pos hq] at hfold
          subst hfold
          repeat' first
            | refine Holds.seq ?_
            | refine Holds.skip ?_
            | refine Holds.exit ?_
            | refine Holds.ret ?_
            | refine thenA_normal ?_
            | refine thenA_exit ?_
            | refine thenA_ret ?_
            | refine inB_normal ?_
            | refine inB_ret ?_
            | refine inB_here ?_
            | (refine inB_past ?_ ?_; (· exact rfl))
            | refine Holds.reg ?_
            | refine Holds.block ?_
            | refine GS.nil ?_
            | refine Gd.nil ?_
            | (refine Holds.any mixed ?_ ?_; (· kernel_rfl))
            | (refine GS.step (s' := ?_) ?_ ?_ ?_; rotate_left; (· exact rfl); (· (simp [go_sem, List.take_of_length_le] <;> with_reducible rfl)))
            | (refine GS.skip ?_ ?_ ?_; (· exact rfl); (· exact rfl))
            | (refine Gd.go (s' := ?_) ?_ ?_ ?_; rotate_left; (· exact rfl); (· (simp [go_sem, List.take_of_length_le] <;> with_reducible rfl)))
            | (refine Gd.skip ?_ ?_ ?_; (· exact rfl); (· exact rfl))
            | fail
          refine Out.mk (xs := ?_) ?_ ?_ (by first | exact .inr rfl | exact .inl rfl)
          rotate_left
          · simp [go_sem, List.take_of_length_le] <;> with_reducible rfl
          exact .v _
        · have hq : ¬ q < 0 := by simpa using hq
          rw [if_neg hq] at hfold
          obtain ⟨p0, p1⟩ := hp hq
          obtain ⟨q, rfl⟩ : ∃ n : Nat, q = n := ⟨q.toNat, by omega⟩
          rw [Int.toNat_natCast] at hfold
          repeat' first
            | refine Holds.seq ?_
            | refine Holds.skip ?_
            | refine Holds.exit ?_
            | refine Holds.ret ?_
            | refine thenA_normal ?_
            | refine thenA_exit ?_
            | refine thenA_ret ?_
            | refine inB_normal ?_
            | refine inB_ret ?_
            | refine inB_here ?_
            | (refine inB_past ?_ ?_; (· exact rfl))
            | refine Holds.reg ?_
            | refine Holds.block ?_
            | refine GS.nil ?_
            | refine Gd.nil ?_
            | (refine Holds.any mixed ?_ ?_; (· kernel_rfl))
            | (refine GS.step (s' := ?_) ?_ ?_ ?_; rotate_left; (· exact rfl); (· (simp [go_sem, List.take_of_length_le] <;> with_reducible rfl)))
            | (refine GS.skip ?_ ?_ ?_; (· exact rfl); (· exact rfl))
            | (refine Gd.go (s' := ?_) ?_ ?_ ?_; rotate_left; (· exact rfl); (· (simp [go_sem, List.take_of_length_le] <;> with_reducible rfl)))
            | (refine Gd.skip ?_ ?_ ?_; (· exact rfl); (· exact rfl))
            | fail
          refine ⟨(j + 1, q), ⟨by dsimp only; omega, hfold, by dsimp only; omega, by dsimp only; omega⟩, by dsimp only; omega, ?_⟩
          rw [step]
          exact Cov.ofn (id) rfl (by simp [go_sem, List.take_of_length_le, ren, ren1, okr, okr1, ChkT, ChkN, BlkN, nf, grammarC]) (by simp [go_sem, List.take_of_length_le, ren, ren1, okr, okr1, ChkT, ChkN, BlkN, nf, grammarC])
      · have hje : j = right.length := by
          have : ¬ j < right.length := by simpa using hl
          omega
        subst hje
        rw [List.drop_length] at hfold
        unfold endK at hfold
        subst hfold
        repeat' first
          | refine Holds.seq ?_
          | refine Holds.skip ?_
          | refine Holds.exit ?_
          | refine Holds.ret ?_
          | refine thenA_normal ?_
          | refine thenA_exit ?_
          | refine thenA_ret ?_
          | refine inB_normal ?_
          | refine inB_ret ?_
          | refine inB_here ?_
          | (refine inB_past ?_ ?_; (· exact rfl))
          | refine Holds.reg ?_
          | refine Holds.block ?_
          | refine GS.nil ?_
          | refine Gd.nil ?_
          | (refine Holds.any mixed ?_ ?_; (· kernel_rfl))
          | (refine GS.step (s' := ?_) ?_ ?_ ?_; rotate_left; (· exact rfl); (· (simp [go_sem, List.take_of_length_le] <;> with_reducible rfl)))
          | (refine GS.skip ?_ ?_ ?_; (· exact rfl); (· exact rfl))
          | (refine Gd.go (s' := ?_) ?_ ?_ ?_; rotate_left; (· exact rfl); (· (simp [go_sem, List.take_of_length_le] <;> with_reducible rfl)))
          | (refine Gd.skip ?_ ?_ ?_; (· exact rfl); (· exact rfl))
          | fail
        refine Out.mk (xs := ?_) ?_ ?_ (by first | exact .inr rfl | exact .inl rfl)
        rotate_left
        · simp [go_sem, List.take_of_length_le] <;> with_reducible rfl
        exact .v _
def treeEndV (g : GrammarT) (non : Int) (tree : List Int) : Int × Bool := if askedV g non tree && decide (¬ endF g tree 61 non 0 < 0) then (endF g tree 61 non 0, true) else (0, false)
end Go.Proofs.Ytaiefncpgkoniaa.En
