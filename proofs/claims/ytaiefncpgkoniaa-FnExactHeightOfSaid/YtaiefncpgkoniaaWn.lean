/- Walks of the laws' helpers (printed by gent.py). -/
import Derived.Test.YtaiefncpgkoniaaWz
namespace Go.Proofs.Ytaiefncpgkoniaa.En
open Go.RowKit
set_option linter.unusedSimpArgs false
set_option linter.unusedVariables false
set_option maxHeartbeats 4000000
abbrev DoneT := Int × Int × Int × Int
def doneC (x : DoneT) : List AV := [.v (.int .i64 x.1), .v (.int .i64 x.2.1), .v (.int .i64 x.2.2.1), .v (.int .i64 x.2.2.2)]
def dones (l : List DoneT) : List (List AV) := l.map doneC
@[simp] theorem dones_len (l : List DoneT) : (dones l).length = l.length := by simp [dones]
@[simp] theorem dones_get (l : List DoneT) (i : Nat) : (dones l)[i]? = (l[i]?).map doneC := by simp [dones]
@[simp] theorem dones_gE (l : List DoneT) (i : Nat) (h : i < (dones l).length) : (dones l)[i] = doneC (l[i]'(by simpa using h)) := by simp [dones]
theorem dones_ok (l : List DoneT) : rowsOk (dones l) := by
  intro row hr x hx
  simp only [dones, List.mem_map] at hr
  obtain ⟨n, _, rfl⟩ := hr
  simp only [doneC, List.mem_cons, List.not_mem_nil, or_false] at hx
  rcases hx with rfl | rfl | rfl | rfl <;> rfl
@[simp] theorem nfr_dones (l : List DoneT) : nfr (dones l) := nfr_of_ok (dones_ok l)
abbrev RuleT := Int × List Int
def ruleC (x : RuleT) : List AV := [.v (.int .i64 x.1), .im 1 (ints x.2)]
theorem toRule (x : RuleT) (h0 : (x.2).length < 35184372088832) : Pure Try.prog 39 [.ag (ruleC x)] (.ag (ruleC x)) := by
  refine Pure.mk (rs := [.cell 2 65]) (nt := 12) Try.func39 (by kernel_rfl) rfl rfl rfl (by simp) ?_
  simp only [sl, ruleC]
  repeat' first
    | refine Holds.seq ?_
    | refine Holds.skip ?_
    | refine Holds.exit ?_
    | refine Holds.ret ?_
    | refine thenA_normal ?_
    | refine thenA_exit ?_
    | refine thenA_ret ?_
    | refine inB_normal ?_
    | refine inB_ret ?_
    | refine inB_here ?_
    | (refine inB_past ?_ ?_; (· exact rfl))
    | refine Holds.reg ?_
    | refine Holds.block ?_
    | refine GS.nil ?_
    | (refine GS.step (s' := ?_) ?_ ?_ ?_; rotate_left; (· exact rfl); (· (simp [go_sem, List.take_of_length_le] <;> with_reducible rfl)))
    | (refine GS.skip ?_ ?_ ?_; (· exact rfl); (· exact rfl))
    | fail
  refine GS.cc (toIntS x.2 h0) rfl rfl rfl rfl (by simp [go_sem, List.take_of_length_le] <;> with_reducible rfl) rfl (by simp [go_sem, List.take_of_length_le]) ?_
  repeat' first
    | refine Holds.seq ?_
    | refine Holds.skip ?_
    | refine Holds.exit ?_
    | refine Holds.ret ?_
    | refine thenA_normal ?_
    | refine thenA_exit ?_
    | refine thenA_ret ?_
    | refine inB_normal ?_
    | refine inB_ret ?_
    | refine inB_here ?_
    | (refine inB_past ?_ ?_; (· exact rfl))
    | refine Holds.reg ?_
    | refine Holds.block ?_
    | refine GS.nil ?_
    | (refine GS.step (s' := ?_) ?_ ?_ ?_; rotate_left; (· exact rfl); (· (simp [go_sem, List.take_of_length_le] <;> with_reducible rfl)))
    | (refine GS.skip ?_ ?_ ?_; (· exact rfl); (· exact rfl))
    | fail
  refine Out.mk (xs := ?_) ?_ ?_ (by first | exact .inr rfl | exact .inl rfl)
  rotate_left
  · simp [go_sem, List.take_of_length_le] <;> with_reducible rfl
  exact Fz.cl rfl
theorem eqRule (a b : RuleT) (h0 : (a.2).length < 35184372088832) : Pure Try.prog 49 [.ag (ruleC a), .ag (ruleC b)] (.v (.bool (decide (a = b)))) := by
  refine Pure.mk (rs := [.tmp 4]) (nt := 16) Try.func49 (by kernel_rfl) rfl rfl rfl (by simp) ?_
  simp only [sl, ruleC]
  repeat' first
    | refine Holds.seq ?_
    | refine Holds.skip ?_
    | refine Holds.exit ?_
    | refine Holds.ret ?_
    | refine thenA_normal ?_
    | refine thenA_exit ?_
    | refine thenA_ret ?_
    | refine inB_normal ?_
    | refine inB_ret ?_
    | refine inB_here ?_
    | (refine inB_past ?_ ?_; (· exact rfl))
    | refine Holds.reg ?_
    | refine Holds.block ?_
    | refine GS.nil ?_
    | (refine GS.step (s' := ?_) ?_ ?_ ?_; rotate_left; (· exact rfl); (· (simp [go_sem, List.take_of_length_le] <;> with_reducible rfl)))
    | (refine GS.skip ?_ ?_ ?_; (· exact rfl); (· exact rfl))
    | fail
  refine Holds.cond rfl (fun hl => ?_) (fun g0 => ?_)
  · have : ¬ a = b := by rintro rfl; simp at hl
    simp only [this, decide_false]
    repeat' first
      | refine Holds.seq ?_
      | refine Holds.skip ?_
      | refine Holds.exit ?_
      | refine Holds.ret ?_
      | refine thenA_normal ?_
      | refine thenA_exit ?_
      | refine thenA_ret ?_
      | refine inB_normal ?_
      | refine inB_ret ?_
      | refine inB_here ?_
      | (refine inB_past ?_ ?_; (· exact rfl))
      | refine Holds.reg ?_
      | refine Holds.block ?_
      | refine GS.nil ?_
      | (refine GS.step (s' := ?_) ?_ ?_ ?_; rotate_left; (· exact rfl); (· (simp [go_sem, List.take_of_length_le] <;> with_reducible rfl)))
      | (refine GS.skip ?_ ?_ ?_; (· exact rfl); (· exact rfl))
      | fail
    refine Out.mk (xs := ?_) ?_ ?_ (by first | exact .inr rfl | exact .inl rfl)
    rotate_left
    · simp [go_sem, List.take_of_length_le] <;> with_reducible rfl
    exact .v _
  repeat' first
    | refine Holds.seq ?_
    | refine Holds.skip ?_
    | refine Holds.exit ?_
    | refine Holds.ret ?_
    | refine thenA_normal ?_
    | refine thenA_exit ?_
    | refine thenA_ret ?_
    | refine inB_normal ?_
    | refine inB_ret ?_
    | refine inB_here ?_
    | (refine inB_past ?_ ?_; (· exact rfl))
    | refine Holds.reg ?_
    | refine Holds.block ?_
    | refine GS.nil ?_
    | (refine GS.step (s' := ?_) ?_ ?_ ?_; rotate_left; (· exact rfl); (· (simp [go_sem, List.take_of_length_le] <;> with_reducible rfl)))
    | (refine GS.skip ?_ ?_ ?_; (· exact rfl); (· exact rfl))
    | fail
  refine GS.cc (eqIntS a.2 b.2 (by omega)) rfl rfl rfl rfl (by simp [go_sem, List.take_of_length_le] <;> with_reducible rfl) rfl (by simp [go_sem, List.take_of_length_le]) ?_
  repeat' first
    | refine Holds.seq ?_
    | refine Holds.skip ?_
    | refine Holds.exit ?_
    | refine Holds.ret ?_
    | refine thenA_normal ?_
    | refine thenA_exit ?_
    | refine thenA_ret ?_
    | refine inB_normal ?_
    | refine inB_ret ?_
    | refine inB_here ?_
    | (refine inB_past ?_ ?_; (· exact rfl))
    | refine Holds.reg ?_
    | refine Holds.block ?_
    | refine GS.nil ?_
    | (refine GS.step (s' := ?_) ?_ ?_ ?_; rotate_left; (· exact rfl); (· (simp [go_sem, List.take_of_length_le] <;> with_reducible rfl)))
    | (refine GS.skip ?_ ?_ ?_; (· exact rfl); (· exact rfl))
    | fail
  refine Holds.cond rfl (fun hl => ?_) (fun g1 => ?_)
  · have : ¬ a = b := by rintro rfl; simp at hl
    simp only [this, decide_false]
    repeat' first
      | refine Holds.seq ?_
      | refine Holds.skip ?_
      | refine Holds.exit ?_
      | refine Holds.ret ?_
      | refine thenA_normal ?_
      | refine thenA_exit ?_
      | refine thenA_ret ?_
      | refine inB_normal ?_
      | refine inB_ret ?_
      | refine inB_here ?_
      | (refine inB_past ?_ ?_; (· exact rfl))
      | refine Holds.reg ?_
      | refine Holds.block ?_
      | refine GS.nil ?_
      | (refine GS.step (s' := ?_) ?_ ?_ ?_; rotate_left; (· exact rfl); (· (simp [go_sem, List.take_of_length_le] <;> with_reducible rfl)))
      | (refine GS.skip ?_ ?_ ?_; (· exact rfl); (· exact rfl))
      | fail
    refine Out.mk (xs := ?_) ?_ ?_ (by first | exact .inr rfl | exact .inl rfl)
    rotate_left
    · simp [go_sem, List.take_of_length_le] <;> with_reducible rfl
    exact .v _
  have : a = b := by
    obtain ⟨a0, a1⟩ := a
    obtain ⟨b0, b1⟩ := b
    simp at g0 g1
    simp [g0, g1]
  simp only [this, decide_true]
  repeat' first
    | refine Holds.seq ?_
    | refine Holds.skip ?_
    | refine Holds.exit ?_
    | refine Holds.ret ?_
    | refine thenA_normal ?_
    | refine thenA_exit ?_
    | refine thenA_ret ?_
    | refine inB_normal ?_
    | refine inB_ret ?_
    | refine inB_here ?_
    | (refine inB_past ?_ ?_; (· exact rfl))
    | refine Holds.reg ?_
    | refine Holds.block ?_
    | refine GS.nil ?_
    | (refine GS.step (s' := ?_) ?_ ?_ ?_; rotate_left; (· exact rfl); (· (simp [go_sem, List.take_of_length_le] <;> with_reducible rfl)))
    | (refine GS.skip ?_ ?_ ?_; (· exact rfl); (· exact rfl))
    | fail
  refine Out.mk (xs := ?_) ?_ ?_ (by first | exact .inr rfl | exact .inl rfl)
  rotate_left
  · simp [go_sem, List.take_of_length_le] <;> with_reducible rfl
  exact .v _
def szRuleF (n : Int) (x : RuleT) : Int := less n x.2.length
theorem szRuleF_in {n : Int} {x : RuleT} (h1 : n ≤ 1048576) : -1 ≤ szRuleF n x ∧ szRuleF n x ≤ 1048576 := less_in h1
theorem szRule (x : RuleT) (n : Int) (h0 : -1 ≤ n) (h1 : n ≤ 1048576) (k0 : (x.2).length < 35184372088832) : Pure Try.prog 35 [.ag (ruleC x), .v (.int .i64 n)] (.v (.int .i64 (szRuleF n x))) := by
  refine Pure.mk (rs := [.tmp 4]) (nt := 12) Try.func35 (by kernel_rfl) rfl rfl rfl (by simp) ?_
  simp only [sl, ruleC]
  have hin := szRuleF_in (x := x) h1
  repeat' first
    | refine Holds.seq ?_
    | refine Holds.skip ?_
    | refine Holds.exit ?_
    | refine Holds.ret ?_
    | refine thenA_normal ?_
    | refine thenA_exit ?_
    | refine thenA_ret ?_
    | refine inB_normal ?_
    | refine inB_ret ?_
    | refine inB_here ?_
    | (refine inB_past ?_ ?_; (· exact rfl))
    | refine Holds.reg ?_
    | refine Holds.block ?_
    | refine GS.nil ?_
    | (refine GS.step (s' := ?_) ?_ ?_ ?_; rotate_left; (· exact rfl); (· (simp [go_sem, List.take_of_length_le] <;> with_reducible rfl)))
    | (refine GS.skip ?_ ?_ ?_; (· exact rfl); (· exact rfl))
    | fail
  refine GS.cc (szIntS x.2 n h0 h1 (by omega)) rfl rfl rfl rfl (by simp [go_sem, List.take_of_length_le] <;> with_reducible rfl) rfl (by simp [go_sem, List.take_of_length_le]) ?_
  repeat' first
    | refine Holds.seq ?_
    | refine Holds.skip ?_
    | refine Holds.exit ?_
    | refine Holds.ret ?_
    | refine thenA_normal ?_
    | refine thenA_exit ?_
    | refine thenA_ret ?_
    | refine inB_normal ?_
    | refine inB_ret ?_
    | refine inB_here ?_
    | (refine inB_past ?_ ?_; (· exact rfl))
    | refine Holds.reg ?_
    | refine Holds.block ?_
    | refine GS.nil ?_
    | (refine GS.step (s' := ?_) ?_ ?_ ?_; rotate_left; (· exact rfl); (· (simp [go_sem, List.take_of_length_le] <;> with_reducible rfl)))
    | (refine GS.skip ?_ ?_ ?_; (· exact rfl); (· exact rfl))
    | fail
  refine Holds.cond rfl (fun hl => ?_) (fun hl => ?_)
  · have h : szRuleF n x < 0 := by simpa [szRuleF] using hl
    rw [show szRuleF n x = -1 by omega]
    repeat' first
      | refine Holds.seq ?_
      | refine Holds.skip ?_
      | refine Holds.exit ?_
      | refine Holds.ret ?_
      | refine thenA_normal ?_
      | refine thenA_exit ?_
      | refine thenA_ret ?_
      | refine inB_normal ?_
      | refine inB_ret ?_
      | refine inB_here ?_
      | (refine inB_past ?_ ?_; (· exact rfl))
      | refine Holds.reg ?_
      | refine Holds.block ?_
      | refine GS.nil ?_
      | (refine GS.step (s' := ?_) ?_ ?_ ?_; rotate_left; (· exact rfl); (· (simp [go_sem, List.take_of_length_le] <;> with_reducible rfl)))
      | (refine GS.skip ?_ ?_ ?_; (· exact rfl); (· exact rfl))
      | fail
    refine Out.mk (xs := ?_) ?_ ?_ (by first | exact .inr rfl | exact .inl rfl)
    rotate_left
    · simp [go_sem, List.take_of_length_le] <;> with_reducible rfl
    exact .v _
  · repeat' first
      | refine Holds.seq ?_
      | refine Holds.skip ?_
      | refine Holds.exit ?_
      | refine Holds.ret ?_
      | refine thenA_normal ?_
      | refine thenA_exit ?_
      | refine thenA_ret ?_
      | refine inB_normal ?_
      | refine inB_ret ?_
      | refine inB_here ?_
      | (refine inB_past ?_ ?_; (· exact rfl))
      | refine Holds.reg ?_
      | refine Holds.block ?_
      | refine GS.nil ?_
      | (refine GS.step (s' := ?_) ?_ ?_ ?_; rotate_left; (· exact rfl); (· (simp [go_sem, List.take_of_length_le] <;> with_reducible rfl)))
      | (refine GS.skip ?_ ?_ ?_; (· exact rfl); (· exact rfl))
      | fail
    refine Out.mk (xs := ?_) ?_ ?_ (by first | exact .inr rfl | exact .inl rfl)
    rotate_left
    · simp [go_sem, List.take_of_length_le] <;> with_reducible rfl
    exact .v _
def rules (l : List RuleT) : List (List AV) := l.map ruleC
@[simp] theorem rules_len (l : List RuleT) : (rules l).length = l.length := by simp [rules]
@[simp] theorem rules_get (l : List RuleT) (i : Nat) : (rules l)[i]? = (l[i]?).map ruleC := by simp [rules]
@[simp] theorem rules_gE (l : List RuleT) (i : Nat) (h : i < (rules l).length) : (rules l)[i] = ruleC (l[i]'(by simpa using h)) := by simp [rules]
theorem rules_ok (l : List RuleT) : rowsOk (rules l) := by
  intro row hr x hx
  simp only [rules, List.mem_map] at hr
  obtain ⟨n, _, rfl⟩ := hr
  simp only [ruleC, List.mem_cons, List.not_mem_nil, or_false] at hx
  rcases hx with rfl | rfl <;> rfl
@[simp] theorem nfr_rules (l : List RuleT) : nfr (rules l) := nfr_of_ok (rules_ok l)
theorem toRuleS (l : List RuleT) (hx : l.length < 8796093022208) (hs : ∀ e ∈ l, (e.2).length < 35184372088832) : Pure Try.prog 22 [.im 2 (rules l)] (.im 2 (rules l)) := by
  refine Pure.mk (rs := [.tmp 2]) (nt := 23) Try.func22 (by kernel_rfl) rfl rfl rfl (by simp) ?_
  simp only [sl]
  repeat' first
    | refine Holds.seq ?_
    | refine Holds.skip ?_
    | refine Holds.exit ?_
    | refine Holds.ret ?_
    | refine thenA_normal ?_
    | refine thenA_exit ?_
    | refine thenA_ret ?_
    | refine inB_normal ?_
    | refine inB_ret ?_
    | refine inB_here ?_
    | (refine inB_past ?_ ?_; (· exact rfl))
    | refine Holds.reg ?_
    | refine Holds.block ?_
    | refine GS.nil ?_
    | (refine GS.step (s' := ?_) ?_ ?_ ?_; rotate_left; (· exact rfl); (· (simp [go_sem, List.take_of_length_le, (show (0:Int) ≤ (l.length : Int) by omega), (show (32:Int) * l.length ≤ 281474976710656 by omega), (show (l.length : Int) ≤ 281474976710656 by omega)] <;> with_reducible rfl)))
    | (refine GS.skip ?_ ?_ ?_; (· exact rfl); (· exact rfl))
    | fail
  refine Holds.loop (ι := Nat) (fun i => ⟨[(0, .im 2 (rules l)), (3, .own 0 2 0 l.length), (4, .v (.int .i64 i))], [(0, ⟨65, 2, half (rules l) [.v (.int .i64 0), .v (.slice none 0 0)] i⟩)], 1⟩) (fun i => i ≤ l.length) (fun i => l.length - i) 0 (Nat.zero_le _) ?_ ?_
  · exact Cov.of id (by simp [ChkT, okr, okr1, lk, ren, ren1]) (by simp [ChkB, lb, BlkC, half, nf])
  intro i hi
  repeat' first
    | refine Holds.seq ?_
    | refine Holds.skip ?_
    | refine Holds.exit ?_
    | refine Holds.ret ?_
    | refine thenA_normal ?_
    | refine thenA_exit ?_
    | refine thenA_ret ?_
    | refine inB_normal ?_
    | refine inB_ret ?_
    | refine inB_here ?_
    | (refine inB_past ?_ ?_; (· exact rfl))
    | refine Holds.reg ?_
    | refine Holds.block ?_
    | refine GS.nil ?_
    | (refine GS.step (s' := ?_) ?_ ?_ ?_; rotate_left; (· exact rfl); (· (simp [go_sem, List.take_of_length_le] <;> with_reducible rfl)))
    | (refine GS.skip ?_ ?_ ?_; (· exact rfl); (· exact rfl))
    | fail
  refine Holds.cond rfl (fun hl => ?_) (fun hl => ?_)
  · have hlt : i < l.length := by simpa using hl
    have hxi : l[i]? = some l[i] := List.getElem?_eq_getElem hlt
    have hhi := half_get (rules l) [.v (.int .i64 0), .v (.slice none 0 0)] i (by simpa using hlt)
    have hhs := half_set (rules l) [.v (.int .i64 0), .v (.slice none 0 0)] i (by simpa using hlt) (ruleC l[i]) (by simp [hxi])
    simp only [ruleC] at hhs
    repeat' first
      | refine Holds.seq ?_
      | refine Holds.skip ?_
      | refine Holds.exit ?_
      | refine Holds.ret ?_
      | refine thenA_normal ?_
      | refine thenA_exit ?_
      | refine thenA_ret ?_
      | refine inB_normal ?_
      | refine inB_ret ?_
      | refine inB_here ?_
      | (refine inB_past ?_ ?_; (· exact rfl))
      | refine Holds.reg ?_
      | refine Holds.block ?_
      | refine GS.nil ?_
      | (refine GS.step (s' := ?_) ?_ ?_ ?_; rotate_left; (· exact rfl); (· (simp [go_sem, List.take_of_length_le, hxi, hlt, ruleC] <;> with_reducible rfl)))
      | (refine GS.skip ?_ ?_ ?_; (· exact rfl); (· exact rfl))
      | fail
    refine GS.cc (toRule l[i] (hs _ (List.getElem_mem hlt))) rfl rfl rfl rfl (by simp [go_sem, List.take_of_length_le, ruleC] <;> with_reducible rfl) rfl (by simp [go_sem, List.take_of_length_le, ruleC]) ?_
    repeat' first
      | refine Holds.seq ?_
      | refine Holds.skip ?_
      | refine Holds.exit ?_
      | refine Holds.ret ?_
      | refine thenA_normal ?_
      | refine thenA_exit ?_
      | refine thenA_ret ?_
      | refine inB_normal ?_
      | refine inB_ret ?_
      | refine inB_here ?_
      | (refine inB_past ?_ ?_; (· exact rfl))
      | refine Holds.reg ?_
      | refine Holds.block ?_
      | refine GS.nil ?_
      | (refine GS.step (s' := ?_) ?_ ?_ ?_; rotate_left; (· exact rfl); (· (simp [go_sem, List.take_of_length_le, hxi, hlt, hhi, hhs, ruleC] <;> with_reducible rfl)))
      | (refine GS.skip ?_ ?_ ?_; (· exact rfl); (· exact rfl))
      | fail
    refine ⟨i + 1, by omega, by omega, ?_⟩
    rw [wr64_id (by omega) (by omega)]
    exact Cov.of id (by simp [ChkT, okr, okr1, lk, ren, ren1]) (by simp [ChkB, lb, BlkC]; exact .inl (half_ok (rules_ok l) (by simp [cl1])).nf)
  · have hle : i = l.length := by
      have : ¬ i < l.length := by simpa using hl
      omega
    subst hle
    rw [show half (rules l) [.v (.int .i64 0), .v (.slice none 0 0)] l.length = rules l by have := half_all (rules l) ([.v (.int .i64 0), .v (.slice none 0 0)] : List AV); rwa [rules_len] at this]
    repeat' first
      | refine Holds.seq ?_
      | refine Holds.skip ?_
      | refine Holds.exit ?_
      | refine Holds.ret ?_
      | refine thenA_normal ?_
      | refine thenA_exit ?_
      | refine thenA_ret ?_
      | refine inB_normal ?_
      | refine inB_ret ?_
      | refine inB_here ?_
      | (refine inB_past ?_ ?_; (· exact rfl))
      | refine Holds.reg ?_
      | refine Holds.block ?_
      | refine GS.nil ?_
      | (refine GS.step (s' := ?_) ?_ ?_ ?_; rotate_left; (· exact rfl); (· (simp [go_sem, List.take_of_length_le] <;> with_reducible rfl)))
      | (refine GS.skip ?_ ?_ ?_; (· exact rfl); (· exact rfl))
      | fail
    refine Out.mk (xs := ?_) ?_ ?_ (by first | exact .inr rfl | exact .inl rfl)
    rotate_left
    · simp [go_sem, List.take_of_length_le] <;> with_reducible rfl
    exact Fz.all rfl rfl (by simp) rfl (rules_ok l)
theorem eqRuleS (xs ys : List RuleT) (hx : xs.length < 4611686018427387904) (hs : ∀ e ∈ xs, (e.2).length < 35184372088832) : Pure Try.prog 27 [.im 2 (rules xs), .im 2 (rules ys)] (.v (.bool (decide (xs = ys)))) := by
  refine Pure.mk (rs := [.tmp 4]) (nt := 27) Try.func27 (by kernel_rfl) rfl rfl rfl (by simp) ?_
  simp only [sl]
  repeat' first
    | refine Holds.seq ?_
    | refine Holds.skip ?_
    | refine Holds.exit ?_
    | refine Holds.ret ?_
    | refine thenA_normal ?_
    | refine thenA_exit ?_
    | refine thenA_ret ?_
    | refine inB_normal ?_
    | refine inB_ret ?_
    | refine inB_here ?_
    | (refine inB_past ?_ ?_; (· exact rfl))
    | refine Holds.reg ?_
    | refine Holds.block ?_
    | refine GS.nil ?_
    | refine Gd.nil ?_
    | (refine Holds.any mixed ?_ ?_; (· kernel_rfl))
    | (refine GS.step (s' := ?_) ?_ ?_ ?_; rotate_left; (· exact rfl); (· (simp [go_sem, List.take_of_length_le] <;> with_reducible rfl)))
    | (refine GS.skip ?_ ?_ ?_; (· exact rfl); (· exact rfl))
    | (refine Gd.go (s' := ?_) ?_ ?_ ?_; rotate_left; (· exact rfl); (· (simp [go_sem, List.take_of_length_le] <;> with_reducible rfl)))
    | (refine Gd.skip ?_ ?_ ?_; (· exact rfl); (· exact rfl))
    | fail
  refine Holds.cond rfl (fun hl => ?_) (fun hl => ?_)
  · have : ¬ xs = ys := by rintro rfl; simp at hl
    simp only [this, decide_false]
    repeat' first
      | refine Holds.seq ?_
      | refine Holds.skip ?_
      | refine Holds.exit ?_
      | refine Holds.ret ?_
      | refine thenA_normal ?_
      | refine thenA_exit ?_
      | refine thenA_ret ?_
      | refine inB_normal ?_
      | refine inB_ret ?_
      | refine inB_here ?_
      | (refine inB_past ?_ ?_; (· exact rfl))
      | refine Holds.reg ?_
      | refine Holds.block ?_
      | refine GS.nil ?_
      | refine Gd.nil ?_
      | (refine Holds.any mixed ?_ ?_; (· kernel_rfl))
      | (refine GS.step (s' := ?_) ?_ ?_ ?_; rotate_left; (· exact rfl); (· (simp [go_sem, List.take_of_length_le] <;> with_reducible rfl)))
      | (refine GS.skip ?_ ?_ ?_; (· exact rfl); (· exact rfl))
      | (refine Gd.go (s' := ?_) ?_ ?_ ?_; rotate_left; (· exact rfl); (· (simp [go_sem, List.take_of_length_le] <;> with_reducible rfl)))
      | (refine Gd.skip ?_ ?_ ?_; (· exact rfl); (· exact rfl))
      | fail
    refine Out.mk (xs := ?_) ?_ ?_ (by first | exact .inr rfl | exact .inl rfl)
    rotate_left
    · simp [go_sem, List.take_of_length_le] <;> with_reducible rfl
    exact .v _
  · have hlen : xs.length = ys.length := by
      have : (xs.length : Int) = ys.length := by simpa using hl
      omega
    repeat' first
      | refine Holds.seq ?_
      | refine Holds.skip ?_
      | refine Holds.exit ?_
      | refine Holds.ret ?_
      | refine thenA_normal ?_
      | refine thenA_exit ?_
      | refine thenA_ret ?_
      | refine inB_normal ?_
      | refine inB_ret ?_
      | refine inB_here ?_
      | (refine inB_past ?_ ?_; (· exact rfl))
      | refine Holds.reg ?_
      | refine Holds.block ?_
      | refine GS.nil ?_
      | refine Gd.nil ?_
      | (refine Holds.any mixed ?_ ?_; (· kernel_rfl))
      | (refine GS.step (s' := ?_) ?_ ?_ ?_; rotate_left; (· exact rfl); (· (simp [go_sem, List.take_of_length_le] <;> with_reducible rfl)))
      | (refine GS.skip ?_ ?_ ?_; (· exact rfl); (· exact rfl))
      | (refine Gd.go (s' := ?_) ?_ ?_ ?_; rotate_left; (· exact rfl); (· (simp [go_sem, List.take_of_length_le] <;> with_reducible rfl)))
      | (refine Gd.skip ?_ ?_ ?_; (· exact rfl); (· exact rfl))
      | fail
    refine Holds.loop (ι := Nat) (fun i => ⟨[(0, .im 2 (rules xs)), (1, .im 2 (rules ys)), (5, .v (.int .i64 i))], [], 0⟩) (fun i => i ≤ xs.length ∧ xs.take i = ys.take i) (fun i => xs.length - i) 0 ⟨Nat.zero_le _, rfl⟩ ?_ ?_
    · exact Cov.of id (by simp [ChkT, okr, okr1, lk, ren, ren1]) (by simp [ChkB])
    rintro i ⟨hi, htk⟩
    repeat' first
      | refine Holds.seq ?_
      | refine Holds.skip ?_
      | refine Holds.exit ?_
      | refine Holds.ret ?_
      | refine thenA_normal ?_
      | refine thenA_exit ?_
      | refine thenA_ret ?_
      | refine inB_normal ?_
      | refine inB_ret ?_
      | refine inB_here ?_
      | (refine inB_past ?_ ?_; (· exact rfl))
      | refine Holds.reg ?_
      | refine Holds.block ?_
      | refine GS.nil ?_
      | refine Gd.nil ?_
      | (refine Holds.any mixed ?_ ?_; (· kernel_rfl))
      | (refine GS.step (s' := ?_) ?_ ?_ ?_; rotate_left; (· exact rfl); (· (simp [go_sem, List.take_of_length_le] <;> with_reducible rfl)))
      | (refine GS.skip ?_ ?_ ?_; (· exact rfl); (· exact rfl))
      | (refine Gd.go (s' := ?_) ?_ ?_ ?_; rotate_left; (· exact rfl); (· (simp [go_sem, List.take_of_length_le] <;> with_reducible rfl)))
      | (refine Gd.skip ?_ ?_ ?_; (· exact rfl); (· exact rfl))
      | fail
    refine Holds.cond rfl (fun hl => ?_) (fun hl => ?_)
    · have hlt : i < xs.length := by simpa using hl
      have hxi : xs[i]? = some xs[i] := List.getElem?_eq_getElem hlt
      have hyi : ys[i]? = some ys[i] := List.getElem?_eq_getElem (by omega)
      repeat' first
        | refine Holds.seq ?_
        | refine Holds.skip ?_
        | refine Holds.exit ?_
        | refine Holds.ret ?_
        | refine thenA_normal ?_
        | refine thenA_exit ?_
        | refine thenA_ret ?_
        | refine inB_normal ?_
        | refine inB_ret ?_
        | refine inB_here ?_
        | (refine inB_past ?_ ?_; (· exact rfl))
        | refine Holds.reg ?_
        | refine Holds.block ?_
        | refine GS.nil ?_
        | refine Gd.nil ?_
        | (refine Holds.any mixed ?_ ?_; (· kernel_rfl))
        | (refine GS.step (s' := ?_) ?_ ?_ ?_; rotate_left; (· exact rfl); (· (simp [go_sem, List.take_of_length_le, hxi, hyi, ruleC] <;> with_reducible rfl)))
        | (refine GS.skip ?_ ?_ ?_; (· exact rfl); (· exact rfl))
        | (refine Gd.go (s' := ?_) ?_ ?_ ?_; rotate_left; (· exact rfl); (· (simp [go_sem, List.take_of_length_le, hxi, hyi, ruleC] <;> with_reducible rfl)))
        | (refine Gd.skip ?_ ?_ ?_; (· exact rfl); (· exact rfl))
        | fail
      first | refine GS.cc (eqRule xs[i] ys[i] (hs _ (List.getElem_mem hlt))) rfl rfl rfl rfl (by simp [go_sem, List.take_of_length_le, ruleC] <;> with_reducible rfl) rfl (by simp [go_sem, List.take_of_length_le, ruleC]) ?_ | refine Gd.cc (eqRule xs[i] ys[i] (hs _ (List.getElem_mem hlt))) rfl rfl rfl rfl (by simp [go_sem, List.take_of_length_le, ruleC] <;> with_reducible rfl) rfl (by simp [go_sem, List.take_of_length_le, ruleC]) ?_
      repeat' first
        | refine Holds.seq ?_
        | refine Holds.skip ?_
        | refine Holds.exit ?_
        | refine Holds.ret ?_
        | refine thenA_normal ?_
        | refine thenA_exit ?_
        | refine thenA_ret ?_
        | refine inB_normal ?_
        | refine inB_ret ?_
        | refine inB_here ?_
        | (refine inB_past ?_ ?_; (· exact rfl))
        | refine Holds.reg ?_
        | refine Holds.block ?_
        | refine GS.nil ?_
        | refine Gd.nil ?_
        | (refine Holds.any mixed ?_ ?_; (· kernel_rfl))
        | (refine GS.step (s' := ?_) ?_ ?_ ?_; rotate_left; (· exact rfl); (· (simp [go_sem, List.take_of_length_le] <;> with_reducible rfl)))
        | (refine GS.skip ?_ ?_ ?_; (· exact rfl); (· exact rfl))
        | (refine Gd.go (s' := ?_) ?_ ?_ ?_; rotate_left; (· exact rfl); (· (simp [go_sem, List.take_of_length_le] <;> with_reducible rfl)))
        | (refine Gd.skip ?_ ?_ ?_; (· exact rfl); (· exact rfl))
        | fail
      refine Holds.cond rfl (fun hl => ?_) (fun hl => ?_)
      · have hne : ¬ xs = ys := ne_at hxi hyi (by simpa using hl)
        simp only [hne, decide_false]
        repeat' first
          | refine Holds.seq ?_
          | refine Holds.skip ?_
          | refine Holds.exit ?_
          | refine Holds.ret ?_
          | refine thenA_normal ?_
          | refine thenA_exit ?_
          | refine thenA_ret ?_
          | refine inB_normal ?_
          | refine inB_ret ?_
          | refine inB_here ?_
          | (refine inB_past ?_ ?_; (· exact rfl))
          | refine Holds.reg ?_
          | refine Holds.block ?_
          | refine GS.nil ?_
          | refine Gd.nil ?_
          | (refine Holds.any mixed ?_ ?_; (· kernel_rfl))
          | (refine GS.step (s' := ?_) ?_ ?_ ?_; rotate_left; (· exact rfl); (· (simp [go_sem, List.take_of_length_le] <;> with_reducible rfl)))
          | (refine GS.skip ?_ ?_ ?_; (· exact rfl); (· exact rfl))
          | (refine Gd.go (s' := ?_) ?_ ?_ ?_; rotate_left; (· exact rfl); (· (simp [go_sem, List.take_of_length_le] <;> with_reducible rfl)))
          | (refine Gd.skip ?_ ?_ ?_; (· exact rfl); (· exact rfl))
          | fail
        refine Out.mk (xs := ?_) ?_ ?_ (by first | exact .inr rfl | exact .inl rfl)
        rotate_left
        · simp [go_sem, List.take_of_length_le] <;> with_reducible rfl
        exact .v _
      · have he : xs[i] = ys[i] := by simpa using hl
        repeat' first
          | refine Holds.seq ?_
          | refine Holds.skip ?_
          | refine Holds.exit ?_
          | refine Holds.ret ?_
          | refine thenA_normal ?_
          | refine thenA_exit ?_
          | refine thenA_ret ?_
          | refine inB_normal ?_
          | refine inB_ret ?_
          | refine inB_here ?_
          | (refine inB_past ?_ ?_; (· exact rfl))
          | refine Holds.reg ?_
          | refine Holds.block ?_
          | refine GS.nil ?_
          | refine Gd.nil ?_
          | (refine Holds.any mixed ?_ ?_; (· kernel_rfl))
          | (refine GS.step (s' := ?_) ?_ ?_ ?_; rotate_left; (· exact rfl); (· (simp [go_sem, List.take_of_length_le] <;> with_reducible rfl)))
          | (refine GS.skip ?_ ?_ ?_; (· exact rfl); (· exact rfl))
          | (refine Gd.go (s' := ?_) ?_ ?_ ?_; rotate_left; (· exact rfl); (· (simp [go_sem, List.take_of_length_le] <;> with_reducible rfl)))
          | (refine Gd.skip ?_ ?_ ?_; (· exact rfl); (· exact rfl))
          | fail
        refine ⟨i + 1, ⟨by omega, (take_next hxi hyi htk).2 he⟩, by omega, ?_⟩
        rw [wr64_id (by omega) (by omega)]
        exact Cov.of id (by simp [ChkT, okr, okr1, lk, ren, ren1]) (by simp [ChkB])
    · have hle : i = xs.length := by
        have : ¬ i < xs.length := by simpa using hl
        omega
      have he : xs = ys := by
        subst hle
        rw [List.take_length, hlen, List.take_length] at htk
        exact htk
      simp only [he, decide_true]
      repeat' first
        | refine Holds.seq ?_
        | refine Holds.skip ?_
        | refine Holds.exit ?_
        | refine Holds.ret ?_
        | refine thenA_normal ?_
        | refine thenA_exit ?_
        | refine thenA_ret ?_
        | refine inB_normal ?_
        | refine inB_ret ?_
        | refine inB_here ?_
        | (refine inB_past ?_ ?_; (· exact rfl))
        | refine Holds.reg ?_
        | refine Holds.block ?_
        | refine GS.nil ?_
        | refine Gd.nil ?_
        | (refine Holds.any mixed ?_ ?_; (· kernel_rfl))
        | (refine GS.step (s' := ?_) ?_ ?_ ?_; rotate_left; (· exact rfl); (· (simp [go_sem, List.take_of_length_le] <;> with_reducible rfl)))
        | (refine GS.skip ?_ ?_ ?_; (· exact rfl); (· exact rfl))
        | (refine Gd.go (s' := ?_) ?_ ?_ ?_; rotate_left; (· exact rfl); (· (simp [go_sem, List.take_of_length_le] <;> with_reducible rfl)))
        | (refine Gd.skip ?_ ?_ ?_; (· exact rfl); (· exact rfl))
        | fail
      refine Out.mk (xs := ?_) ?_ ?_ (by first | exact .inr rfl | exact .inl rfl)
      rotate_left
      · simp [go_sem, List.take_of_length_le] <;> with_reducible rfl
      exact .v _
theorem szRuleS (xs : List RuleT) (n : Int) (h0 : -1 ≤ n) (h1 : n ≤ 1048576) (hx : xs.length < 4611686018427387904) (hs : ∀ e ∈ xs, (e.2).length < 35184372088832) : Pure Try.prog 17 [.im 2 (rules xs), .v (.int .i64 n)] (.v (.int .i64 (szLA szRuleF n xs))) := by
  refine Pure.mk (rs := [.tmp 4]) (nt := 27) Try.func17 (by kernel_rfl) rfl rfl rfl (by simp) ?_
  simp only [sl]
  have hw : wr64 (n - xs.length) = n - xs.length := wr64_id (by omega) (by omega)
  repeat' first
    | refine Holds.seq ?_
    | refine Holds.skip ?_
    | refine Holds.exit ?_
    | refine Holds.ret ?_
    | refine thenA_normal ?_
    | refine thenA_exit ?_
    | refine thenA_ret ?_
    | refine inB_normal ?_
    | refine inB_ret ?_
    | refine inB_here ?_
    | (refine inB_past ?_ ?_; (· exact rfl))
    | refine Holds.reg ?_
    | refine Holds.block ?_
    | refine GS.nil ?_
    | (refine GS.step (s' := ?_) ?_ ?_ ?_; rotate_left; (· exact rfl); (· (simp [go_sem, List.take_of_length_le, hw] <;> with_reducible rfl)))
    | (refine GS.skip ?_ ?_ ?_; (· exact rfl); (· exact rfl))
    | fail
  refine Holds.cond rfl (fun hl => ?_) (fun hl => ?_)
  · have : n - xs.length < 0 := by simpa using hl
    simp only [szLA, if_pos this]
    repeat' first
      | refine Holds.seq ?_
      | refine Holds.skip ?_
      | refine Holds.exit ?_
      | refine Holds.ret ?_
      | refine thenA_normal ?_
      | refine thenA_exit ?_
      | refine thenA_ret ?_
      | refine inB_normal ?_
      | refine inB_ret ?_
      | refine inB_here ?_
      | (refine inB_past ?_ ?_; (· exact rfl))
      | refine Holds.reg ?_
      | refine Holds.block ?_
      | refine GS.nil ?_
      | (refine GS.step (s' := ?_) ?_ ?_ ?_; rotate_left; (· exact rfl); (· (simp [go_sem, List.take_of_length_le] <;> with_reducible rfl)))
      | (refine GS.skip ?_ ?_ ?_; (· exact rfl); (· exact rfl))
      | fail
    refine Out.mk (xs := ?_) ?_ ?_ (by first | exact .inr rfl | exact .inl rfl)
    rotate_left
    · simp [go_sem, List.take_of_length_le] <;> with_reducible rfl
    exact .v _
  have hnn : ¬ n - xs.length < 0 := by simpa using hl
  simp only [szLA, if_neg hnn]
  repeat' first
    | refine Holds.seq ?_
    | refine Holds.skip ?_
    | refine Holds.exit ?_
    | refine Holds.ret ?_
    | refine thenA_normal ?_
    | refine thenA_exit ?_
    | refine thenA_ret ?_
    | refine inB_normal ?_
    | refine inB_ret ?_
    | refine inB_here ?_
    | (refine inB_past ?_ ?_; (· exact rfl))
    | refine Holds.reg ?_
    | refine Holds.block ?_
    | refine GS.nil ?_
    | (refine GS.step (s' := ?_) ?_ ?_ ?_; rotate_left; (· exact rfl); (· (simp [go_sem, List.take_of_length_le] <;> with_reducible rfl)))
    | (refine GS.skip ?_ ?_ ?_; (· exact rfl); (· exact rfl))
    | fail
  refine Holds.loop (ι := Nat × Int) (fun i => ⟨[(0, .im 2 (rules xs)), (1, .v (.int .i64 i.2)), (5, .v (.int .i64 i.1))], [], 0⟩) (fun i => i.1 ≤ xs.length ∧ 0 ≤ i.2 ∧ i.2 ≤ 1048576 ∧ szL szRuleF i.2 (xs.drop i.1) = szL szRuleF (n - xs.length) xs) (fun i => xs.length - i.1) (0, n - xs.length) ⟨Nat.zero_le _, by simpa using hnn, by show n - (xs.length : Int) ≤ 1048576; omega, rfl⟩ ?_ ?_
  · exact Cov.of id (by simp [ChkT, okr, okr1, lk, ren, ren1]) (by simp [ChkB])
  rintro ⟨i, m⟩ ⟨hi, hm0, hm1, hsz⟩
  dsimp only at hi hm0 hm1 hsz ⊢
  repeat' first
    | refine Holds.seq ?_
    | refine Holds.skip ?_
    | refine Holds.exit ?_
    | refine Holds.ret ?_
    | refine thenA_normal ?_
    | refine thenA_exit ?_
    | refine thenA_ret ?_
    | refine inB_normal ?_
    | refine inB_ret ?_
    | refine inB_here ?_
    | (refine inB_past ?_ ?_; (· exact rfl))
    | refine Holds.reg ?_
    | refine Holds.block ?_
    | refine GS.nil ?_
    | (refine GS.step (s' := ?_) ?_ ?_ ?_; rotate_left; (· exact rfl); (· (simp [go_sem, List.take_of_length_le] <;> with_reducible rfl)))
    | (refine GS.skip ?_ ?_ ?_; (· exact rfl); (· exact rfl))
    | fail
  refine Holds.cond rfl (fun hl => ?_) (fun hl => ?_)
  · have hlt : i < xs.length := by simpa using hl
    have hxi : xs[i]? = some xs[i] := List.getElem?_eq_getElem hlt
    rw [List.drop_eq_getElem_cons hlt, szL] at hsz
    repeat' first
      | refine Holds.seq ?_
      | refine Holds.skip ?_
      | refine Holds.exit ?_
      | refine Holds.ret ?_
      | refine thenA_normal ?_
      | refine thenA_exit ?_
      | refine thenA_ret ?_
      | refine inB_normal ?_
      | refine inB_ret ?_
      | refine inB_here ?_
      | (refine inB_past ?_ ?_; (· exact rfl))
      | refine Holds.reg ?_
      | refine Holds.block ?_
      | refine GS.nil ?_
      | (refine GS.step (s' := ?_) ?_ ?_ ?_; rotate_left; (· exact rfl); (· (simp [go_sem, List.take_of_length_le, hxi, ruleC] <;> with_reducible rfl)))
      | (refine GS.skip ?_ ?_ ?_; (· exact rfl); (· exact rfl))
      | fail
    refine GS.cc (szRule xs[i] m (by omega) hm1 (hs _ (List.getElem_mem hlt))) rfl rfl rfl rfl (by simp [go_sem, List.take_of_length_le, ruleC] <;> with_reducible rfl) rfl (by simp [go_sem, List.take_of_length_le, ruleC]) ?_
    repeat' first
      | refine Holds.seq ?_
      | refine Holds.skip ?_
      | refine Holds.exit ?_
      | refine Holds.ret ?_
      | refine thenA_normal ?_
      | refine thenA_exit ?_
      | refine thenA_ret ?_
      | refine inB_normal ?_
      | refine inB_ret ?_
      | refine inB_here ?_
      | (refine inB_past ?_ ?_; (· exact rfl))
      | refine Holds.reg ?_
      | refine Holds.block ?_
      | refine GS.nil ?_
      | (refine GS.step (s' := ?_) ?_ ?_ ?_; rotate_left; (· exact rfl); (· (simp [go_sem, List.take_of_length_le] <;> with_reducible rfl)))
      | (refine GS.skip ?_ ?_ ?_; (· exact rfl); (· exact rfl))
      | fail
    refine Holds.cond rfl (fun hl => ?_) (fun hl => ?_)
    · have h : szRuleF m xs[i] < 0 := by simpa using hl
      rw [if_pos h] at hsz
      rw [← hsz]
      repeat' first
        | refine Holds.seq ?_
        | refine Holds.skip ?_
        | refine Holds.exit ?_
        | refine Holds.ret ?_
        | refine thenA_normal ?_
        | refine thenA_exit ?_
        | refine thenA_ret ?_
        | refine inB_normal ?_
        | refine inB_ret ?_
        | refine inB_here ?_
        | (refine inB_past ?_ ?_; (· exact rfl))
        | refine Holds.reg ?_
        | refine Holds.block ?_
        | refine GS.nil ?_
        | (refine GS.step (s' := ?_) ?_ ?_ ?_; rotate_left; (· exact rfl); (· (simp [go_sem, List.take_of_length_le] <;> with_reducible rfl)))
        | (refine GS.skip ?_ ?_ ?_; (· exact rfl); (· exact rfl))
        | fail
      refine Out.mk (xs := ?_) ?_ ?_ (by first | exact .inr rfl | exact .inl rfl)
      rotate_left
      · simp [go_sem, List.take_of_length_le] <;> with_reducible rfl
      exact .v _
    · have h : ¬ szRuleF m xs[i] < 0 := by simpa using hl
      rw [if_neg h] at hsz
      repeat' first
        | refine Holds.seq ?_
        | refine Holds.skip ?_
        | refine Holds.exit ?_
        | refine Holds.ret ?_
        | refine thenA_normal ?_
        | refine thenA_exit ?_
        | refine thenA_ret ?_
        | refine inB_normal ?_
        | refine inB_ret ?_
        | refine inB_here ?_
        | (refine inB_past ?_ ?_; (· exact rfl))
        | refine Holds.reg ?_
        | refine Holds.block ?_
        | refine GS.nil ?_
        | (refine GS.step (s' := ?_) ?_ ?_ ?_; rotate_left; (· exact rfl); (· (simp [go_sem, List.take_of_length_le] <;> with_reducible rfl)))
        | (refine GS.skip ?_ ?_ ?_; (· exact rfl); (· exact rfl))
        | fail
      refine ⟨(i + 1, szRuleF m xs[i]), ⟨hlt, by show (0:Int) ≤ _; omega, (szRuleF_in hm1).2, hsz⟩, by show xs.length - (i + 1) < xs.length - i; omega, ?_⟩
      rw [wr64_id (by omega) (by omega)]
      exact Cov.of id (by simp [ChkT, okr, okr1, lk, ren, ren1]) (by simp [ChkB])
  · have hle : i = xs.length := by
      have : ¬ i < xs.length := by simpa using hl
      omega
    subst hle
    rw [List.drop_length, szL] at hsz
    rw [← hsz]
    repeat' first
      | refine Holds.seq ?_
      | refine Holds.skip ?_
      | refine Holds.exit ?_
      | refine Holds.ret ?_
      | refine thenA_normal ?_
      | refine thenA_exit ?_
      | refine thenA_ret ?_
      | refine inB_normal ?_
      | refine inB_ret ?_
      | refine inB_here ?_
      | (refine inB_past ?_ ?_; (· exact rfl))
      | refine Holds.reg ?_
      | refine Holds.block ?_
      | refine GS.nil ?_
      | (refine GS.step (s' := ?_) ?_ ?_ ?_; rotate_left; (· exact rfl); (· (simp [go_sem, List.take_of_length_le] <;> with_reducible rfl)))
      | (refine GS.skip ?_ ?_ ?_; (· exact rfl); (· exact rfl))
      | fail
    refine Out.mk (xs := ?_) ?_ ?_ (by first | exact .inr rfl | exact .inl rfl)
    rotate_left
    · simp [go_sem, List.take_of_length_le] <;> with_reducible rfl
    exact .v _
abbrev GrammarT := Int × Int × List RuleT
def grammarC (x : GrammarT) : List AV := [.v (.int .i64 x.1), .v (.int .i64 x.2.1), .im 2 (rules x.2.2)]
theorem toGrammar (x : GrammarT) (h0 : (x.2.2).length < 8796093022208) (h1 : ∀ qg2 ∈ (x.2.2), (qg2.2).length < 35184372088832) : Pure Try.prog 8 [.ag (grammarC x)] (.ag (grammarC x)) := by
  refine Pure.mk (rs := [.cell 2 31]) (nt := 15) Try.func8 (by kernel_rfl) rfl rfl rfl (by simp) ?_
  simp only [sl, grammarC]
  repeat' first
    | refine Holds.seq ?_
    | refine Holds.skip ?_
    | refine Holds.exit ?_
    | refine Holds.ret ?_
    | refine thenA_normal ?_
    | refine thenA_exit ?_
    | refine thenA_ret ?_
    | refine inB_normal ?_
    | refine inB_ret ?_
    | refine inB_here ?_
    | (refine inB_past ?_ ?_; (· exact rfl))
    | refine Holds.reg ?_
    | refine Holds.block ?_
    | refine GS.nil ?_
    | (refine GS.step (s' := ?_) ?_ ?_ ?_; rotate_left; (· exact rfl); (· (simp [go_sem, List.take_of_length_le] <;> with_reducible rfl)))
    | (refine GS.skip ?_ ?_ ?_; (· exact rfl); (· exact rfl))
    | fail
  refine GS.cc (toRuleS x.2.2 h0 h1) rfl rfl rfl rfl (by simp [go_sem, List.take_of_length_le] <;> with_reducible rfl) rfl (by simp [go_sem, List.take_of_length_le]) ?_
  repeat' first
    | refine Holds.seq ?_
    | refine Holds.skip ?_
    | refine Holds.exit ?_
    | refine Holds.ret ?_
    | refine thenA_normal ?_
    | refine thenA_exit ?_
    | refine thenA_ret ?_
    | refine inB_normal ?_
    | refine inB_ret ?_
    | refine inB_here ?_
    | (refine inB_past ?_ ?_; (· exact rfl))
    | refine Holds.reg ?_
    | refine Holds.block ?_
    | refine GS.nil ?_
    | (refine GS.step (s' := ?_) ?_ ?_ ?_; rotate_left; (· exact rfl); (· (simp [go_sem, List.take_of_length_le] <;> with_reducible rfl)))
    | (refine GS.skip ?_ ?_ ?_; (· exact rfl); (· exact rfl))
    | fail
  refine Out.mk (xs := ?_) ?_ ?_ (by first | exact .inr rfl | exact .inl rfl)
  rotate_left
  · simp [go_sem, List.take_of_length_le] <;> with_reducible rfl
  exact Fz.cl rfl
theorem eqGrammar (a b : GrammarT) (h0 : (a.2.2).length < 8796093022208) (h1 : ∀ qg2 ∈ (a.2.2), (qg2.2).length < 35184372088832) : Pure Try.prog 11 [.ag (grammarC a), .ag (grammarC b)] (.v (.bool (decide (a = b)))) := by
  refine Pure.mk (rs := [.tmp 4]) (nt := 21) Try.func11 (by kernel_rfl) rfl rfl rfl (by simp) ?_
  simp only [sl, grammarC]
  repeat' first
    | refine Holds.seq ?_
    | refine Holds.skip ?_
    | refine Holds.exit ?_
    | refine Holds.ret ?_
    | refine thenA_normal ?_
    | refine thenA_exit ?_
    | refine thenA_ret ?_
    | refine inB_normal ?_
    | refine inB_ret ?_
    | refine inB_here ?_
    | (refine inB_past ?_ ?_; (· exact rfl))
    | refine Holds.reg ?_
    | refine Holds.block ?_
    | refine GS.nil ?_
    | (refine GS.step (s' := ?_) ?_ ?_ ?_; rotate_left; (· exact rfl); (· (simp [go_sem, List.take_of_length_le] <;> with_reducible rfl)))
    | (refine GS.skip ?_ ?_ ?_; (· exact rfl); (· exact rfl))
    | fail
  refine Holds.cond rfl (fun hl => ?_) (fun g0 => ?_)
  · have : ¬ a = b := by rintro rfl; simp at hl
    simp only [this, decide_false]
    repeat' first
      | refine Holds.seq ?_
      | refine Holds.skip ?_
      | refine Holds.exit ?_
      | refine Holds.ret ?_
      | refine thenA_normal ?_
      | refine thenA_exit ?_
      | refine thenA_ret ?_
      | refine inB_normal ?_
      | refine inB_ret ?_
      | refine inB_here ?_
      | (refine inB_past ?_ ?_; (· exact rfl))
      | refine Holds.reg ?_
      | refine Holds.block ?_
      | refine GS.nil ?_
      | (refine GS.step (s' := ?_) ?_ ?_ ?_; rotate_left; (· exact rfl); (· (simp [go_sem, List.take_of_length_le] <;> with_reducible rfl)))
      | (refine GS.skip ?_ ?_ ?_; (· exact rfl); (· exact rfl))
      | fail
    refine Out.mk (xs := ?_) ?_ ?_ (by first | exact .inr rfl | exact .inl rfl)
    rotate_left
    · simp [go_sem, List.take_of_length_le] <;> with_reducible rfl
    exact .v _
  repeat' first
    | refine Holds.seq ?_
    | refine Holds.skip ?_
    | refine Holds.exit ?_
    | refine Holds.ret ?_
    | refine thenA_normal ?_
    | refine thenA_exit ?_
    | refine thenA_ret ?_
    | refine inB_normal ?_
    | refine inB_ret ?_
    | refine inB_here ?_
    | (refine inB_past ?_ ?_; (· exact rfl))
    | refine Holds.reg ?_
    | refine Holds.block ?_
    | refine GS.nil ?_
    | (refine GS.step (s' := ?_) ?_ ?_ ?_; rotate_left; (· exact rfl); (· (simp [go_sem, List.take_of_length_le] <;> with_reducible rfl)))
    | (refine GS.skip ?_ ?_ ?_; (· exact rfl); (· exact rfl))
    | fail
  refine Holds.cond rfl (fun hl => ?_) (fun g1 => ?_)
  · have : ¬ a = b := by rintro rfl; simp at hl
    simp only [this, decide_false]
    repeat' first
      | refine Holds.seq ?_
      | refine Holds.skip ?_
      | refine Holds.exit ?_
      | refine Holds.ret ?_
      | refine thenA_normal ?_
      | refine thenA_exit ?_
      | refine thenA_ret ?_
      | refine inB_normal ?_
      | refine inB_ret ?_
      | refine inB_here ?_
      | (refine inB_past ?_ ?_; (· exact rfl))
      | refine Holds.reg ?_
      | refine Holds.block ?_
      | refine GS.nil ?_
      | (refine GS.step (s' := ?_) ?_ ?_ ?_; rotate_left; (· exact rfl); (· (simp [go_sem, List.take_of_length_le] <;> with_reducible rfl)))
      | (refine GS.skip ?_ ?_ ?_; (· exact rfl); (· exact rfl))
      | fail
    refine Out.mk (xs := ?_) ?_ ?_ (by first | exact .inr rfl | exact .inl rfl)
    rotate_left
    · simp [go_sem, List.take_of_length_le] <;> with_reducible rfl
    exact .v _
  repeat' first
    | refine Holds.seq ?_
    | refine Holds.skip ?_
    | refine Holds.exit ?_
    | refine Holds.ret ?_
    | refine thenA_normal ?_
    | refine thenA_exit ?_
    | refine thenA_ret ?_
    | refine inB_normal ?_
    | refine inB_ret ?_
    | refine inB_here ?_
    | (refine inB_past ?_ ?_; (· exact rfl))
    | refine Holds.reg ?_
    | refine Holds.block ?_
    | refine GS.nil ?_
    | (refine GS.step (s' := ?_) ?_ ?_ ?_; rotate_left; (· exact rfl); (· (simp [go_sem, List.take_of_length_le] <;> with_reducible rfl)))
    | (refine GS.skip ?_ ?_ ?_; (· exact rfl); (· exact rfl))
    | fail
  refine GS.cc (eqRuleS a.2.2 b.2.2 (by omega) h1) rfl rfl rfl rfl (by simp [go_sem, List.take_of_length_le] <;> with_reducible rfl) rfl (by simp [go_sem, List.take_of_length_le]) ?_
  repeat' first
    | refine Holds.seq ?_
    | refine Holds.skip ?_
    | refine Holds.exit ?_
    | refine Holds.ret ?_
    | refine thenA_normal ?_
    | refine thenA_exit ?_
    | refine thenA_ret ?_
    | refine inB_normal ?_
    | refine inB_ret ?_
    | refine inB_here ?_
    | (refine inB_past ?_ ?_; (· exact rfl))
    | refine Holds.reg ?_
    | refine Holds.block ?_
    | refine GS.nil ?_
    | (refine GS.step (s' := ?_) ?_ ?_ ?_; rotate_left; (· exact rfl); (· (simp [go_sem, List.take_of_length_le] <;> with_reducible rfl)))
    | (refine GS.skip ?_ ?_ ?_; (· exact rfl); (· exact rfl))
    | fail
  refine Holds.cond rfl (fun hl => ?_) (fun g2 => ?_)
  · have : ¬ a = b := by rintro rfl; simp at hl
    simp only [this, decide_false]
    repeat' first
      | refine Holds.seq ?_
      | refine Holds.skip ?_
      | refine Holds.exit ?_
      | refine Holds.ret ?_
      | refine thenA_normal ?_
      | refine thenA_exit ?_
      | refine thenA_ret ?_
      | refine inB_normal ?_
      | refine inB_ret ?_
      | refine inB_here ?_
      | (refine inB_past ?_ ?_; (· exact rfl))
      | refine Holds.reg ?_
      | refine Holds.block ?_
      | refine GS.nil ?_
      | (refine GS.step (s' := ?_) ?_ ?_ ?_; rotate_left; (· exact rfl); (· (simp [go_sem, List.take_of_length_le] <;> with_reducible rfl)))
      | (refine GS.skip ?_ ?_ ?_; (· exact rfl); (· exact rfl))
      | fail
    refine Out.mk (xs := ?_) ?_ ?_ (by first | exact .inr rfl | exact .inl rfl)
    rotate_left
    · simp [go_sem, List.take_of_length_le] <;> with_reducible rfl
    exact .v _
  have : a = b := by
    obtain ⟨a0, a1, a2⟩ := a
    obtain ⟨b0, b1, b2⟩ := b
    simp at g0 g1 g2
    simp [g0, g1, g2]
  simp only [this, decide_true]
  repeat' first
    | refine Holds.seq ?_
    | refine Holds.skip ?_
    | refine Holds.exit ?_
    | refine Holds.ret ?_
    | refine thenA_normal ?_
    | refine thenA_exit ?_
    | refine thenA_ret ?_
    | refine inB_normal ?_
    | refine inB_ret ?_
    | refine inB_here ?_
    | (refine inB_past ?_ ?_; (· exact rfl))
    | refine Holds.reg ?_
    | refine Holds.block ?_
    | refine GS.nil ?_
    | (refine GS.step (s' := ?_) ?_ ?_ ?_; rotate_left; (· exact rfl); (· (simp [go_sem, List.take_of_length_le] <;> with_reducible rfl)))
    | (refine GS.skip ?_ ?_ ?_; (· exact rfl); (· exact rfl))
    | fail
  refine Out.mk (xs := ?_) ?_ ?_ (by first | exact .inr rfl | exact .inl rfl)
  rotate_left
  · simp [go_sem, List.take_of_length_le] <;> with_reducible rfl
  exact .v _
def szGrammarF (n : Int) (x : GrammarT) : Int := szLA szRuleF n x.2.2
theorem szGrammarF_in {n : Int} {x : GrammarT} (h1 : n ≤ 1048576) : -1 ≤ szGrammarF n x ∧ szGrammarF n x ≤ 1048576 := szLA_in (fun n x h => szRuleF_in h) h1
theorem szGrammar (x : GrammarT) (n : Int) (h0 : -1 ≤ n) (h1 : n ≤ 1048576) (k0 : (x.2.2).length < 8796093022208) (k1 : ∀ qg2 ∈ (x.2.2), (qg2.2).length < 35184372088832) : Pure Try.prog 6 [.ag (grammarC x), .v (.int .i64 n)] (.v (.int .i64 (szGrammarF n x))) := by
  refine Pure.mk (rs := [.tmp 4]) (nt := 12) Try.func6 (by kernel_rfl) rfl rfl rfl (by simp) ?_
  simp only [sl, grammarC]
  have hin := szGrammarF_in (x := x) h1
  repeat' first
    | refine Holds.seq ?_
    | refine Holds.skip ?_
    | refine Holds.exit ?_
    | refine Holds.ret ?_
    | refine thenA_normal ?_
    | refine thenA_exit ?_
    | refine thenA_ret ?_
    | refine inB_normal ?_
    | refine inB_ret ?_
    | refine inB_here ?_
    | (refine inB_past ?_ ?_; (· exact rfl))
    | refine Holds.reg ?_
    | refine Holds.block ?_
    | refine GS.nil ?_
    | (refine GS.step (s' := ?_) ?_ ?_ ?_; rotate_left; (· exact rfl); (· (simp [go_sem, List.take_of_length_le] <;> with_reducible rfl)))
    | (refine GS.skip ?_ ?_ ?_; (· exact rfl); (· exact rfl))
    | fail
  refine GS.cc (szRuleS x.2.2 n h0 h1 (by omega) k1) rfl rfl rfl rfl (by simp [go_sem, List.take_of_length_le] <;> with_reducible rfl) rfl (by simp [go_sem, List.take_of_length_le]) ?_
  repeat' first
    | refine Holds.seq ?_
    | refine Holds.skip ?_
    | refine Holds.exit ?_
    | refine Holds.ret ?_
    | refine thenA_normal ?_
    | refine thenA_exit ?_
    | refine thenA_ret ?_
    | refine inB_normal ?_
    | refine inB_ret ?_
    | refine inB_here ?_
    | (refine inB_past ?_ ?_; (· exact rfl))
    | refine Holds.reg ?_
    | refine Holds.block ?_
    | refine GS.nil ?_
    | (refine GS.step (s' := ?_) ?_ ?_ ?_; rotate_left; (· exact rfl); (· (simp [go_sem, List.take_of_length_le] <;> with_reducible rfl)))
    | (refine GS.skip ?_ ?_ ?_; (· exact rfl); (· exact rfl))
    | fail
  refine Holds.cond rfl (fun hl => ?_) (fun hl => ?_)
  · have h : szGrammarF n x < 0 := by simpa [szGrammarF] using hl
    rw [show szGrammarF n x = -1 by omega]
    repeat' first
      | refine Holds.seq ?_
      | refine Holds.skip ?_
      | refine Holds.exit ?_
      | refine Holds.ret ?_
      | refine thenA_normal ?_
      | refine thenA_exit ?_
      | refine thenA_ret ?_
      | refine inB_normal ?_
      | refine inB_ret ?_
      | refine inB_here ?_
      | (refine inB_past ?_ ?_; (· exact rfl))
      | refine Holds.reg ?_
      | refine Holds.block ?_
      | refine GS.nil ?_
      | (refine GS.step (s' := ?_) ?_ ?_ ?_; rotate_left; (· exact rfl); (· (simp [go_sem, List.take_of_length_le] <;> with_reducible rfl)))
      | (refine GS.skip ?_ ?_ ?_; (· exact rfl); (· exact rfl))
      | fail
    refine Out.mk (xs := ?_) ?_ ?_ (by first | exact .inr rfl | exact .inl rfl)
    rotate_left
    · simp [go_sem, List.take_of_length_le] <;> with_reducible rfl
    exact .v _
  · repeat' first
      | refine Holds.seq ?_
      | refine Holds.skip ?_
      | refine Holds.exit ?_
      | refine Holds.ret ?_
      | refine thenA_normal ?_
      | refine thenA_exit ?_
      | refine thenA_ret ?_
      | refine inB_normal ?_
      | refine inB_ret ?_
      | refine inB_here ?_
      | (refine inB_past ?_ ?_; (· exact rfl))
      | refine Holds.reg ?_
      | refine Holds.block ?_
      | refine GS.nil ?_
      | (refine GS.step (s' := ?_) ?_ ?_ ?_; rotate_left; (· exact rfl); (· (simp [go_sem, List.take_of_length_le] <;> with_reducible rfl)))
      | (refine GS.skip ?_ ?_ ?_; (· exact rfl); (· exact rfl))
      | fail
    refine Out.mk (xs := ?_) ?_ ?_ (by first | exact .inr rfl | exact .inl rfl)
    rotate_left
    · simp [go_sem, List.take_of_length_le] <;> with_reducible rfl
    exact .v _
end Go.Proofs.Ytaiefncpgkoniaa.En
