/- Own words and walks of this claim, part 3: what the program's functions compute, for all the arguments that are named; no further conditions. -/
import Derived.Test.YtpnpjkkppndhfaaM2
section
namespace Go.Proofs.Ytpnpjkkppndhfaa.En
open Go.RowKit
set_option linter.unusedSimpArgs false
set_option linter.unusedVariables false
set_option maxHeartbeats 4000000
abbrev DoneT := Int × Int × Int × Int
def doneC (x : DoneT) : List AV := [.v (.int .i64 x.1), .v (.int .i64 x.2.1), .v (.int .i64 x.2.2.1), .v (.int .i64 x.2.2.2)]
def dones (l : List DoneT) : List (List AV) := l.map doneC
@[simp] theorem dones_len (l : List DoneT) : (dones l).length = l.length := by simp [dones]
@[simp] theorem dones_get (l : List DoneT) (i : Nat) : (dones l)[i]? = (l[i]?).map doneC := by simp [dones]
@[simp] theorem dones_gE (l : List DoneT) (i : Nat) (h : i < (dones l).length) : (dones l)[i] = doneC (l[i]'(by simpa using h)) := by simp [dones]
theorem dones_ok (l : List DoneT) : rowsOk (dones l) := by
  intro row hr x hx
  simp only [dones, List.mem_map] at hr
  obtain ⟨n, _, rfl⟩ := hr
  simp only [doneC, List.mem_cons, List.not_mem_nil, or_false] at hx
  rcases hx with rfl | rfl | rfl | rfl <;> rfl
@[simp] theorem nfr_dones (l : List DoneT) : nfr (dones l) := nfr_of_ok (dones_ok l)
abbrev RuleT := Int × List Int
def ruleC (x : RuleT) : List AV := [.v (.int .i64 x.1), .im 1 (ints x.2)]
theorem toRule (x : RuleT) (h0 : (x.2).length < 35184372088832) : Pure Try.prog 49 [.ag (ruleC x)] (.ag (ruleC x)) := by
  refine Pure.mk (rs := [.cell 2 68]) (nt := 12) Try.func49 (by kernel_rfl) rfl rfl rfl (by simp) ?_
  simp only [sl, ruleC]
  repeat' first
    | refine Holds.seq ?_
    | refine Holds.skip ?_
    | refine Holds.exit ?_
    | refine Holds.ret ?_
    | refine thenA_normal ?_
    | refine thenA_exit ?_
    | refine thenA_ret ?_
    | refine inB_normal ?_
    | refine inB_ret ?_
    | refine inB_here ?_
    | (refine inB_past ?_ ?_; (· exact rfl))
    | refine Holds.reg ?_
    | refine Holds.block ?_
    | refine GS.nil ?_
    | (refine GS.step (s' := ?_) ?_ ?_ ?_; rotate_left; (· exact rfl); (· (simp [go_sem, List.take_of_length_le] <;> with_reducible rfl)))
    | (refine GS.skip ?_ ?_ ?_; (· exact rfl); (· exact rfl))
    | fail
  refine GS.cc (toIntS x.2 h0) rfl rfl rfl rfl (by simp [go_sem, List.take_of_length_le] <;> with_reducible rfl) rfl (by simp [go_sem, List.take_of_length_le]) ?_
  repeat' first
    | refine Holds.seq ?_
    | refine Holds.skip ?_
    | refine Holds.exit ?_
    | refine Holds.ret ?_
    | refine thenA_normal ?_
    | refine thenA_exit ?_
    | refine thenA_ret ?_
    | refine inB_normal ?_
    | refine inB_ret ?_
    | refine inB_here ?_
    | (refine inB_past ?_ ?_; (· exact rfl))
    | refine Holds.reg ?_
    | refine Holds.block ?_
    | refine GS.nil ?_
    | (refine GS.step (s' := ?_) ?_ ?_ ?_; rotate_left; (· exact rfl); (· (simp [go_sem, List.take_of_length_le] <;> with_reducible rfl)))
    | (refine GS.skip ?_ ?_ ?_; (· exact rfl); (· exact rfl))
    | fail
  refine Out.mk (xs := ?_) ?_ ?_ (by first | exact .inr rfl | exact .inl rfl)
  rotate_left
  · simp [go_sem, List.take_of_length_le] <;> with_reducible rfl
  exact Fz.cl rfl
theorem eqRule (a b : RuleT) (h0 : (a.2).length < 35184372088832) : Pure Try.prog 51 [.ag (ruleC a), .ag (ruleC b)] (.v (.bool (decide (a = b)))) := by
  refine Pure.mk (rs := [.tmp 4]) (nt := 16) Try.func51 (by kernel_rfl) rfl rfl rfl (by simp) ?_
  simp only [sl, ruleC]
  repeat' first
    | refine Holds.seq ?_
    | refine Holds.skip ?_
    | refine Holds.exit ?_
    | refine Holds.ret ?_
    | refine thenA_normal ?_
    | refine thenA_exit ?_
    | refine thenA_ret ?_
    | refine inB_normal ?_
    | refine inB_ret ?_
    | refine inB_here ?_
    | (refine inB_past ?_ ?_; (· exact rfl))
    | refine Holds.reg ?_
    | refine Holds.block ?_
    | refine GS.nil ?_
    | (refine GS.step (s' := ?_) ?_ ?_ ?_; rotate_left; (· exact rfl); (· (simp [go_sem, List.take_of_length_le] <;> with_reducible rfl)))
    | (refine GS.skip ?_ ?_ ?_; (· exact rfl); (· exact rfl))
    | fail
  refine Holds.cond rfl (fun hl => ?_) (fun g0 => ?_)
  · have : ¬ a = b := by rintro rfl; simp at hl
    simp only [this, decide_false]
    repeat' first
      | refine Holds.seq ?_
      | refine Holds.skip ?_
      | refine Holds.exit ?_
      | refine Holds.ret ?_
      | refine thenA_normal ?_
      | refine thenA_exit ?_
      | refine thenA_ret ?_
      | refine inB_normal ?_
      | refine inB_ret ?_
      | refine inB_here ?_
      | (refine inB_past ?_ ?_; (· exact rfl))
      | refine Holds.reg ?_
      | refine Holds.block ?_
      | refine GS.nil ?_
      | (refine GS.step (s' := ?_) ?_ ?_ ?_; rotate_left; (· exact rfl); (· (simp [go_sem, List.take_of_length_le] <;> with_reducible rfl)))
      | (refine GS.skip ?_ ?_ ?_; (· exact rfl); (· exact rfl))
      | fail
    refine Out.mk (xs := ?_) ?_ ?_ (by first | exact .inr rfl | exact .inl rfl)
    rotate_left
    · simp [go_sem, List.take_of_length_le] <;> with_reducible rfl
    exact .v _
  repeat' first
    | refine Holds.seq ?_
    | refine Holds.skip ?_
    | refine Holds.exit ?_
    | refine Holds.ret ?_
    | refine thenA_normal ?_
    | refine thenA_exit ?_
    | refine thenA_ret ?_
    | refine inB_normal ?_
    | refine inB_ret ?_
    | refine inB_here ?_
    | (refine inB_past ?_ ?_; (· exact rfl))
    | refine Holds.reg ?_
    | refine Holds.block ?_
    | refine GS.nil ?_
    | (refine GS.step (s' := ?_) ?_ ?_ ?_; rotate_left; (· exact rfl); (· (simp [go_sem, List.take_of_length_le] <;> with_reducible rfl)))
    | (refine GS.skip ?_ ?_ ?_; (· exact rfl); (· exact rfl))
    | fail
  refine GS.cc (eqIntS a.2 b.2 (by omega)) rfl rfl rfl rfl (by simp [go_sem, List.take_of_length_le] <;> with_reducible rfl) rfl (by simp [go_sem, List.take_of_length_le]) ?_
  repeat' first
    | refine Holds.seq ?_
    | refine Holds.skip ?_
    | refine Holds.exit ?_
    | refine Holds.ret ?_
    | refine thenA_normal ?_
    | refine thenA_exit ?_
    | refine thenA_ret ?_
    | refine inB_normal ?_
    | refine inB_ret ?_
    | refine inB_here ?_
    | (refine inB_past ?_ ?_; (· exact rfl))
    | refine Holds.reg ?_
    | refine Holds.block ?_
    | refine GS.nil ?_
    | (refine GS.step (s' := ?_) ?_ ?_ ?_; rotate_left; (· exact rfl); (· (simp [go_sem, List.take_of_length_le] <;> with_reducible rfl)))
    | (refine GS.skip ?_ ?_ ?_; (· exact rfl); (· exact rfl))
    | fail
  refine Holds.cond rfl (fun hl => ?_) (fun g1 => ?_)
  · have : ¬ a = b := by rintro rfl; simp at hl
    simp only [this, decide_false]
    repeat' first
      | refine Holds.seq ?_
      | refine Holds.skip ?_
      | refine Holds.exit ?_
      | refine Holds.ret ?_
      | refine thenA_normal ?_
      | refine thenA_exit ?_
      | refine thenA_ret ?_
      | refine inB_normal ?_
      | refine inB_ret ?_
      | refine inB_here ?_
      | (refine inB_past ?_ ?_; (· exact rfl))
      | refine Holds.reg ?_
      | refine Holds.block ?_
      | refine GS.nil ?_
      | (refine GS.step (s' := ?_) ?_ ?_ ?_; rotate_left; (· exact rfl); (· (simp [go_sem, List.take_of_length_le] <;> with_reducible rfl)))
      | (refine GS.skip ?_ ?_ ?_; (· exact rfl); (· exact rfl))
      | fail
    refine Out.mk (xs := ?_) ?_ ?_ (by first | exact .inr rfl | exact .inl rfl)
    rotate_left
    · simp [go_sem, List.take_of_length_le] <;> with_reducible rfl
    exact .v _
  have : a = b := by
    obtain ⟨a0, a1⟩ := a
    obtain ⟨b0, b1⟩ := b
    simp at g0 g1
    simp [g0, g1]
  simp only [this, decide_true]
  repeat' first
    | refine Holds.seq ?_
    | refine Holds.skip ?_
    | refine Holds.exit ?_
    | refine Holds.ret ?_
    | refine thenA_normal ?_
    | refine thenA_exit ?_
    | refine thenA_ret ?_
    | refine inB_normal ?_
    | refine inB_ret ?_
    | refine inB_here ?_
    | (refine inB_past ?_ ?_; (· exact rfl))
    | refine Holds.reg ?_
    | refine Holds.block ?_
    | refine GS.nil ?_
    | (refine GS.step (s' := ?_) ?_ ?_ ?_; rotate_left; (· exact rfl); (· (simp [go_sem, List.take_of_length_le] <;> with_reducible rfl)))
    | (refine GS.skip ?_ ?_ ?_; (· exact rfl); (· exact rfl))
    | fail
  refine Out.mk (xs := ?_) ?_ ?_ (by first | exact .inr rfl | exact .inl rfl)
  rotate_left
  · simp [go_sem, List.take_of_length_le] <;> with_reducible rfl
  exact .v _
def szRuleF (n : Int) (x : RuleT) : Int := less n x.2.length
theorem szRuleF_in {n : Int} {x : RuleT} (h1 : n ≤ 1048576) : -1 ≤ szRuleF n x ∧ szRuleF n x ≤ 1048576 := less_in h1
theorem szRule (x : RuleT) (n : Int) (h0 : -1 ≤ n) (h1 : n ≤ 1048576) (k0 : (x.2).length < 35184372088832) : Pure Try.prog 45 [.ag (ruleC x), .v (.int .i64 n)] (.v (.int .i64 (szRuleF n x))) := by
  refine Pure.mk (rs := [.tmp 4]) (nt := 12) Try.func45 (by kernel_rfl) rfl rfl rfl (by simp) ?_
  simp only [sl, ruleC]
  have hin := szRuleF_in (x := x) h1
  repeat' first
    | refine Holds.seq ?_
    | refine Holds.skip ?_
    | refine Holds.exit ?_
    | refine Holds.ret ?_
    | refine thenA_normal ?_
    | refine thenA_exit ?_
    | refine thenA_ret ?_
    | refine inB_normal ?_
    | refine inB_ret ?_
    | refine inB_here ?_
    | (refine inB_past ?_ ?_; (· exact rfl))
    | refine Holds.reg ?_
    | refine Holds.block ?_
    | refine GS.nil ?_
    | (refine GS.step (s' := ?_) ?_ ?_ ?_; rotate_left; (· exact rfl); (· (simp [go_sem, List.take_of_length_le] <;> with_reducible rfl)))
    | (refine GS.skip ?_ ?_ ?_; (· exact rfl); (· exact rfl))
    | fail
  refine GS.cc (szIntS x.2 n h0 h1 (by omega)) rfl rfl rfl rfl (by simp [go_sem, List.take_of_length_le] <;> with_reducible rfl) rfl (by simp [go_sem, List.take_of_length_le]) ?_
  repeat' first
    | refine Holds.seq ?_
    | refine Holds.skip ?_
    | refine Holds.exit ?_
    | refine Holds.ret ?_
    | refine thenA_normal ?_
    | refine thenA_exit ?_
    | refine thenA_ret ?_
    | refine inB_normal ?_
    | refine inB_ret ?_
    | refine inB_here ?_
    | (refine inB_past ?_ ?_; (· exact rfl))
    | refine Holds.reg ?_
    | refine Holds.block ?_
    | refine GS.nil ?_
    | (refine GS.step (s' := ?_) ?_ ?_ ?_; rotate_left; (· exact rfl); (· (simp [go_sem, List.take_of_length_le] <;> with_reducible rfl)))
    | (refine GS.skip ?_ ?_ ?_; (· exact rfl); (· exact rfl))
    | fail
  refine Holds.cond rfl (fun hl => ?_) (fun hl => ?_)
  · have h : szRuleF n x < 0 := by simpa [szRuleF] using hl
    rw [show szRuleF n x = -1 by omega]
    repeat' first
      | refine Holds.seq ?_
      | refine Holds.skip ?_
      | refine Holds.exit ?_
      | refine Holds.ret ?_
      | refine thenA_normal ?_
      | refine thenA_exit ?_
      | refine thenA_ret ?_
      | refine inB_normal ?_
      | refine inB_ret ?_
      | refine inB_here ?_
      | (refine inB_past ?_ ?_; (· exact rfl))
      | refine Holds.reg ?_
      | refine Holds.block ?_
      | refine GS.nil ?_
      | (refine GS.step (s' := ?_) ?_ ?_ ?_; rotate_left; (· exact rfl); (· (simp [go_sem, List.take_of_length_le] <;> with_reducible rfl)))
      | (refine GS.skip ?_ ?_ ?_; (· exact rfl); (· exact rfl))
      | fail
    refine Out.mk (xs := ?_) ?_ ?_ (by first | exact .inr rfl | exact .inl rfl)
    rotate_left
    · simp [go_sem, List.take_of_length_le] <;> with_reducible rfl
    exact .v _
  · repeat' first
      | refine Holds.seq ?_
      | refine Holds.skip ?_
      | refine Holds.exit ?_
      | refine Holds.ret ?_
      | refine thenA_normal ?_
      | refine thenA_exit ?_
      | refine thenA_ret ?_
      | refine inB_normal ?_
      | refine inB_ret ?_
      | refine inB_here ?_
      | (refine inB_past ?_ ?_; (· exact rfl))
      | refine Holds.reg ?_
      | refine Holds.block ?_
      | refine GS.nil ?_
      | (refine GS.step (s' := ?_) ?_ ?_ ?_; rotate_left; (· exact rfl); (· (simp [go_sem, List.take_of_length_le] <;> with_reducible rfl)))
      | (refine GS.skip ?_ ?_ ?_; (· exact rfl); (· exact rfl))
      | fail
    refine Out.mk (xs := ?_) ?_ ?_ (by first | exact .inr rfl | exact .inl rfl)
    rotate_left
    · simp [go_sem, List.take_of_length_le] <;> with_reducible rfl
    exact .v _
def rules (l : List RuleT) : List (List AV) := l.map ruleC
@[simp] theorem rules_len (l : List RuleT) : (rules l).length = l.length := by simp [rules]
@[simp] theorem rules_get (l : List RuleT) (i : Nat) : (rules l)[i]? = (l[i]?).map ruleC := by simp [rules]
@[simp] theorem rules_gE (l : List RuleT) (i : Nat) (h : i < (rules l).length) : (rules l)[i] = ruleC (l[i]'(by simpa using h)) := by simp [rules]
theorem rules_ok (l : List RuleT) : rowsOk (rules l) := by
  intro row hr x hx
  simp only [rules, List.mem_map] at hr
  obtain ⟨n, _, rfl⟩ := hr
  simp only [ruleC, List.mem_cons, List.not_mem_nil, or_false] at hx
  rcases hx with rfl | rfl <;> rfl
@[simp] theorem nfr_rules (l : List RuleT) : nfr (rules l) := nfr_of_ok (rules_ok l)
theorem toRuleS (l : List RuleT) (hx : l.length < 8796093022208) (hs : ∀ e ∈ l, (e.2).length < 35184372088832) : Pure Try.prog 27 [.im 2 (rules l)] (.im 2 (rules l)) := by
  refine Pure.mk (rs := [.tmp 2]) (nt := 23) Try.func27 (by kernel_rfl) rfl rfl rfl (by simp) ?_
  simp only [sl]
  repeat' first
    | refine Holds.seq ?_
    | refine Holds.skip ?_
    | refine Holds.exit ?_
    | refine Holds.ret ?_
    | refine thenA_normal ?_
    | refine thenA_exit ?_
    | refine thenA_ret ?_
    | refine inB_normal ?_
    | refine inB_ret ?_
    | refine inB_here ?_
    | (refine inB_past ?_ ?_; (· exact rfl))
    | refine Holds.reg ?_
    | refine Holds.block ?_
    | refine GS.nil ?_
    | (refine GS.step (s' := ?_) ?_ ?_ ?_; rotate_left; (· exact rfl); (· (simp [go_sem, List.take_of_length_le, (show (0:Int) ≤ (l.length : Int) by omega), (show (32:Int) * l.length ≤ 281474976710656 by omega), (show (l.length : Int) ≤ 281474976710656 by omega)] <;> with_reducible rfl)))
    | (refine GS.skip ?_ ?_ ?_; (· exact rfl); (· exact rfl))
    | fail
  refine Holds.loop (ι := Nat) (fun i => ⟨[(0, .im 2 (rules l)), (3, .own 0 2 0 l.length), (4, .v (.int .i64 i))], [(0, ⟨68, 2, half (rules l) [.v (.int .i64 0), .v (.slice none 0 0)] i⟩)], 1⟩) (fun i => i ≤ l.length) (fun i => l.length - i) 0 (Nat.zero_le _) ?_ ?_
  · exact Cov.of id (by simp [ChkT, okr, okr1, lk, ren, ren1]) (by simp [ChkB, lb, BlkC, half, nf])
  intro i hi
  repeat' first
    | refine Holds.seq ?_
    | refine Holds.skip ?_
    | refine Holds.exit ?_
    | refine Holds.ret ?_
    | refine thenA_normal ?_
    | refine thenA_exit ?_
    | refine thenA_ret ?_
    | refine inB_normal ?_
    | refine inB_ret ?_
    | refine inB_here ?_
    | (refine inB_past ?_ ?_; (· exact rfl))
    | refine Holds.reg ?_
    | refine Holds.block ?_
    | refine GS.nil ?_
    | (refine GS.step (s' := ?_) ?_ ?_ ?_; rotate_left; (· exact rfl); (· (simp [go_sem, List.take_of_length_le] <;> with_reducible rfl)))
    | (refine GS.skip ?_ ?_ ?_; (· exact rfl); (· exact rfl))
    | fail
  refine Holds.cond rfl (fun hl => ?_) (fun hl => ?_)
  · have hlt : i < l.length := by simpa using hl
    have hxi : l[i]? = some l[i] := List.getElem?_eq_getElem hlt
    have hhi := half_get (rules l) [.v (.int .i64 0), .v (.slice none 0 0)] i (by simpa using hlt)
    have hhs := half_set (rules l) [.v (.int .i64 0), .v (.slice none 0 0)] i (by simpa using hlt) (ruleC l[i]) (by simp [hxi])
    simp only [ruleC] at hhs
    repeat' first
      | refine Holds.seq ?_
      | refine Holds.skip ?_
      | refine Holds.exit ?_
      | refine Holds.ret ?_
      | refine thenA_normal ?_
      | refine thenA_exit ?_
      | refine thenA_ret ?_
      | refine inB_normal ?_
      | refine inB_ret ?_
      | refine inB_here ?_
      | (refine inB_past ?_ ?_; (· exact rfl))
      | refine Holds.reg ?_
      | refine Holds.block ?_
      | refine GS.nil ?_
      | (refine GS.step (s' := ?_) ?_ ?_ ?_; rotate_left; (· exact rfl); (· (simp [go_sem, List.take_of_length_le, hxi, hlt, ruleC] <;> with_reducible rfl)))
      | (refine GS.skip ?_ ?_ ?_; (· exact rfl); (· exact rfl))
      | fail
    refine GS.cc (toRule l[i] (hs _ (List.getElem_mem hlt))) rfl rfl rfl rfl (by simp [go_sem, List.take_of_length_le, ruleC] <;> with_reducible rfl) rfl (by simp [go_sem, List.take_of_length_le, ruleC]) ?_
    repeat' first
      | refine Holds.seq ?_
      | refine Holds.skip ?_
      | refine Holds.exit ?_
      | refine Holds.ret ?_
      | refine thenA_normal ?_
      | refine thenA_exit ?_
      | refine thenA_ret ?_
      | refine inB_normal ?_
      | refine inB_ret ?_
      | refine inB_here ?_
      | (refine inB_past ?_ ?_; (· exact rfl))
      | refine Holds.reg ?_
      | refine Holds.block ?_
      | refine GS.nil ?_
      | (refine GS.step (s' := ?_) ?_ ?_ ?_; rotate_left; (· exact rfl); (· (simp [go_sem, List.take_of_length_le, hxi, hlt, hhi, hhs, ruleC] <;> with_reducible rfl)))
      | (refine GS.skip ?_ ?_ ?_; (· exact rfl); (· exact rfl))
      | fail
    refine ⟨i + 1, by omega, by omega, ?_⟩
    rw [wr64_id (by omega) (by omega)]
    exact Cov.of id (by simp [ChkT, okr, okr1, lk, ren, ren1]) (by simp [ChkB, lb, BlkC]; exact .inl (half_ok (rules_ok l) (by simp [cl1])).nf)
  · have hle : i = l.length := by
      have : ¬ i < l.length := by simpa using hl
      omega
    subst hle
    rw [show half (rules l) [.v (.int .i64 0), .v (.slice none 0 0)] l.length = rules l by have := half_all (rules l) ([.v (.int .i64 0), .v (.slice none 0 0)] : List AV); rwa [rules_len] at this]
    repeat' first
      | refine Holds.seq ?_
      | refine Holds.skip ?_
      | refine Holds.exit ?_
      | refine Holds.ret ?_
      | refine thenA_normal ?_
      | refine thenA_exit ?_
      | refine thenA_ret ?_
      | refine inB_normal ?_
      | refine inB_ret ?_
      | refine inB_here ?_
      | (refine inB_past ?_ ?_; (· exact rfl))
      | refine Holds.reg ?_
      | refine Holds.block ?_
      | refine GS.nil ?_
      | (refine GS.step (s' := ?_) ?_ ?_ ?_; rotate_left; (· exact rfl); (· (simp [go_sem, List.take_of_length_le] <;> with_reducible rfl)))
      | (refine GS.skip ?_ ?_ ?_; (· exact rfl); (· exact rfl))
      | fail
    refine Out.mk (xs := ?_) ?_ ?_ (by first | exact .inr rfl | exact .inl rfl)
    rotate_left
    · simp [go_sem, List.take_of_length_le] <;> with_reducible rfl
    exact Fz.all rfl rfl (by simp) rfl (rules_ok l)
theorem eqRuleS (xs ys : List RuleT) (hx : xs.length < 4611686018427387904) (hs : ∀ e ∈ xs, (e.2).length < 35184372088832) : Pure Try.prog 30 [.im 2 (rules xs), .im 2 (rules ys)] (.v (.bool (decide (xs = ys)))) := by
  refine Pure.mk (rs := [.tmp 4]) (nt := 27) Try.func30 (by kernel_rfl) rfl rfl rfl (by simp) ?_
  simp only [sl]
  repeat' first
    | refine Holds.seq ?_
    | refine Holds.skip ?_
    | refine Holds.exit ?_
    | refine Holds.ret ?_
    | refine thenA_normal ?_
    | refine thenA_exit ?_
    | refine thenA_ret ?_
    | refine inB_normal ?_
    | refine inB_ret ?_
    | refine inB_here ?_
    | (refine inB_past ?_ ?_; (· exact rfl))
    | refine Holds.reg ?_
    | refine Holds.block ?_
    | refine GS.nil ?_
    | refine Gd.nil ?_
    | (refine Holds.any mixed ?_ ?_; (· kernel_rfl))
    | (refine GS.step (s' := ?_) ?_ ?_ ?_; rotate_left; (· exact rfl); (· (simp [go_sem, List.take_of_length_le] <;> with_reducible rfl)))
    | (refine GS.skip ?_ ?_ ?_; (· exact rfl); (· exact rfl))
    | (refine Gd.go (s' := ?_) ?_ ?_ ?_; rotate_left; (· exact rfl); (· (simp [go_sem, List.take_of_length_le] <;> with_reducible rfl)))
    | (refine Gd.skip ?_ ?_ ?_; (· exact rfl); (· exact rfl))
    | fail
  refine Holds.cond rfl (fun hl => ?_) (fun hl => ?_)
  · have : ¬ xs = ys := by rintro rfl; simp at hl
    simp only [this, decide_false]
    repeat' first
      | refine Holds.seq ?_
      | refine Holds.skip ?_
      | refine Holds.exit ?_
      | refine Holds.ret ?_
      | refine thenA_normal ?_
      | refine thenA_exit ?_
      | refine thenA_ret ?_
      | refine inB_normal ?_
      | refine inB_ret ?_
      | refine inB_here ?_
      | (refine inB_past ?_ ?_; (· exact rfl))
      | refine Holds.reg ?_
      | refine Holds.block ?_
      | refine GS.nil ?_
      | refine Gd.nil ?_
      | (refine Holds.any mixed ?_ ?_; (· kernel_rfl))
      | (refine GS.step (s' := ?_) ?_ ?_ ?_; rotate_left; (· exact rfl); (· (simp [go_sem, List.take_of_length_le] <;> with_reducible rfl)))
      | (refine GS.skip ?_ ?_ ?_; (· exact rfl); (· exact rfl))
      | (refine Gd.go (s' := ?_) ?_ ?_ ?_; rotate_left; (· exact rfl); (· (simp [go_sem, List.take_of_length_le] <;> with_reducible rfl)))
      | (refine Gd.skip ?_ ?_ ?_; (· exact rfl); (· exact rfl))
      | fail
    refine Out.mk (xs := ?_) ?_ ?_ (by first | exact .inr rfl | exact .inl rfl)
    rotate_left
    · simp [go_sem, List.take_of_length_le] <;> with_reducible rfl
    exact .v _
  · have hlen : xs.length = ys.length := by
      have : (xs.length : Int) = ys.length := by simpa using hl
      omega
    repeat' first
      | refine Holds.seq ?_
      | refine Holds.skip ?_
      | refine Holds.exit ?_
      | refine Holds.ret ?_
      | refine thenA_normal ?_
      | refine thenA_exit ?_
      | refine thenA_ret ?_
      | refine inB_normal ?_
      | refine inB_ret ?_
      | refine inB_here ?_
      | (refine inB_past ?_ ?_; (· exact rfl))
      | refine Holds.reg ?_
      | refine Holds.block ?_
      | refine GS.nil ?_
      | refine Gd.nil ?_
      | (refine Holds.any mixed ?_ ?_; (· kernel_rfl))
      | (refine GS.step (s' := ?_) ?_ ?_ ?_; rotate_left; (· exact rfl); (· (simp [go_sem, List.take_of_length_le] <;> with_reducible rfl)))
      | (refine GS.skip ?_ ?_ ?_; (· exact rfl); (· exact rfl))
      | (refine Gd.go (s' := ?_) ?_ ?_ ?_; rotate_left; (· exact rfl); (· (simp [go_sem, List.take_of_length_le] <;> with_reducible rfl)))
      | (refine Gd.skip ?_ ?_ ?_; (· exact rfl); (· exact rfl))
      | fail
    refine Holds.loop (ι := Nat) (fun i => ⟨[(0, .im 2 (rules xs)), (1, .im 2 (rules ys)), (5, .v (.int .i64 i))], [], 0⟩) (fun i => i ≤ xs.length ∧ xs.take i = ys.take i) (fun i => xs.length - i) 0 ⟨Nat.zero_le _, rfl⟩ ?_ ?_
    · exact Cov.of id (by simp [ChkT, okr, okr1, lk, ren, ren1]) (by simp [ChkB])
    rintro i ⟨hi, htk⟩
    repeat' first
      | refine Holds.seq ?_
      | refine Holds.skip ?_
      | refine Holds.exit ?_
      | refine Holds.ret ?_
      | refine thenA_normal ?_
      | refine thenA_exit ?_
      | refine thenA_ret ?_
      | refine inB_normal ?_
      | refine inB_ret ?_
      | refine inB_here ?_
      | (refine inB_past ?_ ?_; (· exact rfl))
      | refine Holds.reg ?_
      | refine Holds.block ?_
      | refine GS.nil ?_
      | refine Gd.nil ?_
      | (refine Holds.any mixed ?_ ?_; (· kernel_rfl))
      | (refine GS.step (s' := ?_) ?_ ?_ ?_; rotate_left; (· exact rfl); (· (simp [go_sem, List.take_of_length_le] <;> with_reducible rfl)))
      | (refine GS.skip ?_ ?_ ?_; (· exact rfl); (· exact rfl))
      | (refine Gd.go (s' := ?_) ?_ ?_ ?_; rotate_left; (· exact rfl); (· (simp [go_sem, List.take_of_length_le] <;> with_reducible rfl)))
      | (refine Gd.skip ?_ ?_ ?_; (· exact rfl); (· exact rfl))
      | fail
    refine Holds.cond rfl (fun hl => ?_) (fun hl => ?_)
    · have hlt : i < xs.length := by simpa using hl
      have hxi : xs[i]? = some xs[i] := List.getElem?_eq_getElem hlt
      have hyi : ys[i]? = some ys[i] := List.getElem?_eq_getElem (by omega)
      repeat' first
        | refine Holds.seq ?_
        | refine Holds.skip ?_
        | refine Holds.exit ?_
        | refine Holds.ret ?_
        | refine thenA_normal ?_
        | refine thenA_exit ?_
        | refine thenA_ret ?_
        | refine inB_normal ?_
        | refine inB_ret ?_
        | refine inB_here ?_
        | (refine inB_past ?_ ?_; (· exact rfl))
        | refine Holds.reg ?_
        | refine Holds.block ?_
        | refine GS.nil ?_
        | refine Gd.nil ?_
        | (refine Holds.any mixed ?_ ?_; (· kernel_rfl))
        | (refine GS.step (s' := ?_) ?_ ?_ ?_; rotate_left; (· exact rfl); (· (simp [go_sem, List.take_of_length_le, hxi, hyi, ruleC] <;> with_reducible rfl)))
        | (refine GS.skip ?_ ?_ ?_; (· exact rfl); (· exact rfl))
        | (refine Gd.go (s' := ?_) ?_ ?_ ?_; rotate_left; (· exact rfl); (· (simp [go_sem, List.take_of_length_le, hxi, hyi, ruleC] <;> with_reducible rfl)))
        | (refine Gd.skip ?_ ?_ ?_; (· exact rfl); (· exact rfl))
        | fail
      first | refine GS.cc (eqRule xs[i] ys[i] (hs _ (List.getElem_mem hlt))) rfl rfl rfl rfl (by simp [go_sem, List.take_of_length_le, ruleC] <;> with_reducible rfl) rfl (by simp [go_sem, List.take_of_length_le, ruleC]) ?_ | refine Gd.cc (eqRule xs[i] ys[i] (hs _ (List.getElem_mem hlt))) rfl rfl rfl rfl (by simp [go_sem, List.take_of_length_le, ruleC] <;> with_reducible rfl) rfl (by simp [go_sem, List.take_of_length_le, ruleC]) ?_
      repeat' first
        | refine Holds.seq ?_
        | refine Holds.skip ?_
        | refine Holds.exit ?_
        | refine Holds.ret ?_
        | refine thenA_normal ?_
        | refine thenA_exit ?_
        | refine thenA_ret ?_
        | refine inB_normal ?_
        | refine inB_ret ?_
        | refine inB_here ?_
        | (refine inB_past ?_ ?_; (· exact rfl))
        | refine Holds.reg ?_
        | refine Holds.block ?_
        | refine GS.nil ?_
        | refine Gd.nil ?_
        | (refine Holds.any mixed ?_ ?_; (· kernel_rfl))
        | (refine GS.step (s' := ?_) ?_ ?_ ?_; rotate_left; (· exact rfl); (· (simp [go_sem, List.take_of_length_le] <;> with_reducible rfl)))
        | (refine GS.skip ?_ ?_ ?_; (· exact rfl); (· exact rfl))
        | (refine Gd.go (s' := ?_) ?_ ?_ ?_; rotate_left; (· exact rfl); (· (simp [go_sem, List.take_of_length_le] <;> with_reducible rfl)))
        | (refine Gd.skip ?_ ?_ ?_; (· exact rfl); (· exact rfl))
        | fail
      refine Holds.cond rfl (fun hl => ?_) (fun hl => ?_)
      · have hne : ¬ xs = ys := ne_at hxi hyi (by simpa using hl)
        simp only [hne, decide_false]
        repeat' first
          | refine Holds.seq ?_
          | refine Holds.skip ?_
          | refine Holds.exit ?_
          | refine Holds.ret ?_
          | refine thenA_normal ?_
          | refine thenA_exit ?_
          | refine thenA_ret ?_
          | refine inB_normal ?_
          | refine inB_ret ?_
          | refine inB_here ?_
          | (refine inB_past ?_ ?_; (· exact rfl))
          | refine Holds.reg ?_
          | refine Holds.block ?_
          | refine GS.nil ?_
          | refine Gd.nil ?_
          | (refine Holds.any mixed ?_ ?_; (· kernel_rfl))
          | (refine GS.step (s' := ?_) ?_ ?_ ?_; rotate_left; (· exact rfl); (· (simp [go_sem, List.take_of_length_le] <;> with_reducible rfl)))
          | (refine GS.skip ?_ ?_ ?_; (· exact rfl); (· exact rfl))
          | (refine Gd.go (s' := ?_) ?_ ?_ ?_; rotate_left; (· exact rfl); (· (simp [go_sem, List.take_of_length_le] <;> with_reducible rfl)))
          | (refine Gd.skip ?_ ?_ ?_; (· exact rfl); (· exact rfl))
          | fail
        refine Out.mk (xs := ?_) ?_ ?_ (by first | exact .inr rfl | exact .inl rfl)
        rotate_left
        · simp [go_sem, List.take_of_length_le] <;> with_reducible rfl
        exact .v _
      · have he : xs[i] = ys[i] := by simpa using hl
        repeat' first
          | refine Holds.seq ?_
          | refine Holds.skip ?_
          | refine Holds.exit ?_
          | refine Holds.ret ?_
          | refine thenA_normal ?_
          | refine thenA_exit ?_
          | refine thenA_ret ?_
          | refine inB_normal ?_
          | refine inB_ret ?_
          | refine inB_here ?_
          | (refine inB_past ?_ ?_; (· exact rfl))
          | refine Holds.reg ?_
          | refine Holds.block ?_
          | refine GS.nil ?_
          | refine Gd.nil ?_
          | (refine Holds.any mixed ?_ ?_; (· kernel_rfl))
          | (refine GS.step (s' := ?_) ?_ ?_ ?_; rotate_left; (· exact rfl); (· (simp [go_sem, List.take_of_length_le] <;> with_reducible rfl)))
          | (refine GS.skip ?_ ?_ ?_; (· exact rfl); (· exact rfl))
          | (refine Gd.go (s' := ?_) ?_ ?_ ?_; rotate_left; (· exact rfl); (· (simp [go_sem, List.take_of_length_le] <;> with_reducible rfl)))
          | (refine Gd.skip ?_ ?_ ?_; (· exact rfl); (· exact rfl))
          | fail
        refine ⟨i + 1, ⟨by omega, (take_next hxi hyi htk).2 he⟩, by omega, ?_⟩
        rw [wr64_id (by omega) (by omega)]
        exact Cov.of id (by simp [ChkT, okr, okr1, lk, ren, ren1]) (by simp [ChkB])
    · have hle : i = xs.length := by
        have : ¬ i < xs.length := by simpa using hl
        omega
      have he : xs = ys := by
        subst hle
        rw [List.take_length, hlen, List.take_length] at htk
        exact htk
      simp only [he, decide_true]
      repeat' first
        | refine Holds.seq ?_
        | refine Holds.skip ?_
        | refine Holds.exit ?_
        | refine Holds.ret ?_
        | refine thenA_normal ?_
        | refine thenA_exit ?_
        | refine thenA_ret ?_
        | refine inB_normal ?_
        | refine inB_ret ?_
        | refine inB_here ?_
        | (refine inB_past ?_ ?_; (· exact rfl))
        | refine Holds.reg ?_
        | refine Holds.block ?_
        | refine GS.nil ?_
        | refine Gd.nil ?_
        | (refine Holds.any mixed ?_ ?_; (· kernel_rfl))
        | (refine GS.step (s' := ?_) ?_ ?_ ?_; rotate_left; (· exact rfl); (· (simp [go_sem, List.take_of_length_le] <;> with_reducible rfl)))
        | (refine GS.skip ?_ ?_ ?_; (· exact rfl); (· exact rfl))
        | (refine Gd.go (s' := ?_) ?_ ?_ ?_; rotate_left; (· exact rfl); (· (simp [go_sem, List.take_of_length_le] <;> with_reducible rfl)))
        | (refine Gd.skip ?_ ?_ ?_; (· exact rfl); (· exact rfl))
        | fail
      refine Out.mk (xs := ?_) ?_ ?_ (by first | exact .inr rfl | exact .inl rfl)
      rotate_left
      · simp [go_sem, List.take_of_length_le] <;> with_reducible rfl
      exact .v _
theorem szRuleS (xs : List RuleT) (n : Int) (h0 : -1 ≤ n) (h1 : n ≤ 1048576) (hx : xs.length < 4611686018427387904) (hs : ∀ e ∈ xs, (e.2).length < 35184372088832) : Pure Try.prog 23 [.im 2 (rules xs), .v (.int .i64 n)] (.v (.int .i64 (szLA szRuleF n xs))) := by
  refine Pure.mk (rs := [.tmp 4]) (nt := 27) Try.func23 (by kernel_rfl) rfl rfl rfl (by simp) ?_
  simp only [sl]
  have hw : wr64 (n - xs.length) = n - xs.length := wr64_id (by omega) (by omega)
  repeat' first
    | refine Holds.seq ?_
    | refine Holds.skip ?_
    | refine Holds.exit ?_
    | refine Holds.ret ?_
    | refine thenA_normal ?_
    | refine thenA_exit ?_
    | refine thenA_ret ?_
    | refine inB_normal ?_
    | refine inB_ret ?_
    | refine inB_here ?_
    | (refine inB_past ?_ ?_; (· exact rfl))
    | refine Holds.reg ?_
    | refine Holds.block ?_
    | refine GS.nil ?_
    | (refine GS.step (s' := ?_) ?_ ?_ ?_; rotate_left; (· exact rfl); (· (simp [go_sem, List.take_of_length_le, hw] <;> with_reducible rfl)))
    | (refine GS.skip ?_ ?_ ?_; (· exact rfl); (· exact rfl))
    | fail
  refine Holds.cond rfl (fun hl => ?_) (fun hl => ?_)
  · have : n - xs.length < 0 := by simpa using hl
    simp only [szLA, if_pos this]
    repeat' first
      | refine Holds.seq ?_
      | refine Holds.skip ?_
      | refine Holds.exit ?_
      | refine Holds.ret ?_
      | refine thenA_normal ?_
      | refine thenA_exit ?_
      | refine thenA_ret ?_
      | refine inB_normal ?_
      | refine inB_ret ?_
      | refine inB_here ?_
      | (refine inB_past ?_ ?_; (· exact rfl))
      | refine Holds.reg ?_
      | refine Holds.block ?_
      | refine GS.nil ?_
      | (refine GS.step (s' := ?_) ?_ ?_ ?_; rotate_left; (· exact rfl); (· (simp [go_sem, List.take_of_length_le] <;> with_reducible rfl)))
      | (refine GS.skip ?_ ?_ ?_; (· exact rfl); (· exact rfl))
      | fail
    refine Out.mk (xs := ?_) ?_ ?_ (by first | exact .inr rfl | exact .inl rfl)
    rotate_left
    · simp [go_sem, List.take_of_length_le] <;> with_reducible rfl
    exact .v _
  have hnn : ¬ n - xs.length < 0 := by simpa using hl
  simp only [szLA, if_neg hnn]
  repeat' first
    | refine Holds.seq ?_
    | refine Holds.skip ?_
    | refine Holds.exit ?_
    | refine Holds.ret ?_
    | refine thenA_normal ?_
    | refine thenA_exit ?_
    | refine thenA_ret ?_
    | refine inB_normal ?_
    | refine inB_ret ?_
    | refine inB_here ?_
    | (refine inB_past ?_ ?_; (· exact rfl))
    | refine Holds.reg ?_
    | refine Holds.block ?_
    | refine GS.nil ?_
    | (refine GS.step (s' := ?_) ?_ ?_ ?_; rotate_left; (· exact rfl); (· (simp [go_sem, List.take_of_length_le] <;> with_reducible rfl)))
    | (refine GS.skip ?_ ?_ ?_; (· exact rfl); (· exact rfl))
    | fail
  refine Holds.loop (ι := Nat × Int) (fun i => ⟨[(0, .im 2 (rules xs)), (1, .v (.int .i64 i.2)), (5, .v (.int .i64 i.1))], [], 0⟩) (fun i => i.1 ≤ xs.length ∧ 0 ≤ i.2 ∧ i.2 ≤ 1048576 ∧ szL szRuleF i.2 (xs.drop i.1) = szL szRuleF (n - xs.length) xs) (fun i => xs.length - i.1) (0, n - xs.length) ⟨Nat.zero_le _, by simpa using hnn, by show n - (xs.length : Int) ≤ 1048576; omega, rfl⟩ ?_ ?_
  · exact Cov.of id (by simp [ChkT, okr, okr1, lk, ren, ren1]) (by simp [ChkB])
  rintro ⟨i, m⟩ ⟨hi, hm0, hm1, hsz⟩
  dsimp only at hi hm0 hm1 hsz ⊢
  repeat' first
    | refine Holds.seq ?_
    | refine Holds.skip ?_
    | refine Holds.exit ?_
    | refine Holds.ret ?_
    | refine thenA_normal ?_
    | refine thenA_exit ?_
    | refine thenA_ret ?_
    | refine inB_normal ?_
    | refine inB_ret ?_
    | refine inB_here ?_
    | (refine inB_past ?_ ?_; (· exact rfl))
    | refine Holds.reg ?_
    | refine Holds.block ?_
    | refine GS.nil ?_
    | (refine GS.step (s' := ?_) ?_ ?_ ?_; rotate_left; (· exact rfl); (· (simp [go_sem, List.take_of_length_le] <;> with_reducible rfl)))
    | (refine GS.skip ?_ ?_ ?_; (· exact rfl); (· exact rfl))
    | fail
  refine Holds.cond rfl (fun hl => ?_) (fun hl => ?_)
  · have hlt : i < xs.length := by simpa using hl
    have hxi : xs[i]? = some xs[i] := List.getElem?_eq_getElem hlt
    rw [List.drop_eq_getElem_cons hlt, szL] at hsz
    repeat' first
      | refine Holds.seq ?_
      | refine Holds.skip ?_
      | refine Holds.exit ?_
      | refine Holds.ret ?_
      | refine thenA_normal ?_
      | refine thenA_exit ?_
      | refine thenA_ret ?_
      | refine inB_normal ?_
      | refine inB_ret ?_
      | refine inB_here ?_
      | (refine inB_past ?_ ?_; (· exact rfl))
      | refine Holds.reg ?_
      | refine Holds.block ?_
      | refine GS.nil ?_
      | (refine GS.step (s' := ?_) ?_ ?_ ?_; rotate_left; (· exact rfl); (· (simp [go_sem, List.take_of_length_le, hxi, ruleC] <;> with_reducible rfl)))
      | (refine GS.skip ?_ ?_ ?_; (· exact rfl); (· exact rfl))
      | fail
    refine GS.cc (szRule xs[i] m (by omega) hm1 (hs _ (List.getElem_mem hlt))) rfl rfl rfl rfl (by simp [go_sem, List.take_of_length_le, ruleC] <;> with_reducible rfl) rfl (by simp [go_sem, List.take_of_length_le, ruleC]) ?_
    repeat' first
      | refine Holds.seq ?_
      | refine Holds.skip ?_
      | refine Holds.exit ?_
      | refine Holds.ret ?_
      | refine thenA_normal ?_
      | refine thenA_exit ?_
      | refine thenA_ret ?_
      | refine inB_normal ?_
      | refine inB_ret ?_
      | refine inB_here ?_
      | (refine inB_past ?_ ?_; (· exact rfl))
      | refine Holds.reg ?_
      | refine Holds.block ?_
      | refine GS.nil ?_
      | (refine GS.step (s' := ?_) ?_ ?_ ?_; rotate_left; (· exact rfl); (· (simp [go_sem, List.take_of_length_le] <;> with_reducible rfl)))
      | (refine GS.skip ?_ ?_ ?_; (· exact rfl); (· exact rfl))
      | fail
    refine Holds.cond rfl (fun hl => ?_) (fun hl => ?_)
    · have h : szRuleF m xs[i] < 0 := by simpa using hl
      rw [if_pos h] at hsz
      rw [← hsz]
      repeat' first
        | refine Holds.seq ?_
        | refine Holds.skip ?_
        | refine Holds.exit ?_
        | refine Holds.ret ?_
        | refine thenA_normal ?_
        | refine thenA_exit ?_
        | refine thenA_ret ?_
        | refine inB_normal ?_
        | refine inB_ret ?_
        | refine inB_here ?_
        | (refine inB_past ?_ ?_; (· exact rfl))
        | refine Holds.reg ?_
        | refine Holds.block ?_
        | refine GS.nil ?_
        | (refine GS.step (s' := ?_) ?_ ?_ ?_; rotate_left; (· exact rfl); (· (simp [go_sem, List.take_of_length_le] <;> with_reducible rfl)))
        | (refine GS.skip ?_ ?_ ?_; (· exact rfl); (· exact rfl))
        | fail
      refine Out.mk (xs := ?_) ?_ ?_ (by first | exact .inr rfl | exact .inl rfl)
      rotate_left
      · simp [go_sem, List.take_of_length_le] <;> with_reducible rfl
      exact .v _
    · have h : ¬ szRuleF m xs[i] < 0 := by simpa using hl
      rw [if_neg h] at hsz
      repeat' first
        | refine Holds.seq ?_
        | refine Holds.skip ?_
        | refine Holds.exit ?_
        | refine Holds.ret ?_
        | refine thenA_normal ?_
        | refine thenA_exit ?_
        | refine thenA_ret ?_
        | refine inB_normal ?_
        | refine inB_ret ?_
        | refine inB_here ?_
        | (refine inB_past ?_ ?_; (· exact rfl))
        | refine Holds.reg ?_
        | refine Holds.block ?_
        | refine GS.nil ?_
        | (refine GS.step (s' := ?_) ?_ ?_ ?_; rotate_left; (· exact rfl); (· (simp [go_sem, List.take_of_length_le] <;> with_reducible rfl)))
        | (refine GS.skip ?_ ?_ ?_; (· exact rfl); (· exact rfl))
        | fail
      refine ⟨(i + 1, szRuleF m xs[i]), ⟨hlt, by show (0:Int) ≤ _; omega, (szRuleF_in hm1).2, hsz⟩, by show xs.length - (i + 1) < xs.length - i; omega, ?_⟩
      rw [wr64_id (by omega) (by omega)]
      exact Cov.of id (by simp [ChkT, okr, okr1, lk, ren, ren1]) (by simp [ChkB])
  · have hle : i = xs.length := by
      have : ¬ i < xs.length := by simpa using hl
      omega
    subst hle
    rw [List.drop_length, szL] at hsz
    rw [← hsz]
    repeat' first
      | refine Holds.seq ?_
      | refine Holds.skip ?_
      | refine Holds.exit ?_
      | refine Holds.ret ?_
      | refine thenA_normal ?_
      | refine thenA_exit ?_
      | refine thenA_ret ?_
      | refine inB_normal ?_
      | refine inB_ret ?_
      | refine inB_here ?_
      | (refine inB_past ?_ ?_; (· exact rfl))
      | refine Holds.reg ?_
      | refine Holds.block ?_
      | refine GS.nil ?_
      | (refine GS.step (s' := ?_) ?_ ?_ ?_; rotate_left; (· exact rfl); (· (simp [go_sem, List.take_of_length_le] <;> with_reducible rfl)))
      | (refine GS.skip ?_ ?_ ?_; (· exact rfl); (· exact rfl))
      | fail
    refine Out.mk (xs := ?_) ?_ ?_ (by first | exact .inr rfl | exact .inl rfl)
    rotate_left
    · simp [go_sem, List.take_of_length_le] <;> with_reducible rfl
    exact .v _
abbrev GrammarT := Int × Int × List RuleT
def grammarC (x : GrammarT) : List AV := [.v (.int .i64 x.1), .v (.int .i64 x.2.1), .im 2 (rules x.2.2)]
theorem toGrammar (x : GrammarT) (h0 : (x.2.2).length < 8796093022208) (h1 : ∀ qg2 ∈ (x.2.2), (qg2.2).length < 35184372088832) : Pure Try.prog 9 [.ag (grammarC x)] (.ag (grammarC x)) := by
  refine Pure.mk (rs := [.cell 2 31]) (nt := 15) Try.func9 (by kernel_rfl) rfl rfl rfl (by simp) ?_
  simp only [sl, grammarC]
  repeat' first
    | refine Holds.seq ?_
    | refine Holds.skip ?_
    | refine Holds.exit ?_
    | refine Holds.ret ?_
    | refine thenA_normal ?_
    | refine thenA_exit ?_
    | refine thenA_ret ?_
    | refine inB_normal ?_
    | refine inB_ret ?_
    | refine inB_here ?_
    | (refine inB_past ?_ ?_; (· exact rfl))
    | refine Holds.reg ?_
    | refine Holds.block ?_
    | refine GS.nil ?_
    | (refine GS.step (s' := ?_) ?_ ?_ ?_; rotate_left; (· exact rfl); (· (simp [go_sem, List.take_of_length_le] <;> with_reducible rfl)))
    | (refine GS.skip ?_ ?_ ?_; (· exact rfl); (· exact rfl))
    | fail
  refine GS.cc (toRuleS x.2.2 h0 h1) rfl rfl rfl rfl (by simp [go_sem, List.take_of_length_le] <;> with_reducible rfl) rfl (by simp [go_sem, List.take_of_length_le]) ?_
  repeat' first
    | refine Holds.seq ?_
    | refine Holds.skip ?_
    | refine Holds.exit ?_
    | refine Holds.ret ?_
    | refine thenA_normal ?_
    | refine thenA_exit ?_
    | refine thenA_ret ?_
    | refine inB_normal ?_
    | refine inB_ret ?_
    | refine inB_here ?_
    | (refine inB_past ?_ ?_; (· exact rfl))
    | refine Holds.reg ?_
    | refine Holds.block ?_
    | refine GS.nil ?_
    | (refine GS.step (s' := ?_) ?_ ?_ ?_; rotate_left; (· exact rfl); (· (simp [go_sem, List.take_of_length_le] <;> with_reducible rfl)))
    | (refine GS.skip ?_ ?_ ?_; (· exact rfl); (· exact rfl))
    | fail
  refine Out.mk (xs := ?_) ?_ ?_ (by first | exact .inr rfl | exact .inl rfl)
  rotate_left
  · simp [go_sem, List.take_of_length_le] <;> with_reducible rfl
  exact Fz.cl rfl
theorem eqGrammar (a b : GrammarT) (h0 : (a.2.2).length < 8796093022208) (h1 : ∀ qg2 ∈ (a.2.2), (qg2.2).length < 35184372088832) : Pure Try.prog 12 [.ag (grammarC a), .ag (grammarC b)] (.v (.bool (decide (a = b)))) := by
  refine Pure.mk (rs := [.tmp 4]) (nt := 21) Try.func12 (by kernel_rfl) rfl rfl rfl (by simp) ?_
  simp only [sl, grammarC]
  repeat' first
    | refine Holds.seq ?_
    | refine Holds.skip ?_
    | refine Holds.exit ?_
    | refine Holds.ret ?_
    | refine thenA_normal ?_
    | refine thenA_exit ?_
    | refine thenA_ret ?_
    | refine inB_normal ?_
    | refine inB_ret ?_
    | refine inB_here ?_
    | (refine inB_past ?_ ?_; (· exact rfl))
    | refine Holds.reg ?_
    | refine Holds.block ?_
    | refine GS.nil ?_
    | (refine GS.step (s' := ?_) ?_ ?_ ?_; rotate_left; (· exact rfl); (· (simp [go_sem, List.take_of_length_le] <;> with_reducible rfl)))
    | (refine GS.skip ?_ ?_ ?_; (· exact rfl); (· exact rfl))
    | fail
  refine Holds.cond rfl (fun hl => ?_) (fun g0 => ?_)
  · have : ¬ a = b := by rintro rfl; simp at hl
    simp only [this, decide_false]
    repeat' first
      | refine Holds.seq ?_
      | refine Holds.skip ?_
      | refine Holds.exit ?_
      | refine Holds.ret ?_
      | refine thenA_normal ?_
      | refine thenA_exit ?_
      | refine thenA_ret ?_
      | refine inB_normal ?_
      | refine inB_ret ?_
      | refine inB_here ?_
      | (refine inB_past ?_ ?_; (· exact rfl))
      | refine Holds.reg ?_
      | refine Holds.block ?_
      | refine GS.nil ?_
      | (refine GS.step (s' := ?_) ?_ ?_ ?_; rotate_left; (· exact rfl); (· (simp [go_sem, List.take_of_length_le] <;> with_reducible rfl)))
      | (refine GS.skip ?_ ?_ ?_; (· exact rfl); (· exact rfl))
      | fail
    refine Out.mk (xs := ?_) ?_ ?_ (by first | exact .inr rfl | exact .inl rfl)
    rotate_left
    · simp [go_sem, List.take_of_length_le] <;> with_reducible rfl
    exact .v _
  repeat' first
    | refine Holds.seq ?_
    | refine Holds.skip ?_
    | refine Holds.exit ?_
    | refine Holds.ret ?_
    | refine thenA_normal ?_
    | refine thenA_exit ?_
    | refine thenA_ret ?_
    | refine inB_normal ?_
    | refine inB_ret ?_
    | refine inB_here ?_
    | (refine inB_past ?_ ?_; (· exact rfl))
    | refine Holds.reg ?_
    | refine Holds.block ?_
    | refine GS.nil ?_
    | (refine GS.step (s' := ?_) ?_ ?_ ?_; rotate_left; (· exact rfl); (· (simp [go_sem, List.take_of_length_le] <;> with_reducible rfl)))
    | (refine GS.skip ?_ ?_ ?_; (· exact rfl); (· exact rfl))
    | fail
  refine Holds.cond rfl (fun hl => ?_) (fun g1 => ?_)
  · have : ¬ a = b := by rintro rfl; simp at hl
    simp only [this, decide_false]
    repeat' first
      | refine Holds.seq ?_
      | refine Holds.skip ?_
      | refine Holds.exit ?_
      | refine Holds.ret ?_
      | refine thenA_normal ?_
      | refine thenA_exit ?_
      | refine thenA_ret ?_
      | refine inB_normal ?_
      | refine inB_ret ?_
      | refine inB_here ?_
      | (refine inB_past ?_ ?_; (· exact rfl))
      | refine Holds.reg ?_
      | refine Holds.block ?_
      | refine GS.nil ?_
      | (refine GS.step (s' := ?_) ?_ ?_ ?_; rotate_left; (· exact rfl); (· (simp [go_sem, List.take_of_length_le] <;> with_reducible rfl)))
      | (refine GS.skip ?_ ?_ ?_; (· exact rfl); (· exact rfl))
      | fail
    refine Out.mk (xs := ?_) ?_ ?_ (by first | exact .inr rfl | exact .inl rfl)
    rotate_left
    · simp [go_sem, List.take_of_length_le] <;> with_reducible rfl
    exact .v _
  repeat' first
    | refine Holds.seq ?_
    | refine Holds.skip ?_
    | refine Holds.exit ?_
    | refine Holds.ret ?_
    | refine thenA_normal ?_
    | refine thenA_exit ?_
    | refine thenA_ret ?_
    | refine inB_normal ?_
    | refine inB_ret ?_
    | refine inB_here ?_
    | (refine inB_past ?_ ?_; (· exact rfl))
    | refine Holds.reg ?_
    | refine Holds.block ?_
    | refine GS.nil ?_
    | (refine GS.step (s' := ?_) ?_ ?_ ?_; rotate_left; (· exact rfl); (· (simp [go_sem, List.take_of_length_le] <;> with_reducible rfl)))
    | (refine GS.skip ?_ ?_ ?_; (· exact rfl); (· exact rfl))
    | fail
  refine GS.cc (eqRuleS a.2.2 b.2.2 (by omega) h1) rfl rfl rfl rfl (by simp [go_sem, List.take_of_length_le] <;> with_reducible rfl) rfl (by simp [go_sem, List.take_of_length_le]) ?_
  repeat' first
    | refine Holds.seq ?_
    | refine Holds.skip ?_
    | refine Holds.exit ?_
    | refine Holds.ret ?_
    | refine thenA_normal ?_
    | refine thenA_exit ?_
    | refine thenA_ret ?_
    | refine inB_normal ?_
    | refine inB_ret ?_
    | refine inB_here ?_
    | (refine inB_past ?_ ?_; (· exact rfl))
    | refine Holds.reg ?_
    | refine Holds.block ?_
    | refine GS.nil ?_
    | (refine GS.step (s' := ?_) ?_ ?_ ?_; rotate_left; (· exact rfl); (· (simp [go_sem, List.take_of_length_le] <;> with_reducible rfl)))
    | (refine GS.skip ?_ ?_ ?_; (· exact rfl); (· exact rfl))
    | fail
  refine Holds.cond rfl (fun hl => ?_) (fun g2 => ?_)
  · have : ¬ a = b := by rintro rfl; simp at hl
    simp only [this, decide_false]
    repeat' first
      | refine Holds.seq ?_
      | refine Holds.skip ?_
      | refine Holds.exit ?_
      | refine Holds.ret ?_
      | refine thenA_normal ?_
      | refine thenA_exit ?_
      | refine thenA_ret ?_
      | refine inB_normal ?_
      | refine inB_ret ?_
      | refine inB_here ?_
      | (refine inB_past ?_ ?_; (· exact rfl))
      | refine Holds.reg ?_
      | refine Holds.block ?_
      | refine GS.nil ?_
      | (refine GS.step (s' := ?_) ?_ ?_ ?_; rotate_left; (· exact rfl); (· (simp [go_sem, List.take_of_length_le] <;> with_reducible rfl)))
      | (refine GS.skip ?_ ?_ ?_; (· exact rfl); (· exact rfl))
      | fail
    refine Out.mk (xs := ?_) ?_ ?_ (by first | exact .inr rfl | exact .inl rfl)
    rotate_left
    · simp [go_sem, List.take_of_length_le] <;> with_reducible rfl
    exact .v _
  have : a = b := by
    obtain ⟨a0, a1, a2⟩ := a
    obtain ⟨b0, b1, b2⟩ := b
    simp at g0 g1 g2
    simp [g0, g1, g2]
  simp only [this, decide_true]
  repeat' first
    | refine Holds.seq ?_
    | refine Holds.skip ?_
    | refine Holds.exit ?_
    | refine Holds.ret ?_
    | refine thenA_normal ?_
    | refine thenA_exit ?_
    | refine thenA_ret ?_
    | refine inB_normal ?_
    | refine inB_ret ?_
    | refine inB_here ?_
    | (refine inB_past ?_ ?_; (· exact rfl))
    | refine Holds.reg ?_
    | refine Holds.block ?_
    | refine GS.nil ?_
    | (refine GS.step (s' := ?_) ?_ ?_ ?_; rotate_left; (· exact rfl); (· (simp [go_sem, List.take_of_length_le] <;> with_reducible rfl)))
    | (refine GS.skip ?_ ?_ ?_; (· exact rfl); (· exact rfl))
    | fail
  refine Out.mk (xs := ?_) ?_ ?_ (by first | exact .inr rfl | exact .inl rfl)
  rotate_left
  · simp [go_sem, List.take_of_length_le] <;> with_reducible rfl
  exact .v _
def szGrammarF (n : Int) (x : GrammarT) : Int := szLA szRuleF n x.2.2
theorem szGrammarF_in {n : Int} {x : GrammarT} (h1 : n ≤ 1048576) : -1 ≤ szGrammarF n x ∧ szGrammarF n x ≤ 1048576 := szLA_in (fun n x h => szRuleF_in h) h1
theorem szGrammar (x : GrammarT) (n : Int) (h0 : -1 ≤ n) (h1 : n ≤ 1048576) (k0 : (x.2.2).length < 8796093022208) (k1 : ∀ qg2 ∈ (x.2.2), (qg2.2).length < 35184372088832) : Pure Try.prog 7 [.ag (grammarC x), .v (.int .i64 n)] (.v (.int .i64 (szGrammarF n x))) := by
  refine Pure.mk (rs := [.tmp 4]) (nt := 12) Try.func7 (by kernel_rfl) rfl rfl rfl (by simp) ?_
  simp only [sl, grammarC]
  have hin := szGrammarF_in (x := x) h1
  repeat' first
    | refine Holds.seq ?_
    | refine Holds.skip ?_
    | refine Holds.exit ?_
    | refine Holds.ret ?_
    | refine thenA_normal ?_
    | refine thenA_exit ?_
    | refine thenA_ret ?_
    | refine inB_normal ?_
    | refine inB_ret ?_
    | refine inB_here ?_
    | (refine inB_past ?_ ?_; (· exact rfl))
    | refine Holds.reg ?_
    | refine Holds.block ?_
    | refine GS.nil ?_
    | (refine GS.step (s' := ?_) ?_ ?_ ?_; rotate_left; (· exact rfl); (· (simp [go_sem, List.take_of_length_le] <;> with_reducible rfl)))
    | (refine GS.skip ?_ ?_ ?_; (· exact rfl); (· exact rfl))
    | fail
  refine GS.cc (szRuleS x.2.2 n h0 h1 (by omega) k1) rfl rfl rfl rfl (by simp [go_sem, List.take_of_length_le] <;> with_reducible rfl) rfl (by simp [go_sem, List.take_of_length_le]) ?_
  repeat' first
    | refine Holds.seq ?_
    | refine Holds.skip ?_
    | refine Holds.exit ?_
    | refine Holds.ret ?_
    | refine thenA_normal ?_
    | refine thenA_exit ?_
    | refine thenA_ret ?_
    | refine inB_normal ?_
    | refine inB_ret ?_
    | refine inB_here ?_
    | (refine inB_past ?_ ?_; (· exact rfl))
    | refine Holds.reg ?_
    | refine Holds.block ?_
    | refine GS.nil ?_
    | (refine GS.step (s' := ?_) ?_ ?_ ?_; rotate_left; (· exact rfl); (· (simp [go_sem, List.take_of_length_le] <;> with_reducible rfl)))
    | (refine GS.skip ?_ ?_ ?_; (· exact rfl); (· exact rfl))
    | fail
  refine Holds.cond rfl (fun hl => ?_) (fun hl => ?_)
  · have h : szGrammarF n x < 0 := by simpa [szGrammarF] using hl
    rw [show szGrammarF n x = -1 by omega]
    repeat' first
      | refine Holds.seq ?_
      | refine Holds.skip ?_
      | refine Holds.exit ?_
      | refine Holds.ret ?_
      | refine thenA_normal ?_
      | refine thenA_exit ?_
      | refine thenA_ret ?_
      | refine inB_normal ?_
      | refine inB_ret ?_
      | refine inB_here ?_
      | (refine inB_past ?_ ?_; (· exact rfl))
      | refine Holds.reg ?_
      | refine Holds.block ?_
      | refine GS.nil ?_
      | (refine GS.step (s' := ?_) ?_ ?_ ?_; rotate_left; (· exact rfl); (· (simp [go_sem, List.take_of_length_le] <;> with_reducible rfl)))
      | (refine GS.skip ?_ ?_ ?_; (· exact rfl); (· exact rfl))
      | fail
    refine Out.mk (xs := ?_) ?_ ?_ (by first | exact .inr rfl | exact .inl rfl)
    rotate_left
    · simp [go_sem, List.take_of_length_le] <;> with_reducible rfl
    exact .v _
  · repeat' first
      | refine Holds.seq ?_
      | refine Holds.skip ?_
      | refine Holds.exit ?_
      | refine Holds.ret ?_
      | refine thenA_normal ?_
      | refine thenA_exit ?_
      | refine thenA_ret ?_
      | refine inB_normal ?_
      | refine inB_ret ?_
      | refine inB_here ?_
      | (refine inB_past ?_ ?_; (· exact rfl))
      | refine Holds.reg ?_
      | refine Holds.block ?_
      | refine GS.nil ?_
      | (refine GS.step (s' := ?_) ?_ ?_ ?_; rotate_left; (· exact rfl); (· (simp [go_sem, List.take_of_length_le] <;> with_reducible rfl)))
      | (refine GS.skip ?_ ?_ ?_; (· exact rfl); (· exact rfl))
      | fail
    refine Out.mk (xs := ?_) ?_ ?_ (by first | exact .inr rfl | exact .inl rfl)
    rotate_left
    · simp [go_sem, List.take_of_length_le] <;> with_reducible rfl
    exact .v _
end Go.Proofs.Ytpnpjkkppndhfaa.En
end
section
namespace Go.Proofs.Ytpnpjkkppndhfaa.En
open Go.RowKit
set_option linter.unusedSimpArgs false
set_option linter.unusedVariables false
set_option maxHeartbeats 4000000
def inR (x lo hi : Int) : Bool := decide (lo ≤ x) && decide (x ≤ hi)
theorem l1In (x lo hi : Int) : Pure Try.prog 38 [.v (.int .i64 x), .v (.int .i64 lo), .v (.int .i64 hi)] (.v (.bool (inR x lo hi))) := by
  refine Pure.mk (rs := [.tmp 6]) (nt := 15) Try.func38 (by kernel_rfl) rfl rfl rfl (by simp) ?_
  simp only [sl]
  repeat' first
    | refine Holds.seq ?_
    | refine Holds.skip ?_
    | refine Holds.exit ?_
    | refine Holds.ret ?_
    | refine thenA_normal ?_
    | refine thenA_exit ?_
    | refine thenA_ret ?_
    | refine inB_normal ?_
    | refine inB_ret ?_
    | refine inB_here ?_
    | (refine inB_past ?_ ?_; (· exact rfl))
    | refine Holds.reg ?_
    | refine Holds.block ?_
    | refine GS.nil ?_
    | (refine GS.step (s' := ?_) ?_ ?_ ?_; rotate_left; (· exact rfl); (· (simp [go_sem, List.take_of_length_le] <;> with_reducible rfl)))
    | (refine GS.skip ?_ ?_ ?_; (· exact rfl); (· exact rfl))
    | fail
  refine GS.guard (t := 10) rfl (fun h => ?_) (fun h => ?_)
  · have h : lo ≤ x := by simpa using h
    rw [show inR x lo hi = decide (x ≤ hi) by simp [inR, h]]
    repeat' first
      | refine Holds.seq ?_
      | refine Holds.skip ?_
      | refine Holds.exit ?_
      | refine Holds.ret ?_
      | refine thenA_normal ?_
      | refine thenA_exit ?_
      | refine thenA_ret ?_
      | refine inB_normal ?_
      | refine inB_ret ?_
      | refine inB_here ?_
      | (refine inB_past ?_ ?_; (· exact rfl))
      | refine Holds.reg ?_
      | refine Holds.block ?_
      | refine GS.nil ?_
      | (refine GS.step (s' := ?_) ?_ ?_ ?_; rotate_left; (· exact rfl); (· (simp [go_sem, List.take_of_length_le] <;> with_reducible rfl)))
      | (refine GS.skip ?_ ?_ ?_; (· exact rfl); (· exact rfl))
      | fail
    refine Out.mk (xs := ?_) ?_ ?_ (by first | exact .inr rfl | exact .inl rfl)
    rotate_left
    · simp [go_sem, List.take_of_length_le] <;> with_reducible rfl
    exact .v _
  · have h : ¬ lo ≤ x := by simpa using h
    rw [show inR x lo hi = false by simp [inR, h]]
    repeat' first
      | refine Holds.seq ?_
      | refine Holds.skip ?_
      | refine Holds.exit ?_
      | refine Holds.ret ?_
      | refine thenA_normal ?_
      | refine thenA_exit ?_
      | refine thenA_ret ?_
      | refine inB_normal ?_
      | refine inB_ret ?_
      | refine inB_here ?_
      | (refine inB_past ?_ ?_; (· exact rfl))
      | refine Holds.reg ?_
      | refine Holds.block ?_
      | refine GS.nil ?_
      | (refine GS.step (s' := ?_) ?_ ?_ ?_; rotate_left; (· exact rfl); (· (simp [go_sem, List.take_of_length_le] <;> with_reducible rfl)))
      | (refine GS.skip ?_ ?_ ?_; (· exact rfl); (· exact rfl))
      | fail
    refine Out.mk (xs := ?_) ?_ ?_ (by first | exact .inr rfl | exact .inl rfl)
    rotate_left
    · simp [go_sem, List.take_of_length_le] <;> with_reducible rfl
    exact .v _
theorem implIn (x lo hi : Int) : Pure Try.prog 33 [.v (.int .i64 x), .v (.int .i64 lo), .v (.int .i64 hi)] (.v (.bool (inR x lo hi))) := by
  refine Pure.mk (rs := [.tmp 6]) (nt := 15) Try.func33 (by kernel_rfl) rfl rfl rfl (by simp) ?_
  simp only [sl]
  repeat' first
    | refine Holds.seq ?_
    | refine Holds.skip ?_
    | refine Holds.exit ?_
    | refine Holds.ret ?_
    | refine thenA_normal ?_
    | refine thenA_exit ?_
    | refine thenA_ret ?_
    | refine inB_normal ?_
    | refine inB_ret ?_
    | refine inB_here ?_
    | (refine inB_past ?_ ?_; (· exact rfl))
    | refine Holds.reg ?_
    | refine Holds.block ?_
    | refine GS.nil ?_
    | (refine GS.step (s' := ?_) ?_ ?_ ?_; rotate_left; (· exact rfl); (· (simp [go_sem, List.take_of_length_le] <;> with_reducible rfl)))
    | (refine GS.skip ?_ ?_ ?_; (· exact rfl); (· exact rfl))
    | fail
  refine GS.guard (t := 10) rfl (fun h => ?_) (fun h => ?_)
  · have h : lo ≤ x := by simpa using h
    rw [show inR x lo hi = decide (x ≤ hi) by simp [inR, h]]
    repeat' first
      | refine Holds.seq ?_
      | refine Holds.skip ?_
      | refine Holds.exit ?_
      | refine Holds.ret ?_
      | refine thenA_normal ?_
      | refine thenA_exit ?_
      | refine thenA_ret ?_
      | refine inB_normal ?_
      | refine inB_ret ?_
      | refine inB_here ?_
      | (refine inB_past ?_ ?_; (· exact rfl))
      | refine Holds.reg ?_
      | refine Holds.block ?_
      | refine GS.nil ?_
      | (refine GS.step (s' := ?_) ?_ ?_ ?_; rotate_left; (· exact rfl); (· (simp [go_sem, List.take_of_length_le] <;> with_reducible rfl)))
      | (refine GS.skip ?_ ?_ ?_; (· exact rfl); (· exact rfl))
      | fail
    refine Out.mk (xs := ?_) ?_ ?_ (by first | exact .inr rfl | exact .inl rfl)
    rotate_left
    · simp [go_sem, List.take_of_length_le] <;> with_reducible rfl
    exact .v _
  · have h : ¬ lo ≤ x := by simpa using h
    rw [show inR x lo hi = false by simp [inR, h]]
    repeat' first
      | refine Holds.seq ?_
      | refine Holds.skip ?_
      | refine Holds.exit ?_
      | refine Holds.ret ?_
      | refine thenA_normal ?_
      | refine thenA_exit ?_
      | refine thenA_ret ?_
      | refine inB_normal ?_
      | refine inB_ret ?_
      | refine inB_here ?_
      | (refine inB_past ?_ ?_; (· exact rfl))
      | refine Holds.reg ?_
      | refine Holds.block ?_
      | refine GS.nil ?_
      | (refine GS.step (s' := ?_) ?_ ?_ ?_; rotate_left; (· exact rfl); (· (simp [go_sem, List.take_of_length_le] <;> with_reducible rfl)))
      | (refine GS.skip ?_ ?_ ?_; (· exact rfl); (· exact rfl))
      | fail
    refine Out.mk (xs := ?_) ?_ ?_ (by first | exact .inr rfl | exact .inl rfl)
    rotate_left
    · simp [go_sem, List.take_of_length_le] <;> with_reducible rfl
    exact .v _
/-- The first n all hold. -/
def allB (p : Nat → Bool) : Nat → Bool
  | 0 => true
  | n + 1 => allB p n && p n
theorem allB_no {p : Nat → Bool} {n i : Nat} (hi : i < n) (h : p i = false) : allB p n = false := by
  induction n with
  | zero => omega
  | succ n ih =>
    unfold allB
    by_cases e : i = n
    · subst e; simp [h]
    · simp [ih (by omega)]
def risAt (xs : List Int) (lo hi : Int) (i : Nat) : Bool := inR (xs.getD i 0) lo hi && (decide (i = 0) || decide (xs.getD (i - 1) 0 < xs.getD i 0))
def rising (xs : List Int) (lo hi : Int) : Bool := allB (risAt xs lo hi) xs.length
end Go.Proofs.Ytpnpjkkppndhfaa.En
end
section
namespace Go.Proofs.Ytpnpjkkppndhfaa.En
open Go.RowKit
set_option linter.unusedSimpArgs false
set_option linter.unusedVariables false
set_option maxHeartbeats 4000000
/-- Is one of the numbers n? -/
def hasN (xs : List Int) (n : Int) : Bool := xs.contains n
theorem not_has_take {xs : List Int} {n : Int} (h : ∀ (i : Nat) (x : Int), xs[i]? = some x → x ≠ n) : hasN xs n = false := by
  rw [hasN, List.contains_eq_any_beq, List.any_eq_false]
  intro x hx
  obtain ⟨i, hi⟩ := List.mem_iff_getElem?.1 hx
  have := h i x hi
  simp; exact fun e => this e.symm
theorem has_at {xs : List Int} {n : Int} {i : Nat} (h : xs[i]? = some n) : hasN xs n = true := by
  rw [hasN, List.contains_eq_any_beq, List.any_eq_true]
  exact ⟨n, List.mem_of_getElem? h, by simp⟩
/-- A hand's part for a length: how many, which. -/
def cntP (n H h long : Nat) : Nat := if h + long ≤ n then (n - long - h) / H + 1 else 0
theorem cntP_lt {n H h long : Nat} (hH : 0 < H) (i : Nat) : i < cntP n H h long ↔ h + i * H + long ≤ n := by
  unfold cntP
  split
  · rw [Nat.lt_succ_iff, Nat.le_div_iff_mul_le hH]
    omega
  · constructor
    · intro h; omega
    · intro h; have := Nat.zero_le (i * H); omega
theorem cntP_le {n H h long : Nat} (hH : 0 < H) : cntP n H h long ≤ n + 1 := by
  rcases Nat.lt_or_ge (n + 1) (cntP n H h long) with g | g
  · have := (cntP_lt hH (n + 1)).1 g
    have h2 : n + 1 ≤ (n + 1) * H := Nat.le_mul_of_pos_right _ hH
    omega
  · exact g
def partF (H h : Nat) : Nat → Int := fun i => (h : Int) + (i : Int) * (H : Int)
def partP (n H h long : Nat) : List Int := upTo (partF H h) (cntP n H h long)
end Go.Proofs.Ytpnpjkkppndhfaa.En
end
section
namespace Go.Proofs.Ytpnpjkkppndhfaa.En
open Go.RowKit
set_option linter.unusedSimpArgs false
set_option linter.unusedVariables false
set_option maxHeartbeats 4000000
def handC (long : Nat) (h : Nat × Bool) : List AV := [.v (.int .i64 long), .v (.int .i64 h.1), .v (.bool h.2)]
def hands (long : Nat) (hs : List (Nat × Bool)) : List (List AV) := hs.map (handC long)
@[simp] theorem hands_len (long : Nat) (hs : List (Nat × Bool)) : (hands long hs).length = hs.length := by simp [hands]
@[simp] theorem hands_get (long : Nat) (hs : List (Nat × Bool)) (i : Nat) : (hands long hs)[i]? = (hs[i]?).map (handC long) := by simp [hands]
@[simp] theorem hands_gE (long : Nat) (hs : List (Nat × Bool)) (i : Nat) (h : i < (hands long hs).length) : (hands long hs)[i] = handC long (hs[i]'(by simpa using h)) := by simp [hands]
@[simp] theorem nfr_hands (long : Nat) (hs : List (Nat × Bool)) : nfr (hands long hs) := by
  intro row hr x hx
  simp only [hands, List.mem_map] at hr
  obtain ⟨n, _, rfl⟩ := hr
  simp only [handC, List.mem_cons, List.not_mem_nil, or_false] at hx
  rcases hx with rfl | rfl | rfl <;> rfl
theorem hands_set (long : Nat) (hs : List (Nat × Bool)) (i : Nat) (h : Nat × Bool) : (hands long hs).set i (handC long h) = hands long (hs.set i h) := by simp [hands, List.map_set]
/-- The first i of xs, the others of ys. -/
def mix {α : Type} (xs ys : List α) (i : Nat) : List α := xs.take i ++ ys.drop i
@[simp] theorem mix_zero {α : Type} (xs ys : List α) : mix xs ys 0 = ys := by simp [mix]
theorem mix_all {α : Type} (xs ys : List α) (h : xs.length = ys.length) : mix xs ys ys.length = xs := by simp [mix, List.take_of_length_le, h]
theorem mix_len {α : Type} (xs ys : List α) (h : xs.length = ys.length) (i : Nat) (hi : i ≤ ys.length) : (mix xs ys i).length = ys.length := by simp [mix]; omega
theorem mix_get {α : Type} (xs ys : List α) (h : xs.length = ys.length) (i : Nat) (hi : i ≤ ys.length) : (mix xs ys i)[i]? = ys[i]? := by
  unfold mix
  rw [List.getElem?_append_right (by simp; omega)]
  simp only [List.length_take, List.getElem?_drop]
  congr 1; omega
theorem mix_set {α : Type} (xs ys : List α) (h : xs.length = ys.length) (i : Nat) (hi : i < ys.length) (x : α) (hx : xs[i]? = some x) : (mix xs ys i).set i x = mix xs ys (i + 1) := by
  unfold mix
  rw [List.set_append_right _ _ (by simp; omega), List.take_add_one, hx]
  have e2 : i - (xs.take i).length = 0 := by simp; omega
  rw [e2, List.drop_eq_getElem_cons hi, List.set_cons_zero]
  simp
@[simp] theorem nfr.mix {xs ys : List (List AV)} (h : nfr xs) (h' : nfr ys) (i : Nat) : nfr (En.mix xs ys i) := by
  unfold En.mix
  rw [nfr_append]
  exact ⟨h.take i, h'.drop i⟩
@[simp] theorem nfr_mixHands (a b : Nat) (xs ys : List (Nat × Bool)) (i : Nat) : nfr (mix (hands a xs) (hands b ys) i) := (nfr_hands a xs).mix (nfr_hands b ys) i

def readyP (n long : Nat) (h : Nat × Bool) : Bool := decide (long ≤ n) && !h.2
def readyL (n long : Nat) (hs : List (Nat × Bool)) : List Int := idxs (readyP n long) 0 hs
end Go.Proofs.Ytpnpjkkppndhfaa.En
end
section
namespace Go.Proofs.Ytpnpjkkppndhfaa.En
open Go.RowKit
set_option linter.unusedSimpArgs false
set_option linter.unusedVariables false
set_option maxHeartbeats 4000000
def stepS (n long : Nat) (hs : List (Nat × Bool)) (k : Nat) : DoneT × List (Nat × Bool) :=
  let h := hs.getD k (0, false)
  if k + h.1 * hs.length + long ≤ n then ((k, 1, (k : Int) + h.1 * hs.length, (k : Int) + h.1 * hs.length + long), hs.set k (h.1 + 1, h.2))
  else ((k, 2, 0, long), hs.set k (h.1, true))
/-- All wait: all go on. -/
def goLong (long : Nat) (hs : List (Nat × Bool)) : Nat := if hs.all (·.2) then long + 1 else long
def goHs (hs : List (Nat × Bool)) : List (Nat × Bool) := if hs.all (·.2) then hs.map fun _ => (0, false) else hs
end Go.Proofs.Ytpnpjkkppndhfaa.En
end
section
namespace Go.Proofs.Ytpnpjkkppndhfaa.En
open Go.RowKit
set_option linter.unusedSimpArgs false
set_option linter.unusedVariables false
set_option maxHeartbeats 4000000
/-- The first place of n (from k on), -1 where there is none. -/
def fstI {α : Type} [DecidableEq α] : List α → α → Nat → Int
  | [], _, _ => -1
  | x :: xs, n, k => if x = n then (k : Int) else fstI xs n (k + 1)
theorem fstI_at {α : Type} [DecidableEq α] {n : α} : ∀ (xs : List α) (i k : Nat), xs[i]? = some n → (∀ j, j < i → ∀ x, xs[j]? = some x → x ≠ n) → fstI xs n k = ((k + i : Nat) : Int)
  | [], i, k, h, _ => by simp at h
  | x :: xs, 0, k, h, _ => by simp at h; simp [fstI, h]
  | x :: xs, i + 1, k, h, hno => by
    have h0 : x ≠ n := hno 0 (by omega) x (by simp)
    unfold fstI
    rw [if_neg h0, fstI_at xs i (k + 1) (by simpa using h) fun j hj y hy => hno (j + 1) (by omega) y (by simpa using hy)]
    congr 1; omega
theorem fstI_no {α : Type} [DecidableEq α] {n : α} : ∀ (xs : List α) (k : Nat), n ∉ xs → fstI xs n k = -1
  | [], k, _ => rfl
  | x :: xs, k, h => by
    unfold fstI
    rw [if_neg (fun e => h (by simp [e])), fstI_no xs (k + 1) fun g => h (.tail _ g)]
theorem fstI_has {α : Type} [DecidableEq α] (n : α) : ∀ (xs : List α) (k : Nat), decide (fstI xs n k ≥ 0) = decide (n ∈ xs)
  | [], k => by simp [fstI]
  | x :: xs, k => by
    unfold fstI
    by_cases h : x = n
    · simp [h]
    · rw [if_neg h, fstI_has n xs (k + 1)]
      simp [Ne.symm h]
theorem not_mem_of {α : Type} {xs : List α} {n : α} (h : ∀ (i : Nat) (x : α), xs[i]? = some x → x ≠ n) : n ∉ xs := fun hm => by
  obtain ⟨i, hi⟩ := List.mem_iff_getElem?.1 hm
  exact h i n hi rfl
theorem hasN_dec (xs : List Int) (n : Int) : hasN xs n = decide (n ∈ xs) := by simp [hasN, List.contains_eq_mem]
def bools (xs : List Bool) : List (List AV) := xs.map fun b => [.v (.bool b)]
@[simp] theorem bools_len (xs : List Bool) : (bools xs).length = xs.length := by simp [bools]
@[simp] theorem bools_get (xs : List Bool) (i : Nat) : (bools xs)[i]? = (xs[i]?).map fun n => [.v (.bool n)] := by simp [bools]
@[simp] theorem bools_gE (xs : List Bool) (i : Nat) (h : i < (bools xs).length) : (bools xs)[i] = [.v (.bool (xs[i]'(by simpa using h)))] := by simp [bools]
@[simp] theorem bools_set (xs : List Bool) (i : Nat) (n : Bool) : (bools xs).set i [.v (.bool n)] = bools (xs.set i n) := by simp [bools, List.map_set]
@[simp] theorem bools_rep (n : Nat) (x : Bool) : List.replicate n [AV.v (.bool x)] = bools (List.replicate n x) := by simp [bools]
theorem bools_cl (xs : List Bool) : ∀ row ∈ bools xs, ∀ x ∈ row, cl1 x = true := by
  intro row hr x hx
  simp only [bools, List.mem_map] at hr
  obtain ⟨n, _, rfl⟩ := hr
  simp at hx; subst hx; rfl
@[simp] theorem nfr_bools (xs : List Bool) : nfr (bools xs) := nfr_of_ok (bools_cl xs)
end Go.Proofs.Ytpnpjkkppndhfaa.En
end
section
namespace Go.Proofs.Ytpnpjkkppndhfaa.En
open Go.RowKit
set_option linter.unusedSimpArgs false
set_option linter.unusedVariables false
set_option maxHeartbeats 4000000
/-- The first place (from k on) of which p holds, -1 where there is none. -/
def fstP {α : Type} (p : α → Bool) : List α → Nat → Int
  | [], _ => -1
  | x :: xs, k => if p x then (k : Int) else fstP p xs (k + 1)
theorem fstP_at {α : Type} {p : α → Bool} : ∀ (xs : List α) (i k : Nat) {n : α}, xs[i]? = some n → p n = true → (∀ j, j < i → ∀ x, xs[j]? = some x → p x = false) → fstP p xs k = ((k + i : Nat) : Int)
  | [], i, k, n, h, _, _ => by simp at h
  | x :: xs, 0, k, n, h, hp, _ => by simp at h; subst h; simp [fstP, hp]
  | x :: xs, i + 1, k, n, h, hp, hno => by
    have h0 : p x = false := hno 0 (by omega) x (by simp)
    unfold fstP
    rw [if_neg (by simp [h0]), fstP_at xs i (k + 1) (by simpa using h) hp fun j hj y hy => hno (j + 1) (by omega) y (by simpa using hy)]
    congr 1; omega
theorem fstP_no {α : Type} {p : α → Bool} : ∀ (xs : List α) (k : Nat), (∀ (j : Nat) (x : α), xs[j]? = some x → p x = false) → fstP p xs k = -1
  | [], k, _ => rfl
  | x :: xs, k, h => by
    unfold fstP
    rw [if_neg (by simp [h 0 x (by simp)]), fstP_no xs (k + 1) fun j y hy => h (j + 1) y (by simpa using hy)]
theorem fstP_any {α : Type} (p : α → Bool) : ∀ (xs : List α) (k : Nat), decide (fstP p xs k ≥ 0) = xs.any p
  | [], k => by simp [fstP]
  | x :: xs, k => by
    unfold fstP
    cases h : p x
    · rw [if_neg (by simp), fstP_any p xs (k + 1)]; simp [h]
    · simp [h]
theorem okr1_cl {nx : Nat} {x : AV} (h : cl1 x = true) : okr1 nx x = true := by cases x <;> simp_all [cl1, okr1]
theorem ren1_cl {ρ : Nat → Nat} {x : AV} (h : cl1 x = true) : ren1 ρ x = x := by cases x <;> simp_all [cl1, ren1]
theorem all_cl1 {cap : List AV} (h : cap.all cl1 = true) : cap.all cl = true := by
  rw [List.all_eq_true] at h ⊢
  intro x hx
  have := h x hx
  cases x <;> simp_all [cl, cl1]
theorem okr1_cap {cap : List AV} (h : cap.all cl1 = true) (nx : Nat) : cap.all (okr1 nx) = true := by
  rw [List.all_eq_true] at h ⊢
  exact fun x hx => okr1_cl (h x hx)
theorem ren1_cap {cap : List AV} (h : cap.all cl1 = true) (ρ : Nat → Nat) : cap.map (ren1 ρ) = cap := by
  rw [List.all_eq_true] at h
  have : ∀ x ∈ cap, ren1 ρ x = id x := fun x hx => ren1_cl (h x hx)
  rw [List.map_congr_left this]; simp
/-- A variable in memory, lent to be looked at. -/
theorem Fz.box {bl : List (Nat × Blk)} {n sz : Nat} {k : Blk} {cs : List AV} (hk : lb bl n = some k) (hx : k.xs = [cs]) (hz : k.sz = sz) (hc : cs.all En.cl1 = true) : Fz bl (.pb n sz 0 0) (.pi cs) := by
  subst hz
  refine .pb n 0 0 k cs cs hk (by rw [hx]; rfl) (by simp) (fun q x y h1 h2 => ?_)
  rw [List.drop_zero, h2] at h1
  have e := Option.some.inj h1
  subst e
  rw [List.all_eq_true] at hc
  exact .cl1 (hc _ (List.mem_of_getElem? h2))
theorem all_not_any {α : Type} (p : α → Bool) (xs : List α) : xs.all p = !xs.any (fun x => !p x) := by
  induction xs with
  | nil => rfl
  | cons x xs ih => simp only [List.all_cons, List.any_cons, ih, Bool.not_or, Bool.not_not]
theorem indexFuncInt (g : FuncId) (cap : List AV) (p : Int → Bool) (xs : List Int) (hx : xs.length < 4611686018427387904) (hcap : cap.all cl1 = true) (hg : ∀ x ∈ xs, Pure Try.prog g (.v (.int .i64 x) :: cap) (.v (.bool (p x)))) : Pure Try.prog 70 [.im 1 (ints xs), .fn g cap] (.v (.int .i64 (fstP p xs 0))) := by
  refine Pure.mk (rs := [.tmp 4]) (nt := 19) Try.func70 (by kernel_rfl) rfl rfl rfl (by simp) ?_
  simp only [sl]
  repeat' first
    | refine Holds.seq ?_
    | refine Holds.skip ?_
    | refine Holds.exit ?_
    | refine Holds.ret ?_
    | refine thenA_normal ?_
    | refine thenA_exit ?_
    | refine thenA_ret ?_
    | refine inB_normal ?_
    | refine inB_ret ?_
    | refine inB_here ?_
    | (refine inB_past ?_ ?_; (· exact rfl))
    | refine Holds.reg ?_
    | refine Holds.block ?_
    | refine GS.nil ?_
    | (refine GS.step (s' := ?_) ?_ ?_ ?_; rotate_left; (· exact rfl); (· (simp [go_sem, List.take_of_length_le] <;> with_reducible rfl)))
    | (refine GS.skip ?_ ?_ ?_; (· exact rfl); (· exact rfl))
    | fail
  refine Holds.loop (ι := Nat) (fun i => ⟨[(0, .im 1 (ints xs)), (1, .fn g cap), (7, .v (.int .i64 xs.length)), (8, .v (.int .i64 i))], [], 0⟩) (fun i => i ≤ xs.length ∧ ∀ j, j < i → ∀ x, xs[j]? = some x → p x = false) (fun i => xs.length - i) 0 ⟨Nat.zero_le _, fun j hj => absurd hj (Nat.not_lt_zero j)⟩ ?_ ?_
  · exact Cov.ofn id rfl (by simp [go_sem, ren, ren1, okr, okr1, ChkT, okr1_cap hcap, ren1_cap hcap]) (by simp [ChkN])
  rintro i ⟨hi, hno⟩
  repeat' first
    | refine Holds.seq ?_
    | refine Holds.skip ?_
    | refine Holds.exit ?_
    | refine Holds.ret ?_
    | refine thenA_normal ?_
    | refine thenA_exit ?_
    | refine thenA_ret ?_
    | refine inB_normal ?_
    | refine inB_ret ?_
    | refine inB_here ?_
    | (refine inB_past ?_ ?_; (· exact rfl))
    | refine Holds.reg ?_
    | refine Holds.block ?_
    | refine GS.nil ?_
    | (refine GS.step (s' := ?_) ?_ ?_ ?_; rotate_left; (· exact rfl); (· (simp [go_sem, List.take_of_length_le] <;> with_reducible rfl)))
    | (refine GS.skip ?_ ?_ ?_; (· exact rfl); (· exact rfl))
    | fail
  refine Holds.cond rfl (fun hl => ?_) (fun hl => ?_)
  · have hlt : i < xs.length := by simpa using hl
    have hxi : xs[i]? = some xs[i] := List.getElem?_eq_getElem hlt
    have hgi := hg _ (List.getElem_mem hlt)
    repeat' first
      | refine Holds.seq ?_
      | refine Holds.skip ?_
      | refine Holds.exit ?_
      | refine Holds.ret ?_
      | refine thenA_normal ?_
      | refine thenA_exit ?_
      | refine thenA_ret ?_
      | refine inB_normal ?_
      | refine inB_ret ?_
      | refine inB_here ?_
      | (refine inB_past ?_ ?_; (· exact rfl))
      | refine Holds.reg ?_
      | refine Holds.block ?_
      | refine GS.nil ?_
      | (refine GS.step (s' := ?_) ?_ ?_ ?_; rotate_left; (· exact rfl); (· (simp [go_sem, List.take_of_length_le, hxi] <;> with_reducible rfl)))
      | (refine GS.skip ?_ ?_ ?_; (· exact rfl); (· exact rfl))
      | fail
    refine GS.cc (hgi) rfl rfl rfl rfl (by simp [go_sem, List.take_of_length_le, hcap, all_cl1 hcap] <;> with_reducible rfl) rfl (by simp [go_sem, List.take_of_length_le, hcap, all_cl1 hcap]) ?_
    repeat' first
      | refine Holds.seq ?_
      | refine Holds.skip ?_
      | refine Holds.exit ?_
      | refine Holds.ret ?_
      | refine thenA_normal ?_
      | refine thenA_exit ?_
      | refine thenA_ret ?_
      | refine inB_normal ?_
      | refine inB_ret ?_
      | refine inB_here ?_
      | (refine inB_past ?_ ?_; (· exact rfl))
      | refine Holds.reg ?_
      | refine Holds.block ?_
      | refine GS.nil ?_
      | (refine GS.step (s' := ?_) ?_ ?_ ?_; rotate_left; (· exact rfl); (· (simp [go_sem, List.take_of_length_le] <;> with_reducible rfl)))
      | (refine GS.skip ?_ ?_ ?_; (· exact rfl); (· exact rfl))
      | fail
    refine Holds.cond rfl (fun hl => ?_) (fun hl => ?_)
    · rw [fstP_at xs i 0 hxi hl hno, Nat.zero_add]
      repeat' first
        | refine Holds.seq ?_
        | refine Holds.skip ?_
        | refine Holds.exit ?_
        | refine Holds.ret ?_
        | refine thenA_normal ?_
        | refine thenA_exit ?_
        | refine thenA_ret ?_
        | refine inB_normal ?_
        | refine inB_ret ?_
        | refine inB_here ?_
        | (refine inB_past ?_ ?_; (· exact rfl))
        | refine Holds.reg ?_
        | refine Holds.block ?_
        | refine GS.nil ?_
        | (refine GS.step (s' := ?_) ?_ ?_ ?_; rotate_left; (· exact rfl); (· (simp [go_sem, List.take_of_length_le] <;> with_reducible rfl)))
        | (refine GS.skip ?_ ?_ ?_; (· exact rfl); (· exact rfl))
        | fail
      refine Out.mk (xs := ?_) ?_ ?_ (by first | exact .inr rfl | exact .inl rfl)
      rotate_left
      · simp [go_sem, List.take_of_length_le] <;> with_reducible rfl
      exact .v _
    · repeat' first
        | refine Holds.seq ?_
        | refine Holds.skip ?_
        | refine Holds.exit ?_
        | refine Holds.ret ?_
        | refine thenA_normal ?_
        | refine thenA_exit ?_
        | refine thenA_ret ?_
        | refine inB_normal ?_
        | refine inB_ret ?_
        | refine inB_here ?_
        | (refine inB_past ?_ ?_; (· exact rfl))
        | refine Holds.reg ?_
        | refine Holds.block ?_
        | refine GS.nil ?_
        | (refine GS.step (s' := ?_) ?_ ?_ ?_; rotate_left; (· exact rfl); (· (simp [go_sem, List.take_of_length_le] <;> with_reducible rfl)))
        | (refine GS.skip ?_ ?_ ?_; (· exact rfl); (· exact rfl))
        | fail
      refine ⟨i + 1, ⟨by omega, fun j hj x hxj => ?_⟩, by omega, ?_⟩
      · by_cases e : j = i
        · subst e; rw [hxi] at hxj; cases hxj; exact hl
        · exact hno j (by omega) x hxj
      rw [wr64_id (by omega) (by omega)]
      exact Cov.ofn id rfl (by simp [go_sem, ren, ren1, okr, okr1, ChkT, okr1_cap hcap, ren1_cap hcap]) (by simp [ChkN])
  · have hle : i = xs.length := by
      have : ¬ i < xs.length := by simpa using hl
      omega
    rw [fstP_no xs 0 fun j x hj => hno j (by have := (List.getElem?_eq_some_iff.1 hj).1; omega) x hj]
    repeat' first
      | refine Holds.seq ?_
      | refine Holds.skip ?_
      | refine Holds.exit ?_
      | refine Holds.ret ?_
      | refine thenA_normal ?_
      | refine thenA_exit ?_
      | refine thenA_ret ?_
      | refine inB_normal ?_
      | refine inB_ret ?_
      | refine inB_here ?_
      | (refine inB_past ?_ ?_; (· exact rfl))
      | refine Holds.reg ?_
      | refine Holds.block ?_
      | refine GS.nil ?_
      | (refine GS.step (s' := ?_) ?_ ?_ ?_; rotate_left; (· exact rfl); (· (simp [go_sem, List.take_of_length_le] <;> with_reducible rfl)))
      | (refine GS.skip ?_ ?_ ?_; (· exact rfl); (· exact rfl))
      | fail
    refine Out.mk (xs := ?_) ?_ ?_ (by first | exact .inr rfl | exact .inl rfl)
    rotate_left
    · simp [go_sem, List.take_of_length_le] <;> with_reducible rfl
    exact .v _
theorem containsFuncInt (g : FuncId) (cap : List AV) (p : Int → Bool) (xs : List Int) (hx : xs.length < 4611686018427387904) (hcap : cap.all cl1 = true) (hg : ∀ x ∈ xs, Pure Try.prog g (.v (.int .i64 x) :: cap) (.v (.bool (p x)))) : Pure Try.prog 58 [.im 1 (ints xs), .fn g cap] (.v (.bool (xs.any p))) := by
  refine Pure.mk (rs := [.tmp 4]) (nt := 9) Try.func58 (by kernel_rfl) rfl rfl rfl (by simp) ?_
  simp only [sl]
  repeat' first
    | refine Holds.seq ?_
    | refine Holds.skip ?_
    | refine Holds.exit ?_
    | refine Holds.ret ?_
    | refine thenA_normal ?_
    | refine thenA_exit ?_
    | refine thenA_ret ?_
    | refine inB_normal ?_
    | refine inB_ret ?_
    | refine inB_here ?_
    | (refine inB_past ?_ ?_; (· exact rfl))
    | refine Holds.reg ?_
    | refine Holds.block ?_
    | refine GS.nil ?_
    | (refine GS.step (s' := ?_) ?_ ?_ ?_; rotate_left; (· exact rfl); (· (simp [go_sem, List.take_of_length_le] <;> with_reducible rfl)))
    | (refine GS.skip ?_ ?_ ?_; (· exact rfl); (· exact rfl))
    | fail
  refine GS.cc (indexFuncInt g cap p xs hx hcap hg) rfl rfl rfl rfl (by simp [go_sem, List.take_of_length_le, hcap, all_cl1 hcap] <;> with_reducible rfl) rfl (by simp [go_sem, List.take_of_length_le, hcap, all_cl1 hcap]) ?_
  rw [← fstP_any p xs 0]
  repeat' first
    | refine Holds.seq ?_
    | refine Holds.skip ?_
    | refine Holds.exit ?_
    | refine Holds.ret ?_
    | refine thenA_normal ?_
    | refine thenA_exit ?_
    | refine thenA_ret ?_
    | refine inB_normal ?_
    | refine inB_ret ?_
    | refine inB_here ?_
    | (refine inB_past ?_ ?_; (· exact rfl))
    | refine Holds.reg ?_
    | refine Holds.block ?_
    | refine GS.nil ?_
    | (refine GS.step (s' := ?_) ?_ ?_ ?_; rotate_left; (· exact rfl); (· (simp [go_sem, List.take_of_length_le] <;> with_reducible rfl)))
    | (refine GS.skip ?_ ?_ ?_; (· exact rfl); (· exact rfl))
    | fail
  refine Out.mk (xs := ?_) ?_ ?_ (by first | exact .inr rfl | exact .inl rfl)
  rotate_left
  · simp [go_sem, List.take_of_length_le] <;> with_reducible rfl
  exact .v _
theorem indexFuncRule (g : FuncId) (cap : List AV) (p : RuleT → Bool) (xs : List RuleT) (hx : xs.length < 4611686018427387904) (hcap : cap.all cl1 = true) (hg : ∀ x ∈ xs, Pure Try.prog g (.ag (ruleC x) :: cap) (.v (.bool (p x)))) : Pure Try.prog 68 [.im 2 (rules xs), .fn g cap] (.v (.int .i64 (fstP p xs 0))) := by
  refine Pure.mk (rs := [.tmp 4]) (nt := 19) Try.func68 (by kernel_rfl) rfl rfl rfl (by simp) ?_
  simp only [sl]
  repeat' first
    | refine Holds.seq ?_
    | refine Holds.skip ?_
    | refine Holds.exit ?_
    | refine Holds.ret ?_
    | refine thenA_normal ?_
    | refine thenA_exit ?_
    | refine thenA_ret ?_
    | refine inB_normal ?_
    | refine inB_ret ?_
    | refine inB_here ?_
    | (refine inB_past ?_ ?_; (· exact rfl))
    | refine Holds.reg ?_
    | refine Holds.block ?_
    | refine GS.nil ?_
    | (refine GS.step (s' := ?_) ?_ ?_ ?_; rotate_left; (· exact rfl); (· (simp [go_sem, List.take_of_length_le] <;> with_reducible rfl)))
    | (refine GS.skip ?_ ?_ ?_; (· exact rfl); (· exact rfl))
    | fail
  refine Holds.loop (ι := Nat) (fun i => ⟨[(0, .im 2 (rules xs)), (1, .fn g cap), (7, .v (.int .i64 xs.length)), (8, .v (.int .i64 i))], [], 0⟩) (fun i => i ≤ xs.length ∧ ∀ j, j < i → ∀ x, xs[j]? = some x → p x = false) (fun i => xs.length - i) 0 ⟨Nat.zero_le _, fun j hj => absurd hj (Nat.not_lt_zero j)⟩ ?_ ?_
  · exact Cov.ofn id rfl (by simp [go_sem, ren, ren1, okr, okr1, ChkT, okr1_cap hcap, ren1_cap hcap]) (by simp [ChkN])
  rintro i ⟨hi, hno⟩
  repeat' first
    | refine Holds.seq ?_
    | refine Holds.skip ?_
    | refine Holds.exit ?_
    | refine Holds.ret ?_
    | refine thenA_normal ?_
    | refine thenA_exit ?_
    | refine thenA_ret ?_
    | refine inB_normal ?_
    | refine inB_ret ?_
    | refine inB_here ?_
    | (refine inB_past ?_ ?_; (· exact rfl))
    | refine Holds.reg ?_
    | refine Holds.block ?_
    | refine GS.nil ?_
    | (refine GS.step (s' := ?_) ?_ ?_ ?_; rotate_left; (· exact rfl); (· (simp [go_sem, List.take_of_length_le] <;> with_reducible rfl)))
    | (refine GS.skip ?_ ?_ ?_; (· exact rfl); (· exact rfl))
    | fail
  refine Holds.cond rfl (fun hl => ?_) (fun hl => ?_)
  · have hlt : i < xs.length := by simpa using hl
    have hxi : xs[i]? = some xs[i] := List.getElem?_eq_getElem hlt
    have hgi := hg _ (List.getElem_mem hlt)
    repeat' first
      | refine Holds.seq ?_
      | refine Holds.skip ?_
      | refine Holds.exit ?_
      | refine Holds.ret ?_
      | refine thenA_normal ?_
      | refine thenA_exit ?_
      | refine thenA_ret ?_
      | refine inB_normal ?_
      | refine inB_ret ?_
      | refine inB_here ?_
      | (refine inB_past ?_ ?_; (· exact rfl))
      | refine Holds.reg ?_
      | refine Holds.block ?_
      | refine GS.nil ?_
      | (refine GS.step (s' := ?_) ?_ ?_ ?_; rotate_left; (· exact rfl); (· (simp [go_sem, List.take_of_length_le, hxi , ruleC] <;> with_reducible rfl)))
      | (refine GS.skip ?_ ?_ ?_; (· exact rfl); (· exact rfl))
      | fail
    refine GS.cc (hgi) rfl rfl rfl rfl (by simp [go_sem, List.take_of_length_le, hcap, all_cl1 hcap , ruleC] <;> with_reducible rfl) rfl (by simp [go_sem, List.take_of_length_le, hcap, all_cl1 hcap , ruleC]) ?_
    repeat' first
      | refine Holds.seq ?_
      | refine Holds.skip ?_
      | refine Holds.exit ?_
      | refine Holds.ret ?_
      | refine thenA_normal ?_
      | refine thenA_exit ?_
      | refine thenA_ret ?_
      | refine inB_normal ?_
      | refine inB_ret ?_
      | refine inB_here ?_
      | (refine inB_past ?_ ?_; (· exact rfl))
      | refine Holds.reg ?_
      | refine Holds.block ?_
      | refine GS.nil ?_
      | (refine GS.step (s' := ?_) ?_ ?_ ?_; rotate_left; (· exact rfl); (· (simp [go_sem, List.take_of_length_le] <;> with_reducible rfl)))
      | (refine GS.skip ?_ ?_ ?_; (· exact rfl); (· exact rfl))
      | fail
    refine Holds.cond rfl (fun hl => ?_) (fun hl => ?_)
    · rw [fstP_at xs i 0 hxi hl hno, Nat.zero_add]
      repeat' first
        | refine Holds.seq ?_
        | refine Holds.skip ?_
        | refine Holds.exit ?_
        | refine Holds.ret ?_
        | refine thenA_normal ?_
        | refine thenA_exit ?_
        | refine thenA_ret ?_
        | refine inB_normal ?_
        | refine inB_ret ?_
        | refine inB_here ?_
        | (refine inB_past ?_ ?_; (· exact rfl))
        | refine Holds.reg ?_
        | refine Holds.block ?_
        | refine GS.nil ?_
        | (refine GS.step (s' := ?_) ?_ ?_ ?_; rotate_left; (· exact rfl); (· (simp [go_sem, List.take_of_length_le] <;> with_reducible rfl)))
        | (refine GS.skip ?_ ?_ ?_; (· exact rfl); (· exact rfl))
        | fail
      refine Out.mk (xs := ?_) ?_ ?_ (by first | exact .inr rfl | exact .inl rfl)
      rotate_left
      · simp [go_sem, List.take_of_length_le] <;> with_reducible rfl
      exact .v _
    · repeat' first
        | refine Holds.seq ?_
        | refine Holds.skip ?_
        | refine Holds.exit ?_
        | refine Holds.ret ?_
        | refine thenA_normal ?_
        | refine thenA_exit ?_
        | refine thenA_ret ?_
        | refine inB_normal ?_
        | refine inB_ret ?_
        | refine inB_here ?_
        | (refine inB_past ?_ ?_; (· exact rfl))
        | refine Holds.reg ?_
        | refine Holds.block ?_
        | refine GS.nil ?_
        | (refine GS.step (s' := ?_) ?_ ?_ ?_; rotate_left; (· exact rfl); (· (simp [go_sem, List.take_of_length_le] <;> with_reducible rfl)))
        | (refine GS.skip ?_ ?_ ?_; (· exact rfl); (· exact rfl))
        | fail
      refine ⟨i + 1, ⟨by omega, fun j hj x hxj => ?_⟩, by omega, ?_⟩
      · by_cases e : j = i
        · subst e; rw [hxi] at hxj; cases hxj; exact hl
        · exact hno j (by omega) x hxj
      rw [wr64_id (by omega) (by omega)]
      exact Cov.ofn id rfl (by simp [go_sem, ren, ren1, okr, okr1, ChkT, okr1_cap hcap, ren1_cap hcap]) (by simp [ChkN])
  · have hle : i = xs.length := by
      have : ¬ i < xs.length := by simpa using hl
      omega
    rw [fstP_no xs 0 fun j x hj => hno j (by have := (List.getElem?_eq_some_iff.1 hj).1; omega) x hj]
    repeat' first
      | refine Holds.seq ?_
      | refine Holds.skip ?_
      | refine Holds.exit ?_
      | refine Holds.ret ?_
      | refine thenA_normal ?_
      | refine thenA_exit ?_
      | refine thenA_ret ?_
      | refine inB_normal ?_
      | refine inB_ret ?_
      | refine inB_here ?_
      | (refine inB_past ?_ ?_; (· exact rfl))
      | refine Holds.reg ?_
      | refine Holds.block ?_
      | refine GS.nil ?_
      | (refine GS.step (s' := ?_) ?_ ?_ ?_; rotate_left; (· exact rfl); (· (simp [go_sem, List.take_of_length_le] <;> with_reducible rfl)))
      | (refine GS.skip ?_ ?_ ?_; (· exact rfl); (· exact rfl))
      | fail
    refine Out.mk (xs := ?_) ?_ ?_ (by first | exact .inr rfl | exact .inl rfl)
    rotate_left
    · simp [go_sem, List.take_of_length_le] <;> with_reducible rfl
    exact .v _
theorem containsFuncRule (g : FuncId) (cap : List AV) (p : RuleT → Bool) (xs : List RuleT) (hx : xs.length < 4611686018427387904) (hcap : cap.all cl1 = true) (hg : ∀ x ∈ xs, Pure Try.prog g (.ag (ruleC x) :: cap) (.v (.bool (p x)))) : Pure Try.prog 53 [.im 2 (rules xs), .fn g cap] (.v (.bool (xs.any p))) := by
  refine Pure.mk (rs := [.tmp 4]) (nt := 9) Try.func53 (by kernel_rfl) rfl rfl rfl (by simp) ?_
  simp only [sl]
  repeat' first
    | refine Holds.seq ?_
    | refine Holds.skip ?_
    | refine Holds.exit ?_
    | refine Holds.ret ?_
    | refine thenA_normal ?_
    | refine thenA_exit ?_
    | refine thenA_ret ?_
    | refine inB_normal ?_
    | refine inB_ret ?_
    | refine inB_here ?_
    | (refine inB_past ?_ ?_; (· exact rfl))
    | refine Holds.reg ?_
    | refine Holds.block ?_
    | refine GS.nil ?_
    | (refine GS.step (s' := ?_) ?_ ?_ ?_; rotate_left; (· exact rfl); (· (simp [go_sem, List.take_of_length_le] <;> with_reducible rfl)))
    | (refine GS.skip ?_ ?_ ?_; (· exact rfl); (· exact rfl))
    | fail
  refine GS.cc (indexFuncRule g cap p xs hx hcap hg) rfl rfl rfl rfl (by simp [go_sem, List.take_of_length_le, hcap, all_cl1 hcap] <;> with_reducible rfl) rfl (by simp [go_sem, List.take_of_length_le, hcap, all_cl1 hcap]) ?_
  rw [← fstP_any p xs 0]
  repeat' first
    | refine Holds.seq ?_
    | refine Holds.skip ?_
    | refine Holds.exit ?_
    | refine Holds.ret ?_
    | refine thenA_normal ?_
    | refine thenA_exit ?_
    | refine thenA_ret ?_
    | refine inB_normal ?_
    | refine inB_ret ?_
    | refine inB_here ?_
    | (refine inB_past ?_ ?_; (· exact rfl))
    | refine Holds.reg ?_
    | refine Holds.block ?_
    | refine GS.nil ?_
    | (refine GS.step (s' := ?_) ?_ ?_ ?_; rotate_left; (· exact rfl); (· (simp [go_sem, List.take_of_length_le] <;> with_reducible rfl)))
    | (refine GS.skip ?_ ?_ ?_; (· exact rfl); (· exact rfl))
    | fail
  refine Out.mk (xs := ?_) ?_ ?_ (by first | exact .inr rfl | exact .inl rfl)
  rotate_left
  · simp [go_sem, List.take_of_length_le] <;> with_reducible rfl
  exact .v _
/-- Is x a symbol? -/
def symOk (nons toks x : Int) : Bool := inR x (-toks) (nons - 1)
theorem l1Symbol (g : GrammarT) (x : Int) (h0 : 1 ≤ g.1) (h1 : g.1 ≤ 6) (h2 : 1 ≤ g.2.1) (h3 : g.2.1 ≤ 4) : Pure Try.prog 64 [.ag (grammarC g), .v (.int .i64 x)] (.v (.bool (symOk g.1 g.2.1 x))) := by
  refine Pure.mk (rs := [.tmp 4]) (nt := 13) Try.func64 (by kernel_rfl) rfl rfl rfl (by simp) ?_
  simp only [sl, grammarC]
  have hw : wr64 (g.1 - 1) = g.1 - 1 := wr64_id (by omega) (by omega)
  have hw2 : wr64 (-g.2.1) = -g.2.1 := wr64_id (by omega) (by omega)
  have hw3 : wr64 (0 - g.2.1) = -g.2.1 := by rw [wr64_id (by omega) (by omega)]; omega
  repeat' first
    | refine Holds.seq ?_
    | refine Holds.skip ?_
    | refine Holds.exit ?_
    | refine Holds.ret ?_
    | refine thenA_normal ?_
    | refine thenA_exit ?_
    | refine thenA_ret ?_
    | refine inB_normal ?_
    | refine inB_ret ?_
    | refine inB_here ?_
    | (refine inB_past ?_ ?_; (· exact rfl))
    | refine Holds.reg ?_
    | refine Holds.block ?_
    | refine GS.nil ?_
    | (refine GS.step (s' := ?_) ?_ ?_ ?_; rotate_left; (· exact rfl); (· (simp [go_sem, List.take_of_length_le, hw, hw2, hw3] <;> with_reducible rfl)))
    | (refine GS.skip ?_ ?_ ?_; (· exact rfl); (· exact rfl))
    | fail
  refine GS.cc (l1In x (-g.2.1) (g.1 - 1)) rfl rfl rfl rfl (by simp [go_sem, List.take_of_length_le] <;> with_reducible rfl) rfl (by simp [go_sem, List.take_of_length_le]) ?_
  repeat' first
    | refine Holds.seq ?_
    | refine Holds.skip ?_
    | refine Holds.exit ?_
    | refine Holds.ret ?_
    | refine thenA_normal ?_
    | refine thenA_exit ?_
    | refine thenA_ret ?_
    | refine inB_normal ?_
    | refine inB_ret ?_
    | refine inB_here ?_
    | (refine inB_past ?_ ?_; (· exact rfl))
    | refine Holds.reg ?_
    | refine Holds.block ?_
    | refine GS.nil ?_
    | (refine GS.step (s' := ?_) ?_ ?_ ?_; rotate_left; (· exact rfl); (· (simp [go_sem, List.take_of_length_le] <;> with_reducible rfl)))
    | (refine GS.skip ?_ ?_ ?_; (· exact rfl); (· exact rfl))
    | fail
  refine Out.mk (xs := ?_) ?_ ?_ (by first | exact .inr rfl | exact .inl rfl)
  rotate_left
  · simp [go_sem, List.take_of_length_le] <;> with_reducible rfl
  exact .v _
theorem isSymbol (n t x : Int) (h0 : 1 ≤ n) (h1 : n ≤ 6) (h2 : 1 ≤ t) (h3 : t ≤ 4) : Pure Try.prog 67 [.v (.int .i64 x), .v (.int .i64 n), .v (.int .i64 t)] (.v (.bool (symOk n t x))) := by
  refine Pure.mk (rs := [.tmp 6]) (nt := 13) Try.func67 (by kernel_rfl) rfl rfl rfl (by simp) ?_
  simp only [sl]
  have hw : wr64 (n - 1) = n - 1 := wr64_id (by omega) (by omega)
  have hw2 : wr64 (-t) = -t := wr64_id (by omega) (by omega)
  have hw3 : wr64 (0 - t) = -t := by rw [wr64_id (by omega) (by omega)]; omega
  repeat' first
    | refine Holds.seq ?_
    | refine Holds.skip ?_
    | refine Holds.exit ?_
    | refine Holds.ret ?_
    | refine thenA_normal ?_
    | refine thenA_exit ?_
    | refine thenA_ret ?_
    | refine inB_normal ?_
    | refine inB_ret ?_
    | refine inB_here ?_
    | (refine inB_past ?_ ?_; (· exact rfl))
    | refine Holds.reg ?_
    | refine Holds.block ?_
    | refine GS.nil ?_
    | (refine GS.step (s' := ?_) ?_ ?_ ?_; rotate_left; (· exact rfl); (· (simp [go_sem, List.take_of_length_le, hw, hw2, hw3] <;> with_reducible rfl)))
    | (refine GS.skip ?_ ?_ ?_; (· exact rfl); (· exact rfl))
    | fail
  refine GS.cc (implIn x (-t) (n - 1)) rfl rfl rfl rfl (by simp [go_sem, List.take_of_length_le] <;> with_reducible rfl) rfl (by simp [go_sem, List.take_of_length_le]) ?_
  repeat' first
    | refine Holds.seq ?_
    | refine Holds.skip ?_
    | refine Holds.exit ?_
    | refine Holds.ret ?_
    | refine thenA_normal ?_
    | refine thenA_exit ?_
    | refine thenA_ret ?_
    | refine inB_normal ?_
    | refine inB_ret ?_
    | refine inB_here ?_
    | (refine inB_past ?_ ?_; (· exact rfl))
    | refine Holds.reg ?_
    | refine Holds.block ?_
    | refine GS.nil ?_
    | (refine GS.step (s' := ?_) ?_ ?_ ?_; rotate_left; (· exact rfl); (· (simp [go_sem, List.take_of_length_le] <;> with_reducible rfl)))
    | (refine GS.skip ?_ ?_ ?_; (· exact rfl); (· exact rfl))
    | fail
  refine Out.mk (xs := ?_) ?_ ?_ (by first | exact .inr rfl | exact .inl rfl)
  rotate_left
  · simp [go_sem, List.take_of_length_le] <;> with_reducible rfl
  exact .v _
theorem areSymbols1 (n t x : Int) (h0 : 1 ≤ n) (h1 : n ≤ 6) (h2 : 1 ≤ t) (h3 : t ≤ 4) : Pure Try.prog 66 [.v (.int .i64 x), .pi [.v (.int .i64 n)], .pi [.v (.int .i64 t)]] (.v (.bool (!symOk n t x))) := by
  refine Pure.mk (rs := [.tmp 4]) (nt := 10) Try.func66 (by kernel_rfl) rfl rfl rfl (by simp) ?_
  simp only [sl]
  repeat' first
    | refine Holds.seq ?_
    | refine Holds.skip ?_
    | refine Holds.exit ?_
    | refine Holds.ret ?_
    | refine thenA_normal ?_
    | refine thenA_exit ?_
    | refine thenA_ret ?_
    | refine inB_normal ?_
    | refine inB_ret ?_
    | refine inB_here ?_
    | (refine inB_past ?_ ?_; (· exact rfl))
    | refine Holds.reg ?_
    | refine Holds.block ?_
    | refine GS.nil ?_
    | (refine GS.step (s' := ?_) ?_ ?_ ?_; rotate_left; (· exact rfl); (· (simp [go_sem, List.take_of_length_le] <;> with_reducible rfl)))
    | (refine GS.skip ?_ ?_ ?_; (· exact rfl); (· exact rfl))
    | fail
  refine GS.cc (isSymbol n t x h0 h1 h2 h3) rfl rfl rfl rfl (by simp [go_sem, List.take_of_length_le] <;> with_reducible rfl) rfl (by simp [go_sem, List.take_of_length_le]) ?_
  repeat' first
    | refine Holds.seq ?_
    | refine Holds.skip ?_
    | refine Holds.exit ?_
    | refine Holds.ret ?_
    | refine thenA_normal ?_
    | refine thenA_exit ?_
    | refine thenA_ret ?_
    | refine inB_normal ?_
    | refine inB_ret ?_
    | refine inB_here ?_
    | (refine inB_past ?_ ?_; (· exact rfl))
    | refine Holds.reg ?_
    | refine Holds.block ?_
    | refine GS.nil ?_
    | (refine GS.step (s' := ?_) ?_ ?_ ?_; rotate_left; (· exact rfl); (· (simp [go_sem, List.take_of_length_le] <;> with_reducible rfl)))
    | (refine GS.skip ?_ ?_ ?_; (· exact rfl); (· exact rfl))
    | fail
  refine Out.mk (xs := ?_) ?_ ?_ (by first | exact .inr rfl | exact .inl rfl)
  rotate_left
  · simp [go_sem, List.take_of_length_le] <;> with_reducible rfl
  exact .v _
theorem areSymbols (xs : List Int) (n t : Int) (h0 : 1 ≤ n) (h1 : n ≤ 6) (h2 : 1 ≤ t) (h3 : t ≤ 4) (hx : xs.length < 4611686018427387904) : Pure Try.prog 52 [.im 1 (ints xs), .v (.int .i64 n), .v (.int .i64 t)] (.v (.bool (xs.all (symOk n t)))) := by
  refine Pure.mk (rs := [.tmp 6]) (nt := 11) Try.func52 (by kernel_rfl) rfl rfl rfl (by simp) ?_
  simp only [sl]
  have hc := containsFuncInt 66 [.pi [.v (.int .i64 n)], .pi [.v (.int .i64 t)]] (fun x => !symOk n t x) xs hx rfl (fun x _ => areSymbols1 n t x h0 h1 h2 h3)
  rw [all_not_any (symOk n t) xs]
  repeat' first
    | refine Holds.seq ?_
    | refine Holds.skip ?_
    | refine Holds.exit ?_
    | refine Holds.ret ?_
    | refine thenA_normal ?_
    | refine thenA_exit ?_
    | refine thenA_ret ?_
    | refine inB_normal ?_
    | refine inB_ret ?_
    | refine inB_here ?_
    | (refine inB_past ?_ ?_; (· exact rfl))
    | refine Holds.reg ?_
    | refine Holds.block ?_
    | refine GS.nil ?_
    | (refine GS.step (s' := ?_) ?_ ?_ ?_; rotate_left; (· exact rfl); (· (simp [go_sem, List.take_of_length_le] <;> with_reducible rfl)))
    | (refine GS.skip ?_ ?_ ?_; (· exact rfl); (· exact rfl))
    | fail
  refine GS.cd (hc) rfl rfl rfl rfl (by simp [go_sem, List.take_of_length_le] <;> with_reducible rfl) rfl (by exact .cons (.im _ _) (.cons (Fz.fnL (.cons (Fz.box rfl rfl rfl rfl) (.cons (Fz.box rfl rfl rfl rfl) .nil))) .nil)) rfl ?_
  repeat' first
    | refine Holds.seq ?_
    | refine Holds.skip ?_
    | refine Holds.exit ?_
    | refine Holds.ret ?_
    | refine thenA_normal ?_
    | refine thenA_exit ?_
    | refine thenA_ret ?_
    | refine inB_normal ?_
    | refine inB_ret ?_
    | refine inB_here ?_
    | (refine inB_past ?_ ?_; (· exact rfl))
    | refine Holds.reg ?_
    | refine Holds.block ?_
    | refine GS.nil ?_
    | (refine GS.step (s' := ?_) ?_ ?_ ?_; rotate_left; (· exact rfl); (· (simp [go_sem, List.take_of_length_le] <;> with_reducible rfl)))
    | (refine GS.skip ?_ ?_ ?_; (· exact rfl); (· exact rfl))
    | fail
  refine Out.mk (xs := ?_) ?_ ?_ (by first | exact .inr rfl | exact .inl rfl)
  rotate_left
  · simp [go_sem, List.take_of_length_le] <;> with_reducible rfl
  exact .v _
theorem l1SameRule (a b : RuleT) (hx : a.2.length < 4611686018427387904) : Pure Try.prog 65 [.ag (ruleC a), .ag (ruleC b)] (.v (.bool (decide (a = b)))) := by
  refine Pure.mk (rs := [.tmp 4]) (nt := 17) Try.func65 (by kernel_rfl) rfl rfl rfl (by simp) ?_
  simp only [sl, ruleC]
  repeat' first
    | refine Holds.seq ?_
    | refine Holds.skip ?_
    | refine Holds.exit ?_
    | refine Holds.ret ?_
    | refine thenA_normal ?_
    | refine thenA_exit ?_
    | refine thenA_ret ?_
    | refine inB_normal ?_
    | refine inB_ret ?_
    | refine inB_here ?_
    | (refine inB_past ?_ ?_; (· exact rfl))
    | refine Holds.reg ?_
    | refine Holds.block ?_
    | refine GS.nil ?_
    | (refine GS.step (s' := ?_) ?_ ?_ ?_; rotate_left; (· exact rfl); (· (simp [go_sem, List.take_of_length_le] <;> with_reducible rfl)))
    | (refine GS.skip ?_ ?_ ?_; (· exact rfl); (· exact rfl))
    | fail
  refine GS.guard (t := 10) rfl (fun h1 => ?_) (fun h1 => ?_)
  · repeat' first
      | refine Holds.seq ?_
      | refine Holds.skip ?_
      | refine Holds.exit ?_
      | refine Holds.ret ?_
      | refine thenA_normal ?_
      | refine thenA_exit ?_
      | refine thenA_ret ?_
      | refine inB_normal ?_
      | refine inB_ret ?_
      | refine inB_here ?_
      | (refine inB_past ?_ ?_; (· exact rfl))
      | refine Holds.reg ?_
      | refine Holds.block ?_
      | refine GS.nil ?_
      | (refine GS.step (s' := ?_) ?_ ?_ ?_; rotate_left; (· exact rfl); (· (simp [go_sem, List.take_of_length_le] <;> with_reducible rfl)))
      | (refine GS.skip ?_ ?_ ?_; (· exact rfl); (· exact rfl))
      | fail
    refine GS.cc (l1Same a.2 b.2 hx) rfl rfl rfl rfl (by simp [go_sem, List.take_of_length_le] <;> with_reducible rfl) rfl (by simp [go_sem, List.take_of_length_le]) ?_
    repeat' first
      | refine Holds.seq ?_
      | refine Holds.skip ?_
      | refine Holds.exit ?_
      | refine Holds.ret ?_
      | refine thenA_normal ?_
      | refine thenA_exit ?_
      | refine thenA_ret ?_
      | refine inB_normal ?_
      | refine inB_ret ?_
      | refine inB_here ?_
      | (refine inB_past ?_ ?_; (· exact rfl))
      | refine Holds.reg ?_
      | refine Holds.block ?_
      | refine GS.nil ?_
      | (refine GS.step (s' := ?_) ?_ ?_ ?_; rotate_left; (· exact rfl); (· (simp [go_sem, List.take_of_length_le] <;> with_reducible rfl)))
      | (refine GS.skip ?_ ?_ ?_; (· exact rfl); (· exact rfl))
      | fail
    have : decide (a.2 = b.2) = decide (a = b) := by
      obtain ⟨a1, a2⟩ := a
      obtain ⟨b1, b2⟩ := b
      simp at h1
      simp [h1]
    simp only [this]
    refine Out.mk (xs := ?_) ?_ ?_ (by first | exact .inr rfl | exact .inl rfl)
    rotate_left
    · simp [go_sem, List.take_of_length_le] <;> with_reducible rfl
    exact .v _
  · have : ¬ a = b := by rintro rfl; simp at h1
    simp only [this, decide_false]
    repeat' first
      | refine Holds.seq ?_
      | refine Holds.skip ?_
      | refine Holds.exit ?_
      | refine Holds.ret ?_
      | refine thenA_normal ?_
      | refine thenA_exit ?_
      | refine thenA_ret ?_
      | refine inB_normal ?_
      | refine inB_ret ?_
      | refine inB_here ?_
      | (refine inB_past ?_ ?_; (· exact rfl))
      | refine Holds.reg ?_
      | refine Holds.block ?_
      | refine GS.nil ?_
      | (refine GS.step (s' := ?_) ?_ ?_ ?_; rotate_left; (· exact rfl); (· (simp [go_sem, List.take_of_length_le] <;> with_reducible rfl)))
      | (refine GS.skip ?_ ?_ ?_; (· exact rfl); (· exact rfl))
      | fail
    refine Out.mk (xs := ?_) ?_ ?_ (by first | exact .inr rfl | exact .inl rfl)
    rotate_left
    · simp [go_sem, List.take_of_length_le] <;> with_reducible rfl
    exact .v _
theorem sameRule (a b : RuleT) (hx : a.2.length < 4611686018427387904) : Pure Try.prog 55 [.ag (ruleC a), .ag (ruleC b)] (.v (.bool (decide (a = b)))) := by
  refine Pure.mk (rs := [.tmp 4]) (nt := 17) Try.func55 (by kernel_rfl) rfl rfl rfl (by simp) ?_
  simp only [sl, ruleC]
  repeat' first
    | refine Holds.seq ?_
    | refine Holds.skip ?_
    | refine Holds.exit ?_
    | refine Holds.ret ?_
    | refine thenA_normal ?_
    | refine thenA_exit ?_
    | refine thenA_ret ?_
    | refine inB_normal ?_
    | refine inB_ret ?_
    | refine inB_here ?_
    | (refine inB_past ?_ ?_; (· exact rfl))
    | refine Holds.reg ?_
    | refine Holds.block ?_
    | refine GS.nil ?_
    | (refine GS.step (s' := ?_) ?_ ?_ ?_; rotate_left; (· exact rfl); (· (simp [go_sem, List.take_of_length_le] <;> with_reducible rfl)))
    | (refine GS.skip ?_ ?_ ?_; (· exact rfl); (· exact rfl))
    | fail
  refine GS.guard (t := 10) rfl (fun h1 => ?_) (fun h1 => ?_)
  · repeat' first
      | refine Holds.seq ?_
      | refine Holds.skip ?_
      | refine Holds.exit ?_
      | refine Holds.ret ?_
      | refine thenA_normal ?_
      | refine thenA_exit ?_
      | refine thenA_ret ?_
      | refine inB_normal ?_
      | refine inB_ret ?_
      | refine inB_here ?_
      | (refine inB_past ?_ ?_; (· exact rfl))
      | refine Holds.reg ?_
      | refine Holds.block ?_
      | refine GS.nil ?_
      | (refine GS.step (s' := ?_) ?_ ?_ ?_; rotate_left; (· exact rfl); (· (simp [go_sem, List.take_of_length_le] <;> with_reducible rfl)))
      | (refine GS.skip ?_ ?_ ?_; (· exact rfl); (· exact rfl))
      | fail
    refine GS.cc (equalInts a.2 b.2 hx) rfl rfl rfl rfl (by simp [go_sem, List.take_of_length_le] <;> with_reducible rfl) rfl (by simp [go_sem, List.take_of_length_le]) ?_
    repeat' first
      | refine Holds.seq ?_
      | refine Holds.skip ?_
      | refine Holds.exit ?_
      | refine Holds.ret ?_
      | refine thenA_normal ?_
      | refine thenA_exit ?_
      | refine thenA_ret ?_
      | refine inB_normal ?_
      | refine inB_ret ?_
      | refine inB_here ?_
      | (refine inB_past ?_ ?_; (· exact rfl))
      | refine Holds.reg ?_
      | refine Holds.block ?_
      | refine GS.nil ?_
      | (refine GS.step (s' := ?_) ?_ ?_ ?_; rotate_left; (· exact rfl); (· (simp [go_sem, List.take_of_length_le] <;> with_reducible rfl)))
      | (refine GS.skip ?_ ?_ ?_; (· exact rfl); (· exact rfl))
      | fail
    have : decide (a.2 = b.2) = decide (a = b) := by
      obtain ⟨a1, a2⟩ := a
      obtain ⟨b1, b2⟩ := b
      simp at h1
      simp [h1]
    simp only [this]
    refine Out.mk (xs := ?_) ?_ ?_ (by first | exact .inr rfl | exact .inl rfl)
    rotate_left
    · simp [go_sem, List.take_of_length_le] <;> with_reducible rfl
    exact .v _
  · have : ¬ a = b := by rintro rfl; simp at h1
    simp only [this, decide_false]
    repeat' first
      | refine Holds.seq ?_
      | refine Holds.skip ?_
      | refine Holds.exit ?_
      | refine Holds.ret ?_
      | refine thenA_normal ?_
      | refine thenA_exit ?_
      | refine thenA_ret ?_
      | refine inB_normal ?_
      | refine inB_ret ?_
      | refine inB_here ?_
      | (refine inB_past ?_ ?_; (· exact rfl))
      | refine Holds.reg ?_
      | refine Holds.block ?_
      | refine GS.nil ?_
      | (refine GS.step (s' := ?_) ?_ ?_ ?_; rotate_left; (· exact rfl); (· (simp [go_sem, List.take_of_length_le] <;> with_reducible rfl)))
      | (refine GS.skip ?_ ?_ ?_; (· exact rfl); (· exact rfl))
      | fail
    refine Out.mk (xs := ?_) ?_ ?_ (by first | exact .inr rfl | exact .inl rfl)
    rotate_left
    · simp [go_sem, List.take_of_length_le] <;> with_reducible rfl
    exact .v _
theorem isGrammar1 (a b : RuleT) (hx : a.2.length < 4611686018427387904) : Pure Try.prog 54 [.ag (ruleC a), .pi (ruleC b)] (.v (.bool (decide (a = b)))) := by
  refine Pure.mk (rs := [.tmp 3]) (nt := 7) Try.func54 (by kernel_rfl) rfl rfl rfl (by simp) ?_
  simp only [sl, ruleC]
  repeat' first
    | refine Holds.seq ?_
    | refine Holds.skip ?_
    | refine Holds.exit ?_
    | refine Holds.ret ?_
    | refine thenA_normal ?_
    | refine thenA_exit ?_
    | refine thenA_ret ?_
    | refine inB_normal ?_
    | refine inB_ret ?_
    | refine inB_here ?_
    | (refine inB_past ?_ ?_; (· exact rfl))
    | refine Holds.reg ?_
    | refine Holds.block ?_
    | refine GS.nil ?_
    | (refine GS.step (s' := ?_) ?_ ?_ ?_; rotate_left; (· exact rfl); (· (simp [go_sem, List.take_of_length_le] <;> with_reducible rfl)))
    | (refine GS.skip ?_ ?_ ?_; (· exact rfl); (· exact rfl))
    | fail
  refine GS.cc (sameRule a b hx) rfl rfl rfl rfl (by simp [go_sem, List.take_of_length_le, ruleC] <;> with_reducible rfl) rfl (by simp [go_sem, List.take_of_length_le, ruleC]) ?_
  repeat' first
    | refine Holds.seq ?_
    | refine Holds.skip ?_
    | refine Holds.exit ?_
    | refine Holds.ret ?_
    | refine thenA_normal ?_
    | refine thenA_exit ?_
    | refine thenA_ret ?_
    | refine inB_normal ?_
    | refine inB_ret ?_
    | refine inB_here ?_
    | (refine inB_past ?_ ?_; (· exact rfl))
    | refine Holds.reg ?_
    | refine Holds.block ?_
    | refine GS.nil ?_
    | (refine GS.step (s' := ?_) ?_ ?_ ?_; rotate_left; (· exact rfl); (· (simp [go_sem, List.take_of_length_le] <;> with_reducible rfl)))
    | (refine GS.skip ?_ ?_ ?_; (· exact rfl); (· exact rfl))
    | fail
  refine Out.mk (xs := ?_) ?_ ?_ (by first | exact .inr rfl | exact .inl rfl)
  rotate_left
  · simp [go_sem, List.take_of_length_le] <;> with_reducible rfl
  exact .v _
end Go.Proofs.Ytpnpjkkppndhfaa.En
end
section
namespace Go.Proofs.Ytpnpjkkppndhfaa.En
open Go.RowKit
set_option linter.unusedSimpArgs false
set_option linter.unusedVariables false
set_option maxHeartbeats 8000000
def goodAtG (g : GrammarT) (i : Nat) : Bool :=
  inR (g.2.2.getD i (0, [])).1 0 (g.1 - 1) && decide ((g.2.2.getD i (0, [])).2.length ≤ 4) && (g.2.2.getD i (0, [])).2.all (symOk g.1 g.2.1) && !(g.2.2.take i).any (fun s => decide (s = g.2.2.getD i (0, [])))
def goodG (g : GrammarT) : Bool := inR g.1 1 6 && inR g.2.1 1 4 && decide (g.2.2.length ≤ 16) && allB (goodAtG g) g.2.2.length
theorem any_at {α : Type} {p : α → Bool} {xs : List α} {i : Nat} {x : α} (h : xs[i]? = some x) (hp : p x = true) : xs.any p = true := List.any_eq_true.2 ⟨x, List.mem_of_getElem? h, hp⟩
theorem all_at {α : Type} {p : α → Bool} {xs : List α} {i : Nat} {x : α} (h : xs[i]? = some x) (hp : p x = false) : xs.all p = false := List.all_eq_false.2 ⟨x, List.mem_of_getElem? h, by simp [hp]⟩
theorem implGoodG (g : GrammarT) (hx : g.2.2.length < 4611686018427387904) (hs : ∀ e ∈ g.2.2, e.2.length < 4611686018427387904) : Pure Try.prog 32 [.ag (grammarC g)] (.v (.bool (goodG g))) := by
  refine Pure.mk (rs := [.tmp 2]) (nt := 59) Try.func32 (by kernel_rfl) rfl rfl rfl (by simp) ?_
  simp only [sl, grammarC]
  repeat' first
    | refine Holds.seq ?_
    | refine Holds.skip ?_
    | refine Holds.exit ?_
    | refine Holds.ret ?_
    | refine thenA_normal ?_
    | refine thenA_exit ?_
    | refine thenA_ret ?_
    | refine inB_normal ?_
    | refine inB_ret ?_
    | refine inB_here ?_
    | (refine inB_past ?_ ?_; (· exact rfl))
    | refine Holds.reg ?_
    | refine Holds.block ?_
    | refine GS.nil ?_
    | (refine GS.step (s' := ?_) ?_ ?_ ?_; rotate_left; (· exact rfl); (· (simp [go_sem, List.take_of_length_le] <;> with_reducible rfl)))
    | (refine GS.skip ?_ ?_ ?_; (· exact rfl); (· exact rfl))
    | fail
  refine GS.cc (implIn g.1 1 6) rfl rfl rfl rfl (by simp [go_sem, List.take_of_length_le] <;> with_reducible rfl) rfl (by simp [go_sem, List.take_of_length_le]) ?_
  generalize hg1 : inR g.1 1 6 = b1
  repeat' first
    | refine Holds.seq ?_
    | refine Holds.skip ?_
    | refine Holds.exit ?_
    | refine Holds.ret ?_
    | refine thenA_normal ?_
    | refine thenA_exit ?_
    | refine thenA_ret ?_
    | refine inB_normal ?_
    | refine inB_ret ?_
    | refine inB_here ?_
    | (refine inB_past ?_ ?_; (· exact rfl))
    | refine Holds.reg ?_
    | refine Holds.block ?_
    | refine GS.nil ?_
    | (refine GS.step (s' := ?_) ?_ ?_ ?_; rotate_left; (· exact rfl); (· (simp [go_sem, List.take_of_length_le] <;> with_reducible rfl)))
    | (refine GS.skip ?_ ?_ ?_; (· exact rfl); (· exact rfl))
    | fail
  refine GS.guard (t := 9) rfl (fun h => ?_) (fun h => ?_)
  · have h : b1 = false := by simpa using h
    subst h
    rw [show goodG g = false by rw [goodG, hg1]; rfl]
    repeat' first
      | refine Holds.seq ?_
      | refine Holds.skip ?_
      | refine Holds.exit ?_
      | refine Holds.ret ?_
      | refine thenA_normal ?_
      | refine thenA_exit ?_
      | refine thenA_ret ?_
      | refine inB_normal ?_
      | refine inB_ret ?_
      | refine inB_here ?_
      | (refine inB_past ?_ ?_; (· exact rfl))
      | refine Holds.reg ?_
      | refine Holds.block ?_
      | refine GS.nil ?_
      | (refine GS.step (s' := ?_) ?_ ?_ ?_; rotate_left; (· exact rfl); (· (simp [go_sem, List.take_of_length_le] <;> with_reducible rfl)))
      | (refine GS.skip ?_ ?_ ?_; (· exact rfl); (· exact rfl))
      | fail
    refine Holds.cond rfl (fun h => ?_) (fun h => ?_)
    · repeat' first
        | refine Holds.seq ?_
        | refine Holds.skip ?_
        | refine Holds.exit ?_
        | refine Holds.ret ?_
        | refine thenA_normal ?_
        | refine thenA_exit ?_
        | refine thenA_ret ?_
        | refine inB_normal ?_
        | refine inB_ret ?_
        | refine inB_here ?_
        | (refine inB_past ?_ ?_; (· exact rfl))
        | refine Holds.reg ?_
        | refine Holds.block ?_
        | refine GS.nil ?_
        | (refine GS.step (s' := ?_) ?_ ?_ ?_; rotate_left; (· exact rfl); (· (simp [go_sem, List.take_of_length_le] <;> with_reducible rfl)))
        | (refine GS.skip ?_ ?_ ?_; (· exact rfl); (· exact rfl))
        | fail
      refine Out.mk (xs := ?_) ?_ ?_ (by first | exact .inr rfl | exact .inl rfl)
      rotate_left
      · simp [go_sem, List.take_of_length_le] <;> with_reducible rfl
      exact .v _
    · cases h
  have hA : inR g.1 1 6 = true := by rw [hg1]; simpa using h
  have hA' : 1 ≤ g.1 ∧ g.1 ≤ 6 := by simpa [inR] using hA
  have hw : wr64 (g.1 - 1) = g.1 - 1 := wr64_id (by omega) (by omega)
  clear hg1 h
  repeat' first
    | refine Holds.seq ?_
    | refine Holds.skip ?_
    | refine Holds.exit ?_
    | refine Holds.ret ?_
    | refine thenA_normal ?_
    | refine thenA_exit ?_
    | refine thenA_ret ?_
    | refine inB_normal ?_
    | refine inB_ret ?_
    | refine inB_here ?_
    | (refine inB_past ?_ ?_; (· exact rfl))
    | refine Holds.reg ?_
    | refine Holds.block ?_
    | refine GS.nil ?_
    | (refine GS.step (s' := ?_) ?_ ?_ ?_; rotate_left; (· exact rfl); (· (simp [go_sem, List.take_of_length_le] <;> with_reducible rfl)))
    | (refine GS.skip ?_ ?_ ?_; (· exact rfl); (· exact rfl))
    | fail
  refine GS.cc (implIn g.2.1 1 4) rfl rfl rfl rfl (by simp [go_sem, List.take_of_length_le] <;> with_reducible rfl) rfl (by simp [go_sem, List.take_of_length_le]) ?_
  generalize hg1 : inR g.2.1 1 4 = b1
  repeat' first
    | refine Holds.seq ?_
    | refine Holds.skip ?_
    | refine Holds.exit ?_
    | refine Holds.ret ?_
    | refine thenA_normal ?_
    | refine thenA_exit ?_
    | refine thenA_ret ?_
    | refine inB_normal ?_
    | refine inB_ret ?_
    | refine inB_here ?_
    | (refine inB_past ?_ ?_; (· exact rfl))
    | refine Holds.reg ?_
    | refine Holds.block ?_
    | refine GS.nil ?_
    | (refine GS.step (s' := ?_) ?_ ?_ ?_; rotate_left; (· exact rfl); (· (simp [go_sem, List.take_of_length_le] <;> with_reducible rfl)))
    | (refine GS.skip ?_ ?_ ?_; (· exact rfl); (· exact rfl))
    | fail
  refine GS.guard (t := 15) rfl (fun h => ?_) (fun h => ?_)
  · have h : b1 = false := by simpa using h
    subst h
    rw [show goodG g = false by rw [goodG, hA, hg1]; rfl]
    repeat' first
      | refine Holds.seq ?_
      | refine Holds.skip ?_
      | refine Holds.exit ?_
      | refine Holds.ret ?_
      | refine thenA_normal ?_
      | refine thenA_exit ?_
      | refine thenA_ret ?_
      | refine inB_normal ?_
      | refine inB_ret ?_
      | refine inB_here ?_
      | (refine inB_past ?_ ?_; (· exact rfl))
      | refine Holds.reg ?_
      | refine Holds.block ?_
      | refine GS.nil ?_
      | (refine GS.step (s' := ?_) ?_ ?_ ?_; rotate_left; (· exact rfl); (· (simp [go_sem, List.take_of_length_le] <;> with_reducible rfl)))
      | (refine GS.skip ?_ ?_ ?_; (· exact rfl); (· exact rfl))
      | fail
    refine Holds.cond rfl (fun h => ?_) (fun h => ?_)
    · repeat' first
        | refine Holds.seq ?_
        | refine Holds.skip ?_
        | refine Holds.exit ?_
        | refine Holds.ret ?_
        | refine thenA_normal ?_
        | refine thenA_exit ?_
        | refine thenA_ret ?_
        | refine inB_normal ?_
        | refine inB_ret ?_
        | refine inB_here ?_
        | (refine inB_past ?_ ?_; (· exact rfl))
        | refine Holds.reg ?_
        | refine Holds.block ?_
        | refine GS.nil ?_
        | (refine GS.step (s' := ?_) ?_ ?_ ?_; rotate_left; (· exact rfl); (· (simp [go_sem, List.take_of_length_le] <;> with_reducible rfl)))
        | (refine GS.skip ?_ ?_ ?_; (· exact rfl); (· exact rfl))
        | fail
      refine Out.mk (xs := ?_) ?_ ?_ (by first | exact .inr rfl | exact .inl rfl)
      rotate_left
      · simp [go_sem, List.take_of_length_le] <;> with_reducible rfl
      exact .v _
    · cases h
  have hB : inR g.2.1 1 4 = true := by rw [hg1]; simpa using h
  have hB' : 1 ≤ g.2.1 ∧ g.2.1 ≤ 4 := by simpa [inR] using hB
  clear hg1 h
  repeat' first
    | refine Holds.seq ?_
    | refine Holds.skip ?_
    | refine Holds.exit ?_
    | refine Holds.ret ?_
    | refine thenA_normal ?_
    | refine thenA_exit ?_
    | refine thenA_ret ?_
    | refine inB_normal ?_
    | refine inB_ret ?_
    | refine inB_here ?_
    | (refine inB_past ?_ ?_; (· exact rfl))
    | refine Holds.reg ?_
    | refine Holds.block ?_
    | refine GS.nil ?_
    | (refine GS.step (s' := ?_) ?_ ?_ ?_; rotate_left; (· exact rfl); (· (simp [go_sem, List.take_of_length_le] <;> with_reducible rfl)))
    | (refine GS.skip ?_ ?_ ?_; (· exact rfl); (· exact rfl))
    | fail
  refine Holds.cond rfl (fun h => ?_) (fun h => ?_)
  · rw [show goodG g = false by have h : ¬ g.2.2.length ≤ 16 := (by simp at h; omega); rw [goodG, hA, hB, decide_eq_false h]; rfl]
    repeat' first
      | refine Holds.seq ?_
      | refine Holds.skip ?_
      | refine Holds.exit ?_
      | refine Holds.ret ?_
      | refine thenA_normal ?_
      | refine thenA_exit ?_
      | refine thenA_ret ?_
      | refine inB_normal ?_
      | refine inB_ret ?_
      | refine inB_here ?_
      | (refine inB_past ?_ ?_; (· exact rfl))
      | refine Holds.reg ?_
      | refine Holds.block ?_
      | refine GS.nil ?_
      | (refine GS.step (s' := ?_) ?_ ?_ ?_; rotate_left; (· exact rfl); (· (simp [go_sem, List.take_of_length_le] <;> with_reducible rfl)))
      | (refine GS.skip ?_ ?_ ?_; (· exact rfl); (· exact rfl))
      | fail
    refine Out.mk (xs := ?_) ?_ ?_ (by first | exact .inr rfl | exact .inl rfl)
    rotate_left
    · simp [go_sem, List.take_of_length_le] <;> with_reducible rfl
    exact .v _
  have hC : g.2.2.length ≤ 16 := by simp at h; omega
  have hG : goodG g = allB (goodAtG g) g.2.2.length := by rw [goodG, hA, hB, decide_eq_true hC]; rfl
  rw [hG]
  clear h
  repeat' first
    | refine Holds.seq ?_
    | refine Holds.skip ?_
    | refine Holds.exit ?_
    | refine Holds.ret ?_
    | refine thenA_normal ?_
    | refine thenA_exit ?_
    | refine thenA_ret ?_
    | refine inB_normal ?_
    | refine inB_ret ?_
    | refine inB_here ?_
    | (refine inB_past ?_ ?_; (· exact rfl))
    | refine Holds.reg ?_
    | refine Holds.block ?_
    | refine GS.nil ?_
    | (refine GS.step (s' := ?_) ?_ ?_ ?_; rotate_left; (· exact rfl); (· (simp [go_sem, List.take_of_length_le] <;> with_reducible rfl)))
    | (refine GS.skip ?_ ?_ ?_; (· exact rfl); (· exact rfl))
    | fail
  refine Holds.loop (ι := Nat) (fun i => ⟨[(1, .pb 0 3 0 0), (22, .im 2 (rules g.2.2)), (23, .v (.int .i64 g.2.2.length)), (24, .v (.int .i64 i))], [(0, ⟨31, 3, [[.v (.int .i64 g.1), .v (.int .i64 g.2.1), .im 2 (rules g.2.2)]]⟩)], 1⟩) (fun i => i ≤ g.2.2.length ∧ allB (goodAtG g) i = true) (fun i => g.2.2.length - i) 0 ⟨Nat.zero_le _, rfl⟩ ?_ ?_
  · exact Cov.ofn (id) rfl (by simp [go_sem, List.take_of_length_le, ren, ren1, okr, okr1, ChkT, ChkN, BlkN, nf]) (by simp [go_sem, List.take_of_length_le, ren, ren1, okr, okr1, ChkT, ChkN, BlkN, nf])
  rintro i ⟨hi, hall⟩
  repeat' first
    | refine Holds.seq ?_
    | refine Holds.skip ?_
    | refine Holds.exit ?_
    | refine Holds.ret ?_
    | refine thenA_normal ?_
    | refine thenA_exit ?_
    | refine thenA_ret ?_
    | refine inB_normal ?_
    | refine inB_ret ?_
    | refine inB_here ?_
    | (refine inB_past ?_ ?_; (· exact rfl))
    | refine Holds.reg ?_
    | refine Holds.block ?_
    | refine GS.nil ?_
    | (refine GS.step (s' := ?_) ?_ ?_ ?_; rotate_left; (· exact rfl); (· (simp [go_sem, List.take_of_length_le] <;> with_reducible rfl)))
    | (refine GS.skip ?_ ?_ ?_; (· exact rfl); (· exact rfl))
    | fail
  refine Holds.cond rfl (fun hl => ?_) (fun hl => ?_)
  · have hlt : i < g.2.2.length := by simpa using hl
    have hxi : g.2.2[i]? = some g.2.2[i] := List.getElem?_eq_getElem hlt
    have hd : g.2.2.getD i (0, []) = g.2.2[i] := by simp [hlt]
    have no : goodAtG g i = false → Out Try.prog [.tmp 2] (.v (.bool (allB (goodAtG g) g.2.2.length))) = Out Try.prog [.tmp 2] (.v (.bool false)) := fun h => by rw [allB_no hlt h]
    have hlen := hs _ (List.getElem_mem hlt)
    have hgA : goodAtG g i = (inR g.2.2[i].1 0 (g.1 - 1) && decide (g.2.2[i].2.length ≤ 4) && g.2.2[i].2.all (symOk g.1 g.2.1) && !(g.2.2.take i).any (fun s => decide (s = g.2.2[i]))) := by simp only [goodAtG, hd]
    repeat' first
      | refine Holds.seq ?_
      | refine Holds.skip ?_
      | refine Holds.exit ?_
      | refine Holds.ret ?_
      | refine thenA_normal ?_
      | refine thenA_exit ?_
      | refine thenA_ret ?_
      | refine inB_normal ?_
      | refine inB_ret ?_
      | refine inB_here ?_
      | (refine inB_past ?_ ?_; (· exact rfl))
      | refine Holds.reg ?_
      | refine Holds.block ?_
      | refine GS.nil ?_
      | (refine GS.step (s' := ?_) ?_ ?_ ?_; rotate_left; (· exact rfl); (· (simp [go_sem, List.take_of_length_le, hxi, ruleC, hw] <;> with_reducible rfl)))
      | (refine GS.skip ?_ ?_ ?_; (· exact rfl); (· exact rfl))
      | fail
    refine GS.cc (implIn g.2.2[i].1 0 (g.1 - 1)) rfl rfl rfl rfl (by simp [go_sem, List.take_of_length_le] <;> with_reducible rfl) rfl (by simp [go_sem, List.take_of_length_le]) ?_
    generalize hg1 : inR g.2.2[i].1 0 (g.1 - 1) = b1
    rw [hg1] at hgA
    repeat' first
      | refine Holds.seq ?_
      | refine Holds.skip ?_
      | refine Holds.exit ?_
      | refine Holds.ret ?_
      | refine thenA_normal ?_
      | refine thenA_exit ?_
      | refine thenA_ret ?_
      | refine inB_normal ?_
      | refine inB_ret ?_
      | refine inB_here ?_
      | (refine inB_past ?_ ?_; (· exact rfl))
      | refine Holds.reg ?_
      | refine Holds.block ?_
      | refine GS.nil ?_
      | (refine GS.step (s' := ?_) ?_ ?_ ?_; rotate_left; (· exact rfl); (· (simp [go_sem, List.take_of_length_le] <;> with_reducible rfl)))
      | (refine GS.skip ?_ ?_ ?_; (· exact rfl); (· exact rfl))
      | fail
    refine GS.guard (t := 36) rfl (fun h => ?_) (fun h => ?_)
    · have h : b1 = false := by simpa using h
      subst h
      rw [no (by rw [hgA]; rfl)]
      repeat' first
        | refine Holds.seq ?_
        | refine Holds.skip ?_
        | refine Holds.exit ?_
        | refine Holds.ret ?_
        | refine thenA_normal ?_
        | refine thenA_exit ?_
        | refine thenA_ret ?_
        | refine inB_normal ?_
        | refine inB_ret ?_
        | refine inB_here ?_
        | (refine inB_past ?_ ?_; (· exact rfl))
        | refine Holds.reg ?_
        | refine Holds.block ?_
        | refine GS.nil ?_
        | (refine GS.step (s' := ?_) ?_ ?_ ?_; rotate_left; (· exact rfl); (· (simp [go_sem, List.take_of_length_le] <;> with_reducible rfl)))
        | (refine GS.skip ?_ ?_ ?_; (· exact rfl); (· exact rfl))
        | fail
      refine Holds.cond rfl (fun h => ?_) (fun h => ?_)
      · repeat' first
          | refine Holds.seq ?_
          | refine Holds.skip ?_
          | refine Holds.exit ?_
          | refine Holds.ret ?_
          | refine thenA_normal ?_
          | refine thenA_exit ?_
          | refine thenA_ret ?_
          | refine inB_normal ?_
          | refine inB_ret ?_
          | refine inB_here ?_
          | (refine inB_past ?_ ?_; (· exact rfl))
          | refine Holds.reg ?_
          | refine Holds.block ?_
          | refine GS.nil ?_
          | (refine GS.step (s' := ?_) ?_ ?_ ?_; rotate_left; (· exact rfl); (· (simp [go_sem, List.take_of_length_le] <;> with_reducible rfl)))
          | (refine GS.skip ?_ ?_ ?_; (· exact rfl); (· exact rfl))
          | fail
        refine Out.mk (xs := ?_) ?_ ?_ (by first | exact .inr rfl | exact .inl rfl)
        rotate_left
        · simp [go_sem, List.take_of_length_le] <;> with_reducible rfl
        exact .v _
      · cases h
    have h : b1 = true := by simpa using h
    subst h
    repeat' first
      | refine Holds.seq ?_
      | refine Holds.skip ?_
      | refine Holds.exit ?_
      | refine Holds.ret ?_
      | refine thenA_normal ?_
      | refine thenA_exit ?_
      | refine thenA_ret ?_
      | refine inB_normal ?_
      | refine inB_ret ?_
      | refine inB_here ?_
      | (refine inB_past ?_ ?_; (· exact rfl))
      | refine Holds.reg ?_
      | refine Holds.block ?_
      | refine GS.nil ?_
      | (refine GS.step (s' := ?_) ?_ ?_ ?_; rotate_left; (· exact rfl); (· (simp [go_sem, List.take_of_length_le] <;> with_reducible rfl)))
      | (refine GS.skip ?_ ?_ ?_; (· exact rfl); (· exact rfl))
      | fail
    refine GS.guard (t := 42) rfl (fun h => ?_) (fun h => ?_)
    · have h : ¬ g.2.2[i].2.length ≤ 4 := by simp at h; omega
      rw [no (by rw [hgA, decide_eq_false h]; rfl)]
      repeat' first
        | refine Holds.seq ?_
        | refine Holds.skip ?_
        | refine Holds.exit ?_
        | refine Holds.ret ?_
        | refine thenA_normal ?_
        | refine thenA_exit ?_
        | refine thenA_ret ?_
        | refine inB_normal ?_
        | refine inB_ret ?_
        | refine inB_here ?_
        | (refine inB_past ?_ ?_; (· exact rfl))
        | refine Holds.reg ?_
        | refine Holds.block ?_
        | refine GS.nil ?_
        | (refine GS.step (s' := ?_) ?_ ?_ ?_; rotate_left; (· exact rfl); (· (simp [go_sem, List.take_of_length_le] <;> with_reducible rfl)))
        | (refine GS.skip ?_ ?_ ?_; (· exact rfl); (· exact rfl))
        | fail
      refine Holds.cond rfl (fun h => ?_) (fun h => ?_)
      · repeat' first
          | refine Holds.seq ?_
          | refine Holds.skip ?_
          | refine Holds.exit ?_
          | refine Holds.ret ?_
          | refine thenA_normal ?_
          | refine thenA_exit ?_
          | refine thenA_ret ?_
          | refine inB_normal ?_
          | refine inB_ret ?_
          | refine inB_here ?_
          | (refine inB_past ?_ ?_; (· exact rfl))
          | refine Holds.reg ?_
          | refine Holds.block ?_
          | refine GS.nil ?_
          | (refine GS.step (s' := ?_) ?_ ?_ ?_; rotate_left; (· exact rfl); (· (simp [go_sem, List.take_of_length_le] <;> with_reducible rfl)))
          | (refine GS.skip ?_ ?_ ?_; (· exact rfl); (· exact rfl))
          | fail
        refine Out.mk (xs := ?_) ?_ ?_ (by first | exact .inr rfl | exact .inl rfl)
        rotate_left
        · simp [go_sem, List.take_of_length_le] <;> with_reducible rfl
        exact .v _
      · cases h
    have h4 : g.2.2[i].2.length ≤ 4 := by simp at h; omega
    rw [decide_eq_true h4] at hgA
    repeat' first
      | refine Holds.seq ?_
      | refine Holds.skip ?_
      | refine Holds.exit ?_
      | refine Holds.ret ?_
      | refine thenA_normal ?_
      | refine thenA_exit ?_
      | refine thenA_ret ?_
      | refine inB_normal ?_
      | refine inB_ret ?_
      | refine inB_here ?_
      | (refine inB_past ?_ ?_; (· exact rfl))
      | refine Holds.reg ?_
      | refine Holds.block ?_
      | refine GS.nil ?_
      | (refine GS.step (s' := ?_) ?_ ?_ ?_; rotate_left; (· exact rfl); (· (simp [go_sem, List.take_of_length_le] <;> with_reducible rfl)))
      | (refine GS.skip ?_ ?_ ?_; (· exact rfl); (· exact rfl))
      | fail
    refine GS.cc (areSymbols g.2.2[i].2 g.1 g.2.1 hA'.1 hA'.2 hB'.1 hB'.2 hlen) rfl rfl rfl rfl (by simp [go_sem, List.take_of_length_le] <;> with_reducible rfl) rfl (by simp [go_sem, List.take_of_length_le]) ?_
    generalize hg2 : g.2.2[i].2.all (symOk g.1 g.2.1) = b2
    rw [hg2] at hgA
    repeat' first
      | refine Holds.seq ?_
      | refine Holds.skip ?_
      | refine Holds.exit ?_
      | refine Holds.ret ?_
      | refine thenA_normal ?_
      | refine thenA_exit ?_
      | refine thenA_ret ?_
      | refine inB_normal ?_
      | refine inB_ret ?_
      | refine inB_here ?_
      | (refine inB_past ?_ ?_; (· exact rfl))
      | refine Holds.reg ?_
      | refine Holds.block ?_
      | refine GS.nil ?_
      | (refine GS.step (s' := ?_) ?_ ?_ ?_; rotate_left; (· exact rfl); (· (simp [go_sem, List.take_of_length_le] <;> with_reducible rfl)))
      | (refine GS.skip ?_ ?_ ?_; (· exact rfl); (· exact rfl))
      | fail
    refine Holds.cond rfl (fun h => ?_) (fun h => ?_)
    · have h : b2 = false := by simpa using h
      subst h
      rw [no (by rw [hgA]; rfl)]
      repeat' first
        | refine Holds.seq ?_
        | refine Holds.skip ?_
        | refine Holds.exit ?_
        | refine Holds.ret ?_
        | refine thenA_normal ?_
        | refine thenA_exit ?_
        | refine thenA_ret ?_
        | refine inB_normal ?_
        | refine inB_ret ?_
        | refine inB_here ?_
        | (refine inB_past ?_ ?_; (· exact rfl))
        | refine Holds.reg ?_
        | refine Holds.block ?_
        | refine GS.nil ?_
        | (refine GS.step (s' := ?_) ?_ ?_ ?_; rotate_left; (· exact rfl); (· (simp [go_sem, List.take_of_length_le] <;> with_reducible rfl)))
        | (refine GS.skip ?_ ?_ ?_; (· exact rfl); (· exact rfl))
        | fail
      refine Out.mk (xs := ?_) ?_ ?_ (by first | exact .inr rfl | exact .inl rfl)
      rotate_left
      · simp [go_sem, List.take_of_length_le] <;> with_reducible rfl
      exact .v _
    have h : b2 = true := by simpa using h
    subst h
    have htk : (rules g.2.2).take i = rules (g.2.2.take i) := by simp [rules, List.map_take]
    have hil : (g.2.2.take i).length < 4611686018427387904 := by rw [List.length_take]; omega
    have hcf := containsFuncRule 54 [.pi (ruleC g.2.2[i])] (fun s => decide (s = g.2.2[i])) (g.2.2.take i) hil rfl (fun x hx => isGrammar1 x g.2.2[i] (hs _ (List.mem_of_mem_take hx)))
    generalize hg3 : (g.2.2.take i).any (fun s => decide (s = g.2.2[i])) = b3 at hgA hcf
    repeat' first
      | refine Holds.seq ?_
      | refine Holds.skip ?_
      | refine Holds.exit ?_
      | refine Holds.ret ?_
      | refine thenA_normal ?_
      | refine thenA_exit ?_
      | refine thenA_ret ?_
      | refine inB_normal ?_
      | refine inB_ret ?_
      | refine inB_here ?_
      | (refine inB_past ?_ ?_; (· exact rfl))
      | refine Holds.reg ?_
      | refine Holds.block ?_
      | refine GS.nil ?_
      | (refine GS.step (s' := ?_) ?_ ?_ ?_; rotate_left; (· exact rfl); (· (simp [go_sem, List.take_of_length_le, htk, show i ≤ g.2.2.length by omega] <;> with_reducible rfl)))
      | (refine GS.skip ?_ ?_ ?_; (· exact rfl); (· exact rfl))
      | fail
    refine GS.cd (hcf) rfl rfl rfl rfl (by simp [go_sem, List.take_of_length_le] <;> with_reducible rfl) rfl (by exact .cons (.im _ _) (.cons (Fz.fnL (.cons (Fz.box rfl rfl rfl rfl) .nil)) .nil)) rfl ?_
    repeat' first
      | refine Holds.seq ?_
      | refine Holds.skip ?_
      | refine Holds.exit ?_
      | refine Holds.ret ?_
      | refine thenA_normal ?_
      | refine thenA_exit ?_
      | refine thenA_ret ?_
      | refine inB_normal ?_
      | refine inB_ret ?_
      | refine inB_here ?_
      | (refine inB_past ?_ ?_; (· exact rfl))
      | refine Holds.reg ?_
      | refine Holds.block ?_
      | refine GS.nil ?_
      | (refine GS.step (s' := ?_) ?_ ?_ ?_; rotate_left; (· exact rfl); (· (simp [go_sem, List.take_of_length_le] <;> with_reducible rfl)))
      | (refine GS.skip ?_ ?_ ?_; (· exact rfl); (· exact rfl))
      | fail
    refine Holds.cond rfl (fun h => ?_) (fun h => ?_)
    · have h : b3 = true := by simpa using h
      subst h
      rw [no (by rw [hgA]; rfl)]
      repeat' first
        | refine Holds.seq ?_
        | refine Holds.skip ?_
        | refine Holds.exit ?_
        | refine Holds.ret ?_
        | refine thenA_normal ?_
        | refine thenA_exit ?_
        | refine thenA_ret ?_
        | refine inB_normal ?_
        | refine inB_ret ?_
        | refine inB_here ?_
        | (refine inB_past ?_ ?_; (· exact rfl))
        | refine Holds.reg ?_
        | refine Holds.block ?_
        | refine GS.nil ?_
        | (refine GS.step (s' := ?_) ?_ ?_ ?_; rotate_left; (· exact rfl); (· (simp [go_sem, List.take_of_length_le] <;> with_reducible rfl)))
        | (refine GS.skip ?_ ?_ ?_; (· exact rfl); (· exact rfl))
        | fail
      refine Out.mk (xs := ?_) ?_ ?_ (by first | exact .inr rfl | exact .inl rfl)
      rotate_left
      · simp [go_sem, List.take_of_length_le] <;> with_reducible rfl
      exact .v _
    · have h : b3 = false := by simpa using h
      subst h
      have hgood : goodAtG g i = true := by rw [hgA]; rfl
      repeat' first
        | refine Holds.seq ?_
        | refine Holds.skip ?_
        | refine Holds.exit ?_
        | refine Holds.ret ?_
        | refine thenA_normal ?_
        | refine thenA_exit ?_
        | refine thenA_ret ?_
        | refine inB_normal ?_
        | refine inB_ret ?_
        | refine inB_here ?_
        | (refine inB_past ?_ ?_; (· exact rfl))
        | refine Holds.reg ?_
        | refine Holds.block ?_
        | refine GS.nil ?_
        | (refine GS.step (s' := ?_) ?_ ?_ ?_; rotate_left; (· exact rfl); (· (simp [go_sem, List.take_of_length_le] <;> with_reducible rfl)))
        | (refine GS.skip ?_ ?_ ?_; (· exact rfl); (· exact rfl))
        | fail
      refine ⟨i + 1, ⟨by omega, by unfold allB; rw [hall, hgood]; rfl⟩, by omega, ?_⟩
      rw [wr64_id (by omega) (by omega)]
      exact Cov.ofn (id) rfl (by simp [go_sem, List.take_of_length_le, ren, ren1, okr, okr1, ChkT, ChkN, BlkN, nf]) (by simp [go_sem, List.take_of_length_le, ren, ren1, okr, okr1, ChkT, ChkN, BlkN, nf])
  · have hle : i = g.2.2.length := by
      have : ¬ i < g.2.2.length := by simpa using hl
      omega
    subst hle
    rw [hall]
    repeat' first
      | refine Holds.seq ?_
      | refine Holds.skip ?_
      | refine Holds.exit ?_
      | refine Holds.ret ?_
      | refine thenA_normal ?_
      | refine thenA_exit ?_
      | refine thenA_ret ?_
      | refine inB_normal ?_
      | refine inB_ret ?_
      | refine inB_here ?_
      | (refine inB_past ?_ ?_; (· exact rfl))
      | refine Holds.reg ?_
      | refine Holds.block ?_
      | refine GS.nil ?_
      | (refine GS.step (s' := ?_) ?_ ?_ ?_; rotate_left; (· exact rfl); (· (simp [go_sem, List.take_of_length_le] <;> with_reducible rfl)))
      | (refine GS.skip ?_ ?_ ?_; (· exact rfl); (· exact rfl))
      | fail
    refine Out.mk (xs := ?_) ?_ ?_ (by first | exact .inr rfl | exact .inl rfl)
    rotate_left
    · simp [go_sem, List.take_of_length_le] <;> with_reducible rfl
    exact .v _
end Go.Proofs.Ytpnpjkkppndhfaa.En
end
section
namespace Go.Proofs.Ytpnpjkkppndhfaa.En
open Go.RowKit
set_option linter.unusedSimpArgs false
set_option linter.unusedVariables false
set_option maxHeartbeats 8000000
theorem specGoodG (g : GrammarT) (hx : g.2.2.length < 4611686018427387904) (hs : ∀ e ∈ g.2.2, e.2.length < 4611686018427387904) : Pure Try.prog 46 [.ag (grammarC g)] (.v (.bool (goodG g))) := by
  refine Pure.mk (rs := [.tmp 2]) (nt := 72) Try.func46 (by kernel_rfl) rfl rfl rfl (by simp) ?_
  simp only [sl, grammarC]
  repeat' first
    | refine Holds.seq ?_
    | refine Holds.skip ?_
    | refine Holds.exit ?_
    | refine Holds.ret ?_
    | refine thenA_normal ?_
    | refine thenA_exit ?_
    | refine thenA_ret ?_
    | refine inB_normal ?_
    | refine inB_ret ?_
    | refine inB_here ?_
    | (refine inB_past ?_ ?_; (· exact rfl))
    | refine Holds.reg ?_
    | refine Holds.block ?_
    | refine GS.nil ?_
    | (refine GS.step (s' := ?_) ?_ ?_ ?_; rotate_left; (· exact rfl); (· (simp [go_sem, List.take_of_length_le] <;> with_reducible rfl)))
    | (refine GS.skip ?_ ?_ ?_; (· exact rfl); (· exact rfl))
    | fail
  refine GS.cc (l1In g.1 1 6) rfl rfl rfl rfl (by simp [go_sem, List.take_of_length_le] <;> with_reducible rfl) rfl (by simp [go_sem, List.take_of_length_le]) ?_
  generalize hg1 : inR g.1 1 6 = b1
  repeat' first
    | refine Holds.seq ?_
    | refine Holds.skip ?_
    | refine Holds.exit ?_
    | refine Holds.ret ?_
    | refine thenA_normal ?_
    | refine thenA_exit ?_
    | refine thenA_ret ?_
    | refine inB_normal ?_
    | refine inB_ret ?_
    | refine inB_here ?_
    | (refine inB_past ?_ ?_; (· exact rfl))
    | refine Holds.reg ?_
    | refine Holds.block ?_
    | refine GS.nil ?_
    | (refine GS.step (s' := ?_) ?_ ?_ ?_; rotate_left; (· exact rfl); (· (simp [go_sem, List.take_of_length_le] <;> with_reducible rfl)))
    | (refine GS.skip ?_ ?_ ?_; (· exact rfl); (· exact rfl))
    | fail
  refine GS.guard (t := 13) rfl (fun h => ?_) (fun h => ?_)
  · have h : b1 = false := by simpa using h
    subst h
    rw [show goodG g = false by rw [goodG, hg1]; rfl]
    repeat' first
      | refine Holds.seq ?_
      | refine Holds.skip ?_
      | refine Holds.exit ?_
      | refine Holds.ret ?_
      | refine thenA_normal ?_
      | refine thenA_exit ?_
      | refine thenA_ret ?_
      | refine inB_normal ?_
      | refine inB_ret ?_
      | refine inB_here ?_
      | (refine inB_past ?_ ?_; (· exact rfl))
      | refine Holds.reg ?_
      | refine Holds.block ?_
      | refine GS.nil ?_
      | (refine GS.step (s' := ?_) ?_ ?_ ?_; rotate_left; (· exact rfl); (· (simp [go_sem, List.take_of_length_le] <;> with_reducible rfl)))
      | (refine GS.skip ?_ ?_ ?_; (· exact rfl); (· exact rfl))
      | fail
    refine Holds.cond rfl (fun h => ?_) (fun h => ?_)
    · repeat' first
        | refine Holds.seq ?_
        | refine Holds.skip ?_
        | refine Holds.exit ?_
        | refine Holds.ret ?_
        | refine thenA_normal ?_
        | refine thenA_exit ?_
        | refine thenA_ret ?_
        | refine inB_normal ?_
        | refine inB_ret ?_
        | refine inB_here ?_
        | (refine inB_past ?_ ?_; (· exact rfl))
        | refine Holds.reg ?_
        | refine Holds.block ?_
        | refine GS.nil ?_
        | (refine GS.step (s' := ?_) ?_ ?_ ?_; rotate_left; (· exact rfl); (· (simp [go_sem, List.take_of_length_le] <;> with_reducible rfl)))
        | (refine GS.skip ?_ ?_ ?_; (· exact rfl); (· exact rfl))
        | fail
      refine Out.mk (xs := ?_) ?_ ?_ (by first | exact .inr rfl | exact .inl rfl)
      rotate_left
      · simp [go_sem, List.take_of_length_le] <;> with_reducible rfl
      exact .v _
    · cases h
  have hA : inR g.1 1 6 = true := by rw [hg1]; simpa using h
  have hA' : 1 ≤ g.1 ∧ g.1 ≤ 6 := by simpa [inR] using hA
  have hw : wr64 (g.1 - 1) = g.1 - 1 := wr64_id (by omega) (by omega)
  clear hg1 h
  repeat' first
    | refine Holds.seq ?_
    | refine Holds.skip ?_
    | refine Holds.exit ?_
    | refine Holds.ret ?_
    | refine thenA_normal ?_
    | refine thenA_exit ?_
    | refine thenA_ret ?_
    | refine inB_normal ?_
    | refine inB_ret ?_
    | refine inB_here ?_
    | (refine inB_past ?_ ?_; (· exact rfl))
    | refine Holds.reg ?_
    | refine Holds.block ?_
    | refine GS.nil ?_
    | (refine GS.step (s' := ?_) ?_ ?_ ?_; rotate_left; (· exact rfl); (· (simp [go_sem, List.take_of_length_le] <;> with_reducible rfl)))
    | (refine GS.skip ?_ ?_ ?_; (· exact rfl); (· exact rfl))
    | fail
  refine GS.cc (l1In g.2.1 1 4) rfl rfl rfl rfl (by simp [go_sem, List.take_of_length_le] <;> with_reducible rfl) rfl (by simp [go_sem, List.take_of_length_le]) ?_
  generalize hg1 : inR g.2.1 1 4 = b1
  repeat' first
    | refine Holds.seq ?_
    | refine Holds.skip ?_
    | refine Holds.exit ?_
    | refine Holds.ret ?_
    | refine thenA_normal ?_
    | refine thenA_exit ?_
    | refine thenA_ret ?_
    | refine inB_normal ?_
    | refine inB_ret ?_
    | refine inB_here ?_
    | (refine inB_past ?_ ?_; (· exact rfl))
    | refine Holds.reg ?_
    | refine Holds.block ?_
    | refine GS.nil ?_
    | (refine GS.step (s' := ?_) ?_ ?_ ?_; rotate_left; (· exact rfl); (· (simp [go_sem, List.take_of_length_le] <;> with_reducible rfl)))
    | (refine GS.skip ?_ ?_ ?_; (· exact rfl); (· exact rfl))
    | fail
  refine GS.guard (t := 19) rfl (fun h => ?_) (fun h => ?_)
  · have h : b1 = false := by simpa using h
    subst h
    rw [show goodG g = false by rw [goodG, hA, hg1]; rfl]
    repeat' first
      | refine Holds.seq ?_
      | refine Holds.skip ?_
      | refine Holds.exit ?_
      | refine Holds.ret ?_
      | refine thenA_normal ?_
      | refine thenA_exit ?_
      | refine thenA_ret ?_
      | refine inB_normal ?_
      | refine inB_ret ?_
      | refine inB_here ?_
      | (refine inB_past ?_ ?_; (· exact rfl))
      | refine Holds.reg ?_
      | refine Holds.block ?_
      | refine GS.nil ?_
      | (refine GS.step (s' := ?_) ?_ ?_ ?_; rotate_left; (· exact rfl); (· (simp [go_sem, List.take_of_length_le] <;> with_reducible rfl)))
      | (refine GS.skip ?_ ?_ ?_; (· exact rfl); (· exact rfl))
      | fail
    refine Holds.cond rfl (fun h => ?_) (fun h => ?_)
    · repeat' first
        | refine Holds.seq ?_
        | refine Holds.skip ?_
        | refine Holds.exit ?_
        | refine Holds.ret ?_
        | refine thenA_normal ?_
        | refine thenA_exit ?_
        | refine thenA_ret ?_
        | refine inB_normal ?_
        | refine inB_ret ?_
        | refine inB_here ?_
        | (refine inB_past ?_ ?_; (· exact rfl))
        | refine Holds.reg ?_
        | refine Holds.block ?_
        | refine GS.nil ?_
        | (refine GS.step (s' := ?_) ?_ ?_ ?_; rotate_left; (· exact rfl); (· (simp [go_sem, List.take_of_length_le] <;> with_reducible rfl)))
        | (refine GS.skip ?_ ?_ ?_; (· exact rfl); (· exact rfl))
        | fail
      refine Out.mk (xs := ?_) ?_ ?_ (by first | exact .inr rfl | exact .inl rfl)
      rotate_left
      · simp [go_sem, List.take_of_length_le] <;> with_reducible rfl
      exact .v _
    · cases h
  have hB : inR g.2.1 1 4 = true := by rw [hg1]; simpa using h
  have hB' : 1 ≤ g.2.1 ∧ g.2.1 ≤ 4 := by simpa [inR] using hB
  clear hg1 h
  repeat' first
    | refine Holds.seq ?_
    | refine Holds.skip ?_
    | refine Holds.exit ?_
    | refine Holds.ret ?_
    | refine thenA_normal ?_
    | refine thenA_exit ?_
    | refine thenA_ret ?_
    | refine inB_normal ?_
    | refine inB_ret ?_
    | refine inB_here ?_
    | (refine inB_past ?_ ?_; (· exact rfl))
    | refine Holds.reg ?_
    | refine Holds.block ?_
    | refine GS.nil ?_
    | (refine GS.step (s' := ?_) ?_ ?_ ?_; rotate_left; (· exact rfl); (· (simp [go_sem, List.take_of_length_le] <;> with_reducible rfl)))
    | (refine GS.skip ?_ ?_ ?_; (· exact rfl); (· exact rfl))
    | fail
  refine Holds.cond rfl (fun h => ?_) (fun h => ?_)
  · rw [show goodG g = false by have h : ¬ g.2.2.length ≤ 16 := (by simp at h; omega); rw [goodG, hA, hB, decide_eq_false h]; rfl]
    repeat' first
      | refine Holds.seq ?_
      | refine Holds.skip ?_
      | refine Holds.exit ?_
      | refine Holds.ret ?_
      | refine thenA_normal ?_
      | refine thenA_exit ?_
      | refine thenA_ret ?_
      | refine inB_normal ?_
      | refine inB_ret ?_
      | refine inB_here ?_
      | (refine inB_past ?_ ?_; (· exact rfl))
      | refine Holds.reg ?_
      | refine Holds.block ?_
      | refine GS.nil ?_
      | (refine GS.step (s' := ?_) ?_ ?_ ?_; rotate_left; (· exact rfl); (· (simp [go_sem, List.take_of_length_le] <;> with_reducible rfl)))
      | (refine GS.skip ?_ ?_ ?_; (· exact rfl); (· exact rfl))
      | fail
    refine Out.mk (xs := ?_) ?_ ?_ (by first | exact .inr rfl | exact .inl rfl)
    rotate_left
    · simp [go_sem, List.take_of_length_le] <;> with_reducible rfl
    exact .v _
  have hC : g.2.2.length ≤ 16 := by simp at h; omega
  have hG : goodG g = allB (goodAtG g) g.2.2.length := by rw [goodG, hA, hB, decide_eq_true hC]; rfl
  rw [hG]
  clear h
  repeat' first
    | refine Holds.seq ?_
    | refine Holds.skip ?_
    | refine Holds.exit ?_
    | refine Holds.ret ?_
    | refine thenA_normal ?_
    | refine thenA_exit ?_
    | refine thenA_ret ?_
    | refine inB_normal ?_
    | refine inB_ret ?_
    | refine inB_here ?_
    | (refine inB_past ?_ ?_; (· exact rfl))
    | refine Holds.reg ?_
    | refine Holds.block ?_
    | refine GS.nil ?_
    | (refine GS.step (s' := ?_) ?_ ?_ ?_; rotate_left; (· exact rfl); (· (simp [go_sem, List.take_of_length_le] <;> with_reducible rfl)))
    | (refine GS.skip ?_ ?_ ?_; (· exact rfl); (· exact rfl))
    | fail
  refine Holds.loop (ι := Nat) (fun i => ⟨[(1, .pb 0 3 0 0), (26, .im 2 (rules g.2.2)), (27, .v (.int .i64 g.2.2.length)), (28, .v (.int .i64 i))], [(0, ⟨31, 3, [[.v (.int .i64 g.1), .v (.int .i64 g.2.1), .im 2 (rules g.2.2)]]⟩)], 1⟩) (fun i => i ≤ g.2.2.length ∧ allB (goodAtG g) i = true) (fun i => g.2.2.length - i) 0 ⟨Nat.zero_le _, rfl⟩ ?_ ?_
  · exact Cov.ofn (id) rfl (by simp [go_sem, List.take_of_length_le, ren, ren1, okr, okr1, ChkT, ChkN, BlkN, nf]) (by simp [go_sem, List.take_of_length_le, ren, ren1, okr, okr1, ChkT, ChkN, BlkN, nf])
  rintro i ⟨hi, hall⟩
  repeat' first
    | refine Holds.seq ?_
    | refine Holds.skip ?_
    | refine Holds.exit ?_
    | refine Holds.ret ?_
    | refine thenA_normal ?_
    | refine thenA_exit ?_
    | refine thenA_ret ?_
    | refine inB_normal ?_
    | refine inB_ret ?_
    | refine inB_here ?_
    | (refine inB_past ?_ ?_; (· exact rfl))
    | refine Holds.reg ?_
    | refine Holds.block ?_
    | refine GS.nil ?_
    | (refine GS.step (s' := ?_) ?_ ?_ ?_; rotate_left; (· exact rfl); (· (simp [go_sem, List.take_of_length_le] <;> with_reducible rfl)))
    | (refine GS.skip ?_ ?_ ?_; (· exact rfl); (· exact rfl))
    | fail
  refine Holds.cond rfl (fun hl => ?_) (fun hl => ?_)
  · have hlt : i < g.2.2.length := by simpa using hl
    have hxi : g.2.2[i]? = some g.2.2[i] := List.getElem?_eq_getElem hlt
    have hd : g.2.2.getD i (0, []) = g.2.2[i] := by simp [hlt]
    have no : goodAtG g i = false → Out Try.prog [.tmp 2] (.v (.bool (allB (goodAtG g) g.2.2.length))) = Out Try.prog [.tmp 2] (.v (.bool false)) := fun h => by rw [allB_no hlt h]
    have hlen := hs _ (List.getElem_mem hlt)
    have hgA : goodAtG g i = (inR g.2.2[i].1 0 (g.1 - 1) && decide (g.2.2[i].2.length ≤ 4) && g.2.2[i].2.all (symOk g.1 g.2.1) && !(g.2.2.take i).any (fun s => decide (s = g.2.2[i]))) := by simp only [goodAtG, hd]
    repeat' first
      | refine Holds.seq ?_
      | refine Holds.skip ?_
      | refine Holds.exit ?_
      | refine Holds.ret ?_
      | refine thenA_normal ?_
      | refine thenA_exit ?_
      | refine thenA_ret ?_
      | refine inB_normal ?_
      | refine inB_ret ?_
      | refine inB_here ?_
      | (refine inB_past ?_ ?_; (· exact rfl))
      | refine Holds.reg ?_
      | refine Holds.block ?_
      | refine GS.nil ?_
      | (refine GS.step (s' := ?_) ?_ ?_ ?_; rotate_left; (· exact rfl); (· (simp [go_sem, List.take_of_length_le, hxi, ruleC, hw] <;> with_reducible rfl)))
      | (refine GS.skip ?_ ?_ ?_; (· exact rfl); (· exact rfl))
      | fail
    refine GS.cc (l1In g.2.2[i].1 0 (g.1 - 1)) rfl rfl rfl rfl (by simp [go_sem, List.take_of_length_le] <;> with_reducible rfl) rfl (by simp [go_sem, List.take_of_length_le]) ?_
    generalize hg1 : inR g.2.2[i].1 0 (g.1 - 1) = b1
    rw [hg1] at hgA
    repeat' first
      | refine Holds.seq ?_
      | refine Holds.skip ?_
      | refine Holds.exit ?_
      | refine Holds.ret ?_
      | refine thenA_normal ?_
      | refine thenA_exit ?_
      | refine thenA_ret ?_
      | refine inB_normal ?_
      | refine inB_ret ?_
      | refine inB_here ?_
      | (refine inB_past ?_ ?_; (· exact rfl))
      | refine Holds.reg ?_
      | refine Holds.block ?_
      | refine GS.nil ?_
      | (refine GS.step (s' := ?_) ?_ ?_ ?_; rotate_left; (· exact rfl); (· (simp [go_sem, List.take_of_length_le] <;> with_reducible rfl)))
      | (refine GS.skip ?_ ?_ ?_; (· exact rfl); (· exact rfl))
      | fail
    refine GS.guard (t := 40) rfl (fun h => ?_) (fun h => ?_)
    · have h : b1 = false := by simpa using h
      subst h
      rw [no (by rw [hgA]; rfl)]
      repeat' first
        | refine Holds.seq ?_
        | refine Holds.skip ?_
        | refine Holds.exit ?_
        | refine Holds.ret ?_
        | refine thenA_normal ?_
        | refine thenA_exit ?_
        | refine thenA_ret ?_
        | refine inB_normal ?_
        | refine inB_ret ?_
        | refine inB_here ?_
        | (refine inB_past ?_ ?_; (· exact rfl))
        | refine Holds.reg ?_
        | refine Holds.block ?_
        | refine GS.nil ?_
        | (refine GS.step (s' := ?_) ?_ ?_ ?_; rotate_left; (· exact rfl); (· (simp [go_sem, List.take_of_length_le] <;> with_reducible rfl)))
        | (refine GS.skip ?_ ?_ ?_; (· exact rfl); (· exact rfl))
        | fail
      refine Holds.cond rfl (fun h => ?_) (fun h => ?_)
      · repeat' first
          | refine Holds.seq ?_
          | refine Holds.skip ?_
          | refine Holds.exit ?_
          | refine Holds.ret ?_
          | refine thenA_normal ?_
          | refine thenA_exit ?_
          | refine thenA_ret ?_
          | refine inB_normal ?_
          | refine inB_ret ?_
          | refine inB_here ?_
          | (refine inB_past ?_ ?_; (· exact rfl))
          | refine Holds.reg ?_
          | refine Holds.block ?_
          | refine GS.nil ?_
          | (refine GS.step (s' := ?_) ?_ ?_ ?_; rotate_left; (· exact rfl); (· (simp [go_sem, List.take_of_length_le] <;> with_reducible rfl)))
          | (refine GS.skip ?_ ?_ ?_; (· exact rfl); (· exact rfl))
          | fail
        refine Out.mk (xs := ?_) ?_ ?_ (by first | exact .inr rfl | exact .inl rfl)
        rotate_left
        · simp [go_sem, List.take_of_length_le] <;> with_reducible rfl
        exact .v _
      · cases h
    have h : b1 = true := by simpa using h
    subst h
    repeat' first
      | refine Holds.seq ?_
      | refine Holds.skip ?_
      | refine Holds.exit ?_
      | refine Holds.ret ?_
      | refine thenA_normal ?_
      | refine thenA_exit ?_
      | refine thenA_ret ?_
      | refine inB_normal ?_
      | refine inB_ret ?_
      | refine inB_here ?_
      | (refine inB_past ?_ ?_; (· exact rfl))
      | refine Holds.reg ?_
      | refine Holds.block ?_
      | refine GS.nil ?_
      | (refine GS.step (s' := ?_) ?_ ?_ ?_; rotate_left; (· exact rfl); (· (simp [go_sem, List.take_of_length_le] <;> with_reducible rfl)))
      | (refine GS.skip ?_ ?_ ?_; (· exact rfl); (· exact rfl))
      | fail
    refine Holds.cond rfl (fun h => ?_) (fun h => ?_)
    · have h : ¬ g.2.2[i].2.length ≤ 4 := by simp at h; omega
      rw [no (by rw [hgA, decide_eq_false h]; rfl)]
      repeat' first
        | refine Holds.seq ?_
        | refine Holds.skip ?_
        | refine Holds.exit ?_
        | refine Holds.ret ?_
        | refine thenA_normal ?_
        | refine thenA_exit ?_
        | refine thenA_ret ?_
        | refine inB_normal ?_
        | refine inB_ret ?_
        | refine inB_here ?_
        | (refine inB_past ?_ ?_; (· exact rfl))
        | refine Holds.reg ?_
        | refine Holds.block ?_
        | refine GS.nil ?_
        | (refine GS.step (s' := ?_) ?_ ?_ ?_; rotate_left; (· exact rfl); (· (simp [go_sem, List.take_of_length_le] <;> with_reducible rfl)))
        | (refine GS.skip ?_ ?_ ?_; (· exact rfl); (· exact rfl))
        | fail
      refine Out.mk (xs := ?_) ?_ ?_ (by first | exact .inr rfl | exact .inl rfl)
      rotate_left
      · simp [go_sem, List.take_of_length_le] <;> with_reducible rfl
      exact .v _
    have h4 : g.2.2[i].2.length ≤ 4 := by simp at h; omega
    rw [decide_eq_true h4] at hgA
    repeat' first
      | refine Holds.seq ?_
      | refine Holds.skip ?_
      | refine Holds.exit ?_
      | refine Holds.ret ?_
      | refine thenA_normal ?_
      | refine thenA_exit ?_
      | refine thenA_ret ?_
      | refine inB_normal ?_
      | refine inB_ret ?_
      | refine inB_here ?_
      | (refine inB_past ?_ ?_; (· exact rfl))
      | refine Holds.reg ?_
      | refine Holds.block ?_
      | refine GS.nil ?_
      | (refine GS.step (s' := ?_) ?_ ?_ ?_; rotate_left; (· exact rfl); (· (simp [go_sem, List.take_of_length_le] <;> with_reducible rfl)))
      | (refine GS.skip ?_ ?_ ?_; (· exact rfl); (· exact rfl))
      | fail
    refine Holds.loop (ι := Nat) (fun j => ⟨[(1, .pb 0 3 0 0), (26, .im 2 (rules g.2.2)), (27, .v (.int .i64 g.2.2.length)), (28, .v (.int .i64 i)), (3, .v (.int .i64 i)), (4, .pb 1 2 0 0), (47, .im 1 (ints g.2.2[i].2)), (48, .v (.int .i64 g.2.2[i].2.length)), (49, .v (.int .i64 j))], [(0, ⟨31, 3, [[.v (.int .i64 g.1), .v (.int .i64 g.2.1), .im 2 (rules g.2.2)]]⟩), (1, ⟨68, 2, [[.v (.int .i64 g.2.2[i].1), .im 1 (ints g.2.2[i].2)]]⟩)], 2⟩) (fun j => j ≤ g.2.2[i].2.length ∧ (g.2.2[i].2.take j).all (symOk g.1 g.2.1) = true) (fun j => g.2.2[i].2.length - j) 0 ⟨Nat.zero_le _, rfl⟩ ?_ ?_
    · exact Cov.ofn (id) rfl (by simp [go_sem, List.take_of_length_le, ren, ren1, okr, okr1, ChkT, ChkN, BlkN, nf]) (by simp [go_sem, List.take_of_length_le, ren, ren1, okr, okr1, ChkT, ChkN, BlkN, nf])
    rintro j ⟨hj, hsy⟩
    repeat' first
      | refine Holds.seq ?_
      | refine Holds.skip ?_
      | refine Holds.exit ?_
      | refine Holds.ret ?_
      | refine thenA_normal ?_
      | refine thenA_exit ?_
      | refine thenA_ret ?_
      | refine inB_normal ?_
      | refine inB_ret ?_
      | refine inB_here ?_
      | (refine inB_past ?_ ?_; (· exact rfl))
      | refine Holds.reg ?_
      | refine Holds.block ?_
      | refine GS.nil ?_
      | (refine GS.step (s' := ?_) ?_ ?_ ?_; rotate_left; (· exact rfl); (· (simp [go_sem, List.take_of_length_le] <;> with_reducible rfl)))
      | (refine GS.skip ?_ ?_ ?_; (· exact rfl); (· exact rfl))
      | fail
    refine Holds.cond rfl (fun hl2 => ?_) (fun hl2 => ?_)
    · have hjt : j < g.2.2[i].2.length := by simpa using hl2
      have hxj : g.2.2[i].2[j]? = some g.2.2[i].2[j] := List.getElem?_eq_getElem hjt
      repeat' first
        | refine Holds.seq ?_
        | refine Holds.skip ?_
        | refine Holds.exit ?_
        | refine Holds.ret ?_
        | refine thenA_normal ?_
        | refine thenA_exit ?_
        | refine thenA_ret ?_
        | refine inB_normal ?_
        | refine inB_ret ?_
        | refine inB_here ?_
        | (refine inB_past ?_ ?_; (· exact rfl))
        | refine Holds.reg ?_
        | refine Holds.block ?_
        | refine GS.nil ?_
        | (refine GS.step (s' := ?_) ?_ ?_ ?_; rotate_left; (· exact rfl); (· (simp [go_sem, List.take_of_length_le, hxj] <;> with_reducible rfl)))
        | (refine GS.skip ?_ ?_ ?_; (· exact rfl); (· exact rfl))
        | fail
      refine GS.cc (l1Symbol g g.2.2[i].2[j] hA'.1 hA'.2 hB'.1 hB'.2) rfl rfl rfl rfl (by simp [go_sem, List.take_of_length_le, grammarC] <;> with_reducible rfl) rfl (by simp [go_sem, List.take_of_length_le, grammarC]) ?_
      generalize hg2 : symOk g.1 g.2.1 g.2.2[i].2[j] = b2
      repeat' first
        | refine Holds.seq ?_
        | refine Holds.skip ?_
        | refine Holds.exit ?_
        | refine Holds.ret ?_
        | refine thenA_normal ?_
        | refine thenA_exit ?_
        | refine thenA_ret ?_
        | refine inB_normal ?_
        | refine inB_ret ?_
        | refine inB_here ?_
        | (refine inB_past ?_ ?_; (· exact rfl))
        | refine Holds.reg ?_
        | refine Holds.block ?_
        | refine GS.nil ?_
        | (refine GS.step (s' := ?_) ?_ ?_ ?_; rotate_left; (· exact rfl); (· (simp [go_sem, List.take_of_length_le] <;> with_reducible rfl)))
        | (refine GS.skip ?_ ?_ ?_; (· exact rfl); (· exact rfl))
        | fail
      refine Holds.cond rfl (fun h => ?_) (fun h => ?_)
      · have h : b2 = false := by simpa using h
        subst h
        rw [no (by rw [hgA, all_at hxj hg2]; rfl)]
        repeat' first
          | refine Holds.seq ?_
          | refine Holds.skip ?_
          | refine Holds.exit ?_
          | refine Holds.ret ?_
          | refine thenA_normal ?_
          | refine thenA_exit ?_
          | refine thenA_ret ?_
          | refine inB_normal ?_
          | refine inB_ret ?_
          | refine inB_here ?_
          | (refine inB_past ?_ ?_; (· exact rfl))
          | refine Holds.reg ?_
          | refine Holds.block ?_
          | refine GS.nil ?_
          | (refine GS.step (s' := ?_) ?_ ?_ ?_; rotate_left; (· exact rfl); (· (simp [go_sem, List.take_of_length_le] <;> with_reducible rfl)))
          | (refine GS.skip ?_ ?_ ?_; (· exact rfl); (· exact rfl))
          | fail
        refine Out.mk (xs := ?_) ?_ ?_ (by first | exact .inr rfl | exact .inl rfl)
        rotate_left
        · simp [go_sem, List.take_of_length_le] <;> with_reducible rfl
        exact .v _
      · have h : b2 = true := by simpa using h
        subst h
        repeat' first
          | refine Holds.seq ?_
          | refine Holds.skip ?_
          | refine Holds.exit ?_
          | refine Holds.ret ?_
          | refine thenA_normal ?_
          | refine thenA_exit ?_
          | refine thenA_ret ?_
          | refine inB_normal ?_
          | refine inB_ret ?_
          | refine inB_here ?_
          | (refine inB_past ?_ ?_; (· exact rfl))
          | refine Holds.reg ?_
          | refine Holds.block ?_
          | refine GS.nil ?_
          | (refine GS.step (s' := ?_) ?_ ?_ ?_; rotate_left; (· exact rfl); (· (simp [go_sem, List.take_of_length_le] <;> with_reducible rfl)))
          | (refine GS.skip ?_ ?_ ?_; (· exact rfl); (· exact rfl))
          | fail
        refine ⟨j + 1, ⟨by omega, ?_⟩, by omega, ?_⟩
        · rw [List.take_add_one, hxj, List.all_append, hsy]; simp [hg2]
        rw [wr64_id (by omega) (by omega)]
        exact Cov.ofn (id) rfl (by simp [go_sem, List.take_of_length_le, ren, ren1, okr, okr1, ChkT, ChkN, BlkN, nf]) (by simp [go_sem, List.take_of_length_le, ren, ren1, okr, okr1, ChkT, ChkN, BlkN, nf])
    have hje : j = g.2.2[i].2.length := by
      have : ¬ j < g.2.2[i].2.length := by simpa using hl2
      omega
    subst hje
    rw [List.take_length] at hsy
    rw [hsy] at hgA
    have htk : (rules g.2.2).take i = rules (g.2.2.take i) := by simp [rules, List.map_take]
    have hil : (g.2.2.take i).length = i := by rw [List.length_take]; omega
    clear hl2 hj
    repeat' first
      | refine Holds.seq ?_
      | refine Holds.skip ?_
      | refine Holds.exit ?_
      | refine Holds.ret ?_
      | refine thenA_normal ?_
      | refine thenA_exit ?_
      | refine thenA_ret ?_
      | refine inB_normal ?_
      | refine inB_ret ?_
      | refine inB_here ?_
      | (refine inB_past ?_ ?_; (· exact rfl))
      | refine Holds.reg ?_
      | refine Holds.block ?_
      | refine GS.nil ?_
      | (refine GS.step (s' := ?_) ?_ ?_ ?_; rotate_left; (· exact rfl); (· (simp [go_sem, List.take_of_length_le, htk, show i ≤ g.2.2.length by omega] <;> with_reducible rfl)))
      | (refine GS.skip ?_ ?_ ?_; (· exact rfl); (· exact rfl))
      | fail
    refine Holds.loop (ι := Nat) (fun j => ⟨[(1, .pb 0 3 0 0), (26, .im 2 (rules g.2.2)), (27, .v (.int .i64 g.2.2.length)), (28, .v (.int .i64 i)), (4, .pb 1 2 0 0), (61, .im 2 (rules (g.2.2.take i))), (62, .v (.int .i64 i)), (63, .v (.int .i64 j))], [(0, ⟨31, 3, [[.v (.int .i64 g.1), .v (.int .i64 g.2.1), .im 2 (rules g.2.2)]]⟩), (1, ⟨68, 2, [[.v (.int .i64 g.2.2[i].1), .im 1 (ints g.2.2[i].2)]]⟩)], 2⟩) (fun j => j ≤ i ∧ ((g.2.2.take i).take j).any (fun s => decide (s = g.2.2[i])) = false) (fun j => i - j) 0 ⟨Nat.zero_le _, rfl⟩ ?_ ?_
    · exact Cov.ofn (id) rfl (by simp [go_sem, List.take_of_length_le, ren, ren1, okr, okr1, ChkT, ChkN, BlkN, nf, htk, hil, Nat.min_eq_left hi]) (by simp [go_sem, List.take_of_length_le, ren, ren1, okr, okr1, ChkT, ChkN, BlkN, nf, htk, hil, Nat.min_eq_left hi])
    rintro j ⟨hj, hsy⟩
    repeat' first
      | refine Holds.seq ?_
      | refine Holds.skip ?_
      | refine Holds.exit ?_
      | refine Holds.ret ?_
      | refine thenA_normal ?_
      | refine thenA_exit ?_
      | refine thenA_ret ?_
      | refine inB_normal ?_
      | refine inB_ret ?_
      | refine inB_here ?_
      | (refine inB_past ?_ ?_; (· exact rfl))
      | refine Holds.reg ?_
      | refine Holds.block ?_
      | refine GS.nil ?_
      | (refine GS.step (s' := ?_) ?_ ?_ ?_; rotate_left; (· exact rfl); (· (simp [go_sem, List.take_of_length_le] <;> with_reducible rfl)))
      | (refine GS.skip ?_ ?_ ?_; (· exact rfl); (· exact rfl))
      | fail
    refine Holds.cond rfl (fun hl2 => ?_) (fun hl2 => ?_)
    · have hjt : j < i := by simpa using hl2
      have hjl : j < (g.2.2.take i).length := by omega
      have hxj : (g.2.2.take i)[j]? = some (g.2.2.take i)[j] := List.getElem?_eq_getElem hjl
      generalize (g.2.2.take i)[j] = q at hxj
      have hsr := l1SameRule g.2.2[i] q hlen
      rw [show decide (g.2.2[i] = q) = decide (q = g.2.2[i]) by simp [eq_comm]] at hsr
      generalize hg3 : decide (q = g.2.2[i]) = b3 at hsr
      repeat' first
        | refine Holds.seq ?_
        | refine Holds.skip ?_
        | refine Holds.exit ?_
        | refine Holds.ret ?_
        | refine thenA_normal ?_
        | refine thenA_exit ?_
        | refine thenA_ret ?_
        | refine inB_normal ?_
        | refine inB_ret ?_
        | refine inB_here ?_
        | (refine inB_past ?_ ?_; (· exact rfl))
        | refine Holds.reg ?_
        | refine Holds.block ?_
        | refine GS.nil ?_
        | (refine GS.step (s' := ?_) ?_ ?_ ?_; rotate_left; (· exact rfl); (· (simp [go_sem, List.take_of_length_le, hxj, ruleC] <;> with_reducible rfl)))
        | (refine GS.skip ?_ ?_ ?_; (· exact rfl); (· exact rfl))
        | fail
      refine GS.cc (hsr) rfl rfl rfl rfl (by simp [go_sem, List.take_of_length_le, ruleC] <;> with_reducible rfl) rfl (by simp [go_sem, List.take_of_length_le, ruleC]) ?_
      repeat' first
        | refine Holds.seq ?_
        | refine Holds.skip ?_
        | refine Holds.exit ?_
        | refine Holds.ret ?_
        | refine thenA_normal ?_
        | refine thenA_exit ?_
        | refine thenA_ret ?_
        | refine inB_normal ?_
        | refine inB_ret ?_
        | refine inB_here ?_
        | (refine inB_past ?_ ?_; (· exact rfl))
        | refine Holds.reg ?_
        | refine Holds.block ?_
        | refine GS.nil ?_
        | (refine GS.step (s' := ?_) ?_ ?_ ?_; rotate_left; (· exact rfl); (· (simp [go_sem, List.take_of_length_le] <;> with_reducible rfl)))
        | (refine GS.skip ?_ ?_ ?_; (· exact rfl); (· exact rfl))
        | fail
      refine Holds.cond rfl (fun h => ?_) (fun h => ?_)
      · have h : b3 = true := by simpa using h
        subst h
        rw [no (by rw [hgA, any_at hxj hg3]; rfl)]
        repeat' first
          | refine Holds.seq ?_
          | refine Holds.skip ?_
          | refine Holds.exit ?_
          | refine Holds.ret ?_
          | refine thenA_normal ?_
          | refine thenA_exit ?_
          | refine thenA_ret ?_
          | refine inB_normal ?_
          | refine inB_ret ?_
          | refine inB_here ?_
          | (refine inB_past ?_ ?_; (· exact rfl))
          | refine Holds.reg ?_
          | refine Holds.block ?_
          | refine GS.nil ?_
          | (refine GS.step (s' := ?_) ?_ ?_ ?_; rotate_left; (· exact rfl); (· (simp [go_sem, List.take_of_length_le] <;> with_reducible rfl)))
          | (refine GS.skip ?_ ?_ ?_; (· exact rfl); (· exact rfl))
          | fail
        refine Out.mk (xs := ?_) ?_ ?_ (by first | exact .inr rfl | exact .inl rfl)
        rotate_left
        · simp [go_sem, List.take_of_length_le] <;> with_reducible rfl
        exact .v _
      · have h : b3 = false := by simpa using h
        subst h
        repeat' first
          | refine Holds.seq ?_
          | refine Holds.skip ?_
          | refine Holds.exit ?_
          | refine Holds.ret ?_
          | refine thenA_normal ?_
          | refine thenA_exit ?_
          | refine thenA_ret ?_
          | refine inB_normal ?_
          | refine inB_ret ?_
          | refine inB_here ?_
          | (refine inB_past ?_ ?_; (· exact rfl))
          | refine Holds.reg ?_
          | refine Holds.block ?_
          | refine GS.nil ?_
          | (refine GS.step (s' := ?_) ?_ ?_ ?_; rotate_left; (· exact rfl); (· (simp [go_sem, List.take_of_length_le] <;> with_reducible rfl)))
          | (refine GS.skip ?_ ?_ ?_; (· exact rfl); (· exact rfl))
          | fail
        refine ⟨j + 1, ⟨by omega, ?_⟩, by omega, ?_⟩
        · rw [List.take_add_one, hxj, List.any_append, hsy]; simp [hg3]
        rw [wr64_id (by omega) (by omega)]
        exact Cov.ofn (id) rfl (by simp [go_sem, List.take_of_length_le, ren, ren1, okr, okr1, ChkT, ChkN, BlkN, nf]) (by simp [go_sem, List.take_of_length_le, ren, ren1, okr, okr1, ChkT, ChkN, BlkN, nf])
    have hje : j = i := by
      have : ¬ j < i := by simpa using hl2
      omega
    subst hje
    rw [List.take_of_length_le (by omega)] at hsy
    have hgood : goodAtG g j = true := by rw [hgA, hsy]; rfl
    repeat' first
      | refine Holds.seq ?_
      | refine Holds.skip ?_
      | refine Holds.exit ?_
      | refine Holds.ret ?_
      | refine thenA_normal ?_
      | refine thenA_exit ?_
      | refine thenA_ret ?_
      | refine inB_normal ?_
      | refine inB_ret ?_
      | refine inB_here ?_
      | (refine inB_past ?_ ?_; (· exact rfl))
      | refine Holds.reg ?_
      | refine Holds.block ?_
      | refine GS.nil ?_
      | (refine GS.step (s' := ?_) ?_ ?_ ?_; rotate_left; (· exact rfl); (· (simp [go_sem, List.take_of_length_le] <;> with_reducible rfl)))
      | (refine GS.skip ?_ ?_ ?_; (· exact rfl); (· exact rfl))
      | fail
    refine ⟨j + 1, ⟨by omega, by unfold allB; rw [hall, hgood]; rfl⟩, by omega, ?_⟩
    rw [wr64_id (by omega) (by omega)]
    exact Cov.ofn (id) rfl (by simp [go_sem, List.take_of_length_le, ren, ren1, okr, okr1, ChkT, ChkN, BlkN, nf]) (by simp [go_sem, List.take_of_length_le, ren, ren1, okr, okr1, ChkT, ChkN, BlkN, nf])
  · have hle : i = g.2.2.length := by
      have : ¬ i < g.2.2.length := by simpa using hl
      omega
    subst hle
    rw [hall]
    repeat' first
      | refine Holds.seq ?_
      | refine Holds.skip ?_
      | refine Holds.exit ?_
      | refine Holds.ret ?_
      | refine thenA_normal ?_
      | refine thenA_exit ?_
      | refine thenA_ret ?_
      | refine inB_normal ?_
      | refine inB_ret ?_
      | refine inB_here ?_
      | (refine inB_past ?_ ?_; (· exact rfl))
      | refine Holds.reg ?_
      | refine Holds.block ?_
      | refine GS.nil ?_
      | (refine GS.step (s' := ?_) ?_ ?_ ?_; rotate_left; (· exact rfl); (· (simp [go_sem, List.take_of_length_le] <;> with_reducible rfl)))
      | (refine GS.skip ?_ ?_ ?_; (· exact rfl); (· exact rfl))
      | fail
    refine Out.mk (xs := ?_) ?_ ?_ (by first | exact .inr rfl | exact .inl rfl)
    rotate_left
    · simp [go_sem, List.take_of_length_le] <;> with_reducible rfl
    exact .v _
end Go.Proofs.Ytpnpjkkppndhfaa.En
end
section
namespace Go.Proofs.Ytpnpjkkppndhfaa.En
open Go.RowKit
set_option linter.unusedSimpArgs false
set_option linter.unusedVariables false
/-- No cost is the greatest one. -/
def oLe (a b : Option Nat) : Prop := ∀ y, b = some y → ∃ x, a = some x ∧ x ≤ y
theorem oLe.refl (a : Option Nat) : oLe a a := fun y h => ⟨y, h, Nat.le_refl y⟩
theorem oLe.none (a : Option Nat) : oLe a none := fun y h => by cases h
theorem oLe.trans {a b c : Option Nat} (h1 : oLe a b) (h2 : oLe b c) : oLe a c := fun z hz => by
  obtain ⟨y, hy, l1⟩ := h2 z hz
  obtain ⟨x, hx, l2⟩ := h1 y hy
  exact ⟨x, hx, Nat.le_trans l2 l1⟩
theorem oLe.anti {a b : Option Nat} (h1 : oLe a b) (h2 : oLe b a) : a = b := by
  cases a with
  | none =>
    cases b with
    | none => rfl
    | some y => obtain ⟨x, hx, _⟩ := h1 y rfl; cases hx
  | some x =>
    obtain ⟨y, hy, l1⟩ := h2 x rfl
    subst hy
    obtain ⟨x', hx', l2⟩ := h1 y rfl
    cases hx'
    exact congrArg some (Nat.le_antisymm l2 l1)
def oAdd (a b : Option Nat) : Option Nat := match a, b with | some x, some y => some (x + y) | _, _ => none
theorem oAdd.mono {a b c d : Option Nat} (h1 : oLe a b) (h2 : oLe c d) : oLe (oAdd a c) (oAdd b d) := fun z hz => by
  cases b with
  | none => cases hz
  | some y =>
    cases d with
    | none => cases hz
    | some w =>
      obtain ⟨x, hx, l1⟩ := h1 y rfl
      obtain ⟨v, hv, l2⟩ := h2 w rfl
      subst hx; subst hv
      have e : y + w = z := Option.some.inj hz
      exact ⟨x + v, rfl, by omega⟩
def oMin (a b : Option Nat) : Option Nat := match a, b with | none, y => y | some x, none => some x | some x, some y => some (if y < x then y else x)
theorem oMin.mono {a b c d : Option Nat} (h1 : oLe a b) (h2 : oLe c d) : oLe (oMin a c) (oMin b d) := fun z hz => by
  cases b with
  | none =>
    obtain ⟨v, hv, l2⟩ := h2 z hz
    subst hv
    cases a with
    | none => exact ⟨v, rfl, l2⟩
    | some x =>
      refine ⟨_, rfl, ?_⟩
      by_cases h : v < x
      · rw [if_pos h]; exact l2
      · rw [if_neg h]; omega
  | some y =>
    obtain ⟨x, hx, l1⟩ := h1 y rfl
    subst hx
    cases d with
    | none =>
      have e : y = z := Option.some.inj hz
      cases c with
      | none => exact ⟨x, rfl, by omega⟩
      | some v =>
        refine ⟨_, rfl, ?_⟩
        by_cases h : v < x
        · rw [if_pos h]; omega
        · rw [if_neg h]; omega
    | some w =>
      obtain ⟨v, hv, l2⟩ := h2 w rfl
      subst hv
      have e : (if w < y then w else y) = z := Option.some.inj hz
      refine ⟨_, rfl, ?_⟩
      subst e
      by_cases h : v < x
      · rw [if_pos h]; split <;> omega
      · rw [if_neg h]; split <;> omega
/-- The least cost of symbols between two places of a word under a table. -/
def rowO (T : Nat → Nat → Nat → Option Nat) (w : List Int) : List Int → Nat → Nat → Option Nat
  | [], i, j => if i = j then some 0 else none
  | x :: r, i, j =>
    if x < 0 then (if i < j ∧ w[i]? = some (-1 - x) then rowO T w r (i + 1) j else none)
    else (List.range (j + 1 - i)).foldl (fun b d => oMin b (oAdd (T x.toNat i (i + d)) (rowO T w r (i + d) j))) none
theorem foldO_mono {f g : Nat → Option Nat} (h : ∀ d, oLe (f d) (g d)) : ∀ (l : List Nat) (a b : Option Nat), oLe a b → oLe (l.foldl (fun b d => oMin b (f d)) a) (l.foldl (fun b d => oMin b (g d)) b) := by
  intro l
  induction l with
  | nil => intro a b hab; exact hab
  | cons d l ih => intro a b hab; exact ih _ _ (oMin.mono hab (h d))
theorem rowO_mono {S T : Nat → Nat → Nat → Option Nat} (w : List Int) (h : ∀ A i j, oLe (S A i j) (T A i j)) : ∀ (r : List Int) (i j : Nat), oLe (rowO S w r i j) (rowO T w r i j) := by
  intro r
  induction r with
  | nil => intro i j; exact oLe.refl _
  | cons x r ih =>
    intro i j
    simp only [rowO]
    by_cases hx : x < 0
    · rw [if_pos hx, if_pos hx]
      by_cases hc : i < j ∧ w[i]? = some (-1 - x)
      · rw [if_pos hc, if_pos hc]; exact ih _ _
      · rw [if_neg hc, if_neg hc]; exact oLe.refl _
    · rw [if_neg hx, if_neg hx]
      exact foldO_mono (fun d => oAdd.mono (h _ _ _) (ih _ _)) _ _ _ (oLe.refl _)
/-- A table that no rule brings down further. -/
def Stands (rules : List (Nat × List Int × Nat)) (w : List Int) (T : Nat → Nat → Nat → Option Nat) : Prop :=
  ∀ q ∈ rules, ∀ i j, i ≤ j → j ≤ w.length → oLe (T q.1 i j) (oAdd (rowO T w q.2.1 i j) (some q.2.2))
/-- A table with one place brought down by a rule. -/
def putO (T : Nat → Nat → Nat → Option Nat) (A i j : Nat) (v : Option Nat) : Nat → Nat → Nat → Option Nat := fun B k l => if B = A ∧ k = i ∧ l = j then v else T B k l
/-- What stands stays below what is brought down. -/
theorem below_put {rules : List (Nat × List Int × Nat)} {w : List Int} {S T : Nat → Nat → Nat → Option Nat} (hS : Stands rules w S) (h : ∀ A i j, oLe (S A i j) (T A i j))
    {q : Nat × List Int × Nat} (hq : q ∈ rules) {i j : Nat} (hij : i ≤ j) (hj : j ≤ w.length) : ∀ B k l, oLe (S B k l) (putO T q.1 i j (oAdd (rowO T w q.2.1 i j) (some q.2.2)) B k l) := by
  intro B k l
  unfold putO
  by_cases e : B = q.1 ∧ k = i ∧ l = j
  · obtain ⟨rfl, rfl, rfl⟩ := e
    rw [if_pos ⟨rfl, rfl, rfl⟩]
    exact (hS q hq k l hij hj).trans (oAdd.mono (rowO_mono w h _ _ _) (oLe.refl _))
  · rw [if_neg e]; exact h B k l
/-- Two tables that stand, each below the other, are the same. -/
theorem stand_same {S T : Nat → Nat → Nat → Option Nat} (h1 : ∀ A i j, oLe (S A i j) (T A i j)) (h2 : ∀ A i j, oLe (T A i j) (S A i j)) : S = T := by
  funext A i j
  exact (h1 A i j).anti (h2 A i j)
end Go.Proofs.Ytpnpjkkppndhfaa.En
end
section
namespace Go.Proofs.Ytpnpjkkppndhfaa.En
open Go.RowKit
set_option linter.unusedSimpArgs false
set_option linter.unusedVariables false
/-- How many nonterminals have a cost between two places. -/
def cntO (T : Nat → Nat → Nat → Option Nat) (N i j : Nat) : Nat := ((List.range N).filter fun A => (T A i j).isSome).length
theorem cntO_le (T : Nat → Nat → Nat → Option Nat) (N i j : Nat) : cntO T N i j ≤ N := by
  have := List.length_filter_le (fun A => (T A i j).isSome) (List.range N)
  rw [List.length_range] at this
  exact this
theorem cntO_succ (T : Nat → Nat → Nat → Option Nat) (N i j : Nat) : cntO T (N + 1) i j = cntO T N i j + (if (T N i j).isSome then 1 else 0) := by
  unfold cntO
  rw [List.range_succ, List.filter_append, List.length_append]
  by_cases h : (T N i j).isSome
  · rw [if_pos h, List.filter_cons_of_pos (p := fun A => (T A i j).isSome) h]; rfl
  · rw [if_neg h, List.filter_cons_of_neg (p := fun A => (T A i j).isSome) h]; rfl
theorem cntO_congr {S T : Nat → Nat → Nat → Option Nat} {i j : Nat} : ∀ N, (∀ A, A < N → (S A i j).isSome = (T A i j).isSome) → cntO S N i j = cntO T N i j := by
  intro N
  induction N with
  | zero => intro _; rfl
  | succ N ih =>
    intro h
    rw [cntO_succ, cntO_succ, ih (fun A hA => h A (by omega)), h N (by omega)]
theorem cntO_new {T : Nat → Nat → Nat → Option Nat} {A i j v : Nat} (h0 : T A i j = none) : ∀ N, A < N → cntO (putO T A i j (some v)) N i j = cntO T N i j + 1 := by
  intro N
  induction N with
  | zero => intro h; omega
  | succ N ih =>
    intro h
    rw [cntO_succ, cntO_succ]
    by_cases e : A = N
    · subst e
      have e1 : cntO (putO T A i j (some v)) A i j = cntO T A i j := cntO_congr A (fun B hB => by
        unfold putO
        rw [if_neg (fun hh => by omega)])
      have e2 : putO T A i j (some v) A i j = some v := by unfold putO; rw [if_pos ⟨rfl, rfl, rfl⟩]
      rw [e1, e2, h0]; rfl
    · have e2 : putO T A i j (some v) N i j = T N i j := by unfold putO; rw [if_neg (fun hh => e hh.1.symm)]
      rw [ih (by omega), e2]; omega
/-- The bound of a nonterminal's cost for the empty part, by how many have one. -/
def eB (K : Nat) : Nat → Nat
  | 0 => 0
  | c + 1 => 4 * eB K c + K
theorem eB_mono (K : Nat) {a b : Nat} (h : a ≤ b) : eB K a ≤ eB K b := by
  induction h with
  | refl => exact Nat.le_refl _
  | step _ ih => exact Nat.le_trans ih (by simp only [eB]; omega)
/-- The bound of a nonterminal's cost. -/
def bB (K N c l : Nat) : Nat := if l = 0 then eB K c else (2 * l - 2) * (N * (4 * eB K N + K)) + c * (4 * eB K N + K)
/-- The bounds hold in a table. -/
def Bnd (K N : Nat) (T : Nat → Nat → Nat → Option Nat) : Prop := ∀ A i j v, T A i j = some v → i ≤ j ∧ v ≤ bB K N (cntO T N i j) (j - i)
theorem bB_mono {K N c d l : Nat} (h : c ≤ d) : bB K N c l ≤ bB K N d l := by
  unfold bB
  split
  · exact eB_mono K h
  · exact Nat.add_le_add_left (Nat.mul_le_mul_right _ h) _
theorem foldO_some {f : Nat → Option Nat} : ∀ (l : List Nat) (a : Option Nat) (v : Nat), l.foldl (fun b d => oMin b (f d)) a = some v → a = some v ∨ ∃ d ∈ l, f d = some v := by
  intro l
  induction l with
  | nil => intro a v h; exact .inl h
  | cons d l ih =>
    intro a v h
    rcases ih _ v h with h1 | ⟨d', h1, h2⟩
    · replace h1 : oMin a (f d) = some v := h1
      cases a with
      | none => exact .inr ⟨d, List.mem_cons_self .., h1⟩
      | some x =>
        cases hf : f d with
        | none => rw [hf] at h1; exact .inl h1
        | some y =>
          rw [hf] at h1
          have e : (if y < x then y else x) = v := Option.some.inj h1
          by_cases hy : y < x
          · rw [if_pos hy] at e; subst e; exact .inr ⟨d, List.mem_cons_self .., hf⟩
          · rw [if_neg hy] at e; subst e; exact .inl rfl
    · exact .inr ⟨d', List.mem_cons_of_mem _ h1, h2⟩
theorem oAdd_some {a b : Option Nat} {v : Nat} (h : oAdd a b = some v) : ∃ x y, a = some x ∧ b = some y ∧ x + y = v := by
  cases a with
  | none => cases h
  | some x =>
    cases b with
    | none => cases h
    | some y => exact ⟨x, y, rfl, rfl, Option.some.inj h⟩
/-- The bound of a row's cost. -/
theorem rowO_bnd {K N : Nat} {T : Nat → Nat → Nat → Option Nat} (w : List Int) (hB : Bnd K N T) : ∀ (r : List Int) (i j v : Nat), i ≤ j → rowO T w r i j = some v →
    (i = j → v ≤ r.length * eB K (cntO T N i j)) ∧
    (i < j → v ≤ r.length * eB K N + ((2 * (j - i) - 2) * (N * (4 * eB K N + K)) + cntO T N i j * (4 * eB K N + K))) := by
  intro r
  induction r with
  | nil =>
    intro i j v hij h
    simp only [rowO] at h
    by_cases e : i = j
    · rw [if_pos e] at h
      have : 0 = v := Option.some.inj h
      subst this
      exact ⟨fun _ => Nat.zero_le _, fun _ => Nat.zero_le _⟩
    · rw [if_neg e] at h; cases h
  | cons x r ih =>
    intro i j v hij h
    have hc : ∀ k l, cntO T N k l * (4 * eB K N + K) ≤ N * (4 * eB K N + K) := fun k l => Nat.mul_le_mul_right _ (cntO_le T N k l)
    have hE : ∀ k l, eB K (cntO T N k l) ≤ eB K N := fun k l => eB_mono K (cntO_le T N k l)
    have hm : ∀ e, (x :: r).length * e = r.length * e + e := fun e => by rw [List.length_cons, Nat.add_mul, Nat.one_mul]
    rw [hm, hm]
    generalize hG : N * (4 * eB K N + K) = G at hc ih ⊢
    simp only [rowO] at h
    by_cases hx : x < 0
    · rw [if_pos hx] at h
      by_cases hcc : i < j ∧ w[i]? = some (-1 - x)
      · rw [if_pos hcc] at h
        obtain ⟨a, b⟩ := ih (i + 1) j v (by omega) h
        refine ⟨fun e => by omega, fun _ => ?_⟩
        by_cases e : i + 1 = j
        · have a := a e
          have : r.length * eB K (cntO T N (i + 1) j) ≤ r.length * eB K N := Nat.mul_le_mul_left _ (hE _ _)
          omega
        · have b := b (by omega)
          have h1 := hc (i + 1) j
          have h2 : (2 * (j - i) - 2) * G = (2 * (j - (i + 1)) - 2) * G + 2 * G := by
            rw [← Nat.add_mul]; congr 1; omega
          omega
      · rw [if_neg hcc] at h; cases h
    · rw [if_neg hx] at h
      rcases foldO_some _ _ _ h with h0 | ⟨d, hd, h1⟩
      · cases h0
      rw [List.mem_range] at hd
      obtain ⟨p, q, hp, hq, rfl⟩ := oAdd_some h1
      obtain ⟨_, hpb⟩ := hB _ _ _ _ hp
      obtain ⟨a, b⟩ := ih (i + d) j q (by omega) hq
      have e0 : i + d - i = d := by omega
      rw [e0] at hpb
      unfold bB at hpb
      rw [hG] at hpb
      refine ⟨fun e => ?_, fun hlt => ?_⟩
      · have ed : d = 0 := by omega
        subst ed
        rw [if_pos rfl] at hpb
        have a := a (by omega)
        rw [Nat.add_zero] at a hpb
        subst e
        omega
      · by_cases d0 : d = 0
        · subst d0
          rw [if_pos rfl] at hpb
          have b := b (by omega)
          rw [Nat.add_zero] at b hpb
          have := hE i i
          omega
        · rw [if_neg d0] at hpb
          by_cases d1 : i + d = j
          · have a := a d1
            have h3 : r.length * eB K (cntO T N (i + d) j) ≤ r.length * eB K N := Nat.mul_le_mul_left _ (hE _ _)
            have e1 : d = j - i := by omega
            rw [d1, e1] at hpb
            omega
          · have b := b (by omega)
            have h1 := hc (i + d) j
            have h2 := hc i (i + d)
            have h3 : (2 * (j - i) - 2) * G = (2 * d - 2) * G + ((2 * (j - (i + d)) - 2) * G + 2 * G) := by
              rw [← Nat.add_mul, ← Nat.add_mul]; congr 1; omega
            omega
/-- A place brought down keeps the bounds. -/
theorem Bnd.put {K N : Nat} {T : Nat → Nat → Nat → Option Nat} {w : List Int} (hB : Bnd K N T) {A i j c v : Nat} {r : List Int} (hA : A < N) (hij : i ≤ j) (hr : r.length ≤ 4) (hcK : c ≤ K)
    (hv : rowO T w r i j = some v) (hless : ∀ o, T A i j = some o → v + c < o) : Bnd K N (putO T A i j (some (v + c))) := by
  obtain ⟨ha, hb⟩ := rowO_bnd w hB r i j v hij hv
  intro B k l u hu
  by_cases e : B = A ∧ k = i ∧ l = j
  · obtain ⟨rfl, rfl, rfl⟩ := e
    have e2 : v + c = u := by
      unfold putO at hu
      rw [if_pos ⟨rfl, rfl, rfl⟩] at hu
      exact Option.some.inj hu
    subst e2
    refine ⟨hij, ?_⟩
    cases ho : T B k l with
    | none =>
      rw [cntO_new ho N hA]
      unfold bB
      by_cases hkl : l - k = 0
      · rw [if_pos hkl]
        have ha := ha (by omega)
        have h4 : r.length * eB K (cntO T N k l) ≤ 4 * eB K (cntO T N k l) := Nat.mul_le_mul_right _ hr
        simp only [eB]
        omega
      · rw [if_neg hkl]
        have hb := hb (by omega)
        have h4 : r.length * eB K N ≤ 4 * eB K N := Nat.mul_le_mul_right _ hr
        rw [Nat.add_mul, Nat.one_mul]
        omega
    | some o =>
      have h1 := hless o ho
      obtain ⟨_, h2⟩ := hB _ _ _ _ ho
      have h3 : cntO (putO T B k l (some (v + c))) N k l = cntO T N k l := cntO_congr N (fun C _ => by
        unfold putO
        by_cases e : C = B ∧ k = k ∧ l = l
        · rw [if_pos e, e.1, ho]; rfl
        · rw [if_neg e])
      rw [h3]
      omega
  · have e2 : putO T A i j (some (v + c)) B k l = T B k l := by unfold putO; rw [if_neg e]
    rw [e2] at hu
    obtain ⟨h1, h2⟩ := hB _ _ _ _ hu
    refine ⟨h1, Nat.le_trans h2 (bB_mono ?_)⟩
    by_cases e3 : k = i ∧ l = j
    · obtain ⟨rfl, rfl⟩ := e3
      cases ho : T A k l with
      | none => rw [cntO_new ho N hA]; omega
      | some o =>
        refine Nat.le_of_eq (cntO_congr N (fun C _ => ?_)).symm
        unfold putO
        by_cases e : C = A ∧ k = k ∧ l = l
        · rw [if_pos e, e.1, ho]; rfl
        · rw [if_neg e]
    · refine Nat.le_of_eq (cntO_congr N (fun C _ => ?_)).symm
      unfold putO
      rw [if_neg (fun hh => e3 hh.2)]
end Go.Proofs.Ytpnpjkkppndhfaa.En
end
section
namespace Go.Proofs.Ytpnpjkkppndhfaa.En
open Go.RowKit
set_option linter.unusedSimpArgs false
set_option linter.unusedVariables false
def sumN : Nat → (Nat → Nat) → Nat
  | 0, _ => 0
  | n + 1, f => sumN n f + f n
theorem sumN_le {f g : Nat → Nat} : ∀ n, (∀ k, k < n → f k ≤ g k) → sumN n f ≤ sumN n g := by
  intro n
  induction n with
  | zero => intro _; exact Nat.le_refl _
  | succ n ih => intro h; exact Nat.add_le_add (ih fun k hk => h k (by omega)) (h n (by omega))
theorem sumN_lt {f g : Nat → Nat} : ∀ n k, k < n → (∀ k, k < n → f k ≤ g k) → f k < g k → sumN n f < sumN n g := by
  intro n
  induction n with
  | zero => intro k h; omega
  | succ n ih =>
    intro k hk h hlt
    simp only [sumN]
    by_cases e : k = n
    · subst e
      have := sumN_le k (fun m hm => h m (by omega))
      omega
    · have := ih k (by omega) (fun m hm => h m (by omega)) hlt
      have := h n (by omega)
      omega
def valO (M : Nat) (o : Option Nat) : Nat := match o with | none => M + 1 | some v => v
/-- The measure of a table over N nonterminals and places up to n. -/
def muO (M N n : Nat) (T : Nat → Nat → Nat → Option Nat) : Nat := sumN N fun A => sumN (n + 1) fun i => sumN (n + 1) fun j => valO M (T A i j)
theorem muO_put {M N n : Nat} {T : Nat → Nat → Nat → Option Nat} {A i j v : Nat} (hA : A < N) (hi : i ≤ n) (hj : j ≤ n) (hM : v ≤ M) (hless : ∀ o, T A i j = some o → v < o) :
    muO M N n (putO T A i j (some v)) < muO M N n T := by
  have key : valO M (putO T A i j (some v) A i j) < valO M (T A i j) := by
    have e : putO T A i j (some v) A i j = some v := by unfold putO; rw [if_pos ⟨rfl, rfl, rfl⟩]
    rw [e]
    cases ho : T A i j with
    | none => simp only [valO]; omega
    | some o => exact hless o ho
  have le : ∀ B k l, valO M (putO T A i j (some v) B k l) ≤ valO M (T B k l) := by
    intro B k l
    by_cases e : B = A ∧ k = i ∧ l = j
    · obtain ⟨rfl, rfl, rfl⟩ := e; omega
    · have e2 : putO T A i j (some v) B k l = T B k l := by unfold putO; rw [if_neg e]
      rw [e2]; exact Nat.le_refl _
  unfold muO
  refine sumN_lt N A hA (fun B _ => sumN_le _ fun k _ => sumN_le _ fun l _ => le B k l) ?_
  refine sumN_lt _ i (by omega) (fun k _ => sumN_le _ fun l _ => le A k l) ?_
  exact sumN_lt _ j (by omega) (fun l _ => le A i l) key
/-- The empty table. -/
def noO : Nat → Nat → Nat → Option Nat := fun _ _ _ => none
theorem noO_bnd (K N : Nat) : Bnd K N noO := fun _ _ _ _ h => by cases h
theorem noO_above (S : Nat → Nat → Nat → Option Nat) : ∀ A i j, oLe (S A i j) (noO A i j) := fun _ _ _ => oLe.none _
/-- The greatest bound for words of up to ten tokens, 6 nonterminals, costs up to 100. -/
theorem bB_top {N c l : Nat} (hN : N ≤ 6) (hc : c ≤ N) (hl : l ≤ 10) : bB 100 N c l ≤ 70000000 := by
  have h6 : eB 100 N ≤ 136500 := Nat.le_trans (eB_mono 100 hN) (by decide)
  have hcE : eB 100 c ≤ 136500 := Nat.le_trans (eB_mono 100 (Nat.le_trans hc hN)) (by decide)
  unfold bB
  split
  · omega
  · have h1 : N * (4 * eB 100 N + 100) ≤ 6 * 546100 := Nat.mul_le_mul hN (by omega)
    have h2 : (2 * l - 2) * (N * (4 * eB 100 N + 100)) ≤ 18 * (6 * 546100) := Nat.mul_le_mul (by omega) h1
    have h3 : c * (4 * eB 100 N + 100) ≤ 6 * 546100 := Nat.mul_le_mul (by omega) (by omega)
    omega
theorem Bnd.top {N : Nat} {T : Nat → Nat → Nat → Option Nat} (hB : Bnd 100 N T) (hN : N ≤ 6) {A i j v : Nat} (hj : j ≤ 10) (h : T A i j = some v) : v ≤ 70000000 :=
  Nat.le_trans (hB _ _ _ _ h).2 (bB_top hN (cntO_le T N i j) (by omega))
end Go.Proofs.Ytpnpjkkppndhfaa.En
end
section
namespace Go.Proofs.Ytpnpjkkppndhfaa.En
open Go.RowKit
set_option linter.unusedSimpArgs false
set_option linter.unusedVariables false
theorem oMin_none (a : Option Nat) : oMin a none = a := by cases a <;> rfl
theorem none_oMin (a : Option Nat) : oMin none a = a := by cases a <;> rfl
theorem oAdd_zero (a : Option Nat) : oAdd (some 0) a = a := by
  cases a with
  | none => rfl
  | some x => simp only [oAdd, Nat.zero_add]
/-- The least cost of one symbol. -/
def oneO (T : Nat → Nat → Nat → Option Nat) (w : List Int) (x : Int) (i j : Nat) : Option Nat :=
  if x < 0 then (if j = i + 1 ∧ w[i]? = some (-1 - x) then some 0 else none) else T x.toNat i j
def rowI (T : Nat → Nat → Nat → Option Nat) (w : List Int) : List Int → Nat → Nat → Option Nat
  | [], i, j => if i = j then some 0 else none
  | x :: r, i, j => (List.range (j + 1 - i)).foldl (fun b d => oMin b (oAdd (oneO T w x i (i + d)) (rowI T w r (i + d) j))) none
theorem fold_one {f : Nat → Option Nat} (h : ∀ d, d ≠ 1 → f d = none) : ∀ m, (List.range m).foldl (fun b d => oMin b (f d)) none = if 1 < m then f 1 else none := by
  intro m
  induction m with
  | zero => rfl
  | succ m ih =>
    rw [List.range_succ, List.foldl_append, ih]
    simp only [List.foldl_cons, List.foldl_nil]
    by_cases e : m = 1
    · subst e
      rw [if_neg (by omega), if_pos (by omega), none_oMin]
    · rw [h m e, oMin_none]
      by_cases e2 : 1 < m
      · rw [if_pos e2, if_pos (by omega)]
      · rw [if_neg e2, if_neg (by omega)]
theorem rowI_eq (T : Nat → Nat → Nat → Option Nat) (w : List Int) : ∀ (r : List Int), rowI T w r = rowO T w r := by
  intro r
  induction r with
  | nil => rfl
  | cons x r ih =>
    funext i j
    simp only [rowI, rowO, ih]
    by_cases hx : x < 0
    · rw [if_pos hx, fold_one (fun d hd => by
        unfold oneO
        rw [if_pos hx, if_neg (fun hh => hd (by omega))]; rfl)]
      unfold oneO
      rw [if_pos hx]
      by_cases hij : i < j
      · rw [if_pos (by omega)]
        by_cases hw : w[i]? = some (-1 - x)
        · rw [if_pos ⟨rfl, hw⟩, if_pos ⟨hij, hw⟩, oAdd_zero]
        · rw [if_neg (fun hh => hw hh.2), if_neg (fun hh => hw hh.2)]; rfl
      · rw [if_neg (by omega), if_neg (fun hh => hij hh.1)]
    · rw [if_neg hx]
      unfold oneO
      simp only [if_neg hx]
/-- A cost as the programs tell it: -1 for none. -/
def encO (o : Option Nat) : Int := match o with | none => -1 | some v => v
theorem encO_lt (o : Option Nat) : encO o < 0 ↔ o = none := by
  cases o with
  | none => simp [encO]
  | some v => simp only [encO]; constructor
              · intro h; omega
              · intro h; cases h
theorem encO_some (v : Nat) : encO (some v) = (v : Int) := rfl
theorem encO_none : encO none = -1 := rfl
/-- One turn of the loop over the middle. -/
theorem encO_min (b p q : Option Nat) : encO (oMin b (oAdd p q)) =
    if encO p < 0 then encO b else if 0 ≤ encO q ∧ (encO b < 0 ∨ encO p + encO q < encO b) then encO p + encO q else encO b := by
  cases p with
  | none =>
    rw [if_pos (by rw [encO_none]; omega)]
    simp only [oAdd, oMin_none]
  | some x =>
    have hx := encO_some x
    rw [if_neg (by omega)]
    cases q with
    | none =>
      have hq := encO_none
      rw [if_neg (fun hh => by omega)]
      simp only [oAdd, oMin_none]
    | some y =>
      have hy := encO_some y
      cases b with
      | none =>
        have hb := encO_none
        rw [if_pos ⟨by omega, .inl (by omega)⟩, hx, hy]
        exact (encO_some (x + y)).trans (by omega)
      | some z =>
        have hz := encO_some z
        by_cases h : x + y < z
        · rw [if_pos ⟨by omega, .inr (by omega)⟩, hx, hy]
          have e : oMin (some z) (oAdd (some x) (some y)) = some (x + y) := congrArg some (if_pos h)
          rw [e, encO_some]; omega
        · rw [if_neg (fun hh => by omega)]
          have e : oMin (some z) (oAdd (some x) (some y)) = some z := congrArg some (if_neg h)
          rw [e]
end Go.Proofs.Ytpnpjkkppndhfaa.En
end
section
namespace Go.Proofs.Ytpnpjkkppndhfaa.En
open Go.RowKit
set_option linter.unusedSimpArgs false
set_option linter.unusedVariables false
/-- A cost as the reference's table tells it. -/
def sV (o : Option Nat) : Int := match o with | none => 0 | some v => v
/-- The reference's row of a nonterminal: n places. -/
def rowF (n : Nat) (T : Nat → Nat → Nat → Option Nat) (A : Nat) : List Int := (List.range (n * n)).map fun p => sV (T A (p / n) (p % n))
def tabF (n N : Nat) (T : Nat → Nat → Nat → Option Nat) : List (List Int) := (List.range N).map (rowF n T)
theorem place_lt {n i j : Nat} (hi : i < n) (hj : j < n) : i * n + j < n * n := by
  have : (i + 1) * n ≤ n * n := Nat.mul_le_mul_right n hi
  rw [Nat.add_mul, Nat.one_mul] at this
  omega
theorem place_div {n i j : Nat} (hj : j < n) : (i * n + j) / n = i := by
  rw [Nat.mul_comm, Nat.mul_add_div (by omega), Nat.div_eq_of_lt hj, Nat.add_zero]
theorem place_mod {n i j : Nat} (hj : j < n) : (i * n + j) % n = j := by
  rw [Nat.mul_comm, Nat.mul_add_mod, Nat.mod_eq_of_lt hj]
theorem rowF_len (n : Nat) (T : Nat → Nat → Nat → Option Nat) (A : Nat) : (rowF n T A).length = n * n := by simp [rowF]
theorem tabF_len (n N : Nat) (T : Nat → Nat → Nat → Option Nat) : (tabF n N T).length = N := by simp [tabF]
theorem rowF_get {n : Nat} (T : Nat → Nat → Nat → Option Nat) (A : Nat) {i j : Nat} (hi : i < n) (hj : j < n) : (rowF n T A)[i * n + j]? = some (sV (T A i j)) := by
  unfold rowF
  rw [List.getElem?_map, List.getElem?_range (place_lt hi hj), Option.map_some, place_div hj, place_mod hj]
theorem tabF_get {n N : Nat} (T : Nat → Nat → Nat → Option Nat) {A : Nat} (hA : A < N) : (tabF n N T)[A]? = some (rowF n T A) := by
  unfold tabF
  rw [List.getElem?_map, List.getElem?_range hA, Option.map_some]
theorem rowF_put {n : Nat} (T : Nat → Nat → Nat → Option Nat) (A : Nat) {i j v : Nat} (hi : i < n) (hj : j < n) :
    (rowF n T A).set (i * n + j) (v : Int) = rowF n (putO T A i j (some v)) A := by
  refine List.ext_getElem? fun p => ?_
  by_cases hp : p < n * n
  · rw [List.getElem?_set]
    have e1 : (rowF n (putO T A i j (some v)) A)[p]? = some (sV (putO T A i j (some v) A (p / n) (p % n))) := by
      unfold rowF
      rw [List.getElem?_map, List.getElem?_range hp, Option.map_some]
    have e2 : (rowF n T A)[p]? = some (sV (T A (p / n) (p % n))) := by
      unfold rowF
      rw [List.getElem?_map, List.getElem?_range hp, Option.map_some]
    rw [e1, e2]
    by_cases e : i * n + j = p
    · subst e
      rw [if_pos rfl, if_pos (by rw [rowF_len]; exact hp), place_div hj, place_mod hj]
      unfold putO
      rw [if_pos ⟨rfl, rfl, rfl⟩]; rfl
    · rw [if_neg e]
      unfold putO
      rw [if_neg (fun hh => e (by
        rw [← hh.2.1, ← hh.2.2, Nat.mul_comm]; exact Nat.div_add_mod p n))]
  · rw [List.getElem?_eq_none (by rw [List.length_set, rowF_len]; omega), List.getElem?_eq_none (by rw [rowF_len]; omega)]
theorem tabF_put {n N : Nat} (T : Nat → Nat → Nat → Option Nat) {A i j v : Nat} (hA : A < N) (hi : i < n) (hj : j < n) :
    (tabF n N T).set A ((rowF n T A).set (i * n + j) (v : Int)) = tabF n N (putO T A i j (some v)) := by
  rw [rowF_put T A hi hj]
  refine List.ext_getElem? fun B => ?_
  by_cases hB : B < N
  · rw [List.getElem?_set, tabF_get _ hB, tabF_get _ hB]
    by_cases e : A = B
    · subst e
      rw [if_pos rfl, if_pos (by rw [tabF_len]; exact hA)]
    · rw [if_neg e]
      refine congrArg some ?_
      unfold rowF
      refine List.map_congr_left fun p _ => ?_
      unfold putO
      rw [if_neg (fun hh => e hh.1.symm)]
  · rw [List.getElem?_eq_none (by rw [List.length_set, tabF_len]; omega), List.getElem?_eq_none (by rw [tabF_len]; omega)]
theorem tabF_none (n N : Nat) : tabF n N noO = List.replicate N (List.replicate (n * n) 0) := by
  refine List.ext_getElem? fun B => ?_
  by_cases hB : B < N
  · rw [tabF_get _ hB, List.getElem?_replicate, if_pos hB]
    refine congrArg some ?_
    unfold rowF noO
    simp only [sV]
    rw [List.map_const', List.length_range]
  · rw [List.getElem?_eq_none (by rw [tabF_len]; omega), List.getElem?_eq_none (by rw [List.length_replicate]; omega)]
/-- All costs in the table are positive. -/
def Pos (T : Nat → Nat → Nat → Option Nat) : Prop := ∀ A i j v, T A i j = some v → 0 < v
theorem Pos.put {T : Nat → Nat → Nat → Option Nat} (h : Pos T) {A i j v : Nat} (hv : 0 < v) : Pos (putO T A i j (some v)) := fun B k l u hu => by
  unfold putO at hu
  by_cases e : B = A ∧ k = i ∧ l = j
  · rw [if_pos e] at hu; cases hu; exact hv
  · rw [if_neg e] at hu; exact h _ _ _ _ hu
theorem sV_zero {T : Nat → Nat → Nat → Option Nat} (h : Pos T) (A i j : Nat) : sV (T A i j) = 0 ↔ T A i j = none := by
  cases ho : T A i j with
  | none => exact ⟨fun _ => rfl, fun _ => rfl⟩
  | some v =>
    have := h _ _ _ _ ho
    constructor
    · intro hv
      have : (v : Int) = 0 := hv
      omega
    · intro hv; cases hv
end Go.Proofs.Ytpnpjkkppndhfaa.En
end
section
namespace Go.Proofs.Ytpnpjkkppndhfaa.En
open Go.RowKit
set_option linter.unusedSimpArgs false
set_option linter.unusedVariables false
def boxF (T : Nat → Nat → Nat → Option Nat) : List Int := (List.range 726).map fun p => encO (T (p / 121) (p / 11 % 11) (p % 11))
theorem boxF_len (T : Nat → Nat → Nat → Option Nat) : (boxF T).length = 726 := by simp [boxF]
theorem box_lt {A i j : Nat} (hA : A < 6) (hi : i < 11) (hj : j < 11) : A * 121 + i * 11 + j < 726 := by omega
theorem box_A {A i j : Nat} (hi : i < 11) (hj : j < 11) : (A * 121 + i * 11 + j) / 121 = A := by omega
theorem box_i {A i j : Nat} (hi : i < 11) (hj : j < 11) : (A * 121 + i * 11 + j) / 11 % 11 = i := by omega
theorem box_j {A i j : Nat} (hi : i < 11) (hj : j < 11) : (A * 121 + i * 11 + j) % 11 = j := by omega
theorem boxF_at (T : Nat → Nat → Nat → Option Nat) {p : Nat} (hp : p < 726) : (boxF T)[p]? = some (encO (T (p / 121) (p / 11 % 11) (p % 11))) := by
  unfold boxF
  rw [List.getElem?_map, List.getElem?_range hp, Option.map_some]
theorem boxF_get (T : Nat → Nat → Nat → Option Nat) {A i j : Nat} (hA : A < 6) (hi : i < 11) (hj : j < 11) : (boxF T)[A * 121 + i * 11 + j]? = some (encO (T A i j)) := by
  rw [boxF_at T (box_lt hA hi hj), box_A hi hj, box_i hi hj, box_j hi hj]
theorem boxF_put (T : Nat → Nat → Nat → Option Nat) {A i j v : Nat} (hA : A < 6) (hi : i < 11) (hj : j < 11) :
    (boxF T).set (A * 121 + i * 11 + j) (v : Int) = boxF (putO T A i j (some v)) := by
  refine List.ext_getElem? fun p => ?_
  by_cases hp : p < 726
  · rw [List.getElem?_set, boxF_at _ hp, boxF_at _ hp]
    by_cases e : A * 121 + i * 11 + j = p
    · subst e
      rw [if_pos rfl, if_pos (by rw [boxF_len]; exact hp), box_A hi hj, box_i hi hj, box_j hi hj]
      unfold putO
      rw [if_pos ⟨rfl, rfl, rfl⟩]; rfl
    · rw [if_neg e]
      unfold putO
      rw [if_neg (fun hh => by omega)]
  · rw [List.getElem?_eq_none (by rw [List.length_set, boxF_len]; omega), List.getElem?_eq_none (by rw [boxF_len]; omega)]
theorem boxF_none : boxF noO = List.replicate 726 (-1) := by
  unfold boxF noO
  simp only [encO]
  rw [List.map_const', List.length_range]
end Go.Proofs.Ytpnpjkkppndhfaa.En
end
section
namespace Go.Proofs.Ytpnpjkkppndhfaa.En
open Go.RowKit
set_option linter.unusedSimpArgs false
set_option linter.unusedVariables false
/-- One turn of the reference's loop over the middle. -/
theorem sV_min {p : Option Nat} (hp : ∀ x, p = some x → 0 < x) (b q : Option Nat) : encO (oMin b (oAdd p q)) =
    if sV p = 0 then encO b else if 0 ≤ encO q ∧ (encO b < 0 ∨ sV p + encO q < encO b) then sV p + encO q else encO b := by
  rw [encO_min]
  cases p with
  | none =>
    have e1 : sV none = 0 := rfl
    rw [if_pos (by rw [encO_none]; omega), if_pos e1]
  | some x =>
    have h := hp x rfl
    have e1 : sV (some x) = (x : Int) := rfl
    have e2 : ¬ encO (some x) < 0 := by rw [encO_some]; omega
    have e3 : ¬ sV (some x) = 0 := by rw [e1]; omega
    rw [if_neg e2, if_neg e3, e1, encO_some]
abbrev Tab := Nat → Nat → Nat → Option Nat
/-- One rule at one place: is the table brought down? -/
def st1 (w : List Int) (q : Nat × List Int × Nat) (i j : Nat) (s : Tab × Bool) : Tab × Bool :=
  match rowO s.1 w q.2.1 i j with
  | none => s
  | some v => match s.1 q.1 i j with
    | none => (putO s.1 q.1 i j (some (v + q.2.2)), true)
    | some o => if v + q.2.2 < o then (putO s.1 q.1 i j (some (v + q.2.2)), true) else s
def swJ (w : List Int) (n : Nat) (q : Nat × List Int × Nat) (i : Nat) (s : Tab × Bool) : Tab × Bool := (List.range' i (n - i)).foldl (fun s j => st1 w q i j s) s
def swI (w : List Int) (n : Nat) (q : Nat × List Int × Nat) (s : Tab × Bool) : Tab × Bool := (List.range' 0 n).foldl (fun s i => swJ w n q i s) s
def swQ (w : List Int) (n : Nat) (rules : List (Nat × List Int × Nat)) (s : Tab × Bool) : Tab × Bool := rules.foldl (fun s q => swI w n q s) s
/-- Sweeps until nothing is brought down. -/
def finO (w : List Int) (n : Nat) (rules : List (Nat × List Int × Nat)) : Nat → Tab → Tab
  | 0, T => T
  | k + 1, T => let s := swQ w n rules (T, false); if s.2 then finO w n rules k s.1 else s.1
/-- What holds of a table all along. -/
structure GoodT (N : Nat) (T : Tab) : Prop where
  bnd : Bnd 100 N T
  pos : Pos T
/-- What holds in a sweep that began with the measure m. -/
structure Swp (N n m : Nat) (s : Tab × Bool) : Prop where
  good : GoodT N s.1
  le : muO 70000000 N n s.1 ≤ m
  lt : s.2 = true → muO 70000000 N n s.1 < m
/-- A rule that the bounds take. -/
def RuleOk (N : Nat) (q : Nat × List Int × Nat) : Prop := q.1 < N ∧ q.2.1.length ≤ 4 ∧ 1 ≤ q.2.2 ∧ q.2.2 ≤ 100
theorem Swp.put {N n m : Nat} {s : Tab × Bool} {w : List Int} {q : Nat × List Int × Nat} {i j v : Nat} (h : Swp N n m s) (hN : N ≤ 6) (hn : n ≤ 10) (hq : RuleOk N q) (hij : i ≤ j) (hj : j ≤ n)
    (hv : rowO s.1 w q.2.1 i j = some v) (hless : ∀ o, s.1 q.1 i j = some o → v + q.2.2 < o) : Swp N n m (putO s.1 q.1 i j (some (v + q.2.2)), true) := by
  obtain ⟨q1, q2, q3, q4⟩ := hq
  have hb : Bnd 100 N (putO s.1 q.1 i j (some (v + q.2.2))) := h.good.bnd.put q1 hij q2 q4 hv hless
  have htop : v + q.2.2 ≤ 70000000 := hb.top hN (A := q.1) (i := i) (j := j) (by omega) (by unfold putO; rw [if_pos ⟨rfl, rfl, rfl⟩])
  have hmu : muO 70000000 N n (putO s.1 q.1 i j (some (v + q.2.2))) < muO 70000000 N n s.1 := muO_put q1 (by omega) hj htop hless
  have := h.le
  exact ⟨⟨hb, h.good.pos.put (by omega)⟩, by show muO _ N n (putO s.1 q.1 i j (some (v + q.2.2))) ≤ m; omega, fun _ => by show muO _ N n (putO s.1 q.1 i j (some (v + q.2.2))) < m; omega⟩
theorem Swp.st1 {N n m : Nat} {s : Tab × Bool} {w : List Int} {q : Nat × List Int × Nat} {i j : Nat} (h : Swp N n m s) (hN : N ≤ 6) (hn : n ≤ 10) (hq : RuleOk N q) (hij : i ≤ j) (hj : j ≤ n) :
    Swp N n m (st1 w q i j s) := by
  unfold En.st1
  cases hv : rowO s.1 w q.2.1 i j with
  | none => exact h
  | some v =>
    cases ho : s.1 q.1 i j with
    | none => exact h.put hN hn hq hij hj hv (fun o e => by rw [ho] at e; cases e)
    | some o =>
      by_cases hl : v + q.2.2 < o
      · simp only [if_pos hl]
        exact h.put hN hn hq hij hj hv (fun o' e => by rw [ho] at e; cases e; exact hl)
      · simp only [if_neg hl]; exact h
end Go.Proofs.Ytpnpjkkppndhfaa.En
end
section
namespace Go.Proofs.Ytpnpjkkppndhfaa.En
open Go.RowKit
set_option linter.unusedSimpArgs false
set_option linter.unusedVariables false
theorem foldl_keeps {α β : Type} {P : β → Prop} {f : β → α → β} : ∀ (l : List α) (s : β), P s → (∀ s x, x ∈ l → P s → P (f s x)) → P (l.foldl f s) := by
  intro l
  induction l with
  | nil => intro s h _; exact h
  | cons x l ih => intro s h hf; exact ih _ (hf s x (List.mem_cons_self ..) h) (fun s y hy hs => hf s y (List.mem_cons_of_mem _ hy) hs)
theorem Swp.swJ {N n m : Nat} {s : Tab × Bool} {w : List Int} {q : Nat × List Int × Nat} {i : Nat} (h : Swp N n m s) (hN : N ≤ 6) (hn : n ≤ 10) (hq : RuleOk N q) :
    Swp N n m (swJ w (n + 1) q i s) := by
  unfold En.swJ
  refine foldl_keeps (P := Swp N n m) _ s h (fun s j hj hs => ?_)
  rw [List.mem_range'_1] at hj
  exact hs.st1 hN hn hq hj.1 (by omega)
theorem Swp.swI {N n m : Nat} {s : Tab × Bool} {w : List Int} {q : Nat × List Int × Nat} (h : Swp N n m s) (hN : N ≤ 6) (hn : n ≤ 10) (hq : RuleOk N q) :
    Swp N n m (swI w (n + 1) q s) := by
  unfold En.swI
  exact foldl_keeps (P := Swp N n m) _ s h (fun s i _ hs => hs.swJ hN hn hq)
theorem Swp.swQ {N n m : Nat} {s : Tab × Bool} {w : List Int} {rules : List (Nat × List Int × Nat)} (h : Swp N n m s) (hN : N ≤ 6) (hn : n ≤ 10) (hq : ∀ q ∈ rules, RuleOk N q) :
    Swp N n m (swQ w (n + 1) rules s) := by
  unfold En.swQ
  exact foldl_keeps (P := Swp N n m) _ s h (fun s q hm hs => hs.swI hN hn (hq q hm))
theorem GoodT.swp {N n : Nat} {T : Tab} (h : GoodT N T) : Swp N n (muO 70000000 N n T) (T, false) := ⟨h, Nat.le_refl _, fun e => by cases e⟩
theorem noO_good (N : Nat) : GoodT N noO := ⟨noO_bnd 100 N, fun _ _ _ _ h => by cases h⟩
theorem finO_fuel {N n : Nat} {w : List Int} {rules : List (Nat × List Int × Nat)} (hN : N ≤ 6) (hn : n ≤ 10) (hq : ∀ q ∈ rules, RuleOk N q) : ∀ (k l : Nat) (T : Tab), GoodT N T → muO 70000000 N n T < k → muO 70000000 N n T < l →
    finO w (n + 1) rules k T = finO w (n + 1) rules l T := by
  intro k
  induction k with
  | zero => intro l T _ h; omega
  | succ k ih =>
    intro l T hT hk hl
    cases l with
    | zero => omega
    | succ l =>
      have hs := (hT.swp (n := n)).swQ (w := w) (rules := rules) hN hn hq
      simp only [finO]
      by_cases e : (swQ w (n + 1) rules (T, false)).2 = true
      · have := hs.lt e
        rw [if_pos e, if_pos e]
        exact ih l _ hs.good (by omega) (by omega)
      · rw [if_neg e, if_neg e]
/-- The end, with fuel enough. -/
def endO (N n : Nat) (w : List Int) (rules : List (Nat × List Int × Nat)) (T : Tab) : Tab := finO w (n + 1) rules (muO 70000000 N n T + 1) T
theorem endO_step {N n : Nat} {w : List Int} {rules : List (Nat × List Int × Nat)} (hN : N ≤ 6) (hn : n ≤ 10) (hq : ∀ q ∈ rules, RuleOk N q) {T : Tab} (hT : GoodT N T) :
    endO N n w rules T = if (swQ w (n + 1) rules (T, false)).2 then endO N n w rules (swQ w (n + 1) rules (T, false)).1 else (swQ w (n + 1) rules (T, false)).1 := by
  have hs := (hT.swp (n := n)).swQ (w := w) (rules := rules) hN hn hq
  unfold endO
  conv => lhs; unfold finO
  by_cases e : (swQ w (n + 1) rules (T, false)).2 = true
  · have := hs.lt e
    simp only [if_pos e]
    exact finO_fuel hN hn hq _ _ _ hs.good (by omega) (by omega)
  · simp only [if_neg e]
theorem endO_good {N n : Nat} {w : List Int} {rules : List (Nat × List Int × Nat)} (hN : N ≤ 6) (hn : n ≤ 10) (hq : ∀ q ∈ rules, RuleOk N q) : ∀ (k : Nat) (T : Tab), GoodT N T → GoodT N (finO w (n + 1) rules k T) := by
  intro k
  induction k with
  | zero => intro T h; exact h
  | succ k ih =>
    intro T hT
    have hs := (hT.swp (n := n)).swQ (w := w) (rules := rules) hN hn hq
    simp only [finO]
    by_cases e : (swQ w (n + 1) rules (T, false)).2 = true
    · rw [if_pos e]; exact ih _ hs.good
    · rw [if_neg e]; exact hs.good
end Go.Proofs.Ytpnpjkkppndhfaa.En
end
section
namespace Go.Proofs.Ytpnpjkkppndhfaa.En
open Go.RowKit
set_option linter.unusedSimpArgs false
set_option linter.unusedVariables false
/-- Numbers as the cells of an array. -/
def intc (xs : List Int) : List AV := xs.map fun n => .v (.int .i64 n)
@[simp] theorem intc_len (xs : List Int) : (intc xs).length = xs.length := by simp [intc]
@[simp] theorem intc_get (xs : List Int) (i : Nat) : (intc xs)[i]? = (xs[i]?).map fun n => .v (.int .i64 n) := by simp [intc]
@[simp] theorem intc_gE (xs : List Int) (i : Nat) (h : i < (intc xs).length) : (intc xs)[i] = .v (.int .i64 (xs[i]'(by simpa using h))) := by simp [intc]
@[simp] theorem intc_set (xs : List Int) (i : Nat) (n : Int) : (intc xs).set i (.v (.int .i64 n)) = intc (xs.set i n) := by simp [intc, List.map_set]
@[simp] theorem nfc_intc (xs : List Int) : nfc (intc xs) := fun x hx => by
  simp only [intc, List.mem_map] at hx
  obtain ⟨n, _, rfl⟩ := hx
  rfl
def gB (B : List Int) (x : Int) : Int := B.getD x.toNat 0
def stI (B : List Int) (n x : Int) : Int := if x < 0 ∨ n = 0 then n else if gB B x = 0 then 0 else n + gB B x
def stS (B : List Int) (n x : Int) : Int := if 0 ≤ x ∧ gB B x = 0 then -1000000 else if 0 ≤ x then n + gB B x else n
def sumB (B : List Int) (c : Int) (right : List Int) : Int := right.foldl (stI B) c
def sumS (B : List Int) (c : Int) (right : List Int) : Int := right.foldl (stS B) c
theorem gB_in {B : List Int} {V : Int} (h : ∀ b ∈ B, 0 ≤ b ∧ b ≤ V) (hV : 0 ≤ V) (x : Int) : 0 ≤ gB B x ∧ gB B x ≤ V := by
  unfold gB
  by_cases hx : x.toNat < B.length
  · rw [List.getD_eq_getElem?_getD, List.getElem?_eq_getElem hx]
    exact h _ (List.getElem_mem hx)
  · rw [List.getD_eq_getElem?_getD, List.getElem?_eq_none (by omega)]
    exact ⟨Int.le_refl 0, hV⟩
/-- The two sums side by side. -/
theorem sums (B : List Int) (V c : Int) (h : ∀ b ∈ B, 0 ≤ b ∧ b ≤ V) (hV : 0 ≤ V) (hV1 : V ≤ 136500) : ∀ (r : List Int) (t : Nat) (n s : Int), t + r.length ≤ 4 → n ≤ c + V * t → ((0 < n ∧ s = n) ∨ (n = 0 ∧ s ≤ -1000000 + V * t)) →
    r.foldl (stI B) n ≤ c + V * (t + r.length : Nat) ∧ ((0 < r.foldl (stI B) n ∧ r.foldl (stS B) s = r.foldl (stI B) n) ∨ (r.foldl (stI B) n = 0 ∧ r.foldl (stS B) s ≤ -1000000 + V * 4)) := by
  intro r
  induction r with
  | nil =>
    intro t n s ht hn hr
    refine ⟨by simpa using hn, ?_⟩
    rcases hr with hr | ⟨h1, h2⟩
    · exact .inl hr
    · refine .inr ⟨h1, ?_⟩
      have : V * t ≤ V * 4 := Int.mul_le_mul_of_nonneg_left (by simp at ht; omega) hV
      simp only [List.foldl_nil]; omega
  | cons x r ih =>
    intro t n s ht hn hr
    obtain ⟨g0, g1⟩ := gB_in h hV x
    simp only [List.length_cons] at ht
    have e : V * ((t + 1 : Nat) : Int) = V * t + V := by rw [Int.natCast_add, Int.mul_add]; simp
    have key := ih (t + 1) (stI B n x) (stS B s x) (by omega) (by rw [e]; unfold stI; split; · omega
                                                                  · split <;> omega) (by
      rw [e]
      have e4 : V * (t : Int) ≤ 136500 * 4 := by
        have h1 : V * (t : Int) ≤ 136500 * (t : Int) := Int.mul_le_mul_of_nonneg_right hV1 (by omega)
        omega
      have e5 : 0 ≤ V * (t : Int) := Int.mul_nonneg hV (by omega)
      unfold stI stS
      rcases hr with ⟨h1, rfl⟩ | ⟨rfl, h2⟩
      · by_cases hx : x < 0
        · rw [if_pos (.inl hx), if_neg (by omega), if_neg (by omega)]; exact .inl ⟨h1, rfl⟩
        · rw [if_neg (by omega)]
          by_cases hg : gB B x = 0
          · rw [if_pos hg, if_pos ⟨by omega, hg⟩]; right; omega
          · rw [if_neg hg, if_neg (by omega), if_pos (by omega)]; left; omega
      · rw [if_pos (.inr rfl)]
        by_cases hx : 0 ≤ x
        · by_cases hg : gB B x = 0
          · rw [if_pos ⟨hx, hg⟩]; right; omega
          · rw [if_neg (by omega), if_pos hx]; right; omega
        · rw [if_neg (by omega), if_neg hx]; right; omega)
    rw [List.foldl_cons, List.foldl_cons, List.length_cons, show t + (r.length + 1) = t + 1 + r.length by omega]
    exact key
def VV : Nat → Int
  | 0 => 0
  | m + 1 => 100 + 4 * VV m
theorem VV_nonneg : ∀ m, 0 ≤ VV m
  | 0 => Int.le_refl 0
  | m + 1 => by have := VV_nonneg m; unfold VV; omega
theorem VV_le : ∀ m, VV m ≤ VV (m + 1) := fun m => by have := VV_nonneg m; show VV m ≤ 100 + 4 * VV m; omega
theorem VV_mono {a b : Nat} (h : a ≤ b) : VV a ≤ VV b := by
  induction h with
  | refl => exact Int.le_refl _
  | step _ ih => exact Int.le_trans ih (VV_le _)
theorem VV_six {m : Nat} (h : m ≤ 6) : VV m ≤ 136500 := Int.le_trans (VV_mono h) (by decide)
def nz (B : List Int) : Nat := B.countP (fun b => decide (b ≠ 0))
def tot : List Int → Int
  | [] => 0
  | x :: xs => x + tot xs
theorem tot_set : ∀ (B : List Int) (k : Nat) (s : Int) (h : k < B.length), tot (B.set k s) = tot B - B[k] + s
  | [], k, s, h => by simp at h
  | x :: xs, 0, s, h => by simp [tot]; omega
  | x :: xs, k + 1, s, h => by
    have := tot_set xs k s (by simpa using h)
    simp only [List.set_cons_succ, tot, List.getElem_cons_succ, this]; omega
theorem tot_in (V : Int) : ∀ (B : List Int), (∀ b ∈ B, 0 ≤ b ∧ b ≤ V) → 0 ≤ tot B ∧ tot B ≤ V * B.length
  | [], _ => by simp [tot]
  | x :: xs, h => by
    have h1 := h x (.head _)
    have h2 := tot_in V xs fun b hb => h b (.tail _ hb)
    rw [List.length_cons, Int.natCast_add, Int.mul_add]
    simp only [tot]
    omega
theorem nz_le (B : List Int) : nz B ≤ B.length := List.countP_le_length
theorem nz_set (B : List Int) (k : Nat) (s : Int) (h : k < B.length) (hs : s ≠ 0) : nz (B.set k s) = nz B + if B[k] = 0 then 1 else 0 := by
  unfold nz
  rw [List.countP_set h]
  by_cases hk : B[k] = 0
  · simp [hk, hs]
  · have hp : 0 < List.countP (fun b => decide (b ≠ 0)) B := List.countP_pos_iff.2 ⟨_, List.getElem_mem h, by simpa using hk⟩
    have e1 : decide (B[k] ≠ 0) = true := by simpa using hk
    have e2 : decide (s ≠ 0) = true := by simpa using hs
    rw [e1, e2, if_neg hk]
    simp only [if_true]
    omega
/-- What a table keeps to. -/
structure InvB (nons : Nat) (B : List Int) : Prop where
  len : B.length = 6
  low : ∀ b ∈ B, 0 ≤ b
  up : ∀ b ∈ B, b ≤ VV (nz B)
  out : ∀ k, nons ≤ k → B.getD k 0 = 0
theorem InvB.all {nons : Nat} {B : List Int} (h : InvB nons B) : ∀ b ∈ B, 0 ≤ b ∧ b ≤ VV (nz B) := fun b hb => ⟨h.low b hb, h.up b hb⟩
theorem InvB.nz6 {nons : Nat} {B : List Int} (h : InvB nons B) : nz B ≤ 6 := by have := nz_le B; rw [h.len] at this; exact this
def muB (B : List Int) : Nat := (6 - nz B) * 10000000 + (tot B).toNat
/-- The table is bettered. -/
theorem InvB.set {nons : Nat} {B : List Int} (h : InvB nons B) {k : Nat} (hk : k < nons) (hn : nons ≤ 6) {s : Int} (hs0 : 0 < s) (hs : s ≤ 100 + 4 * VV (nz B)) (hb : B.getD k 0 = 0 ∨ s < B.getD k 0) : InvB nons (B.set k s) ∧ muB (B.set k s) < muB B := by
  have hkl : k < B.length := by rw [h.len]; omega
  have hg : B.getD k 0 = B[k] := by simp [hkl]
  rw [hg] at hb
  have hk0 := h.low _ (List.getElem_mem hkl)
  have hk1 := h.up _ (List.getElem_mem hkl)
  have hnz := nz_set B k s hkl (by omega)
  have ht := tot_set B k s hkl
  have hnn := VV_nonneg (nz B)
  have h6 := h.nz6
  have htl := tot_in (VV (nz B)) B h.all
  have hinv : InvB nons (B.set k s) := by
    refine ⟨by simpa using h.len, fun b hbm => ?_, fun b hbm => ?_, fun j hj => ?_⟩
    · rcases List.mem_or_eq_of_mem_set hbm with g | g
      · exact h.low b g
      · rw [g]; omega
    · rcases List.mem_or_eq_of_mem_set hbm with g | g
      · exact Int.le_trans (h.up b g) (VV_mono (by rw [hnz]; omega))
      · rw [hnz, g]
        split
        · exact hs
        · rename_i g
          have : s < B[k] := hb.resolve_left g
          simp only [Nat.add_zero]; omega
    · have := h.out j hj
      rw [List.getD_eq_getElem?_getD, List.getElem?_set_ne (by omega), ← List.getD_eq_getElem?_getD]
      exact this
  refine ⟨hinv, ?_⟩
  have h62 := hinv.nz6
  have hnew := (tot_in _ _ hinv.all).1
  rw [ht] at hnew
  unfold muB
  rw [hnz, ht]
  rw [hnz] at h62
  have hv6 := VV_six h6
  have hs2 : s ≤ 1000000 := by omega
  split
  · rename_i g
    rw [if_pos g] at h62
    rw [g]
    have : (6 - nz B) = (6 - (nz B + 1)) + 1 := by omega
    rw [this, Nat.add_mul]
    omega
  · rename_i g
    have : s < B[k] := hb.resolve_left g
    simp only [Nat.add_zero]
    omega
/-- One rule. -/
def stepB (p : List Int × Bool) (rc : RuleT × Int) : List Int × Bool :=
  if 0 < sumB p.1 rc.2 rc.1.2 ∧ (gB p.1 rc.1.1 = 0 ∨ sumB p.1 rc.2 rc.1.2 < gB p.1 rc.1.1) then (p.1.set rc.1.1.toNat (sumB p.1 rc.2 rc.1.2), true) else p
def roundB (rs : List (RuleT × Int)) (B : List Int) : List Int × Bool := rs.foldl stepB (B, false)
def iterB (rs : List (RuleT × Int)) : Nat → List Int → List Int
  | 0, B => B
  | n + 1, B => if (roundB rs B).2 then iterB rs n (roundB rs B).1 else (roundB rs B).1
def zeroB : List Int := [0, 0, 0, 0, 0, 0]
def fuelB : Nat := muB zeroB + 1
def bestB (rs : List (RuleT × Int)) : List Int := iterB rs fuelB zeroB
theorem fuel_ok (rs : List (RuleT × Int)) : muB zeroB < fuelB ∧ iterB rs fuelB zeroB = bestB rs := ⟨Nat.lt_succ_self _, rfl⟩
theorem round_next {rs : List (RuleT × Int)} {B : List Int} {fuel : Nat} (hf : muB B < fuel) : iterB rs fuel B = if (roundB rs B).2 then iterB rs (fuel - 1) (roundB rs B).1 else (roundB rs B).1 := by
  obtain ⟨n, rfl⟩ : ∃ n, fuel = n + 1 := ⟨fuel - 1, by omega⟩
  rfl
theorem InvB.zero (nons : Nat) : InvB nons zeroB := ⟨rfl, fun b hb => by simp [zeroB] at hb; omega, fun b hb => by simp [zeroB] at hb; have := VV_nonneg (nz zeroB); omega, fun k _ => by
  unfold zeroB
  match k with
  | 0 | 1 | 2 | 3 | 4 | 5 => rfl
  | k + 6 => rfl⟩
/-- What is known of a rule with its cost. -/
def okRC (nons : Nat) (rc : RuleT × Int) : Prop := 0 ≤ rc.1.1 ∧ rc.1.1 < nons ∧ rc.1.2.length ≤ 4 ∧ (∀ x ∈ rc.1.2, x < nons) ∧ 1 ≤ rc.2 ∧ rc.2 ≤ 100
theorem sum_facts {nons : Nat} {B : List Int} (h : InvB nons B) {rc : RuleT × Int} (hr : okRC nons rc) : sumB B rc.2 rc.1.2 ≤ 100 + 4 * VV (nz B) ∧ ((0 < sumB B rc.2 rc.1.2 ∧ sumS B rc.2 rc.1.2 = sumB B rc.2 rc.1.2) ∨ (sumB B rc.2 rc.1.2 = 0 ∧ sumS B rc.2 rc.1.2 ≤ 0)) := by
  obtain ⟨_, _, h3, _, h5, h6⟩ := hr
  have hv6 := VV_six h.nz6
  have hnn := VV_nonneg (nz B)
  have := sums B (VV (nz B)) rc.2 h.all hnn hv6 rc.1.2 0 rc.2 rc.2 (by omega) (by simp) (.inl ⟨by omega, rfl⟩)
  have e : VV (nz B) * ((0 + rc.1.2.length : Nat) : Int) ≤ VV (nz B) * 4 := Int.mul_le_mul_of_nonneg_left (by omega) hnn
  refine ⟨by unfold sumB; omega, ?_⟩
  rcases this.2 with g | ⟨g1, g2⟩
  · exact .inl g
  · refine .inr ⟨g1, ?_⟩
    unfold sumS
    omega
theorem InvB.stepB {nons : Nat} (hn : nons ≤ 6) {p : List Int × Bool} (h : InvB nons p.1) {rc : RuleT × Int} (hr : okRC nons rc) : InvB nons (En.stepB p rc).1 ∧ muB (En.stepB p rc).1 ≤ muB p.1 ∧ ((En.stepB p rc).2 = true → p.2 = true ∨ muB (En.stepB p rc).1 < muB p.1) := by
  unfold En.stepB
  split
  · rename_i hc
    have := h.set (k := rc.1.1.toNat) (by have := hr.1; have := hr.2.1; omega) hn hc.1 (sum_facts h hr).1 hc.2
    exact ⟨this.1, Nat.le_of_lt this.2, fun _ => .inr this.2⟩
  · exact ⟨h, Nat.le_refl _, fun h => .inl h⟩
attribute [irreducible] fuelB bestB iterB roundB
end Go.Proofs.Ytpnpjkkppndhfaa.En
end
