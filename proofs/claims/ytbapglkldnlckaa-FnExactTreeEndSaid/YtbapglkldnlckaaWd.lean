/- Walks of the laws' helpers: forests, whole; their size. -/
import Derived.Test.YtbapglkldnlckaaWc
namespace Go.Proofs.Ytbapglkldnlckaa.En
open Go.RowKit
set_option linter.unusedSimpArgs false
set_option linter.unusedVariables false
set_option maxHeartbeats 4000000
def forest (ns : List Node3) (es : List Edge3) : AV := .ag [.im 3 (nodes ns), .im 3 (edges es)]

theorem toForest (ns : List Node3) (es : List Edge3) (hn : ns.length < 5864062014806) (hx : es.length < 5864062014806) (hs : ∀ e ∈ es, e.2.2.length < 35184372088832) : Pure Try.prog 24 [forest ns es] (forest ns es) := by
  refine Pure.mk (rs := [.cell 2 41]) (nt := 13) Try.func24 rfl rfl rfl rfl (by simp) ?_
  simp only [sl, forest]
  repeat' first
    | refine Holds.seq ?_
    | refine Holds.skip ?_
    | refine Holds.exit ?_
    | refine Holds.ret ?_
    | refine thenA_normal ?_
    | refine thenA_exit ?_
    | refine thenA_ret ?_
    | refine inB_normal ?_
    | refine inB_ret ?_
    | refine inB_here ?_
    | (refine inB_past ?_ ?_; (· exact rfl))
    | refine Holds.reg ?_
    | refine Holds.block ?_
    | refine GS.nil ?_
    | (refine GS.step (s' := ?_) ?_ ?_ ?_; rotate_left; (· exact rfl); (· (simp [go_sem, List.take_of_length_le] <;> with_reducible rfl)))
    | (refine GS.skip ?_ ?_ ?_; (· exact rfl); (· exact rfl))
    | fail
  refine GS.cc (toNodeS ns hn) rfl rfl rfl rfl (by simp [go_sem, List.take_of_length_le] <;> with_reducible rfl) rfl (by simp [go_sem, List.take_of_length_le]) ?_
  repeat' first
    | refine Holds.seq ?_
    | refine Holds.skip ?_
    | refine Holds.exit ?_
    | refine Holds.ret ?_
    | refine thenA_normal ?_
    | refine thenA_exit ?_
    | refine thenA_ret ?_
    | refine inB_normal ?_
    | refine inB_ret ?_
    | refine inB_here ?_
    | (refine inB_past ?_ ?_; (· exact rfl))
    | refine Holds.reg ?_
    | refine Holds.block ?_
    | refine GS.nil ?_
    | (refine GS.step (s' := ?_) ?_ ?_ ?_; rotate_left; (· exact rfl); (· (simp [go_sem, List.take_of_length_le] <;> with_reducible rfl)))
    | (refine GS.skip ?_ ?_ ?_; (· exact rfl); (· exact rfl))
    | fail
  refine GS.cc (toEdgeS es hx hs) rfl rfl rfl rfl (by simp [go_sem, List.take_of_length_le] <;> with_reducible rfl) rfl (by simp [go_sem, List.take_of_length_le]) ?_
  repeat' first
    | refine Holds.seq ?_
    | refine Holds.skip ?_
    | refine Holds.exit ?_
    | refine Holds.ret ?_
    | refine thenA_normal ?_
    | refine thenA_exit ?_
    | refine thenA_ret ?_
    | refine inB_normal ?_
    | refine inB_ret ?_
    | refine inB_here ?_
    | (refine inB_past ?_ ?_; (· exact rfl))
    | refine Holds.reg ?_
    | refine Holds.block ?_
    | refine GS.nil ?_
    | (refine GS.step (s' := ?_) ?_ ?_ ?_; rotate_left; (· exact rfl); (· (simp [go_sem, List.take_of_length_le] <;> with_reducible rfl)))
    | (refine GS.skip ?_ ?_ ?_; (· exact rfl); (· exact rfl))
    | fail
  refine Out.mk (xs := ?_) ?_ ?_ (by first | exact .inr rfl | exact .inl rfl)
  rotate_left
  · simp [go_sem, List.take_of_length_le] <;> with_reducible rfl
  exact Fz.cl rfl

theorem eqForest (ns ms : List Node3) (es fs : List Edge3) (hn : ns.length < 4611686018427387904) (hx : es.length < 4611686018427387904) (hs : ∀ e ∈ es, e.2.2.length < 4611686018427387904) :
    Pure Try.prog 26 [forest ns es, forest ms fs] (.v (.bool (decide (ns = ms ∧ es = fs)))) := by
  refine Pure.mk (rs := [.tmp 4]) (nt := 17) Try.func26 rfl rfl rfl rfl (by simp) ?_
  simp only [sl, forest]
  repeat' first
    | refine Holds.seq ?_
    | refine Holds.skip ?_
    | refine Holds.exit ?_
    | refine Holds.ret ?_
    | refine thenA_normal ?_
    | refine thenA_exit ?_
    | refine thenA_ret ?_
    | refine inB_normal ?_
    | refine inB_ret ?_
    | refine inB_here ?_
    | (refine inB_past ?_ ?_; (· exact rfl))
    | refine Holds.reg ?_
    | refine Holds.block ?_
    | refine GS.nil ?_
    | (refine GS.step (s' := ?_) ?_ ?_ ?_; rotate_left; (· exact rfl); (· (simp [go_sem, List.take_of_length_le] <;> with_reducible rfl)))
    | (refine GS.skip ?_ ?_ ?_; (· exact rfl); (· exact rfl))
    | fail
  refine GS.cc (eqNodeS ns ms hn) rfl rfl rfl rfl (by simp [go_sem, List.take_of_length_le] <;> with_reducible rfl) rfl (by simp [go_sem, List.take_of_length_le]) ?_
  repeat' first
    | refine Holds.seq ?_
    | refine Holds.skip ?_
    | refine Holds.exit ?_
    | refine Holds.ret ?_
    | refine thenA_normal ?_
    | refine thenA_exit ?_
    | refine thenA_ret ?_
    | refine inB_normal ?_
    | refine inB_ret ?_
    | refine inB_here ?_
    | (refine inB_past ?_ ?_; (· exact rfl))
    | refine Holds.reg ?_
    | refine Holds.block ?_
    | refine GS.nil ?_
    | (refine GS.step (s' := ?_) ?_ ?_ ?_; rotate_left; (· exact rfl); (· (simp [go_sem, List.take_of_length_le] <;> with_reducible rfl)))
    | (refine GS.skip ?_ ?_ ?_; (· exact rfl); (· exact rfl))
    | fail
  refine Holds.cond rfl (fun hl => ?_) (fun h1 => ?_)
  · have : ¬ (ns = ms ∧ es = fs) := by rintro ⟨rfl, rfl⟩; simp at hl
    simp only [this, decide_false]
    repeat' first
      | refine Holds.seq ?_
      | refine Holds.skip ?_
      | refine Holds.exit ?_
      | refine Holds.ret ?_
      | refine thenA_normal ?_
      | refine thenA_exit ?_
      | refine thenA_ret ?_
      | refine inB_normal ?_
      | refine inB_ret ?_
      | refine inB_here ?_
      | (refine inB_past ?_ ?_; (· exact rfl))
      | refine Holds.reg ?_
      | refine Holds.block ?_
      | refine GS.nil ?_
      | (refine GS.step (s' := ?_) ?_ ?_ ?_; rotate_left; (· exact rfl); (· (simp [go_sem, List.take_of_length_le] <;> with_reducible rfl)))
      | (refine GS.skip ?_ ?_ ?_; (· exact rfl); (· exact rfl))
      | fail
    refine Out.mk (xs := ?_) ?_ ?_ (by first | exact .inr rfl | exact .inl rfl)
    rotate_left
    · simp [go_sem, List.take_of_length_le] <;> with_reducible rfl
    exact .v _
  repeat' first
    | refine Holds.seq ?_
    | refine Holds.skip ?_
    | refine Holds.exit ?_
    | refine Holds.ret ?_
    | refine thenA_normal ?_
    | refine thenA_exit ?_
    | refine thenA_ret ?_
    | refine inB_normal ?_
    | refine inB_ret ?_
    | refine inB_here ?_
    | (refine inB_past ?_ ?_; (· exact rfl))
    | refine Holds.reg ?_
    | refine Holds.block ?_
    | refine GS.nil ?_
    | (refine GS.step (s' := ?_) ?_ ?_ ?_; rotate_left; (· exact rfl); (· (simp [go_sem, List.take_of_length_le] <;> with_reducible rfl)))
    | (refine GS.skip ?_ ?_ ?_; (· exact rfl); (· exact rfl))
    | fail
  refine GS.cc (eqEdgeS es fs hx hs) rfl rfl rfl rfl (by simp [go_sem, List.take_of_length_le] <;> with_reducible rfl) rfl (by simp [go_sem, List.take_of_length_le]) ?_
  repeat' first
    | refine Holds.seq ?_
    | refine Holds.skip ?_
    | refine Holds.exit ?_
    | refine Holds.ret ?_
    | refine thenA_normal ?_
    | refine thenA_exit ?_
    | refine thenA_ret ?_
    | refine inB_normal ?_
    | refine inB_ret ?_
    | refine inB_here ?_
    | (refine inB_past ?_ ?_; (· exact rfl))
    | refine Holds.reg ?_
    | refine Holds.block ?_
    | refine GS.nil ?_
    | (refine GS.step (s' := ?_) ?_ ?_ ?_; rotate_left; (· exact rfl); (· (simp [go_sem, List.take_of_length_le] <;> with_reducible rfl)))
    | (refine GS.skip ?_ ?_ ?_; (· exact rfl); (· exact rfl))
    | fail
  refine Holds.cond rfl (fun hl => ?_) (fun h2 => ?_)
  · have : ¬ (ns = ms ∧ es = fs) := by rintro ⟨rfl, rfl⟩; simp at hl
    simp only [this, decide_false]
    repeat' first
      | refine Holds.seq ?_
      | refine Holds.skip ?_
      | refine Holds.exit ?_
      | refine Holds.ret ?_
      | refine thenA_normal ?_
      | refine thenA_exit ?_
      | refine thenA_ret ?_
      | refine inB_normal ?_
      | refine inB_ret ?_
      | refine inB_here ?_
      | (refine inB_past ?_ ?_; (· exact rfl))
      | refine Holds.reg ?_
      | refine Holds.block ?_
      | refine GS.nil ?_
      | (refine GS.step (s' := ?_) ?_ ?_ ?_; rotate_left; (· exact rfl); (· (simp [go_sem, List.take_of_length_le] <;> with_reducible rfl)))
      | (refine GS.skip ?_ ?_ ?_; (· exact rfl); (· exact rfl))
      | fail
    refine Out.mk (xs := ?_) ?_ ?_ (by first | exact .inr rfl | exact .inl rfl)
    rotate_left
    · simp [go_sem, List.take_of_length_le] <;> with_reducible rfl
    exact .v _
  have : ns = ms ∧ es = fs := ⟨by simpa using h1, by simpa using h2⟩
  simp only [this, decide_true]
  repeat' first
    | refine Holds.seq ?_
    | refine Holds.skip ?_
    | refine Holds.exit ?_
    | refine Holds.ret ?_
    | refine thenA_normal ?_
    | refine thenA_exit ?_
    | refine thenA_ret ?_
    | refine inB_normal ?_
    | refine inB_ret ?_
    | refine inB_here ?_
    | (refine inB_past ?_ ?_; (· exact rfl))
    | refine Holds.reg ?_
    | refine Holds.block ?_
    | refine GS.nil ?_
    | (refine GS.step (s' := ?_) ?_ ?_ ?_; rotate_left; (· exact rfl); (· (simp [go_sem, List.take_of_length_le] <;> with_reducible rfl)))
    | (refine GS.skip ?_ ?_ ?_; (· exact rfl); (· exact rfl))
    | fail
  refine Out.mk (xs := ?_) ?_ ?_ (by first | exact .inr rfl | exact .inl rfl)
  rotate_left
  · simp [go_sem, List.take_of_length_le] <;> with_reducible rfl
  exact .v _

theorem szNodeS (xs : List Node3) (n : Int) (h0 : -1 ≤ n) (h1 : n ≤ 1048576) (hx : xs.length < 4611686018427387904) : Pure Try.prog 67 [.im 3 (nodes xs), .v (.int .i64 n)] (.v (.int .i64 (less n xs.length))) := by
  refine Pure.mk (rs := [.tmp 4]) (nt := 12) Try.func67 rfl rfl rfl rfl (by simp) ?_
  simp only [sl]
  have hw : wr64 (n - xs.length) = n - xs.length := wr64_id (by omega) (by omega)
  repeat' first
    | refine Holds.seq ?_
    | refine Holds.skip ?_
    | refine Holds.exit ?_
    | refine Holds.ret ?_
    | refine thenA_normal ?_
    | refine thenA_exit ?_
    | refine thenA_ret ?_
    | refine inB_normal ?_
    | refine inB_ret ?_
    | refine inB_here ?_
    | (refine inB_past ?_ ?_; (· exact rfl))
    | refine Holds.reg ?_
    | refine Holds.block ?_
    | refine GS.nil ?_
    | (refine GS.step (s' := ?_) ?_ ?_ ?_; rotate_left; (· exact rfl); (· (simp [go_sem, List.take_of_length_le, hw] <;> with_reducible rfl)))
    | (refine GS.skip ?_ ?_ ?_; (· exact rfl); (· exact rfl))
    | fail
  refine Holds.cond rfl (fun hl => ?_) (fun hl => ?_)
  · have : n - xs.length < 0 := by simpa using hl
    simp only [less, if_pos this]
    repeat' first
      | refine Holds.seq ?_
      | refine Holds.skip ?_
      | refine Holds.exit ?_
      | refine Holds.ret ?_
      | refine thenA_normal ?_
      | refine thenA_exit ?_
      | refine thenA_ret ?_
      | refine inB_normal ?_
      | refine inB_ret ?_
      | refine inB_here ?_
      | (refine inB_past ?_ ?_; (· exact rfl))
      | refine Holds.reg ?_
      | refine Holds.block ?_
      | refine GS.nil ?_
      | (refine GS.step (s' := ?_) ?_ ?_ ?_; rotate_left; (· exact rfl); (· (simp [go_sem, List.take_of_length_le] <;> with_reducible rfl)))
      | (refine GS.skip ?_ ?_ ?_; (· exact rfl); (· exact rfl))
      | fail
    refine Out.mk (xs := ?_) ?_ ?_ (by first | exact .inr rfl | exact .inl rfl)
    rotate_left
    · simp [go_sem, List.take_of_length_le] <;> with_reducible rfl
    exact .v _
  · have : ¬ n - xs.length < 0 := by simpa using hl
    simp only [less, if_neg this]
    repeat' first
      | refine Holds.seq ?_
      | refine Holds.skip ?_
      | refine Holds.exit ?_
      | refine Holds.ret ?_
      | refine thenA_normal ?_
      | refine thenA_exit ?_
      | refine thenA_ret ?_
      | refine inB_normal ?_
      | refine inB_ret ?_
      | refine inB_here ?_
      | (refine inB_past ?_ ?_; (· exact rfl))
      | refine Holds.reg ?_
      | refine Holds.block ?_
      | refine GS.nil ?_
      | (refine GS.step (s' := ?_) ?_ ?_ ?_; rotate_left; (· exact rfl); (· (simp [go_sem, List.take_of_length_le] <;> with_reducible rfl)))
      | (refine GS.skip ?_ ?_ ?_; (· exact rfl); (· exact rfl))
      | fail
    refine Out.mk (xs := ?_) ?_ ?_ (by first | exact .inr rfl | exact .inl rfl)
    rotate_left
    · simp [go_sem, List.take_of_length_le] <;> with_reducible rfl
    exact .v _
theorem less_in {n : Int} {k : Nat} (h1 : n ≤ 1048576) : -1 ≤ less n k ∧ less n k ≤ 1048576 := by
  unfold less; split <;> omega
theorem less_of {n : Int} {k : Nat} (h : 0 ≤ less n k) : (k : Int) ≤ n ∧ less n k = n - k := by
  unfold less at h ⊢; split at h
  · omega
  · rename_i h'; rw [if_neg h']; omega
theorem szEdge (e : Edge3) (n : Int) (h0 : -1 ≤ n) (h1 : n ≤ 1048576) (hx : e.2.2.length < 4611686018427387904) : Pure Try.prog 124 [.ag (edgeC e), .v (.int .i64 n)] (.v (.int .i64 (less n e.2.2.length))) := by
  refine Pure.mk (rs := [.tmp 4]) (nt := 12) Try.func124 rfl rfl rfl rfl (by simp) ?_
  simp only [sl, edgeC]
  repeat' first
    | refine Holds.seq ?_
    | refine Holds.skip ?_
    | refine Holds.exit ?_
    | refine Holds.ret ?_
    | refine thenA_normal ?_
    | refine thenA_exit ?_
    | refine thenA_ret ?_
    | refine inB_normal ?_
    | refine inB_ret ?_
    | refine inB_here ?_
    | (refine inB_past ?_ ?_; (· exact rfl))
    | refine Holds.reg ?_
    | refine Holds.block ?_
    | refine GS.nil ?_
    | (refine GS.step (s' := ?_) ?_ ?_ ?_; rotate_left; (· exact rfl); (· (simp [go_sem, List.take_of_length_le] <;> with_reducible rfl)))
    | (refine GS.skip ?_ ?_ ?_; (· exact rfl); (· exact rfl))
    | fail
  refine GS.cc (szIntS e.2.2 n h0 h1 hx) rfl rfl rfl rfl (by simp [go_sem, List.take_of_length_le] <;> with_reducible rfl) rfl (by simp [go_sem, List.take_of_length_le]) ?_
  repeat' first
    | refine Holds.seq ?_
    | refine Holds.skip ?_
    | refine Holds.exit ?_
    | refine Holds.ret ?_
    | refine thenA_normal ?_
    | refine thenA_exit ?_
    | refine thenA_ret ?_
    | refine inB_normal ?_
    | refine inB_ret ?_
    | refine inB_here ?_
    | (refine inB_past ?_ ?_; (· exact rfl))
    | refine Holds.reg ?_
    | refine Holds.block ?_
    | refine GS.nil ?_
    | (refine GS.step (s' := ?_) ?_ ?_ ?_; rotate_left; (· exact rfl); (· (simp [go_sem, List.take_of_length_le] <;> with_reducible rfl)))
    | (refine GS.skip ?_ ?_ ?_; (· exact rfl); (· exact rfl))
    | fail
  refine Holds.cond rfl (fun hl => ?_) (fun hl => ?_)
  · have h : less n e.2.2.length < 0 := by simpa using hl
    have : less n e.2.2.length = -1 := by have := less_in (k := e.2.2.length) h1; omega
    rw [this]
    repeat' first
      | refine Holds.seq ?_
      | refine Holds.skip ?_
      | refine Holds.exit ?_
      | refine Holds.ret ?_
      | refine thenA_normal ?_
      | refine thenA_exit ?_
      | refine thenA_ret ?_
      | refine inB_normal ?_
      | refine inB_ret ?_
      | refine inB_here ?_
      | (refine inB_past ?_ ?_; (· exact rfl))
      | refine Holds.reg ?_
      | refine Holds.block ?_
      | refine GS.nil ?_
      | (refine GS.step (s' := ?_) ?_ ?_ ?_; rotate_left; (· exact rfl); (· (simp [go_sem, List.take_of_length_le] <;> with_reducible rfl)))
      | (refine GS.skip ?_ ?_ ?_; (· exact rfl); (· exact rfl))
      | fail
    refine Out.mk (xs := ?_) ?_ ?_ (by first | exact .inr rfl | exact .inl rfl)
    rotate_left
    · simp [go_sem, List.take_of_length_le] <;> with_reducible rfl
    exact .v _
  · repeat' first
      | refine Holds.seq ?_
      | refine Holds.skip ?_
      | refine Holds.exit ?_
      | refine Holds.ret ?_
      | refine thenA_normal ?_
      | refine thenA_exit ?_
      | refine thenA_ret ?_
      | refine inB_normal ?_
      | refine inB_ret ?_
      | refine inB_here ?_
      | (refine inB_past ?_ ?_; (· exact rfl))
      | refine Holds.reg ?_
      | refine Holds.block ?_
      | refine GS.nil ?_
      | (refine GS.step (s' := ?_) ?_ ?_ ?_; rotate_left; (· exact rfl); (· (simp [go_sem, List.take_of_length_le] <;> with_reducible rfl)))
      | (refine GS.skip ?_ ?_ ?_; (· exact rfl); (· exact rfl))
      | fail
    refine Out.mk (xs := ?_) ?_ ?_ (by first | exact .inr rfl | exact .inl rfl)
    rotate_left
    · simp [go_sem, List.take_of_length_le] <;> with_reducible rfl
    exact .v _
def szEs (n : Int) : List Edge3 → Int
  | [] => n
  | e :: es => if less n e.2.2.length < 0 then -1 else szEs (less n e.2.2.length) es
def szEsAll (n : Int) (es : List Edge3) : Int := if n - es.length < 0 then -1 else szEs (n - es.length) es
theorem szEdgeS (xs : List Edge3) (n : Int) (h0 : -1 ≤ n) (h1 : n ≤ 1048576) (hx : xs.length < 4611686018427387904) (hs : ∀ e ∈ xs, e.2.2.length < 4611686018427387904) : Pure Try.prog 68 [.im 3 (edges xs), .v (.int .i64 n)] (.v (.int .i64 (szEsAll n xs))) := by
  refine Pure.mk (rs := [.tmp 4]) (nt := 27) Try.func68 rfl rfl rfl rfl (by simp) ?_
  simp only [sl]
  have hw : wr64 (n - xs.length) = n - xs.length := wr64_id (by omega) (by omega)
  repeat' first
    | refine Holds.seq ?_
    | refine Holds.skip ?_
    | refine Holds.exit ?_
    | refine Holds.ret ?_
    | refine thenA_normal ?_
    | refine thenA_exit ?_
    | refine thenA_ret ?_
    | refine inB_normal ?_
    | refine inB_ret ?_
    | refine inB_here ?_
    | (refine inB_past ?_ ?_; (· exact rfl))
    | refine Holds.reg ?_
    | refine Holds.block ?_
    | refine GS.nil ?_
    | (refine GS.step (s' := ?_) ?_ ?_ ?_; rotate_left; (· exact rfl); (· (simp [go_sem, List.take_of_length_le, hw] <;> with_reducible rfl)))
    | (refine GS.skip ?_ ?_ ?_; (· exact rfl); (· exact rfl))
    | fail
  refine Holds.cond rfl (fun hl => ?_) (fun hl => ?_)
  · have : n - xs.length < 0 := by simpa using hl
    simp only [szEsAll, if_pos this]
    repeat' first
      | refine Holds.seq ?_
      | refine Holds.skip ?_
      | refine Holds.exit ?_
      | refine Holds.ret ?_
      | refine thenA_normal ?_
      | refine thenA_exit ?_
      | refine thenA_ret ?_
      | refine inB_normal ?_
      | refine inB_ret ?_
      | refine inB_here ?_
      | (refine inB_past ?_ ?_; (· exact rfl))
      | refine Holds.reg ?_
      | refine Holds.block ?_
      | refine GS.nil ?_
      | (refine GS.step (s' := ?_) ?_ ?_ ?_; rotate_left; (· exact rfl); (· (simp [go_sem, List.take_of_length_le] <;> with_reducible rfl)))
      | (refine GS.skip ?_ ?_ ?_; (· exact rfl); (· exact rfl))
      | fail
    refine Out.mk (xs := ?_) ?_ ?_ (by first | exact .inr rfl | exact .inl rfl)
    rotate_left
    · simp [go_sem, List.take_of_length_le] <;> with_reducible rfl
    exact .v _
  have hnn : ¬ n - xs.length < 0 := by simpa using hl
  simp only [szEsAll, if_neg hnn]
  repeat' first
    | refine Holds.seq ?_
    | refine Holds.skip ?_
    | refine Holds.exit ?_
    | refine Holds.ret ?_
    | refine thenA_normal ?_
    | refine thenA_exit ?_
    | refine thenA_ret ?_
    | refine inB_normal ?_
    | refine inB_ret ?_
    | refine inB_here ?_
    | (refine inB_past ?_ ?_; (· exact rfl))
    | refine Holds.reg ?_
    | refine Holds.block ?_
    | refine GS.nil ?_
    | (refine GS.step (s' := ?_) ?_ ?_ ?_; rotate_left; (· exact rfl); (· (simp [go_sem, List.take_of_length_le] <;> with_reducible rfl)))
    | (refine GS.skip ?_ ?_ ?_; (· exact rfl); (· exact rfl))
    | fail
  refine Holds.loop (ι := Nat × Int) (fun i => ⟨[(0, .im 3 (edges xs)), (1, .v (.int .i64 i.2)), (5, .v (.int .i64 i.1))], [], 0⟩) (fun i => i.1 ≤ xs.length ∧ 0 ≤ i.2 ∧ i.2 ≤ 1048576 ∧ szEs i.2 (xs.drop i.1) = szEs (n - xs.length) xs) (fun i => xs.length - i.1) (0, n - xs.length) ⟨Nat.zero_le _, by simpa using hnn, by show n - (xs.length : Int) ≤ 1048576; omega, rfl⟩ ?_ ?_
  · exact Cov.of id (by simp [ChkT, okr, okr1, lk, ren, ren1]) (by simp [ChkB])
  rintro ⟨i, m⟩ ⟨hi, hm0, hm1, hsz⟩
  dsimp only at hi hm0 hm1 hsz ⊢
  repeat' first
    | refine Holds.seq ?_
    | refine Holds.skip ?_
    | refine Holds.exit ?_
    | refine Holds.ret ?_
    | refine thenA_normal ?_
    | refine thenA_exit ?_
    | refine thenA_ret ?_
    | refine inB_normal ?_
    | refine inB_ret ?_
    | refine inB_here ?_
    | (refine inB_past ?_ ?_; (· exact rfl))
    | refine Holds.reg ?_
    | refine Holds.block ?_
    | refine GS.nil ?_
    | (refine GS.step (s' := ?_) ?_ ?_ ?_; rotate_left; (· exact rfl); (· (simp [go_sem, List.take_of_length_le] <;> with_reducible rfl)))
    | (refine GS.skip ?_ ?_ ?_; (· exact rfl); (· exact rfl))
    | fail
  refine Holds.cond rfl (fun hl => ?_) (fun hl => ?_)
  · have hlt : i < xs.length := by simpa using hl
    have hxi : xs[i]? = some xs[i] := List.getElem?_eq_getElem hlt
    rw [List.drop_eq_getElem_cons hlt, szEs] at hsz
    repeat' first
      | refine Holds.seq ?_
      | refine Holds.skip ?_
      | refine Holds.exit ?_
      | refine Holds.ret ?_
      | refine thenA_normal ?_
      | refine thenA_exit ?_
      | refine thenA_ret ?_
      | refine inB_normal ?_
      | refine inB_ret ?_
      | refine inB_here ?_
      | (refine inB_past ?_ ?_; (· exact rfl))
      | refine Holds.reg ?_
      | refine Holds.block ?_
      | refine GS.nil ?_
      | (refine GS.step (s' := ?_) ?_ ?_ ?_; rotate_left; (· exact rfl); (· (simp [go_sem, List.take_of_length_le, hxi, edgeC] <;> with_reducible rfl)))
      | (refine GS.skip ?_ ?_ ?_; (· exact rfl); (· exact rfl))
      | fail
    refine GS.cc (szEdge xs[i] m (by omega) hm1 (hs _ (List.getElem_mem hlt))) rfl rfl rfl rfl (by simp [go_sem, List.take_of_length_le, edgeC] <;> with_reducible rfl) rfl (by simp [go_sem, List.take_of_length_le, edgeC]) ?_
    repeat' first
      | refine Holds.seq ?_
      | refine Holds.skip ?_
      | refine Holds.exit ?_
      | refine Holds.ret ?_
      | refine thenA_normal ?_
      | refine thenA_exit ?_
      | refine thenA_ret ?_
      | refine inB_normal ?_
      | refine inB_ret ?_
      | refine inB_here ?_
      | (refine inB_past ?_ ?_; (· exact rfl))
      | refine Holds.reg ?_
      | refine Holds.block ?_
      | refine GS.nil ?_
      | (refine GS.step (s' := ?_) ?_ ?_ ?_; rotate_left; (· exact rfl); (· (simp [go_sem, List.take_of_length_le] <;> with_reducible rfl)))
      | (refine GS.skip ?_ ?_ ?_; (· exact rfl); (· exact rfl))
      | fail
    refine Holds.cond rfl (fun hl => ?_) (fun hl => ?_)
    · have h : less m xs[i].2.2.length < 0 := by simpa using hl
      rw [if_pos h] at hsz
      rw [← hsz]
      repeat' first
        | refine Holds.seq ?_
        | refine Holds.skip ?_
        | refine Holds.exit ?_
        | refine Holds.ret ?_
        | refine thenA_normal ?_
        | refine thenA_exit ?_
        | refine thenA_ret ?_
        | refine inB_normal ?_
        | refine inB_ret ?_
        | refine inB_here ?_
        | (refine inB_past ?_ ?_; (· exact rfl))
        | refine Holds.reg ?_
        | refine Holds.block ?_
        | refine GS.nil ?_
        | (refine GS.step (s' := ?_) ?_ ?_ ?_; rotate_left; (· exact rfl); (· (simp [go_sem, List.take_of_length_le] <;> with_reducible rfl)))
        | (refine GS.skip ?_ ?_ ?_; (· exact rfl); (· exact rfl))
        | fail
      refine Out.mk (xs := ?_) ?_ ?_ (by first | exact .inr rfl | exact .inl rfl)
      rotate_left
      · simp [go_sem, List.take_of_length_le] <;> with_reducible rfl
      exact .v _
    · have h : ¬ less m xs[i].2.2.length < 0 := by simpa using hl
      rw [if_neg h] at hsz
      repeat' first
        | refine Holds.seq ?_
        | refine Holds.skip ?_
        | refine Holds.exit ?_
        | refine Holds.ret ?_
        | refine thenA_normal ?_
        | refine thenA_exit ?_
        | refine thenA_ret ?_
        | refine inB_normal ?_
        | refine inB_ret ?_
        | refine inB_here ?_
        | (refine inB_past ?_ ?_; (· exact rfl))
        | refine Holds.reg ?_
        | refine Holds.block ?_
        | refine GS.nil ?_
        | (refine GS.step (s' := ?_) ?_ ?_ ?_; rotate_left; (· exact rfl); (· (simp [go_sem, List.take_of_length_le] <;> with_reducible rfl)))
        | (refine GS.skip ?_ ?_ ?_; (· exact rfl); (· exact rfl))
        | fail
      refine ⟨(i + 1, less m xs[i].2.2.length), ⟨hlt, by show (0:Int) ≤ _; omega, (less_in hm1).2, hsz⟩, by show xs.length - (i + 1) < xs.length - i; omega, ?_⟩
      rw [wr64_id (by omega) (by omega)]
      exact Cov.of id (by simp [ChkT, okr, okr1, lk, ren, ren1]) (by simp [ChkB])
  · have hle : i = xs.length := by
      have : ¬ i < xs.length := by simpa using hl
      omega
    subst hle
    rw [List.drop_length, szEs] at hsz
    rw [← hsz]
    repeat' first
      | refine Holds.seq ?_
      | refine Holds.skip ?_
      | refine Holds.exit ?_
      | refine Holds.ret ?_
      | refine thenA_normal ?_
      | refine thenA_exit ?_
      | refine thenA_ret ?_
      | refine inB_normal ?_
      | refine inB_ret ?_
      | refine inB_here ?_
      | (refine inB_past ?_ ?_; (· exact rfl))
      | refine Holds.reg ?_
      | refine Holds.block ?_
      | refine GS.nil ?_
      | (refine GS.step (s' := ?_) ?_ ?_ ?_; rotate_left; (· exact rfl); (· (simp [go_sem, List.take_of_length_le] <;> with_reducible rfl)))
      | (refine GS.skip ?_ ?_ ?_; (· exact rfl); (· exact rfl))
      | fail
    refine Out.mk (xs := ?_) ?_ ?_ (by first | exact .inr rfl | exact .inl rfl)
    rotate_left
    · simp [go_sem, List.take_of_length_le] <;> with_reducible rfl
    exact .v _
def szF (n : Int) (ns : List Node3) (es : List Edge3) : Int := if less n ns.length < 0 then -1 else szEsAll (less n ns.length) es
theorem szEs_in (es : List Edge3) : ∀ n : Int, -1 ≤ n → n ≤ 1048576 → -1 ≤ szEs n es ∧ szEs n es ≤ 1048576 := by
  induction es with
  | nil => intro n h0 h1; exact ⟨h0, h1⟩
  | cons e es ih =>
    intro n h0 h1
    unfold szEs
    split
    · omega
    · exact ih _ (less_in h1).1 (less_in h1).2
theorem szEsAll_in (es : List Edge3) {n : Int} (h0 : -1 ≤ n) (h1 : n ≤ 1048576) : -1 ≤ szEsAll n es ∧ szEsAll n es ≤ 1048576 := by
  unfold szEsAll
  split
  · omega
  · exact szEs_in es _ (by omega) (by omega)
theorem szForest (ns : List Node3) (es : List Edge3) (n : Int) (h0 : -1 ≤ n) (h1 : n ≤ 1048576) (hn : ns.length < 4611686018427387904) (hx : es.length < 4611686018427387904) (hs : ∀ e ∈ es, e.2.2.length < 4611686018427387904) : Pure Try.prog 22 [forest ns es, .v (.int .i64 n)] (.v (.int .i64 (szF n ns es))) := by
  refine Pure.mk (rs := [.tmp 4]) (nt := 18) Try.func22 rfl rfl rfl rfl (by simp) ?_
  simp only [sl, forest]
  repeat' first
    | refine Holds.seq ?_
    | refine Holds.skip ?_
    | refine Holds.exit ?_
    | refine Holds.ret ?_
    | refine thenA_normal ?_
    | refine thenA_exit ?_
    | refine thenA_ret ?_
    | refine inB_normal ?_
    | refine inB_ret ?_
    | refine inB_here ?_
    | (refine inB_past ?_ ?_; (· exact rfl))
    | refine Holds.reg ?_
    | refine Holds.block ?_
    | refine GS.nil ?_
    | (refine GS.step (s' := ?_) ?_ ?_ ?_; rotate_left; (· exact rfl); (· (simp [go_sem, List.take_of_length_le] <;> with_reducible rfl)))
    | (refine GS.skip ?_ ?_ ?_; (· exact rfl); (· exact rfl))
    | fail
  refine GS.cc (szNodeS ns n h0 h1 hn) rfl rfl rfl rfl (by simp [go_sem, List.take_of_length_le] <;> with_reducible rfl) rfl (by simp [go_sem, List.take_of_length_le]) ?_
  repeat' first
    | refine Holds.seq ?_
    | refine Holds.skip ?_
    | refine Holds.exit ?_
    | refine Holds.ret ?_
    | refine thenA_normal ?_
    | refine thenA_exit ?_
    | refine thenA_ret ?_
    | refine inB_normal ?_
    | refine inB_ret ?_
    | refine inB_here ?_
    | (refine inB_past ?_ ?_; (· exact rfl))
    | refine Holds.reg ?_
    | refine Holds.block ?_
    | refine GS.nil ?_
    | (refine GS.step (s' := ?_) ?_ ?_ ?_; rotate_left; (· exact rfl); (· (simp [go_sem, List.take_of_length_le] <;> with_reducible rfl)))
    | (refine GS.skip ?_ ?_ ?_; (· exact rfl); (· exact rfl))
    | fail
  refine Holds.cond rfl (fun hl => ?_) (fun hl => ?_)
  · have h : less n ns.length < 0 := by simpa using hl
    simp only [szF, if_pos h]
    repeat' first
      | refine Holds.seq ?_
      | refine Holds.skip ?_
      | refine Holds.exit ?_
      | refine Holds.ret ?_
      | refine thenA_normal ?_
      | refine thenA_exit ?_
      | refine thenA_ret ?_
      | refine inB_normal ?_
      | refine inB_ret ?_
      | refine inB_here ?_
      | (refine inB_past ?_ ?_; (· exact rfl))
      | refine Holds.reg ?_
      | refine Holds.block ?_
      | refine GS.nil ?_
      | (refine GS.step (s' := ?_) ?_ ?_ ?_; rotate_left; (· exact rfl); (· (simp [go_sem, List.take_of_length_le] <;> with_reducible rfl)))
      | (refine GS.skip ?_ ?_ ?_; (· exact rfl); (· exact rfl))
      | fail
    refine Out.mk (xs := ?_) ?_ ?_ (by first | exact .inr rfl | exact .inl rfl)
    rotate_left
    · simp [go_sem, List.take_of_length_le] <;> with_reducible rfl
    exact .v _
  have h : ¬ less n ns.length < 0 := by simpa using hl
  have hin := less_in (n := n) (k := ns.length) h1
  simp only [szF, if_neg h]
  repeat' first
    | refine Holds.seq ?_
    | refine Holds.skip ?_
    | refine Holds.exit ?_
    | refine Holds.ret ?_
    | refine thenA_normal ?_
    | refine thenA_exit ?_
    | refine thenA_ret ?_
    | refine inB_normal ?_
    | refine inB_ret ?_
    | refine inB_here ?_
    | (refine inB_past ?_ ?_; (· exact rfl))
    | refine Holds.reg ?_
    | refine Holds.block ?_
    | refine GS.nil ?_
    | (refine GS.step (s' := ?_) ?_ ?_ ?_; rotate_left; (· exact rfl); (· (simp [go_sem, List.take_of_length_le] <;> with_reducible rfl)))
    | (refine GS.skip ?_ ?_ ?_; (· exact rfl); (· exact rfl))
    | fail
  refine GS.cc (szEdgeS es (less n ns.length) hin.1 hin.2 hx hs) rfl rfl rfl rfl (by simp [go_sem, List.take_of_length_le] <;> with_reducible rfl) rfl (by simp [go_sem, List.take_of_length_le]) ?_
  repeat' first
    | refine Holds.seq ?_
    | refine Holds.skip ?_
    | refine Holds.exit ?_
    | refine Holds.ret ?_
    | refine thenA_normal ?_
    | refine thenA_exit ?_
    | refine thenA_ret ?_
    | refine inB_normal ?_
    | refine inB_ret ?_
    | refine inB_here ?_
    | (refine inB_past ?_ ?_; (· exact rfl))
    | refine Holds.reg ?_
    | refine Holds.block ?_
    | refine GS.nil ?_
    | (refine GS.step (s' := ?_) ?_ ?_ ?_; rotate_left; (· exact rfl); (· (simp [go_sem, List.take_of_length_le] <;> with_reducible rfl)))
    | (refine GS.skip ?_ ?_ ?_; (· exact rfl); (· exact rfl))
    | fail
  refine Holds.cond rfl (fun hl => ?_) (fun hl => ?_)
  · have h2 : szEsAll (less n ns.length) es < 0 := by simpa using hl
    have := (szEsAll_in es hin.1 hin.2).1
    rw [show szEsAll (less n ns.length) es = -1 by omega]
    repeat' first
      | refine Holds.seq ?_
      | refine Holds.skip ?_
      | refine Holds.exit ?_
      | refine Holds.ret ?_
      | refine thenA_normal ?_
      | refine thenA_exit ?_
      | refine thenA_ret ?_
      | refine inB_normal ?_
      | refine inB_ret ?_
      | refine inB_here ?_
      | (refine inB_past ?_ ?_; (· exact rfl))
      | refine Holds.reg ?_
      | refine Holds.block ?_
      | refine GS.nil ?_
      | (refine GS.step (s' := ?_) ?_ ?_ ?_; rotate_left; (· exact rfl); (· (simp [go_sem, List.take_of_length_le] <;> with_reducible rfl)))
      | (refine GS.skip ?_ ?_ ?_; (· exact rfl); (· exact rfl))
      | fail
    refine Out.mk (xs := ?_) ?_ ?_ (by first | exact .inr rfl | exact .inl rfl)
    rotate_left
    · simp [go_sem, List.take_of_length_le] <;> with_reducible rfl
    exact .v _
  · repeat' first
      | refine Holds.seq ?_
      | refine Holds.skip ?_
      | refine Holds.exit ?_
      | refine Holds.ret ?_
      | refine thenA_normal ?_
      | refine thenA_exit ?_
      | refine thenA_ret ?_
      | refine inB_normal ?_
      | refine inB_ret ?_
      | refine inB_here ?_
      | (refine inB_past ?_ ?_; (· exact rfl))
      | refine Holds.reg ?_
      | refine Holds.block ?_
      | refine GS.nil ?_
      | (refine GS.step (s' := ?_) ?_ ?_ ?_; rotate_left; (· exact rfl); (· (simp [go_sem, List.take_of_length_le] <;> with_reducible rfl)))
      | (refine GS.skip ?_ ?_ ?_; (· exact rfl); (· exact rfl))
      | fail
    refine Out.mk (xs := ?_) ?_ ?_ (by first | exact .inr rfl | exact .inl rfl)
    rotate_left
    · simp [go_sem, List.take_of_length_le] <;> with_reducible rfl
    exact .v _
theorem szF_in (ns : List Node3) (es : List Edge3) {n : Int} (h1 : n ≤ 1048576) : -1 ≤ szF n ns es ∧ szF n ns es ≤ 1048576 := by
  unfold szF
  split
  · omega
  · exact szEsAll_in es (less_in h1).1 (less_in h1).2
end Go.Proofs.Ytbapglkldnlckaa.En
