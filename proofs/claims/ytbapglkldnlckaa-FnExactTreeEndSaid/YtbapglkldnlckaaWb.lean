/- Walks of the laws' helpers: forests. -/
import Derived.Test.YtbapglkldnlckaaWa
namespace Go.Proofs.Ytbapglkldnlckaa.En
open Go.RowKit
set_option linter.unusedSimpArgs false
set_option linter.unusedVariables false
set_option maxHeartbeats 4000000
abbrev Node3 := Int × Int × Int
abbrev Edge3 := Int × Int × List Int
def nodeC (n : Node3) : List AV := [.v (.int .i64 n.1), .v (.int .i64 n.2.1), .v (.int .i64 n.2.2)]
def edgeC (e : Edge3) : List AV := [.v (.int .i64 e.1), .v (.int .i64 e.2.1), .im 1 (ints e.2.2)]
def nodes (ns : List Node3) : List (List AV) := ns.map nodeC
def edges (es : List Edge3) : List (List AV) := es.map edgeC
@[simp] theorem nodes_len (xs : List Node3) : (nodes xs).length = xs.length := by simp [nodes]
@[simp] theorem nodes_get (xs : List Node3) (i : Nat) : (nodes xs)[i]? = (xs[i]?).map nodeC := by simp [nodes]
@[simp] theorem nodes_gE (xs : List Node3) (i : Nat) (h : i < (nodes xs).length) : (nodes xs)[i] = nodeC (xs[i]'(by simpa using h)) := by simp [nodes]
@[simp] theorem edges_len (xs : List Edge3) : (edges xs).length = xs.length := by simp [edges]
@[simp] theorem edges_get (xs : List Edge3) (i : Nat) : (edges xs)[i]? = (xs[i]?).map edgeC := by simp [edges]
@[simp] theorem edges_gE (xs : List Edge3) (i : Nat) (h : i < (edges xs).length) : (edges xs)[i] = edgeC (xs[i]'(by simpa using h)) := by simp [edges]
def rowsOk (xs : List (List AV)) : Prop := ∀ row ∈ xs, ∀ x ∈ row, cl1 x = true
theorem cl1_nf {x : AV} (h : cl1 x = true) : nf x = true := by cases x <;> simp_all [cl1, nf]
theorem rowsOk.nf {xs : List (List AV)} (h : rowsOk xs) : ∀ row ∈ xs, ∀ x ∈ row, En.nf x = true := fun row hr x hx => cl1_nf (h row hr x hx)
theorem nodes_ok (ns : List Node3) : rowsOk (nodes ns) := by
  intro row hr x hx
  simp only [nodes, List.mem_map] at hr
  obtain ⟨n, _, rfl⟩ := hr
  simp only [nodeC, List.mem_cons, List.not_mem_nil, or_false] at hx
  rcases hx with rfl | rfl | rfl <;> rfl
theorem edges_ok (ns : List Edge3) : rowsOk (edges ns) := by
  intro row hr x hx
  simp only [edges, List.mem_map] at hr
  obtain ⟨n, _, rfl⟩ := hr
  simp only [edgeC, List.mem_cons, List.not_mem_nil, or_false] at hx
  rcases hx with rfl | rfl | rfl <;> rfl
theorem half_ok {xs : List (List AV)} {z : List AV} {i : Nat} (h : rowsOk xs) (hz : ∀ x ∈ z, cl1 x = true) : rowsOk (half xs z i) := by
  intro row hr x hx
  simp only [half, List.mem_append, List.mem_replicate] at hr
  rcases hr with hr | ⟨_, rfl⟩
  · exact h row (List.mem_of_mem_take hr) x hx
  · exact hz x hx

theorem toNode (n : Node3) : Pure Try.prog 125 [.ag (nodeC n)] (.ag (nodeC n)) := by
  refine Pure.mk (rs := [.cell 2 135]) (nt := 14) Try.func125 rfl rfl rfl rfl (by simp) ?_
  simp only [sl, nodeC]
  repeat' first
    | refine Holds.seq ?_
    | refine Holds.skip ?_
    | refine Holds.exit ?_
    | refine Holds.ret ?_
    | refine thenA_normal ?_
    | refine thenA_exit ?_
    | refine thenA_ret ?_
    | refine inB_normal ?_
    | refine inB_ret ?_
    | refine inB_here ?_
    | (refine inB_past ?_ ?_; (· exact rfl))
    | refine Holds.reg ?_
    | refine Holds.block ?_
    | refine GS.nil ?_
    | (refine GS.step (s' := ?_) ?_ ?_ ?_; rotate_left; (· exact rfl); (· (simp [go_sem, List.take_of_length_le] <;> with_reducible rfl)))
    | (refine GS.skip ?_ ?_ ?_; (· exact rfl); (· exact rfl))
    | fail
  refine Out.mk (xs := ?_) ?_ ?_ (by first | exact .inr rfl | exact .inl rfl)
  rotate_left
  · simp [go_sem, List.take_of_length_le] <;> with_reducible rfl
  exact Fz.cl rfl
theorem toEdge (e : Edge3) (hx : e.2.2.length < 35184372088832) : Pure Try.prog 126 [.ag (edgeC e)] (.ag (edgeC e)) := by
  refine Pure.mk (rs := [.cell 2 137]) (nt := 15) Try.func126 rfl rfl rfl rfl (by simp) ?_
  simp only [sl, edgeC]
  repeat' first
    | refine Holds.seq ?_
    | refine Holds.skip ?_
    | refine Holds.exit ?_
    | refine Holds.ret ?_
    | refine thenA_normal ?_
    | refine thenA_exit ?_
    | refine thenA_ret ?_
    | refine inB_normal ?_
    | refine inB_ret ?_
    | refine inB_here ?_
    | (refine inB_past ?_ ?_; (· exact rfl))
    | refine Holds.reg ?_
    | refine Holds.block ?_
    | refine GS.nil ?_
    | (refine GS.step (s' := ?_) ?_ ?_ ?_; rotate_left; (· exact rfl); (· (simp [go_sem, List.take_of_length_le] <;> with_reducible rfl)))
    | (refine GS.skip ?_ ?_ ?_; (· exact rfl); (· exact rfl))
    | fail
  refine GS.cc (toIntS e.2.2 hx) rfl rfl rfl rfl (by simp [go_sem, List.take_of_length_le] <;> with_reducible rfl) rfl (by simp [go_sem, List.take_of_length_le]) ?_
  repeat' first
    | refine Holds.seq ?_
    | refine Holds.skip ?_
    | refine Holds.exit ?_
    | refine Holds.ret ?_
    | refine thenA_normal ?_
    | refine thenA_exit ?_
    | refine thenA_ret ?_
    | refine inB_normal ?_
    | refine inB_ret ?_
    | refine inB_here ?_
    | (refine inB_past ?_ ?_; (· exact rfl))
    | refine Holds.reg ?_
    | refine Holds.block ?_
    | refine GS.nil ?_
    | (refine GS.step (s' := ?_) ?_ ?_ ?_; rotate_left; (· exact rfl); (· (simp [go_sem, List.take_of_length_le] <;> with_reducible rfl)))
    | (refine GS.skip ?_ ?_ ?_; (· exact rfl); (· exact rfl))
    | fail
  refine Out.mk (xs := ?_) ?_ ?_ (by first | exact .inr rfl | exact .inl rfl)
  rotate_left
  · simp [go_sem, List.take_of_length_le] <;> with_reducible rfl
  exact Fz.cl rfl
end Go.Proofs.Ytbapglkldnlckaa.En
