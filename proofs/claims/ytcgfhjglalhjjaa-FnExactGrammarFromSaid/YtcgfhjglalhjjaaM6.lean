/- Own words and walks of this claim, part 6: what the program's functions compute, for all the arguments that are named; no further conditions. -/
import Derived.Test.YtcgfhjglalhjjaaM5
section
namespace Go.Proofs.Ytcgfhjglalhjjaa.En
open Go.RowKit
set_option linter.unusedSimpArgs false
set_option linter.unusedVariables false
set_option maxHeartbeats 8000000
theorem szMach_wt {n : Int} {m : MachineT} (h : 0 ≤ szMachF n m) : m.2.2.1.length ≤ 1048576 ∧ m.2.2.2.length ≤ 1048576 ∧ wMachine m ≤ 2097152 := by
  obtain ⟨h1, h2, h3⟩ := szM_wt (m := m) h
  refine ⟨h1, h2, ?_⟩
  simp only [wMachine, wtL_w1]
  omega
theorem specGF (m : MachineT) (hx : m.2.2.1.length ≤ 1048576) (hs : ∀ e ∈ m.2.2.1, e.length < 4611686018427387904) (hy : m.2.2.2.length ≤ 1048576) : Pure Try.prog 37 [.ag (machineC m)] (.tu [.ag (grammarC (gfV m).1), .v (.bool (gfV m).2)]) := by
  refine Pure.mk (rs := [.cell 2 59, .tmp 3]) (nt := 63) Try.func37 (by kernel_rfl) rfl rfl rfl (by simp) ?_
  simp only [sl, machineC]
  have c1 := specGoodX m (by omega) hs (by omega)
  simp only [machineC] at c1
  unfold gfV
  repeat' first
    | (refine Holds.condT ?_ ?_; (· (simp [go_sem, List.take_of_length_le] <;> with_reducible rfl)))
    | (refine Holds.condF ?_ ?_; (· (simp [go_sem, List.take_of_length_le] <;> with_reducible rfl)))
    | refine Holds.seq ?_
    | refine Holds.skip ?_
    | refine Holds.exit ?_
    | refine Holds.ret ?_
    | refine thenA_normal ?_
    | refine thenA_exit ?_
    | refine thenA_ret ?_
    | refine inB_normal ?_
    | refine inB_ret ?_
    | refine inB_here ?_
    | (refine inB_past ?_ ?_; (· exact rfl))
    | refine Holds.reg ?_
    | refine Holds.block ?_
    | refine GS.nil ?_
    | refine Gd.nil ?_
    | (refine Holds.any mixed ?_ ?_; (· kernel_rfl))
    | (refine GS.step (s' := ?_) ?_ ?_ ?_; rotate_left; (· exact rfl); (· (simp [go_sem, List.take_of_length_le] <;> with_reducible rfl)))
    | (refine GS.skip ?_ ?_ ?_; (· exact rfl); (· exact rfl))
    | (refine Gd.go (s' := ?_) ?_ ?_ ?_; rotate_left; (· exact rfl); (· (simp [go_sem, List.take_of_length_le] <;> with_reducible rfl)))
    | (refine Gd.skip ?_ ?_ ?_; (· exact rfl); (· exact rfl))
    | fail
  cases hg : goodM m with
  | false =>
    rw [hg] at c1
    first | refine GS.cc (c1) rfl rfl rfl rfl (by simp [go_sem, List.take_of_length_le, machineC] <;> with_reducible rfl) rfl (by simp [go_sem, List.take_of_length_le, machineC]) ?_ | refine Gd.cc (c1) rfl rfl rfl rfl (by simp [go_sem, List.take_of_length_le, machineC] <;> with_reducible rfl) rfl (by simp [go_sem, List.take_of_length_le, machineC]) ?_
    repeat' first
      | (refine Holds.condT ?_ ?_; (· (simp [go_sem, List.take_of_length_le] <;> with_reducible rfl)))
      | (refine Holds.condF ?_ ?_; (· (simp [go_sem, List.take_of_length_le] <;> with_reducible rfl)))
      | refine Holds.seq ?_
      | refine Holds.skip ?_
      | refine Holds.exit ?_
      | refine Holds.ret ?_
      | refine thenA_normal ?_
      | refine thenA_exit ?_
      | refine thenA_ret ?_
      | refine inB_normal ?_
      | refine inB_ret ?_
      | refine inB_here ?_
      | (refine inB_past ?_ ?_; (· exact rfl))
      | refine Holds.reg ?_
      | refine Holds.block ?_
      | refine GS.nil ?_
      | refine Gd.nil ?_
      | (refine Holds.any mixed ?_ ?_; (· kernel_rfl))
      | (refine GS.step (s' := ?_) ?_ ?_ ?_; rotate_left; (· exact rfl); (· (simp [go_sem, List.take_of_length_le] <;> with_reducible rfl)))
      | (refine GS.skip ?_ ?_ ?_; (· exact rfl); (· exact rfl))
      | (refine Gd.go (s' := ?_) ?_ ?_ ?_; rotate_left; (· exact rfl); (· (simp [go_sem, List.take_of_length_le] <;> with_reducible rfl)))
      | (refine Gd.skip ?_ ?_ ?_; (· exact rfl); (· exact rfl))
      | fail
    refine Out.mk (xs := ?_) ?_ ?_ (by first | exact .inr rfl | exact .inl rfl)
    rotate_left
    · simp [go_sem, List.take_of_length_le] <;> with_reducible rfl
    exact Fz.tuL (.cons (Fz.agL (.cons (.v _) (.cons (.v _) (.cons (.nl 2) .nil)))) (.cons (.v _) .nil))
  | true =>
    rw [hg] at c1
    first | refine GS.cc (c1) rfl rfl rfl rfl (by simp [go_sem, List.take_of_length_le, machineC] <;> with_reducible rfl) rfl (by simp [go_sem, List.take_of_length_le, machineC]) ?_ | refine Gd.cc (c1) rfl rfl rfl rfl (by simp [go_sem, List.take_of_length_le, machineC] <;> with_reducible rfl) rfl (by simp [go_sem, List.take_of_length_le, machineC]) ?_
    repeat' first
      | (refine Holds.condT ?_ ?_; (· (simp [go_sem, List.take_of_length_le] <;> with_reducible rfl)))
      | (refine Holds.condF ?_ ?_; (· (simp [go_sem, List.take_of_length_le] <;> with_reducible rfl)))
      | refine Holds.seq ?_
      | refine Holds.skip ?_
      | refine Holds.exit ?_
      | refine Holds.ret ?_
      | refine thenA_normal ?_
      | refine thenA_exit ?_
      | refine thenA_ret ?_
      | refine inB_normal ?_
      | refine inB_ret ?_
      | refine inB_here ?_
      | (refine inB_past ?_ ?_; (· exact rfl))
      | refine Holds.reg ?_
      | refine Holds.block ?_
      | refine GS.nil ?_
      | refine Gd.nil ?_
      | (refine Holds.any mixed ?_ ?_; (· kernel_rfl))
      | (refine GS.step (s' := ?_) ?_ ?_ ?_; rotate_left; (· exact rfl); (· (simp [go_sem, List.take_of_length_le] <;> with_reducible rfl)))
      | (refine GS.skip ?_ ?_ ?_; (· exact rfl); (· exact rfl))
      | (refine Gd.go (s' := ?_) ?_ ?_ ?_; rotate_left; (· exact rfl); (· (simp [go_sem, List.take_of_length_le] <;> with_reducible rfl)))
      | (refine Gd.skip ?_ ?_ ?_; (· exact rfl); (· exact rfl))
      | fail
    refine Holds.nir 2 0 2 104 2 rfl rfl rfl (by simp [go_sem]; rfl) ?_
    refine Holds.loop (ι := Nat × List RuleT) (fun i => ⟨[(1, .pb 0 4 0 0), (2, .pb 1 3 0 0), (4, .pb 2 3 0 0), (19, .im 1 (intss m.2.2.1)), (20, .v (.int .i64 m.2.2.1.length)), (21, .v (.int .i64 i.1))],
      [(0, ⟨72, 4, [machineC m]⟩), (1, ⟨59, 3, [[.v (.int .i64 0), .v (.int .i64 0), .v (.slice none 0 0)]]⟩), (2, ⟨59, 3, [[.v (.int .i64 m.1), .v (.int .i64 m.2.1), .own 3 2 0 i.2.length]]⟩), (3, ⟨104, 2, rulesO i.2⟩)], 4⟩)
      (fun i => i.1 ≤ m.2.2.1.length ∧ i.2 = (m.2.2.1.take i.1).map arrowR) (fun i => m.2.2.1.length - i.1) (0, []) ⟨Nat.zero_le _, rfl⟩ ?_ ?_
    · exact Cov.ofn (id) rfl (by simp [go_sem, List.take_of_length_le, ren, ren1, ren2, okr, okr1, okr2, ChkT, ChkN, BlkN, nf, machineC, rulesO]) (by simp [go_sem, List.take_of_length_le, ren, ren1, ren2, okr, okr1, okr2, ChkT, ChkN, BlkN, nf, machineC, rulesO])
    rintro ⟨i, L⟩ ⟨hi, hL⟩
    dsimp only at hi hL ⊢
    have hLl : L.length = i := by rw [hL, List.length_map, List.length_take]; omega
    have stepi : wr64 ((i : Int) + 1) = ((i + 1 : Nat) : Int) := wr64_id (by omega) (by omega)
    repeat' first
      | (refine Holds.condT ?_ ?_; (· (simp [go_sem, List.take_of_length_le] <;> with_reducible rfl)))
      | (refine Holds.condF ?_ ?_; (· (simp [go_sem, List.take_of_length_le] <;> with_reducible rfl)))
      | refine Holds.seq ?_
      | refine Holds.skip ?_
      | refine Holds.exit ?_
      | refine Holds.ret ?_
      | refine thenA_normal ?_
      | refine thenA_exit ?_
      | refine thenA_ret ?_
      | refine inB_normal ?_
      | refine inB_ret ?_
      | refine inB_here ?_
      | (refine inB_past ?_ ?_; (· exact rfl))
      | refine Holds.reg ?_
      | refine Holds.block ?_
      | refine GS.nil ?_
      | refine Gd.nil ?_
      | (refine Holds.any mixed ?_ ?_; (· kernel_rfl))
      | (refine GS.step (s' := ?_) ?_ ?_ ?_; rotate_left; (· exact rfl); (· (simp [go_sem, List.take_of_length_le] <;> with_reducible rfl)))
      | (refine GS.skip ?_ ?_ ?_; (· exact rfl); (· exact rfl))
      | (refine Gd.go (s' := ?_) ?_ ?_ ?_; rotate_left; (· exact rfl); (· (simp [go_sem, List.take_of_length_le] <;> with_reducible rfl)))
      | (refine Gd.skip ?_ ?_ ?_; (· exact rfl); (· exact rfl))
      | fail
    refine Holds.cond rfl (fun h => ?_) (fun h => ?_)
    · have hlt : i < m.2.2.1.length := by simp at h; omega
      have hxi : m.2.2.1[i]? = some m.2.2.1[i] := List.getElem?_eq_getElem hlt
      obtain ⟨x, y, z, hr, hy0, hy3⟩ := good_arrow hg hlt
      have hsn : (m.2.2.1.take (i + 1)).map arrowR = L ++ [(x, [-1 - y, z])] := by
        rw [List.take_add_one, hxi, hr, List.map_append, ← hL]; rfl
      rw [hr] at hxi
      have hwy : wr64 (-1 - y) = -1 - y := wr64_id (by omega) (by omega)
      have hi00 : ints [0, 0] = [[.v (.int .i64 0)], [.v (.int .i64 0)]] := rfl
      have hb : (L.length + 1) * 32 ≤ 140737488355328 := by omega
      repeat' first
        | (refine Holds.condT ?_ ?_; (· (simp [go_sem, List.take_of_length_le, hxi, intsC] <;> with_reducible rfl)))
        | (refine Holds.condF ?_ ?_; (· (simp [go_sem, List.take_of_length_le, hxi, intsC] <;> with_reducible rfl)))
        | refine Holds.seq ?_
        | refine Holds.skip ?_
        | refine Holds.exit ?_
        | refine Holds.ret ?_
        | refine thenA_normal ?_
        | refine thenA_exit ?_
        | refine thenA_ret ?_
        | refine inB_normal ?_
        | refine inB_ret ?_
        | refine inB_here ?_
        | (refine inB_past ?_ ?_; (· exact rfl))
        | refine Holds.reg ?_
        | refine Holds.block ?_
        | refine GS.nil ?_
        | refine Gd.nil ?_
        | (refine GS.step (s' := ?_) ?_ ?_ ?_; rotate_left; (· exact rfl); (· (simp [go_sem, List.take_of_length_le, hxi, intsC] <;> with_reducible rfl)))
        | (refine GS.skip ?_ ?_ ?_; (· exact rfl); (· exact rfl))
        | (refine Gd.go (s' := ?_) ?_ ?_ ?_; rotate_left; (· exact rfl); (· (simp [go_sem, List.take_of_length_le, hxi, intsC] <;> with_reducible rfl)))
        | (refine Gd.skip ?_ ?_ ?_; (· exact rfl); (· exact rfl))
        | fail
      refine Holds.anx [12, 13, 14, 1015, 1017] [0, 1, 2, 3, 4] (fun n => decide (4 ≤ n)) mixed ?_ ?_ ?_; (· kernel_rfl); (· kernel_rfl)
      repeat' first
        | (refine Holds.condT ?_ ?_; (· (simp [go_sem, List.take_of_length_le, hxi, intsC, hwy, hb, hi00] <;> with_reducible rfl)))
        | (refine Holds.condF ?_ ?_; (· (simp [go_sem, List.take_of_length_le, hxi, intsC, hwy, hb, hi00] <;> with_reducible rfl)))
        | refine Holds.seq ?_
        | refine Holds.skip ?_
        | refine Holds.exit ?_
        | refine Holds.ret ?_
        | refine thenA_normal ?_
        | refine thenA_exit ?_
        | refine thenA_ret ?_
        | refine inB_normal ?_
        | refine inB_ret ?_
        | refine inB_here ?_
        | (refine inB_past ?_ ?_; (· exact rfl))
        | refine Holds.reg ?_
        | refine Holds.block ?_
        | refine GS.nil ?_
        | refine Gd.nil ?_
        | (refine GS.step (s' := ?_) ?_ ?_ ?_; rotate_left; (· exact rfl); (· (simp [go_sem, List.take_of_length_le, hxi, intsC, hwy, hb, hi00] <;> with_reducible rfl)))
        | (refine GS.skip ?_ ?_ ?_; (· exact rfl); (· exact rfl))
        | (refine Gd.go (s' := ?_) ?_ ?_ ?_; rotate_left; (· exact rfl); (· (simp [go_sem, List.take_of_length_le, hxi, intsC, hwy, hb, hi00] <;> with_reducible rfl)))
        | (refine Gd.skip ?_ ?_ ?_; (· exact rfl); (· exact rfl))
        | refine Gx.nil ?_
        | (refine Gx.go (s' := ?_) rfl ?_ ?_ ?_; rotate_left; (· exact rfl); (· (simp [go_sem, List.take_of_length_le, hxi, intsC, hwy, hb, hi00] <;> with_reducible rfl)))
        | (refine Gx.skip rfl ?_ ?_ ?_; (· exact rfl); (· exact rfl))
        | (refine Gx.skipO rfl ?_ ?_ ?_; (· exact rfl); (· exact rfl))
        | (refine Gx.wo (s' := ?_) rfl ?_ ?_ ?_; rotate_left; (· exact rfl); (· (simp [go_sem, List.take_of_length_le, hxi, intsC, hwy, hb, hi00] <;> with_reducible rfl)))
        | (refine Gx.skipW rfl ?_ ?_ ?_; (· exact rfl); (· exact rfl))
        | (refine Gx.skipH rfl ?_ ?_ ?_; (· exact rfl); (· exact rfl))
        | (refine Gx.hid (r := ?_) rfl ?_ ?_ ?_ ?_; rotate_left; (· exact rfl); (· exact rfl); (· (simp [go_sem, List.take_of_length_le, hxi, intsC, hwy, hb, hi00] <;> with_reducible rfl)))
        | (refine Gx.wr (s' := ?_) rfl ?_ ?_ ?_ ?_; rotate_left; (· exact rfl); (· (simp [go_sem, List.take_of_length_le, hxi, intsC, hwy, hb, hi00] <;> with_reducible rfl)); (· (simp [go_sem, List.take_of_length_le, hxi, intsC, hwy, hb, hi00])))
        | fail
      refine ⟨(i + 1, L ++ [(x, [-1 - y, z])]), ⟨by dsimp only; omega, hsn.symm⟩, by dsimp only; omega, ?_⟩
      dsimp only
      rw [stepi, rulesO_snoc]
      have hset : ∀ r r' : List AV, (rulesO L ++ [r]).set L.length r' = rulesO L ++ [r'] := fun r r' => by have := set_snoc (rulesO L) r r'; rwa [rulesO_len] at this
      have hro : ruleO (x, [-1 - y, z]) = [.v (.int .i64 x), .ow 3 1 [[.v (.int .i64 (-1 - y))], [.v (.int .i64 z)]]] := rfl
      refine Cov.trans ?_ (Cov.close 7 L.length 1 (row := [.v (.int .i64 x), .own 4 1 0 2]) rfl (by have := get_snoc (rulesO L) ([.v (.int .i64 x), .own 4 1 0 2] : List AV); rwa [rulesO_len] at this) rfl rfl rfl rfl rfl (by simp [nf]))
      simp only [rm, st, hset, List.set_cons_zero, List.set_cons_succ]
      exact Cov.ofn (nm [0, 1, 2, 7]) rfl (by simp [go_sem, List.take_of_length_le, ren, ren1, ren2, okr, okr1, okr2, ChkT, ChkN, BlkN, nf, machineC, hro]) (by simp [go_sem, List.take_of_length_le, ren, ren1, ren2, okr, okr1, okr2, ChkT, ChkN, BlkN, nf, machineC, hro])
    have hle : i = m.2.2.1.length := by simp at h; omega
    subst hle
    rw [List.take_length] at hL
    repeat' first
      | (refine Holds.condT ?_ ?_; (· (simp [go_sem, List.take_of_length_le, machineC] <;> with_reducible rfl)))
      | (refine Holds.condF ?_ ?_; (· (simp [go_sem, List.take_of_length_le, machineC] <;> with_reducible rfl)))
      | refine Holds.seq ?_
      | refine Holds.skip ?_
      | refine Holds.exit ?_
      | refine Holds.ret ?_
      | refine thenA_normal ?_
      | refine thenA_exit ?_
      | refine thenA_ret ?_
      | refine inB_normal ?_
      | refine inB_ret ?_
      | refine inB_here ?_
      | (refine inB_past ?_ ?_; (· exact rfl))
      | refine Holds.reg ?_
      | refine Holds.block ?_
      | refine GS.nil ?_
      | refine Gd.nil ?_
      | (refine Holds.any mixed ?_ ?_; (· kernel_rfl))
      | (refine GS.step (s' := ?_) ?_ ?_ ?_; rotate_left; (· exact rfl); (· (simp [go_sem, List.take_of_length_le, machineC] <;> with_reducible rfl)))
      | (refine GS.skip ?_ ?_ ?_; (· exact rfl); (· exact rfl))
      | (refine Gd.go (s' := ?_) ?_ ?_ ?_; rotate_left; (· exact rfl); (· (simp [go_sem, List.take_of_length_le, machineC] <;> with_reducible rfl)))
      | (refine Gd.skip ?_ ?_ ?_; (· exact rfl); (· exact rfl))
      | refine Gx.nil ?_
      | (refine Gx.go (s' := ?_) rfl ?_ ?_ ?_; rotate_left; (· exact rfl); (· (simp [go_sem, List.take_of_length_le, machineC] <;> with_reducible rfl)))
      | (refine Gx.skip rfl ?_ ?_ ?_; (· exact rfl); (· exact rfl))
      | (refine Gx.skipO rfl ?_ ?_ ?_; (· exact rfl); (· exact rfl))
      | (refine Gx.wo (s' := ?_) rfl ?_ ?_ ?_; rotate_left; (· exact rfl); (· (simp [go_sem, List.take_of_length_le, machineC] <;> with_reducible rfl)))
      | (refine Gx.skipW rfl ?_ ?_ ?_; (· exact rfl); (· exact rfl))
      | (refine Gx.skipH rfl ?_ ?_ ?_; (· exact rfl); (· exact rfl))
      | (refine Gx.hid (r := ?_) rfl ?_ ?_ ?_ ?_; rotate_left; (· exact rfl); (· exact rfl); (· (simp [go_sem, List.take_of_length_le, machineC] <;> with_reducible rfl)))
      | (refine Gx.wr (s' := ?_) rfl ?_ ?_ ?_ ?_; rotate_left; (· exact rfl); (· (simp [go_sem, List.take_of_length_le, machineC] <;> with_reducible rfl)); (· (simp [go_sem, List.take_of_length_le, machineC])))
      | fail
    refine Holds.loop (ι := Nat × List RuleT) (fun i => ⟨[(1, .pb 0 4 0 0), (2, .pb 1 3 0 0), (4, .pb 2 3 0 0), (44, .im 1 (ints m.2.2.2)), (45, .v (.int .i64 m.2.2.2.length)), (46, .v (.int .i64 i.1))],
      [(0, ⟨72, 4, [machineC m]⟩), (1, ⟨59, 3, [[.v (.int .i64 0), .v (.int .i64 0), .v (.slice none 0 0)]]⟩), (2, ⟨59, 3, [[.v (.int .i64 m.1), .v (.int .i64 m.2.1), .own 3 2 0 i.2.length]]⟩), (3, ⟨104, 2, rulesO i.2⟩)], 4⟩)
      (fun i => i.1 ≤ m.2.2.2.length ∧ i.2 = m.2.2.1.map arrowR ++ (m.2.2.2.take i.1).map endR) (fun i => m.2.2.2.length - i.1) (0, L) ⟨Nat.zero_le _, by simp [hL]⟩ ?_ ?_
    · exact Cov.ofn (id) rfl (by simp [go_sem, List.take_of_length_le, ren, ren1, ren2, okr, okr1, okr2, ChkT, ChkN, BlkN, nf, machineC]) (by simp [go_sem, List.take_of_length_le, ren, ren1, ren2, okr, okr1, okr2, ChkT, ChkN, BlkN, nf, machineC])
    clear hL hLl stepi L hi h
    rintro ⟨i, L⟩ ⟨hi, hL⟩
    dsimp only at hi hL ⊢
    have hLl : L.length = m.2.2.1.length + i := by rw [hL, List.length_append, List.length_map, List.length_map, List.length_take]; omega
    have stepi : wr64 ((i : Int) + 1) = ((i + 1 : Nat) : Int) := wr64_id (by omega) (by omega)
    repeat' first
      | (refine Holds.condT ?_ ?_; (· (simp [go_sem, List.take_of_length_le] <;> with_reducible rfl)))
      | (refine Holds.condF ?_ ?_; (· (simp [go_sem, List.take_of_length_le] <;> with_reducible rfl)))
      | refine Holds.seq ?_
      | refine Holds.skip ?_
      | refine Holds.exit ?_
      | refine Holds.ret ?_
      | refine thenA_normal ?_
      | refine thenA_exit ?_
      | refine thenA_ret ?_
      | refine inB_normal ?_
      | refine inB_ret ?_
      | refine inB_here ?_
      | (refine inB_past ?_ ?_; (· exact rfl))
      | refine Holds.reg ?_
      | refine Holds.block ?_
      | refine GS.nil ?_
      | refine Gd.nil ?_
      | (refine Holds.any mixed ?_ ?_; (· kernel_rfl))
      | (refine GS.step (s' := ?_) ?_ ?_ ?_; rotate_left; (· exact rfl); (· (simp [go_sem, List.take_of_length_le] <;> with_reducible rfl)))
      | (refine GS.skip ?_ ?_ ?_; (· exact rfl); (· exact rfl))
      | (refine Gd.go (s' := ?_) ?_ ?_ ?_; rotate_left; (· exact rfl); (· (simp [go_sem, List.take_of_length_le] <;> with_reducible rfl)))
      | (refine Gd.skip ?_ ?_ ?_; (· exact rfl); (· exact rfl))
      | refine Gx.nil ?_
      | (refine Gx.go (s' := ?_) rfl ?_ ?_ ?_; rotate_left; (· exact rfl); (· (simp [go_sem, List.take_of_length_le] <;> with_reducible rfl)))
      | (refine Gx.skip rfl ?_ ?_ ?_; (· exact rfl); (· exact rfl))
      | (refine Gx.skipO rfl ?_ ?_ ?_; (· exact rfl); (· exact rfl))
      | (refine Gx.wo (s' := ?_) rfl ?_ ?_ ?_; rotate_left; (· exact rfl); (· (simp [go_sem, List.take_of_length_le] <;> with_reducible rfl)))
      | (refine Gx.skipW rfl ?_ ?_ ?_; (· exact rfl); (· exact rfl))
      | (refine Gx.skipH rfl ?_ ?_ ?_; (· exact rfl); (· exact rfl))
      | (refine Gx.hid (r := ?_) rfl ?_ ?_ ?_ ?_; rotate_left; (· exact rfl); (· exact rfl); (· (simp [go_sem, List.take_of_length_le] <;> with_reducible rfl)))
      | (refine Gx.wr (s' := ?_) rfl ?_ ?_ ?_ ?_; rotate_left; (· exact rfl); (· (simp [go_sem, List.take_of_length_le] <;> with_reducible rfl)); (· (simp [go_sem, List.take_of_length_le])))
      | fail
    refine Holds.cond rfl (fun h => ?_) (fun h => ?_)
    · have hlt : i < m.2.2.2.length := by simp at h; omega
      have hxi : m.2.2.2[i]? = some m.2.2.2[i] := List.getElem?_eq_getElem hlt
      generalize m.2.2.2[i] = q at hxi
      have hsn : m.2.2.1.map arrowR ++ (m.2.2.2.take (i + 1)).map endR = L ++ [(q, [])] := by
        rw [List.take_add_one, hxi, List.map_append, ← List.append_assoc, ← hL]; rfl
      have hb : (L.length + 1) * 32 ≤ 140737488355328 := by omega
      repeat' first
        | (refine Holds.condT ?_ ?_; (· (simp [go_sem, List.take_of_length_le, hxi, hb] <;> with_reducible rfl)))
        | (refine Holds.condF ?_ ?_; (· (simp [go_sem, List.take_of_length_le, hxi, hb] <;> with_reducible rfl)))
        | refine Holds.seq ?_
        | refine Holds.skip ?_
        | refine Holds.exit ?_
        | refine Holds.ret ?_
        | refine thenA_normal ?_
        | refine thenA_exit ?_
        | refine thenA_ret ?_
        | refine inB_normal ?_
        | refine inB_ret ?_
        | refine inB_here ?_
        | (refine inB_past ?_ ?_; (· exact rfl))
        | refine Holds.reg ?_
        | refine Holds.block ?_
        | refine GS.nil ?_
        | refine Gd.nil ?_
        | (refine Holds.any mixed ?_ ?_; (· kernel_rfl))
        | (refine GS.step (s' := ?_) ?_ ?_ ?_; rotate_left; (· exact rfl); (· (simp [go_sem, List.take_of_length_le, hxi, hb] <;> with_reducible rfl)))
        | (refine GS.skip ?_ ?_ ?_; (· exact rfl); (· exact rfl))
        | (refine Gd.go (s' := ?_) ?_ ?_ ?_; rotate_left; (· exact rfl); (· (simp [go_sem, List.take_of_length_le, hxi, hb] <;> with_reducible rfl)))
        | (refine Gd.skip ?_ ?_ ?_; (· exact rfl); (· exact rfl))
        | refine Gx.nil ?_
        | (refine Gx.go (s' := ?_) rfl ?_ ?_ ?_; rotate_left; (· exact rfl); (· (simp [go_sem, List.take_of_length_le, hxi, hb] <;> with_reducible rfl)))
        | (refine Gx.skip rfl ?_ ?_ ?_; (· exact rfl); (· exact rfl))
        | (refine Gx.skipO rfl ?_ ?_ ?_; (· exact rfl); (· exact rfl))
        | (refine Gx.wo (s' := ?_) rfl ?_ ?_ ?_; rotate_left; (· exact rfl); (· (simp [go_sem, List.take_of_length_le, hxi, hb] <;> with_reducible rfl)))
        | (refine Gx.skipW rfl ?_ ?_ ?_; (· exact rfl); (· exact rfl))
        | (refine Gx.skipH rfl ?_ ?_ ?_; (· exact rfl); (· exact rfl))
        | (refine Gx.hid (r := ?_) rfl ?_ ?_ ?_ ?_; rotate_left; (· exact rfl); (· exact rfl); (· (simp [go_sem, List.take_of_length_le, hxi, hb] <;> with_reducible rfl)))
        | (refine Gx.wr (s' := ?_) rfl ?_ ?_ ?_ ?_; rotate_left; (· exact rfl); (· (simp [go_sem, List.take_of_length_le, hxi, hb] <;> with_reducible rfl)); (· (simp [go_sem, List.take_of_length_le, hxi, hb])))
        | fail
      refine ⟨(i + 1, L ++ [(q, [])]), ⟨by dsimp only; omega, hsn.symm⟩, by dsimp only; omega, ?_⟩
      dsimp only
      rw [stepi, rulesO_snoc]
      have hset : ∀ r r' : List AV, (rulesO L ++ [r]).set L.length r' = rulesO L ++ [r'] := fun r r' => by have := set_snoc (rulesO L) r r'; rwa [rulesO_len] at this
      have hget : ∀ r : List AV, (rulesO L ++ [r])[L.length]? = some r := fun r => by have := get_snoc (rulesO L) r; rwa [rulesO_len] at this
      have hro : ruleO (q, []) = [.v (.int .i64 q), .ow 3 1 []] := rfl
      refine Cov.trans ?_ (Cov.nir (n := 6) (j := L.length) (i := 1) 3 1 (row := [.v (.int .i64 q), .v (.slice none 0 0)]) rfl (hget _) rfl)
      simp only [nirw, lb, st, hset, hget, if_true, List.set_cons_zero, List.set_cons_succ]
      refine Cov.trans ?_ (Cov.close 6 L.length 1 (k := ⟨3, 1, []⟩) (row := [.v (.int .i64 q), .own 7 1 0 0]) rfl (hget _) rfl rfl rfl rfl rfl (by simp))
      simp only [rm, st, hset, List.set_cons_zero, List.set_cons_succ]
      exact Cov.ofn (nm [0, 1, 2, 6]) rfl (by simp [go_sem, List.take_of_length_le, ren, ren1, ren2, okr, okr1, okr2, ChkT, ChkN, BlkN, nf, machineC, hro]) (by simp [go_sem, List.take_of_length_le, ren, ren1, ren2, okr, okr1, okr2, ChkT, ChkN, BlkN, nf, machineC, hro])
    have hle : i = m.2.2.2.length := by simp at h; omega
    subst hle
    rw [List.take_length] at hL
    have c2 := specGoodG (m.1, m.2.1, L) (by dsimp only; omega) (by rw [hL]; intro e he; have := gf_small (m := m) e he; omega)
    have hgf : gfG m = (m.1, m.2.1, L) := by rw [hL]; rfl
    rw [Bool.true_and, hgf]
    repeat' first
      | (refine Holds.condT ?_ ?_; (· (simp [go_sem, List.take_of_length_le] <;> with_reducible rfl)))
      | (refine Holds.condF ?_ ?_; (· (simp [go_sem, List.take_of_length_le] <;> with_reducible rfl)))
      | refine Holds.seq ?_
      | refine Holds.skip ?_
      | refine Holds.exit ?_
      | refine Holds.ret ?_
      | refine thenA_normal ?_
      | refine thenA_exit ?_
      | refine thenA_ret ?_
      | refine inB_normal ?_
      | refine inB_ret ?_
      | refine inB_here ?_
      | (refine inB_past ?_ ?_; (· exact rfl))
      | refine Holds.reg ?_
      | refine Holds.block ?_
      | refine GS.nil ?_
      | refine Gd.nil ?_
      | (refine Holds.any mixed ?_ ?_; (· kernel_rfl))
      | (refine GS.step (s' := ?_) ?_ ?_ ?_; rotate_left; (· exact rfl); (· (simp [go_sem, List.take_of_length_le] <;> with_reducible rfl)))
      | (refine GS.skip ?_ ?_ ?_; (· exact rfl); (· exact rfl))
      | (refine Gd.go (s' := ?_) ?_ ?_ ?_; rotate_left; (· exact rfl); (· (simp [go_sem, List.take_of_length_le] <;> with_reducible rfl)))
      | (refine Gd.skip ?_ ?_ ?_; (· exact rfl); (· exact rfl))
      | refine Gx.nil ?_
      | (refine Gx.go (s' := ?_) rfl ?_ ?_ ?_; rotate_left; (· exact rfl); (· (simp [go_sem, List.take_of_length_le] <;> with_reducible rfl)))
      | (refine Gx.skip rfl ?_ ?_ ?_; (· exact rfl); (· exact rfl))
      | (refine Gx.skipO rfl ?_ ?_ ?_; (· exact rfl); (· exact rfl))
      | (refine Gx.wo (s' := ?_) rfl ?_ ?_ ?_; rotate_left; (· exact rfl); (· (simp [go_sem, List.take_of_length_le] <;> with_reducible rfl)))
      | (refine Gx.skipW rfl ?_ ?_ ?_; (· exact rfl); (· exact rfl))
      | (refine Gx.skipH rfl ?_ ?_ ?_; (· exact rfl); (· exact rfl))
      | (refine Gx.hid (r := ?_) rfl ?_ ?_ ?_ ?_; rotate_left; (· exact rfl); (· exact rfl); (· (simp [go_sem, List.take_of_length_le] <;> with_reducible rfl)))
      | (refine Gx.wr (s' := ?_) rfl ?_ ?_ ?_ ?_; rotate_left; (· exact rfl); (· (simp [go_sem, List.take_of_length_le] <;> with_reducible rfl)); (· (simp [go_sem, List.take_of_length_le])))
      | fail
    cases hgg : goodG (m.1, m.2.1, L) with
    | false =>
      rw [hgg] at c2
      first | refine GS.cd (c2) rfl rfl rfl rfl (by simp [go_sem, List.take_of_length_le, grammarC] <;> with_reducible rfl) rfl (by exact .cons (Fz.agL (.cons (.v _) (.cons (.v _) (.cons (fz_rulesO _ rfl rfl) .nil)))) .nil) rfl ?_ | refine Gd.cd (c2) rfl rfl rfl rfl (by simp [go_sem, List.take_of_length_le, grammarC] <;> with_reducible rfl) rfl (by exact .cons (Fz.agL (.cons (.v _) (.cons (.v _) (.cons (fz_rulesO _ rfl rfl) .nil)))) .nil) rfl ?_ | refine Gx.cd (c2) rfl rfl rfl rfl rfl (by simp [go_sem, List.take_of_length_le, grammarC] <;> with_reducible rfl) rfl (by exact .cons (Fz.agL (.cons (.v _) (.cons (.v _) (.cons (fz_rulesO _ rfl rfl) .nil)))) .nil) rfl ?_
      simp only [Bool.false_eq_true, if_false]
      repeat' first
        | (refine Holds.condT ?_ ?_; (· (simp [go_sem, List.take_of_length_le] <;> with_reducible rfl)))
        | (refine Holds.condF ?_ ?_; (· (simp [go_sem, List.take_of_length_le] <;> with_reducible rfl)))
        | refine Holds.seq ?_
        | refine Holds.skip ?_
        | refine Holds.exit ?_
        | refine Holds.ret ?_
        | refine thenA_normal ?_
        | refine thenA_exit ?_
        | refine thenA_ret ?_
        | refine inB_normal ?_
        | refine inB_ret ?_
        | refine inB_here ?_
        | (refine inB_past ?_ ?_; (· exact rfl))
        | refine Holds.reg ?_
        | refine Holds.block ?_
        | refine GS.nil ?_
        | refine Gd.nil ?_
        | (refine Holds.any mixed ?_ ?_; (· kernel_rfl))
        | (refine GS.step (s' := ?_) ?_ ?_ ?_; rotate_left; (· exact rfl); (· (simp [go_sem, List.take_of_length_le] <;> with_reducible rfl)))
        | (refine GS.skip ?_ ?_ ?_; (· exact rfl); (· exact rfl))
        | (refine Gd.go (s' := ?_) ?_ ?_ ?_; rotate_left; (· exact rfl); (· (simp [go_sem, List.take_of_length_le] <;> with_reducible rfl)))
        | (refine Gd.skip ?_ ?_ ?_; (· exact rfl); (· exact rfl))
        | refine Gx.nil ?_
        | (refine Gx.go (s' := ?_) rfl ?_ ?_ ?_; rotate_left; (· exact rfl); (· (simp [go_sem, List.take_of_length_le] <;> with_reducible rfl)))
        | (refine Gx.skip rfl ?_ ?_ ?_; (· exact rfl); (· exact rfl))
        | (refine Gx.skipO rfl ?_ ?_ ?_; (· exact rfl); (· exact rfl))
        | (refine Gx.wo (s' := ?_) rfl ?_ ?_ ?_; rotate_left; (· exact rfl); (· (simp [go_sem, List.take_of_length_le] <;> with_reducible rfl)))
        | (refine Gx.skipW rfl ?_ ?_ ?_; (· exact rfl); (· exact rfl))
        | (refine Gx.skipH rfl ?_ ?_ ?_; (· exact rfl); (· exact rfl))
        | (refine Gx.hid (r := ?_) rfl ?_ ?_ ?_ ?_; rotate_left; (· exact rfl); (· exact rfl); (· (simp [go_sem, List.take_of_length_le] <;> with_reducible rfl)))
        | (refine Gx.wr (s' := ?_) rfl ?_ ?_ ?_ ?_; rotate_left; (· exact rfl); (· (simp [go_sem, List.take_of_length_le] <;> with_reducible rfl)); (· (simp [go_sem, List.take_of_length_le])))
        | fail
      refine Out.mk (xs := ?_) ?_ ?_ (by first | exact .inr rfl | exact .inl rfl)
      rotate_left
      · simp [go_sem, List.take_of_length_le] <;> with_reducible rfl
      exact Fz.tuL (.cons (Fz.agL (.cons (.v _) (.cons (.v _) (.cons (.nl 2) .nil)))) (.cons (.v _) .nil))
    | true =>
      rw [hgg] at c2
      first | refine GS.cd (c2) rfl rfl rfl rfl (by simp [go_sem, List.take_of_length_le, grammarC] <;> with_reducible rfl) rfl (by exact .cons (Fz.agL (.cons (.v _) (.cons (.v _) (.cons (fz_rulesO _ rfl rfl) .nil)))) .nil) rfl ?_ | refine Gd.cd (c2) rfl rfl rfl rfl (by simp [go_sem, List.take_of_length_le, grammarC] <;> with_reducible rfl) rfl (by exact .cons (Fz.agL (.cons (.v _) (.cons (.v _) (.cons (fz_rulesO _ rfl rfl) .nil)))) .nil) rfl ?_ | refine Gx.cd (c2) rfl rfl rfl rfl rfl (by simp [go_sem, List.take_of_length_le, grammarC] <;> with_reducible rfl) rfl (by exact .cons (Fz.agL (.cons (.v _) (.cons (.v _) (.cons (fz_rulesO _ rfl rfl) .nil)))) .nil) rfl ?_
      simp only [if_true]
      repeat' first
        | (refine Holds.condT ?_ ?_; (· (simp [go_sem, List.take_of_length_le] <;> with_reducible rfl)))
        | (refine Holds.condF ?_ ?_; (· (simp [go_sem, List.take_of_length_le] <;> with_reducible rfl)))
        | refine Holds.seq ?_
        | refine Holds.skip ?_
        | refine Holds.exit ?_
        | refine Holds.ret ?_
        | refine thenA_normal ?_
        | refine thenA_exit ?_
        | refine thenA_ret ?_
        | refine inB_normal ?_
        | refine inB_ret ?_
        | refine inB_here ?_
        | (refine inB_past ?_ ?_; (· exact rfl))
        | refine Holds.reg ?_
        | refine Holds.block ?_
        | refine GS.nil ?_
        | refine Gd.nil ?_
        | (refine Holds.any mixed ?_ ?_; (· kernel_rfl))
        | (refine GS.step (s' := ?_) ?_ ?_ ?_; rotate_left; (· exact rfl); (· (simp [go_sem, List.take_of_length_le] <;> with_reducible rfl)))
        | (refine GS.skip ?_ ?_ ?_; (· exact rfl); (· exact rfl))
        | (refine Gd.go (s' := ?_) ?_ ?_ ?_; rotate_left; (· exact rfl); (· (simp [go_sem, List.take_of_length_le] <;> with_reducible rfl)))
        | (refine Gd.skip ?_ ?_ ?_; (· exact rfl); (· exact rfl))
        | refine Gx.nil ?_
        | (refine Gx.go (s' := ?_) rfl ?_ ?_ ?_; rotate_left; (· exact rfl); (· (simp [go_sem, List.take_of_length_le] <;> with_reducible rfl)))
        | (refine Gx.skip rfl ?_ ?_ ?_; (· exact rfl); (· exact rfl))
        | (refine Gx.skipO rfl ?_ ?_ ?_; (· exact rfl); (· exact rfl))
        | (refine Gx.wo (s' := ?_) rfl ?_ ?_ ?_; rotate_left; (· exact rfl); (· (simp [go_sem, List.take_of_length_le] <;> with_reducible rfl)))
        | (refine Gx.skipW rfl ?_ ?_ ?_; (· exact rfl); (· exact rfl))
        | (refine Gx.skipH rfl ?_ ?_ ?_; (· exact rfl); (· exact rfl))
        | (refine Gx.hid (r := ?_) rfl ?_ ?_ ?_ ?_; rotate_left; (· exact rfl); (· exact rfl); (· (simp [go_sem, List.take_of_length_le] <;> with_reducible rfl)))
        | (refine Gx.wr (s' := ?_) rfl ?_ ?_ ?_ ?_; rotate_left; (· exact rfl); (· (simp [go_sem, List.take_of_length_le] <;> with_reducible rfl)); (· (simp [go_sem, List.take_of_length_le])))
        | fail
      refine Out.mk (xs := ?_) ?_ ?_ (by first | exact .inr rfl | exact .inl rfl)
      rotate_left
      · simp [go_sem, List.take_of_length_le] <;> with_reducible rfl
      exact Fz.tuL (.cons (Fz.agL (.cons (.v _) (.cons (.v _) (.cons (fz_rulesO _ rfl rfl) .nil)))) (.cons (.v _) .nil))
theorem implGF (m : MachineT) (hx : m.2.2.1.length ≤ 1048576) (hs : ∀ e ∈ m.2.2.1, e.length < 4611686018427387904) (hy : m.2.2.2.length ≤ 1048576) : Fn Try.prog 39 0 [.ag (machineC m)] [] (.tu [.ag [.v (.int .i64 (gfV m).1.1), .v (.int .i64 (gfV m).1.2.1), .own 0 2 0 (gfV m).1.2.2.length], .v (.bool (gfV m).2)]) 1 [(0, ⟨104, 2, rulesO (gfV m).1.2.2⟩)] := by
  refine Fn.mk (rs := [.cell 2 59, .tmp 3]) (nt := 63) Try.func39 (by kernel_rfl) rfl rfl rfl (by simp) ?_
  simp only [sl, machineC]
  have c1 := implGoodX m (by omega) hs (by omega)
  simp only [machineC] at c1
  unfold gfV
  repeat' first
    | (refine Holds.condT ?_ ?_; (· (simp [go_sem, List.take_of_length_le] <;> with_reducible rfl)))
    | (refine Holds.condF ?_ ?_; (· (simp [go_sem, List.take_of_length_le] <;> with_reducible rfl)))
    | refine Holds.seq ?_
    | refine Holds.skip ?_
    | refine Holds.exit ?_
    | refine Holds.ret ?_
    | refine thenA_normal ?_
    | refine thenA_exit ?_
    | refine thenA_ret ?_
    | refine inB_normal ?_
    | refine inB_ret ?_
    | refine inB_here ?_
    | (refine inB_past ?_ ?_; (· exact rfl))
    | refine Holds.reg ?_
    | refine Holds.block ?_
    | refine GS.nil ?_
    | refine Gd.nil ?_
    | (refine Holds.any mixed ?_ ?_; (· kernel_rfl))
    | (refine GS.step (s' := ?_) ?_ ?_ ?_; rotate_left; (· exact rfl); (· (simp [go_sem, List.take_of_length_le] <;> with_reducible rfl)))
    | (refine GS.skip ?_ ?_ ?_; (· exact rfl); (· exact rfl))
    | (refine Gd.go (s' := ?_) ?_ ?_ ?_; rotate_left; (· exact rfl); (· (simp [go_sem, List.take_of_length_le] <;> with_reducible rfl)))
    | (refine Gd.skip ?_ ?_ ?_; (· exact rfl); (· exact rfl))
    | fail
  cases hg : goodM m with
  | false =>
    rw [hg] at c1
    first | refine GS.cc (c1) rfl rfl rfl rfl (by simp [go_sem, List.take_of_length_le, machineC] <;> with_reducible rfl) rfl (by simp [go_sem, List.take_of_length_le, machineC]) ?_ | refine Gd.cc (c1) rfl rfl rfl rfl (by simp [go_sem, List.take_of_length_le, machineC] <;> with_reducible rfl) rfl (by simp [go_sem, List.take_of_length_le, machineC]) ?_
    repeat' first
      | (refine Holds.condT ?_ ?_; (· (simp [go_sem, List.take_of_length_le] <;> with_reducible rfl)))
      | (refine Holds.condF ?_ ?_; (· (simp [go_sem, List.take_of_length_le] <;> with_reducible rfl)))
      | refine Holds.seq ?_
      | refine Holds.skip ?_
      | refine Holds.exit ?_
      | refine Holds.ret ?_
      | refine thenA_normal ?_
      | refine thenA_exit ?_
      | refine thenA_ret ?_
      | refine inB_normal ?_
      | refine inB_ret ?_
      | refine inB_here ?_
      | (refine inB_past ?_ ?_; (· exact rfl))
      | refine Holds.reg ?_
      | refine Holds.block ?_
      | refine GS.nil ?_
      | refine Gd.nil ?_
      | (refine Holds.any mixed ?_ ?_; (· kernel_rfl))
      | (refine GS.step (s' := ?_) ?_ ?_ ?_; rotate_left; (· exact rfl); (· (simp [go_sem, List.take_of_length_le] <;> with_reducible rfl)))
      | (refine GS.skip ?_ ?_ ?_; (· exact rfl); (· exact rfl))
      | (refine Gd.go (s' := ?_) ?_ ?_ ?_; rotate_left; (· exact rfl); (· (simp [go_sem, List.take_of_length_le] <;> with_reducible rfl)))
      | (refine Gd.skip ?_ ?_ ?_; (· exact rfl); (· exact rfl))
      | fail
    simp only [Bool.false_and, Bool.false_eq_true, if_false]
    refine OutF.cov (Cov.nir (n := 1) (j := 0) (i := 2) 104 2 rfl rfl rfl) ?_
    refine OutF.mkn (xs := ?_) (nm [2]) ?_ ?_ ?_ ?_ ?_ (by first | exact .inr rfl | exact .inl rfl)
    rotate_left
    · simp [go_sem, List.take_of_length_le, nirw, rulesO] <;> with_reducible rfl
    · simp [go_sem, List.take_of_length_le, ren, ren1, ren2, okr, okr1, okr2, ChkN, BlkN, List.range_succ, nf, nirw, rulesO]
    · simp [go_sem, List.take_of_length_le, ren, ren1, ren2, okr, okr1, okr2, ChkN, BlkN, List.range_succ, nf, nirw, rulesO]
    · simp [go_sem, List.take_of_length_le, ren, ren1, ren2, okr, okr1, okr2, ChkN, BlkN, List.range_succ, nf, nirw, rulesO]
    · rfl
  | true =>
    rw [hg] at c1
    first | refine GS.cc (c1) rfl rfl rfl rfl (by simp [go_sem, List.take_of_length_le, machineC] <;> with_reducible rfl) rfl (by simp [go_sem, List.take_of_length_le, machineC]) ?_ | refine Gd.cc (c1) rfl rfl rfl rfl (by simp [go_sem, List.take_of_length_le, machineC] <;> with_reducible rfl) rfl (by simp [go_sem, List.take_of_length_le, machineC]) ?_
    repeat' first
      | (refine Holds.condT ?_ ?_; (· (simp [go_sem, List.take_of_length_le] <;> with_reducible rfl)))
      | (refine Holds.condF ?_ ?_; (· (simp [go_sem, List.take_of_length_le] <;> with_reducible rfl)))
      | refine Holds.seq ?_
      | refine Holds.skip ?_
      | refine Holds.exit ?_
      | refine Holds.ret ?_
      | refine thenA_normal ?_
      | refine thenA_exit ?_
      | refine thenA_ret ?_
      | refine inB_normal ?_
      | refine inB_ret ?_
      | refine inB_here ?_
      | (refine inB_past ?_ ?_; (· exact rfl))
      | refine Holds.reg ?_
      | refine Holds.block ?_
      | refine GS.nil ?_
      | refine Gd.nil ?_
      | (refine Holds.any mixed ?_ ?_; (· kernel_rfl))
      | (refine GS.step (s' := ?_) ?_ ?_ ?_; rotate_left; (· exact rfl); (· (simp [go_sem, List.take_of_length_le] <;> with_reducible rfl)))
      | (refine GS.skip ?_ ?_ ?_; (· exact rfl); (· exact rfl))
      | (refine Gd.go (s' := ?_) ?_ ?_ ?_; rotate_left; (· exact rfl); (· (simp [go_sem, List.take_of_length_le] <;> with_reducible rfl)))
      | (refine Gd.skip ?_ ?_ ?_; (· exact rfl); (· exact rfl))
      | fail
    refine Holds.nir 2 0 2 104 2 rfl rfl rfl (by simp [go_sem]; rfl) ?_
    refine Holds.loop (ι := Nat × List RuleT) (fun i => ⟨[(1, .pb 0 4 0 0), (2, .pb 1 3 0 0), (4, .pb 2 3 0 0), (19, .im 1 (intss m.2.2.1)), (20, .v (.int .i64 m.2.2.1.length)), (21, .v (.int .i64 i.1))],
      [(0, ⟨72, 4, [machineC m]⟩), (1, ⟨59, 3, [[.v (.int .i64 0), .v (.int .i64 0), .v (.slice none 0 0)]]⟩), (2, ⟨59, 3, [[.v (.int .i64 m.1), .v (.int .i64 m.2.1), .own 3 2 0 i.2.length]]⟩), (3, ⟨104, 2, rulesO i.2⟩)], 4⟩)
      (fun i => i.1 ≤ m.2.2.1.length ∧ i.2 = (m.2.2.1.take i.1).map arrowR) (fun i => m.2.2.1.length - i.1) (0, []) ⟨Nat.zero_le _, rfl⟩ ?_ ?_
    · exact Cov.ofn (id) rfl (by simp [go_sem, List.take_of_length_le, ren, ren1, ren2, okr, okr1, okr2, ChkT, ChkN, BlkN, nf, machineC, rulesO]) (by simp [go_sem, List.take_of_length_le, ren, ren1, ren2, okr, okr1, okr2, ChkT, ChkN, BlkN, nf, machineC, rulesO])
    rintro ⟨i, L⟩ ⟨hi, hL⟩
    dsimp only at hi hL ⊢
    have hLl : L.length = i := by rw [hL, List.length_map, List.length_take]; omega
    have stepi : wr64 ((i : Int) + 1) = ((i + 1 : Nat) : Int) := wr64_id (by omega) (by omega)
    repeat' first
      | (refine Holds.condT ?_ ?_; (· (simp [go_sem, List.take_of_length_le] <;> with_reducible rfl)))
      | (refine Holds.condF ?_ ?_; (· (simp [go_sem, List.take_of_length_le] <;> with_reducible rfl)))
      | refine Holds.seq ?_
      | refine Holds.skip ?_
      | refine Holds.exit ?_
      | refine Holds.ret ?_
      | refine thenA_normal ?_
      | refine thenA_exit ?_
      | refine thenA_ret ?_
      | refine inB_normal ?_
      | refine inB_ret ?_
      | refine inB_here ?_
      | (refine inB_past ?_ ?_; (· exact rfl))
      | refine Holds.reg ?_
      | refine Holds.block ?_
      | refine GS.nil ?_
      | refine Gd.nil ?_
      | (refine Holds.any mixed ?_ ?_; (· kernel_rfl))
      | (refine GS.step (s' := ?_) ?_ ?_ ?_; rotate_left; (· exact rfl); (· (simp [go_sem, List.take_of_length_le] <;> with_reducible rfl)))
      | (refine GS.skip ?_ ?_ ?_; (· exact rfl); (· exact rfl))
      | (refine Gd.go (s' := ?_) ?_ ?_ ?_; rotate_left; (· exact rfl); (· (simp [go_sem, List.take_of_length_le] <;> with_reducible rfl)))
      | (refine Gd.skip ?_ ?_ ?_; (· exact rfl); (· exact rfl))
      | fail
    refine Holds.cond rfl (fun h => ?_) (fun h => ?_)
    · have hlt : i < m.2.2.1.length := by simp at h; omega
      have hxi : m.2.2.1[i]? = some m.2.2.1[i] := List.getElem?_eq_getElem hlt
      obtain ⟨x, y, z, hr, hy0, hy3⟩ := good_arrow hg hlt
      have hsn : (m.2.2.1.take (i + 1)).map arrowR = L ++ [(x, [-1 - y, z])] := by
        rw [List.take_add_one, hxi, hr, List.map_append, ← hL]; rfl
      rw [hr] at hxi
      have hwy : wr64 (-1 - y) = -1 - y := wr64_id (by omega) (by omega)
      have hi00 : ints [0, 0] = [[.v (.int .i64 0)], [.v (.int .i64 0)]] := rfl
      have hb : (L.length + 1) * 32 ≤ 140737488355328 := by omega
      repeat' first
        | (refine Holds.condT ?_ ?_; (· (simp [go_sem, List.take_of_length_le, hxi, intsC] <;> with_reducible rfl)))
        | (refine Holds.condF ?_ ?_; (· (simp [go_sem, List.take_of_length_le, hxi, intsC] <;> with_reducible rfl)))
        | refine Holds.seq ?_
        | refine Holds.skip ?_
        | refine Holds.exit ?_
        | refine Holds.ret ?_
        | refine thenA_normal ?_
        | refine thenA_exit ?_
        | refine thenA_ret ?_
        | refine inB_normal ?_
        | refine inB_ret ?_
        | refine inB_here ?_
        | (refine inB_past ?_ ?_; (· exact rfl))
        | refine Holds.reg ?_
        | refine Holds.block ?_
        | refine GS.nil ?_
        | refine Gd.nil ?_
        | (refine GS.step (s' := ?_) ?_ ?_ ?_; rotate_left; (· exact rfl); (· (simp [go_sem, List.take_of_length_le, hxi, intsC] <;> with_reducible rfl)))
        | (refine GS.skip ?_ ?_ ?_; (· exact rfl); (· exact rfl))
        | (refine Gd.go (s' := ?_) ?_ ?_ ?_; rotate_left; (· exact rfl); (· (simp [go_sem, List.take_of_length_le, hxi, intsC] <;> with_reducible rfl)))
        | (refine Gd.skip ?_ ?_ ?_; (· exact rfl); (· exact rfl))
        | fail
      refine Holds.anx [12, 13, 14, 1015, 1017] [0, 1, 2, 3, 4] (fun n => decide (4 ≤ n)) mixed ?_ ?_ ?_; (· kernel_rfl); (· kernel_rfl)
      repeat' first
        | (refine Holds.condT ?_ ?_; (· (simp [go_sem, List.take_of_length_le, hxi, intsC, hwy, hb, hi00] <;> with_reducible rfl)))
        | (refine Holds.condF ?_ ?_; (· (simp [go_sem, List.take_of_length_le, hxi, intsC, hwy, hb, hi00] <;> with_reducible rfl)))
        | refine Holds.seq ?_
        | refine Holds.skip ?_
        | refine Holds.exit ?_
        | refine Holds.ret ?_
        | refine thenA_normal ?_
        | refine thenA_exit ?_
        | refine thenA_ret ?_
        | refine inB_normal ?_
        | refine inB_ret ?_
        | refine inB_here ?_
        | (refine inB_past ?_ ?_; (· exact rfl))
        | refine Holds.reg ?_
        | refine Holds.block ?_
        | refine GS.nil ?_
        | refine Gd.nil ?_
        | (refine GS.step (s' := ?_) ?_ ?_ ?_; rotate_left; (· exact rfl); (· (simp [go_sem, List.take_of_length_le, hxi, intsC, hwy, hb, hi00] <;> with_reducible rfl)))
        | (refine GS.skip ?_ ?_ ?_; (· exact rfl); (· exact rfl))
        | (refine Gd.go (s' := ?_) ?_ ?_ ?_; rotate_left; (· exact rfl); (· (simp [go_sem, List.take_of_length_le, hxi, intsC, hwy, hb, hi00] <;> with_reducible rfl)))
        | (refine Gd.skip ?_ ?_ ?_; (· exact rfl); (· exact rfl))
        | refine Gx.nil ?_
        | (refine Gx.go (s' := ?_) rfl ?_ ?_ ?_; rotate_left; (· exact rfl); (· (simp [go_sem, List.take_of_length_le, hxi, intsC, hwy, hb, hi00] <;> with_reducible rfl)))
        | (refine Gx.skip rfl ?_ ?_ ?_; (· exact rfl); (· exact rfl))
        | (refine Gx.skipO rfl ?_ ?_ ?_; (· exact rfl); (· exact rfl))
        | (refine Gx.wo (s' := ?_) rfl ?_ ?_ ?_; rotate_left; (· exact rfl); (· (simp [go_sem, List.take_of_length_le, hxi, intsC, hwy, hb, hi00] <;> with_reducible rfl)))
        | (refine Gx.skipW rfl ?_ ?_ ?_; (· exact rfl); (· exact rfl))
        | (refine Gx.skipH rfl ?_ ?_ ?_; (· exact rfl); (· exact rfl))
        | (refine Gx.hid (r := ?_) rfl ?_ ?_ ?_ ?_; rotate_left; (· exact rfl); (· exact rfl); (· (simp [go_sem, List.take_of_length_le, hxi, intsC, hwy, hb, hi00] <;> with_reducible rfl)))
        | (refine Gx.wr (s' := ?_) rfl ?_ ?_ ?_ ?_; rotate_left; (· exact rfl); (· (simp [go_sem, List.take_of_length_le, hxi, intsC, hwy, hb, hi00] <;> with_reducible rfl)); (· (simp [go_sem, List.take_of_length_le, hxi, intsC, hwy, hb, hi00])))
        | fail
      first | refine GS.cc (symbolOfX y (by omega) (by omega)) rfl rfl rfl rfl (by simp [go_sem, List.take_of_length_le] <;> with_reducible rfl) rfl (by simp [go_sem, List.take_of_length_le]) ?_ | refine Gd.cc (symbolOfX y (by omega) (by omega)) rfl rfl rfl rfl (by simp [go_sem, List.take_of_length_le] <;> with_reducible rfl) rfl (by simp [go_sem, List.take_of_length_le]) ?_ | refine Gx.cc (symbolOfX y (by omega) (by omega)) rfl rfl rfl rfl rfl (by simp [go_sem, List.take_of_length_le] <;> with_reducible rfl) rfl (by simp [go_sem, List.take_of_length_le]) ?_
      repeat' first
        | (refine Holds.condT ?_ ?_; (· (simp [go_sem, List.take_of_length_le, hxi, intsC, hwy, hb, hi00] <;> with_reducible rfl)))
        | (refine Holds.condF ?_ ?_; (· (simp [go_sem, List.take_of_length_le, hxi, intsC, hwy, hb, hi00] <;> with_reducible rfl)))
        | refine Holds.seq ?_
        | refine Holds.skip ?_
        | refine Holds.exit ?_
        | refine Holds.ret ?_
        | refine thenA_normal ?_
        | refine thenA_exit ?_
        | refine thenA_ret ?_
        | refine inB_normal ?_
        | refine inB_ret ?_
        | refine inB_here ?_
        | (refine inB_past ?_ ?_; (· exact rfl))
        | refine Holds.reg ?_
        | refine Holds.block ?_
        | refine GS.nil ?_
        | refine Gd.nil ?_
        | (refine GS.step (s' := ?_) ?_ ?_ ?_; rotate_left; (· exact rfl); (· (simp [go_sem, List.take_of_length_le, hxi, intsC, hwy, hb, hi00] <;> with_reducible rfl)))
        | (refine GS.skip ?_ ?_ ?_; (· exact rfl); (· exact rfl))
        | (refine Gd.go (s' := ?_) ?_ ?_ ?_; rotate_left; (· exact rfl); (· (simp [go_sem, List.take_of_length_le, hxi, intsC, hwy, hb, hi00] <;> with_reducible rfl)))
        | (refine Gd.skip ?_ ?_ ?_; (· exact rfl); (· exact rfl))
        | refine Gx.nil ?_
        | (refine Gx.go (s' := ?_) rfl ?_ ?_ ?_; rotate_left; (· exact rfl); (· (simp [go_sem, List.take_of_length_le, hxi, intsC, hwy, hb, hi00] <;> with_reducible rfl)))
        | (refine Gx.skip rfl ?_ ?_ ?_; (· exact rfl); (· exact rfl))
        | (refine Gx.skipO rfl ?_ ?_ ?_; (· exact rfl); (· exact rfl))
        | (refine Gx.wo (s' := ?_) rfl ?_ ?_ ?_; rotate_left; (· exact rfl); (· (simp [go_sem, List.take_of_length_le, hxi, intsC, hwy, hb, hi00] <;> with_reducible rfl)))
        | (refine Gx.skipW rfl ?_ ?_ ?_; (· exact rfl); (· exact rfl))
        | (refine Gx.skipH rfl ?_ ?_ ?_; (· exact rfl); (· exact rfl))
        | (refine Gx.hid (r := ?_) rfl ?_ ?_ ?_ ?_; rotate_left; (· exact rfl); (· exact rfl); (· (simp [go_sem, List.take_of_length_le, hxi, intsC, hwy, hb, hi00] <;> with_reducible rfl)))
        | (refine Gx.wr (s' := ?_) rfl ?_ ?_ ?_ ?_; rotate_left; (· exact rfl); (· (simp [go_sem, List.take_of_length_le, hxi, intsC, hwy, hb, hi00] <;> with_reducible rfl)); (· (simp [go_sem, List.take_of_length_le, hxi, intsC, hwy, hb, hi00])))
        | fail
      refine ⟨(i + 1, L ++ [(x, [-1 - y, z])]), ⟨by dsimp only; omega, hsn.symm⟩, by dsimp only; omega, ?_⟩
      dsimp only
      rw [stepi, rulesO_snoc]
      have hset : ∀ r r' : List AV, (rulesO L ++ [r]).set L.length r' = rulesO L ++ [r'] := fun r r' => by have := set_snoc (rulesO L) r r'; rwa [rulesO_len] at this
      have hro : ruleO (x, [-1 - y, z]) = [.v (.int .i64 x), .ow 3 1 [[.v (.int .i64 (-1 - y))], [.v (.int .i64 z)]]] := rfl
      refine Cov.trans ?_ (Cov.close 7 L.length 1 (row := [.v (.int .i64 x), .own 4 1 0 2]) rfl (by have := get_snoc (rulesO L) ([.v (.int .i64 x), .own 4 1 0 2] : List AV); rwa [rulesO_len] at this) rfl rfl rfl rfl rfl (by simp [nf]))
      simp only [rm, st, hset, List.set_cons_zero, List.set_cons_succ]
      exact Cov.ofn (nm [0, 1, 2, 7]) rfl (by simp [go_sem, List.take_of_length_le, ren, ren1, ren2, okr, okr1, okr2, ChkT, ChkN, BlkN, nf, machineC, hro]) (by simp [go_sem, List.take_of_length_le, ren, ren1, ren2, okr, okr1, okr2, ChkT, ChkN, BlkN, nf, machineC, hro])
    have hle : i = m.2.2.1.length := by simp at h; omega
    subst hle
    rw [List.take_length] at hL
    repeat' first
      | (refine Holds.condT ?_ ?_; (· (simp [go_sem, List.take_of_length_le, machineC] <;> with_reducible rfl)))
      | (refine Holds.condF ?_ ?_; (· (simp [go_sem, List.take_of_length_le, machineC] <;> with_reducible rfl)))
      | refine Holds.seq ?_
      | refine Holds.skip ?_
      | refine Holds.exit ?_
      | refine Holds.ret ?_
      | refine thenA_normal ?_
      | refine thenA_exit ?_
      | refine thenA_ret ?_
      | refine inB_normal ?_
      | refine inB_ret ?_
      | refine inB_here ?_
      | (refine inB_past ?_ ?_; (· exact rfl))
      | refine Holds.reg ?_
      | refine Holds.block ?_
      | refine GS.nil ?_
      | refine Gd.nil ?_
      | (refine Holds.any mixed ?_ ?_; (· kernel_rfl))
      | (refine GS.step (s' := ?_) ?_ ?_ ?_; rotate_left; (· exact rfl); (· (simp [go_sem, List.take_of_length_le, machineC] <;> with_reducible rfl)))
      | (refine GS.skip ?_ ?_ ?_; (· exact rfl); (· exact rfl))
      | (refine Gd.go (s' := ?_) ?_ ?_ ?_; rotate_left; (· exact rfl); (· (simp [go_sem, List.take_of_length_le, machineC] <;> with_reducible rfl)))
      | (refine Gd.skip ?_ ?_ ?_; (· exact rfl); (· exact rfl))
      | refine Gx.nil ?_
      | (refine Gx.go (s' := ?_) rfl ?_ ?_ ?_; rotate_left; (· exact rfl); (· (simp [go_sem, List.take_of_length_le, machineC] <;> with_reducible rfl)))
      | (refine Gx.skip rfl ?_ ?_ ?_; (· exact rfl); (· exact rfl))
      | (refine Gx.skipO rfl ?_ ?_ ?_; (· exact rfl); (· exact rfl))
      | (refine Gx.wo (s' := ?_) rfl ?_ ?_ ?_; rotate_left; (· exact rfl); (· (simp [go_sem, List.take_of_length_le, machineC] <;> with_reducible rfl)))
      | (refine Gx.skipW rfl ?_ ?_ ?_; (· exact rfl); (· exact rfl))
      | (refine Gx.skipH rfl ?_ ?_ ?_; (· exact rfl); (· exact rfl))
      | (refine Gx.hid (r := ?_) rfl ?_ ?_ ?_ ?_; rotate_left; (· exact rfl); (· exact rfl); (· (simp [go_sem, List.take_of_length_le, machineC] <;> with_reducible rfl)))
      | (refine Gx.wr (s' := ?_) rfl ?_ ?_ ?_ ?_; rotate_left; (· exact rfl); (· (simp [go_sem, List.take_of_length_le, machineC] <;> with_reducible rfl)); (· (simp [go_sem, List.take_of_length_le, machineC])))
      | fail
    refine Holds.loop (ι := Nat × List RuleT) (fun i => ⟨[(1, .pb 0 4 0 0), (2, .pb 1 3 0 0), (4, .pb 2 3 0 0), (44, .im 1 (ints m.2.2.2)), (45, .v (.int .i64 m.2.2.2.length)), (46, .v (.int .i64 i.1))],
      [(0, ⟨72, 4, [machineC m]⟩), (1, ⟨59, 3, [[.v (.int .i64 0), .v (.int .i64 0), .v (.slice none 0 0)]]⟩), (2, ⟨59, 3, [[.v (.int .i64 m.1), .v (.int .i64 m.2.1), .own 3 2 0 i.2.length]]⟩), (3, ⟨104, 2, rulesO i.2⟩)], 4⟩)
      (fun i => i.1 ≤ m.2.2.2.length ∧ i.2 = m.2.2.1.map arrowR ++ (m.2.2.2.take i.1).map endR) (fun i => m.2.2.2.length - i.1) (0, L) ⟨Nat.zero_le _, by simp [hL]⟩ ?_ ?_
    · exact Cov.ofn (id) rfl (by simp [go_sem, List.take_of_length_le, ren, ren1, ren2, okr, okr1, okr2, ChkT, ChkN, BlkN, nf, machineC]) (by simp [go_sem, List.take_of_length_le, ren, ren1, ren2, okr, okr1, okr2, ChkT, ChkN, BlkN, nf, machineC])
    clear hL hLl stepi L hi h
    rintro ⟨i, L⟩ ⟨hi, hL⟩
    dsimp only at hi hL ⊢
    have hLl : L.length = m.2.2.1.length + i := by rw [hL, List.length_append, List.length_map, List.length_map, List.length_take]; omega
    have stepi : wr64 ((i : Int) + 1) = ((i + 1 : Nat) : Int) := wr64_id (by omega) (by omega)
    repeat' first
      | (refine Holds.condT ?_ ?_; (· (simp [go_sem, List.take_of_length_le] <;> with_reducible rfl)))
      | (refine Holds.condF ?_ ?_; (· (simp [go_sem, List.take_of_length_le] <;> with_reducible rfl)))
      | refine Holds.seq ?_
      | refine Holds.skip ?_
      | refine Holds.exit ?_
      | refine Holds.ret ?_
      | refine thenA_normal ?_
      | refine thenA_exit ?_
      | refine thenA_ret ?_
      | refine inB_normal ?_
      | refine inB_ret ?_
      | refine inB_here ?_
      | (refine inB_past ?_ ?_; (· exact rfl))
      | refine Holds.reg ?_
      | refine Holds.block ?_
      | refine GS.nil ?_
      | refine Gd.nil ?_
      | (refine Holds.any mixed ?_ ?_; (· kernel_rfl))
      | (refine GS.step (s' := ?_) ?_ ?_ ?_; rotate_left; (· exact rfl); (· (simp [go_sem, List.take_of_length_le] <;> with_reducible rfl)))
      | (refine GS.skip ?_ ?_ ?_; (· exact rfl); (· exact rfl))
      | (refine Gd.go (s' := ?_) ?_ ?_ ?_; rotate_left; (· exact rfl); (· (simp [go_sem, List.take_of_length_le] <;> with_reducible rfl)))
      | (refine Gd.skip ?_ ?_ ?_; (· exact rfl); (· exact rfl))
      | refine Gx.nil ?_
      | (refine Gx.go (s' := ?_) rfl ?_ ?_ ?_; rotate_left; (· exact rfl); (· (simp [go_sem, List.take_of_length_le] <;> with_reducible rfl)))
      | (refine Gx.skip rfl ?_ ?_ ?_; (· exact rfl); (· exact rfl))
      | (refine Gx.skipO rfl ?_ ?_ ?_; (· exact rfl); (· exact rfl))
      | (refine Gx.wo (s' := ?_) rfl ?_ ?_ ?_; rotate_left; (· exact rfl); (· (simp [go_sem, List.take_of_length_le] <;> with_reducible rfl)))
      | (refine Gx.skipW rfl ?_ ?_ ?_; (· exact rfl); (· exact rfl))
      | (refine Gx.skipH rfl ?_ ?_ ?_; (· exact rfl); (· exact rfl))
      | (refine Gx.hid (r := ?_) rfl ?_ ?_ ?_ ?_; rotate_left; (· exact rfl); (· exact rfl); (· (simp [go_sem, List.take_of_length_le] <;> with_reducible rfl)))
      | (refine Gx.wr (s' := ?_) rfl ?_ ?_ ?_ ?_; rotate_left; (· exact rfl); (· (simp [go_sem, List.take_of_length_le] <;> with_reducible rfl)); (· (simp [go_sem, List.take_of_length_le])))
      | fail
    refine Holds.cond rfl (fun h => ?_) (fun h => ?_)
    · have hlt : i < m.2.2.2.length := by simp at h; omega
      have hxi : m.2.2.2[i]? = some m.2.2.2[i] := List.getElem?_eq_getElem hlt
      generalize m.2.2.2[i] = q at hxi
      have hsn : m.2.2.1.map arrowR ++ (m.2.2.2.take (i + 1)).map endR = L ++ [(q, [])] := by
        rw [List.take_add_one, hxi, List.map_append, ← List.append_assoc, ← hL]; rfl
      have hb : (L.length + 1) * 32 ≤ 140737488355328 := by omega
      repeat' first
        | (refine Holds.condT ?_ ?_; (· (simp [go_sem, List.take_of_length_le, hxi, hb] <;> with_reducible rfl)))
        | (refine Holds.condF ?_ ?_; (· (simp [go_sem, List.take_of_length_le, hxi, hb] <;> with_reducible rfl)))
        | refine Holds.seq ?_
        | refine Holds.skip ?_
        | refine Holds.exit ?_
        | refine Holds.ret ?_
        | refine thenA_normal ?_
        | refine thenA_exit ?_
        | refine thenA_ret ?_
        | refine inB_normal ?_
        | refine inB_ret ?_
        | refine inB_here ?_
        | (refine inB_past ?_ ?_; (· exact rfl))
        | refine Holds.reg ?_
        | refine Holds.block ?_
        | refine GS.nil ?_
        | refine Gd.nil ?_
        | (refine Holds.any mixed ?_ ?_; (· kernel_rfl))
        | (refine GS.step (s' := ?_) ?_ ?_ ?_; rotate_left; (· exact rfl); (· (simp [go_sem, List.take_of_length_le, hxi, hb] <;> with_reducible rfl)))
        | (refine GS.skip ?_ ?_ ?_; (· exact rfl); (· exact rfl))
        | (refine Gd.go (s' := ?_) ?_ ?_ ?_; rotate_left; (· exact rfl); (· (simp [go_sem, List.take_of_length_le, hxi, hb] <;> with_reducible rfl)))
        | (refine Gd.skip ?_ ?_ ?_; (· exact rfl); (· exact rfl))
        | refine Gx.nil ?_
        | (refine Gx.go (s' := ?_) rfl ?_ ?_ ?_; rotate_left; (· exact rfl); (· (simp [go_sem, List.take_of_length_le, hxi, hb] <;> with_reducible rfl)))
        | (refine Gx.skip rfl ?_ ?_ ?_; (· exact rfl); (· exact rfl))
        | (refine Gx.skipO rfl ?_ ?_ ?_; (· exact rfl); (· exact rfl))
        | (refine Gx.wo (s' := ?_) rfl ?_ ?_ ?_; rotate_left; (· exact rfl); (· (simp [go_sem, List.take_of_length_le, hxi, hb] <;> with_reducible rfl)))
        | (refine Gx.skipW rfl ?_ ?_ ?_; (· exact rfl); (· exact rfl))
        | (refine Gx.skipH rfl ?_ ?_ ?_; (· exact rfl); (· exact rfl))
        | (refine Gx.hid (r := ?_) rfl ?_ ?_ ?_ ?_; rotate_left; (· exact rfl); (· exact rfl); (· (simp [go_sem, List.take_of_length_le, hxi, hb] <;> with_reducible rfl)))
        | (refine Gx.wr (s' := ?_) rfl ?_ ?_ ?_ ?_; rotate_left; (· exact rfl); (· (simp [go_sem, List.take_of_length_le, hxi, hb] <;> with_reducible rfl)); (· (simp [go_sem, List.take_of_length_le, hxi, hb])))
        | fail
      refine ⟨(i + 1, L ++ [(q, [])]), ⟨by dsimp only; omega, hsn.symm⟩, by dsimp only; omega, ?_⟩
      dsimp only
      rw [stepi, rulesO_snoc]
      have hset : ∀ r r' : List AV, (rulesO L ++ [r]).set L.length r' = rulesO L ++ [r'] := fun r r' => by have := set_snoc (rulesO L) r r'; rwa [rulesO_len] at this
      have hget : ∀ r : List AV, (rulesO L ++ [r])[L.length]? = some r := fun r => by have := get_snoc (rulesO L) r; rwa [rulesO_len] at this
      have hro : ruleO (q, []) = [.v (.int .i64 q), .ow 3 1 []] := rfl
      refine Cov.trans ?_ (Cov.nir (n := 6) (j := L.length) (i := 1) 3 1 (row := [.v (.int .i64 q), .v (.slice none 0 0)]) rfl (hget _) rfl)
      simp only [nirw, lb, st, hset, hget, if_true, List.set_cons_zero, List.set_cons_succ]
      refine Cov.trans ?_ (Cov.close 6 L.length 1 (k := ⟨3, 1, []⟩) (row := [.v (.int .i64 q), .own 7 1 0 0]) rfl (hget _) rfl rfl rfl rfl rfl (by simp))
      simp only [rm, st, hset, List.set_cons_zero, List.set_cons_succ]
      exact Cov.ofn (nm [0, 1, 2, 6]) rfl (by simp [go_sem, List.take_of_length_le, ren, ren1, ren2, okr, okr1, okr2, ChkT, ChkN, BlkN, nf, machineC, hro]) (by simp [go_sem, List.take_of_length_le, ren, ren1, ren2, okr, okr1, okr2, ChkT, ChkN, BlkN, nf, machineC, hro])
    have hle : i = m.2.2.2.length := by simp at h; omega
    subst hle
    rw [List.take_length] at hL
    have c2 := implGoodG (m.1, m.2.1, L) (by dsimp only; omega) (by rw [hL]; intro e he; have := gf_small (m := m) e he; omega)
    have hgf : gfG m = (m.1, m.2.1, L) := by rw [hL]; rfl
    rw [Bool.true_and, hgf]
    repeat' first
      | (refine Holds.condT ?_ ?_; (· (simp [go_sem, List.take_of_length_le] <;> with_reducible rfl)))
      | (refine Holds.condF ?_ ?_; (· (simp [go_sem, List.take_of_length_le] <;> with_reducible rfl)))
      | refine Holds.seq ?_
      | refine Holds.skip ?_
      | refine Holds.exit ?_
      | refine Holds.ret ?_
      | refine thenA_normal ?_
      | refine thenA_exit ?_
      | refine thenA_ret ?_
      | refine inB_normal ?_
      | refine inB_ret ?_
      | refine inB_here ?_
      | (refine inB_past ?_ ?_; (· exact rfl))
      | refine Holds.reg ?_
      | refine Holds.block ?_
      | refine GS.nil ?_
      | refine Gd.nil ?_
      | (refine Holds.any mixed ?_ ?_; (· kernel_rfl))
      | (refine GS.step (s' := ?_) ?_ ?_ ?_; rotate_left; (· exact rfl); (· (simp [go_sem, List.take_of_length_le] <;> with_reducible rfl)))
      | (refine GS.skip ?_ ?_ ?_; (· exact rfl); (· exact rfl))
      | (refine Gd.go (s' := ?_) ?_ ?_ ?_; rotate_left; (· exact rfl); (· (simp [go_sem, List.take_of_length_le] <;> with_reducible rfl)))
      | (refine Gd.skip ?_ ?_ ?_; (· exact rfl); (· exact rfl))
      | refine Gx.nil ?_
      | (refine Gx.go (s' := ?_) rfl ?_ ?_ ?_; rotate_left; (· exact rfl); (· (simp [go_sem, List.take_of_length_le] <;> with_reducible rfl)))
      | (refine Gx.skip rfl ?_ ?_ ?_; (· exact rfl); (· exact rfl))
      | (refine Gx.skipO rfl ?_ ?_ ?_; (· exact rfl); (· exact rfl))
      | (refine Gx.wo (s' := ?_) rfl ?_ ?_ ?_; rotate_left; (· exact rfl); (· (simp [go_sem, List.take_of_length_le] <;> with_reducible rfl)))
      | (refine Gx.skipW rfl ?_ ?_ ?_; (· exact rfl); (· exact rfl))
      | (refine Gx.skipH rfl ?_ ?_ ?_; (· exact rfl); (· exact rfl))
      | (refine Gx.hid (r := ?_) rfl ?_ ?_ ?_ ?_; rotate_left; (· exact rfl); (· exact rfl); (· (simp [go_sem, List.take_of_length_le] <;> with_reducible rfl)))
      | (refine Gx.wr (s' := ?_) rfl ?_ ?_ ?_ ?_; rotate_left; (· exact rfl); (· (simp [go_sem, List.take_of_length_le] <;> with_reducible rfl)); (· (simp [go_sem, List.take_of_length_le])))
      | fail
    cases hgg : goodG (m.1, m.2.1, L) with
    | false =>
      rw [hgg] at c2
      first | refine GS.cd (c2) rfl rfl rfl rfl (by simp [go_sem, List.take_of_length_le, grammarC] <;> with_reducible rfl) rfl (by exact .cons (Fz.agL (.cons (.v _) (.cons (.v _) (.cons (fz_rulesO _ rfl rfl) .nil)))) .nil) rfl ?_ | refine Gd.cd (c2) rfl rfl rfl rfl (by simp [go_sem, List.take_of_length_le, grammarC] <;> with_reducible rfl) rfl (by exact .cons (Fz.agL (.cons (.v _) (.cons (.v _) (.cons (fz_rulesO _ rfl rfl) .nil)))) .nil) rfl ?_ | refine Gx.cd (c2) rfl rfl rfl rfl rfl (by simp [go_sem, List.take_of_length_le, grammarC] <;> with_reducible rfl) rfl (by exact .cons (Fz.agL (.cons (.v _) (.cons (.v _) (.cons (fz_rulesO _ rfl rfl) .nil)))) .nil) rfl ?_
      simp only [Bool.false_eq_true, if_false]
      repeat' first
        | (refine Holds.condT ?_ ?_; (· (simp [go_sem, List.take_of_length_le] <;> with_reducible rfl)))
        | (refine Holds.condF ?_ ?_; (· (simp [go_sem, List.take_of_length_le] <;> with_reducible rfl)))
        | refine Holds.seq ?_
        | refine Holds.skip ?_
        | refine Holds.exit ?_
        | refine Holds.ret ?_
        | refine thenA_normal ?_
        | refine thenA_exit ?_
        | refine thenA_ret ?_
        | refine inB_normal ?_
        | refine inB_ret ?_
        | refine inB_here ?_
        | (refine inB_past ?_ ?_; (· exact rfl))
        | refine Holds.reg ?_
        | refine Holds.block ?_
        | refine GS.nil ?_
        | refine Gd.nil ?_
        | (refine Holds.any mixed ?_ ?_; (· kernel_rfl))
        | (refine GS.step (s' := ?_) ?_ ?_ ?_; rotate_left; (· exact rfl); (· (simp [go_sem, List.take_of_length_le] <;> with_reducible rfl)))
        | (refine GS.skip ?_ ?_ ?_; (· exact rfl); (· exact rfl))
        | (refine Gd.go (s' := ?_) ?_ ?_ ?_; rotate_left; (· exact rfl); (· (simp [go_sem, List.take_of_length_le] <;> with_reducible rfl)))
        | (refine Gd.skip ?_ ?_ ?_; (· exact rfl); (· exact rfl))
        | refine Gx.nil ?_
        | (refine Gx.go (s' := ?_) rfl ?_ ?_ ?_; rotate_left; (· exact rfl); (· (simp [go_sem, List.take_of_length_le] <;> with_reducible rfl)))
        | (refine Gx.skip rfl ?_ ?_ ?_; (· exact rfl); (· exact rfl))
        | (refine Gx.skipO rfl ?_ ?_ ?_; (· exact rfl); (· exact rfl))
        | (refine Gx.wo (s' := ?_) rfl ?_ ?_ ?_; rotate_left; (· exact rfl); (· (simp [go_sem, List.take_of_length_le] <;> with_reducible rfl)))
        | (refine Gx.skipW rfl ?_ ?_ ?_; (· exact rfl); (· exact rfl))
        | (refine Gx.skipH rfl ?_ ?_ ?_; (· exact rfl); (· exact rfl))
        | (refine Gx.hid (r := ?_) rfl ?_ ?_ ?_ ?_; rotate_left; (· exact rfl); (· exact rfl); (· (simp [go_sem, List.take_of_length_le] <;> with_reducible rfl)))
        | (refine Gx.wr (s' := ?_) rfl ?_ ?_ ?_ ?_; rotate_left; (· exact rfl); (· (simp [go_sem, List.take_of_length_le] <;> with_reducible rfl)); (· (simp [go_sem, List.take_of_length_le])))
        | fail
      refine OutF.cov (Cov.nir (n := 1) (j := 0) (i := 2) 104 2 rfl rfl rfl) ?_
      refine OutF.mkn (xs := ?_) (nm [4]) ?_ ?_ ?_ ?_ ?_ (by first | exact .inr rfl | exact .inl rfl)
      rotate_left
      · simp [go_sem, List.take_of_length_le, nirw, rulesO] <;> with_reducible rfl
      · simp [go_sem, List.take_of_length_le, ren, ren1, ren2, okr, okr1, okr2, ChkN, BlkN, List.range_succ, nf, nirw, rulesO]
      · simp [go_sem, List.take_of_length_le, ren, ren1, ren2, okr, okr1, okr2, ChkN, BlkN, List.range_succ, nf, nirw, rulesO]
      · simp [go_sem, List.take_of_length_le, ren, ren1, ren2, okr, okr1, okr2, ChkN, BlkN, List.range_succ, nf, nirw, rulesO]
      · rfl
    | true =>
      rw [hgg] at c2
      first | refine GS.cd (c2) rfl rfl rfl rfl (by simp [go_sem, List.take_of_length_le, grammarC] <;> with_reducible rfl) rfl (by exact .cons (Fz.agL (.cons (.v _) (.cons (.v _) (.cons (fz_rulesO _ rfl rfl) .nil)))) .nil) rfl ?_ | refine Gd.cd (c2) rfl rfl rfl rfl (by simp [go_sem, List.take_of_length_le, grammarC] <;> with_reducible rfl) rfl (by exact .cons (Fz.agL (.cons (.v _) (.cons (.v _) (.cons (fz_rulesO _ rfl rfl) .nil)))) .nil) rfl ?_ | refine Gx.cd (c2) rfl rfl rfl rfl rfl (by simp [go_sem, List.take_of_length_le, grammarC] <;> with_reducible rfl) rfl (by exact .cons (Fz.agL (.cons (.v _) (.cons (.v _) (.cons (fz_rulesO _ rfl rfl) .nil)))) .nil) rfl ?_
      simp only [if_true]
      repeat' first
        | (refine Holds.condT ?_ ?_; (· (simp [go_sem, List.take_of_length_le] <;> with_reducible rfl)))
        | (refine Holds.condF ?_ ?_; (· (simp [go_sem, List.take_of_length_le] <;> with_reducible rfl)))
        | refine Holds.seq ?_
        | refine Holds.skip ?_
        | refine Holds.exit ?_
        | refine Holds.ret ?_
        | refine thenA_normal ?_
        | refine thenA_exit ?_
        | refine thenA_ret ?_
        | refine inB_normal ?_
        | refine inB_ret ?_
        | refine inB_here ?_
        | (refine inB_past ?_ ?_; (· exact rfl))
        | refine Holds.reg ?_
        | refine Holds.block ?_
        | refine GS.nil ?_
        | refine Gd.nil ?_
        | (refine Holds.any mixed ?_ ?_; (· kernel_rfl))
        | (refine GS.step (s' := ?_) ?_ ?_ ?_; rotate_left; (· exact rfl); (· (simp [go_sem, List.take_of_length_le] <;> with_reducible rfl)))
        | (refine GS.skip ?_ ?_ ?_; (· exact rfl); (· exact rfl))
        | (refine Gd.go (s' := ?_) ?_ ?_ ?_; rotate_left; (· exact rfl); (· (simp [go_sem, List.take_of_length_le] <;> with_reducible rfl)))
        | (refine Gd.skip ?_ ?_ ?_; (· exact rfl); (· exact rfl))
        | refine Gx.nil ?_
        | (refine Gx.go (s' := ?_) rfl ?_ ?_ ?_; rotate_left; (· exact rfl); (· (simp [go_sem, List.take_of_length_le] <;> with_reducible rfl)))
        | (refine Gx.skip rfl ?_ ?_ ?_; (· exact rfl); (· exact rfl))
        | (refine Gx.skipO rfl ?_ ?_ ?_; (· exact rfl); (· exact rfl))
        | (refine Gx.wo (s' := ?_) rfl ?_ ?_ ?_; rotate_left; (· exact rfl); (· (simp [go_sem, List.take_of_length_le] <;> with_reducible rfl)))
        | (refine Gx.skipW rfl ?_ ?_ ?_; (· exact rfl); (· exact rfl))
        | (refine Gx.skipH rfl ?_ ?_ ?_; (· exact rfl); (· exact rfl))
        | (refine Gx.hid (r := ?_) rfl ?_ ?_ ?_ ?_; rotate_left; (· exact rfl); (· exact rfl); (· (simp [go_sem, List.take_of_length_le] <;> with_reducible rfl)))
        | (refine Gx.wr (s' := ?_) rfl ?_ ?_ ?_ ?_; rotate_left; (· exact rfl); (· (simp [go_sem, List.take_of_length_le] <;> with_reducible rfl)); (· (simp [go_sem, List.take_of_length_le])))
        | fail
      refine OutF.mkn (xs := ?_) (nm [3]) ?_ ?_ ?_ ?_ ?_ (by first | exact .inr rfl | exact .inl rfl)
      rotate_left
      · simp [go_sem, List.take_of_length_le] <;> with_reducible rfl
      · simp [go_sem, List.take_of_length_le, ren, ren1, ren2, okr, okr1, okr2, ChkN, BlkN, List.range_succ, nf]
      · simp [go_sem, List.take_of_length_le, ren, ren1, ren2, okr, okr1, okr2, ChkN, BlkN, List.range_succ, nf]
      · simp [go_sem, List.take_of_length_le, ren, ren1, ren2, okr, okr1, okr2, ChkN, BlkN, List.range_succ, nf]
      · rfl
end Go.Proofs.Ytcgfhjglalhjjaa.En
end
section
namespace Go.Proofs.Ytcgfhjglalhjjaa.En
open Go.RowKit
set_option linter.unusedSimpArgs false
set_option linter.unusedVariables false
set_option maxHeartbeats 8000000
theorem lawGrammarFrom (m : MachineT) (hxm : m.2.2.1.length < 5864062014806) (hsm : ∀ e ∈ m.2.2.1, e.length < 35184372088832) (hnm : m.2.2.2.length < 35184372088832) : Pure Try.prog 7 [.ag (machineC m)] (.v (.bool true)) := by
  refine Pure.mk (rs := [.tmp 2]) (nt := 96) Try.func7 (by kernel_rfl) rfl rfl rfl (by simp) ?_
  simp only [sl, machineC, grammarC]
  have hsm' : ∀ e ∈ m.2.2.1, e.length < 4611686018427387904 := fun e he => by have := hsm e he; omega
  have ctm := toMachineX m hxm hsm hnm
  have cem := eqMachineX m hxm hsm hnm
  have com := toMachineO m hxm hsm hnm
  have czm := szMachineX m hxm hsm hnm
  repeat' first
    | refine Holds.seq ?_
    | refine Holds.skip ?_
    | refine Holds.exit ?_
    | refine Holds.ret ?_
    | refine thenA_normal ?_
    | refine thenA_exit ?_
    | refine thenA_ret ?_
    | refine inB_normal ?_
    | refine inB_ret ?_
    | refine inB_here ?_
    | (refine inB_past ?_ ?_; (· exact rfl))
    | refine Holds.reg ?_
    | refine Holds.block ?_
    | refine GS.nil ?_
    | refine Gd.nil ?_
    | (refine Holds.any mixed ?_ ?_; (· kernel_rfl))
    | (refine GS.step (s' := ?_) ?_ ?_ ?_; rotate_left; (· exact rfl); (· (simp [go_sem, List.take_of_length_le] <;> with_reducible rfl)))
    | (refine GS.skip ?_ ?_ ?_; (· exact rfl); (· exact rfl))
    | (refine Gd.go (s' := ?_) ?_ ?_ ?_; rotate_left; (· exact rfl); (· (simp [go_sem, List.take_of_length_le] <;> with_reducible rfl)))
    | (refine Gd.skip ?_ ?_ ?_; (· exact rfl); (· exact rfl))
    | fail
  first | refine GS.cc (czm) rfl rfl rfl rfl (by simp [go_sem, List.take_of_length_le, machineC, grammarC] <;> with_reducible rfl) rfl (by simp [go_sem, List.take_of_length_le, machineC, grammarC]) ?_ | refine Gd.cc (czm) rfl rfl rfl rfl (by simp [go_sem, List.take_of_length_le, machineC, grammarC] <;> with_reducible rfl) rfl (by simp [go_sem, List.take_of_length_le, machineC, grammarC]) ?_
  repeat' first
    | refine Holds.seq ?_
    | refine Holds.skip ?_
    | refine Holds.exit ?_
    | refine Holds.ret ?_
    | refine thenA_normal ?_
    | refine thenA_exit ?_
    | refine thenA_ret ?_
    | refine inB_normal ?_
    | refine inB_ret ?_
    | refine inB_here ?_
    | (refine inB_past ?_ ?_; (· exact rfl))
    | refine Holds.reg ?_
    | refine Holds.block ?_
    | refine GS.nil ?_
    | refine Gd.nil ?_
    | (refine Holds.any mixed ?_ ?_; (· kernel_rfl))
    | (refine GS.step (s' := ?_) ?_ ?_ ?_; rotate_left; (· exact rfl); (· (simp [go_sem, List.take_of_length_le] <;> with_reducible rfl)))
    | (refine GS.skip ?_ ?_ ?_; (· exact rfl); (· exact rfl))
    | (refine Gd.go (s' := ?_) ?_ ?_ ?_; rotate_left; (· exact rfl); (· (simp [go_sem, List.take_of_length_le] <;> with_reducible rfl)))
    | (refine Gd.skip ?_ ?_ ?_; (· exact rfl); (· exact rfl))
    | fail
  refine Holds.cond rfl (fun h => ?_) (fun h => ?_)
  · repeat' first
      | refine Holds.seq ?_
      | refine Holds.skip ?_
      | refine Holds.exit ?_
      | refine Holds.ret ?_
      | refine thenA_normal ?_
      | refine thenA_exit ?_
      | refine thenA_ret ?_
      | refine inB_normal ?_
      | refine inB_ret ?_
      | refine inB_here ?_
      | (refine inB_past ?_ ?_; (· exact rfl))
      | refine Holds.reg ?_
      | refine Holds.block ?_
      | refine GS.nil ?_
      | refine Gd.nil ?_
      | (refine Holds.any mixed ?_ ?_; (· kernel_rfl))
      | (refine GS.step (s' := ?_) ?_ ?_ ?_; rotate_left; (· exact rfl); (· (simp [go_sem, List.take_of_length_le] <;> with_reducible rfl)))
      | (refine GS.skip ?_ ?_ ?_; (· exact rfl); (· exact rfl))
      | (refine Gd.go (s' := ?_) ?_ ?_ ?_; rotate_left; (· exact rfl); (· (simp [go_sem, List.take_of_length_le] <;> with_reducible rfl)))
      | (refine Gd.skip ?_ ?_ ?_; (· exact rfl); (· exact rfl))
      | fail
    refine Out.mk (xs := ?_) ?_ ?_ (by first | exact .inr rfl | exact .inl rfl)
    rotate_left
    · simp [go_sem, List.take_of_length_le] <;> with_reducible rfl
    exact .v _
  have hqm := szMach_wt (show 0 ≤ szMachF (1048576) m by simp at h; omega)
  have p1 := specGF m (by omega) hsm' (by omega)
  have p2 := implGF m (by omega) hsm' (by omega)
  try simp only [decide_true] at cem
  have hv := gfV_len m
  generalize gfV m = v at p1 p2 hv
  have p3 := p2.pure (r' := .tu [.ag (grammarC v.1), .v (.bool v.2)]) (Fz.tuL (.cons (Fz.agL (.cons (.v _) (.cons (.v _) (.cons (fz_rulesO _ rfl rfl) .nil)))) (.cons (.v _) .nil)))
  repeat' first
    | refine Holds.seq ?_
    | refine Holds.skip ?_
    | refine Holds.exit ?_
    | refine Holds.ret ?_
    | refine thenA_normal ?_
    | refine thenA_exit ?_
    | refine thenA_ret ?_
    | refine inB_normal ?_
    | refine inB_ret ?_
    | refine inB_here ?_
    | (refine inB_past ?_ ?_; (· exact rfl))
    | refine Holds.reg ?_
    | refine Holds.block ?_
    | refine GS.nil ?_
    | refine Gd.nil ?_
    | (refine Holds.any mixed ?_ ?_; (· kernel_rfl))
    | (refine GS.step (s' := ?_) ?_ ?_ ?_; rotate_left; (· exact rfl); (· (simp [go_sem, List.take_of_length_le, machineC, grammarC] <;> with_reducible rfl)))
    | (refine GS.skip ?_ ?_ ?_; (· exact rfl); (· exact rfl))
    | (refine Gd.go (s' := ?_) ?_ ?_ ?_; rotate_left; (· exact rfl); (· (simp [go_sem, List.take_of_length_le, machineC, grammarC] <;> with_reducible rfl)))
    | (refine Gd.skip ?_ ?_ ?_; (· exact rfl); (· exact rfl))
    | fail
  first | refine GS.cc (ctm) rfl rfl rfl rfl (by simp [go_sem, List.take_of_length_le, machineC, grammarC] <;> with_reducible rfl) rfl (by simp [go_sem, List.take_of_length_le, machineC, grammarC]) ?_ | refine Gd.cc (ctm) rfl rfl rfl rfl (by simp [go_sem, List.take_of_length_le, machineC, grammarC] <;> with_reducible rfl) rfl (by simp [go_sem, List.take_of_length_le, machineC, grammarC]) ?_
  repeat' first
    | refine Holds.seq ?_
    | refine Holds.skip ?_
    | refine Holds.exit ?_
    | refine Holds.ret ?_
    | refine thenA_normal ?_
    | refine thenA_exit ?_
    | refine thenA_ret ?_
    | refine inB_normal ?_
    | refine inB_ret ?_
    | refine inB_here ?_
    | (refine inB_past ?_ ?_; (· exact rfl))
    | refine Holds.reg ?_
    | refine Holds.block ?_
    | refine GS.nil ?_
    | refine Gd.nil ?_
    | (refine Holds.any mixed ?_ ?_; (· kernel_rfl))
    | (refine GS.step (s' := ?_) ?_ ?_ ?_; rotate_left; (· exact rfl); (· (simp [go_sem, List.take_of_length_le, machineC, grammarC] <;> with_reducible rfl)))
    | (refine GS.skip ?_ ?_ ?_; (· exact rfl); (· exact rfl))
    | (refine Gd.go (s' := ?_) ?_ ?_ ?_; rotate_left; (· exact rfl); (· (simp [go_sem, List.take_of_length_le, machineC, grammarC] <;> with_reducible rfl)))
    | (refine Gd.skip ?_ ?_ ?_; (· exact rfl); (· exact rfl))
    | fail
  first | refine GS.cc (p1) rfl rfl rfl rfl (by simp [go_sem, List.take_of_length_le, machineC, grammarC] <;> with_reducible rfl) rfl (by simp [go_sem, List.take_of_length_le, machineC, grammarC]) ?_ | refine Gd.cc (p1) rfl rfl rfl rfl (by simp [go_sem, List.take_of_length_le, machineC, grammarC] <;> with_reducible rfl) rfl (by simp [go_sem, List.take_of_length_le, machineC, grammarC]) ?_
  repeat' first
    | refine Holds.seq ?_
    | refine Holds.skip ?_
    | refine Holds.exit ?_
    | refine Holds.ret ?_
    | refine thenA_normal ?_
    | refine thenA_exit ?_
    | refine thenA_ret ?_
    | refine inB_normal ?_
    | refine inB_ret ?_
    | refine inB_here ?_
    | (refine inB_past ?_ ?_; (· exact rfl))
    | refine Holds.reg ?_
    | refine Holds.block ?_
    | refine GS.nil ?_
    | refine Gd.nil ?_
    | (refine Holds.any mixed ?_ ?_; (· kernel_rfl))
    | (refine GS.step (s' := ?_) ?_ ?_ ?_; rotate_left; (· exact rfl); (· (simp [go_sem, List.take_of_length_le, machineC, grammarC] <;> with_reducible rfl)))
    | (refine GS.skip ?_ ?_ ?_; (· exact rfl); (· exact rfl))
    | (refine Gd.go (s' := ?_) ?_ ?_ ?_; rotate_left; (· exact rfl); (· (simp [go_sem, List.take_of_length_le, machineC, grammarC] <;> with_reducible rfl)))
    | (refine Gd.skip ?_ ?_ ?_; (· exact rfl); (· exact rfl))
    | fail
  refine GS.fnn [] (com) rfl rfl rfl rfl (by simp [go_sem, List.take_of_length_le, ren, ren1, ren2, okr, okr1, okr2, ChkN, BlkN, List.range_succ, nf, machineC, grammarC] <;> with_reducible rfl) (by simp [go_sem, List.take_of_length_le, ren, ren1, ren2, okr, okr1, okr2, ChkN, BlkN, List.range_succ, nf, machineC, grammarC]) (by simp [go_sem, List.take_of_length_le, ren, ren1, ren2, okr, okr1, okr2, ChkN, BlkN, List.range_succ, nf, machineC, grammarC]) (by simp [List.range_succ, lb]) (ChkN.toB (by simp [go_sem, List.take_of_length_le, ren, ren1, ren2, okr, okr1, okr2, ChkN, BlkN, List.range_succ, nf, machineC, grammarC])) (by decide) (by simp) rfl (.nfr (by simp) (.nfr (by simp) .nil)) (by simp [go_sem, List.take_of_length_le, ren, ren1, ren2, okr, okr1, okr2, ChkN, BlkN, List.range_succ, nf, machineC, grammarC] <;> with_reducible rfl) ?_
  repeat' first
    | refine Holds.seq ?_
    | refine Holds.skip ?_
    | refine Holds.exit ?_
    | refine Holds.ret ?_
    | refine thenA_normal ?_
    | refine thenA_exit ?_
    | refine thenA_ret ?_
    | refine inB_normal ?_
    | refine inB_ret ?_
    | refine inB_here ?_
    | (refine inB_past ?_ ?_; (· exact rfl))
    | refine Holds.reg ?_
    | refine Holds.block ?_
    | refine GS.nil ?_
    | refine Gd.nil ?_
    | (refine Holds.any mixed ?_ ?_; (· kernel_rfl))
    | (refine GS.step (s' := ?_) ?_ ?_ ?_; rotate_left; (· exact rfl); (· (simp [go_sem, List.take_of_length_le, machineC, grammarC] <;> with_reducible rfl)))
    | (refine GS.skip ?_ ?_ ?_; (· exact rfl); (· exact rfl))
    | (refine Gd.go (s' := ?_) ?_ ?_ ?_; rotate_left; (· exact rfl); (· (simp [go_sem, List.take_of_length_le, machineC, grammarC] <;> with_reducible rfl)))
    | (refine Gd.skip ?_ ?_ ?_; (· exact rfl); (· exact rfl))
    | fail
  refine GS.fnnd (p2) rfl rfl rfl rfl (by simp [go_sem, List.take_of_length_le, ren, ren1, ren2, okr, okr1, okr2, List.range_succ, nf, machineC, grammarC] <;> with_reducible rfl) (by exact (.cons (Fz.agL (.cons (.v _) (.cons (.v _) (.cons (fz_intssO _ rfl rfl) (.cons (Fz.all rfl rfl (by simp) rfl (ints_cl _)) .nil))))) .nil)) (by simp) (by simp [go_sem, List.take_of_length_le, ren, ren1, ren2, okr, okr1, okr2, List.range_succ, nf, machineC, grammarC]) (by simp [go_sem, List.take_of_length_le, ren, ren1, ren2, okr, okr1, okr2, List.range_succ, nf, machineC, grammarC]) rfl (.nfr (by simp) (.nil)) (by simp [go_sem, List.take_of_length_le, ren, ren1, ren2, okr, okr1, okr2, List.range_succ, nf, machineC, grammarC] <;> with_reducible rfl) ?_
  have ceq := eqGrammar v.1 v.1 (by omega) (fun e he => by have := hv.2.2 e he; omega)
  try simp only [decide_true] at ceq
  repeat' first
    | refine Holds.seq ?_
    | refine Holds.skip ?_
    | refine Holds.exit ?_
    | refine Holds.ret ?_
    | refine thenA_normal ?_
    | refine thenA_exit ?_
    | refine thenA_ret ?_
    | refine inB_normal ?_
    | refine inB_ret ?_
    | refine inB_here ?_
    | (refine inB_past ?_ ?_; (· exact rfl))
    | refine Holds.reg ?_
    | refine Holds.block ?_
    | refine GS.nil ?_
    | refine Gd.nil ?_
    | (refine Holds.any mixed ?_ ?_; (· kernel_rfl))
    | (refine GS.step (s' := ?_) ?_ ?_ ?_; rotate_left; (· exact rfl); (· (simp [go_sem, List.take_of_length_le, grammarC] <;> with_reducible rfl)))
    | (refine GS.skip ?_ ?_ ?_; (· exact rfl); (· exact rfl))
    | (refine Gd.go (s' := ?_) ?_ ?_ ?_; rotate_left; (· exact rfl); (· (simp [go_sem, List.take_of_length_le, grammarC] <;> with_reducible rfl)))
    | (refine Gd.skip ?_ ?_ ?_; (· exact rfl); (· exact rfl))
    | fail
  first | refine GS.cd (ceq) rfl rfl rfl rfl (by simp [go_sem, List.take_of_length_le, grammarC] <;> with_reducible rfl) rfl (by exact (.cons (Fz.agL (.cons (.v _) (.cons (.v _) (.cons (fz_rulesO _ rfl rfl) .nil)))) (.cons (Fz.cl rfl) .nil))) rfl ?_ | refine Gd.cd (ceq) rfl rfl rfl rfl (by simp [go_sem, List.take_of_length_le, grammarC] <;> with_reducible rfl) rfl (by exact (.cons (Fz.agL (.cons (.v _) (.cons (.v _) (.cons (fz_rulesO _ rfl rfl) .nil)))) (.cons (Fz.cl rfl) .nil))) rfl ?_
  clear ceq
  repeat' first
    | refine Holds.seq ?_
    | refine Holds.skip ?_
    | refine Holds.exit ?_
    | refine Holds.ret ?_
    | refine thenA_normal ?_
    | refine thenA_exit ?_
    | refine thenA_ret ?_
    | refine inB_normal ?_
    | refine inB_ret ?_
    | refine inB_here ?_
    | (refine inB_past ?_ ?_; (· exact rfl))
    | refine Holds.reg ?_
    | refine Holds.block ?_
    | refine GS.nil ?_
    | refine Gd.nil ?_
    | (refine Holds.any mixed ?_ ?_; (· kernel_rfl))
    | (refine GS.step (s' := ?_) ?_ ?_ ?_; rotate_left; (· exact rfl); (· (simp [go_sem, List.take_of_length_le, grammarC] <;> with_reducible rfl)))
    | (refine GS.skip ?_ ?_ ?_; (· exact rfl); (· exact rfl))
    | (refine Gd.go (s' := ?_) ?_ ?_ ?_; rotate_left; (· exact rfl); (· (simp [go_sem, List.take_of_length_le, grammarC] <;> with_reducible rfl)))
    | (refine Gd.skip ?_ ?_ ?_; (· exact rfl); (· exact rfl))
    | fail
  refine Holds.cond rfl (fun h => ?_) (fun h => ?_)
  · cases h
  repeat' first
    | refine Holds.seq ?_
    | refine Holds.skip ?_
    | refine Holds.exit ?_
    | refine Holds.ret ?_
    | refine thenA_normal ?_
    | refine thenA_exit ?_
    | refine thenA_ret ?_
    | refine inB_normal ?_
    | refine inB_ret ?_
    | refine inB_here ?_
    | (refine inB_past ?_ ?_; (· exact rfl))
    | refine Holds.reg ?_
    | refine Holds.block ?_
    | refine GS.nil ?_
    | refine Gd.nil ?_
    | (refine Holds.any mixed ?_ ?_; (· kernel_rfl))
    | (refine GS.step (s' := ?_) ?_ ?_ ?_; rotate_left; (· exact rfl); (· (simp [go_sem, List.take_of_length_le] <;> with_reducible rfl)))
    | (refine GS.skip ?_ ?_ ?_; (· exact rfl); (· exact rfl))
    | (refine Gd.go (s' := ?_) ?_ ?_ ?_; rotate_left; (· exact rfl); (· (simp [go_sem, List.take_of_length_le] <;> with_reducible rfl)))
    | (refine Gd.skip ?_ ?_ ?_; (· exact rfl); (· exact rfl))
    | fail
  first | refine GS.cc (ctm) rfl rfl rfl rfl (by simp [go_sem, List.take_of_length_le, machineC, grammarC] <;> with_reducible rfl) rfl (by simp [go_sem, List.take_of_length_le, machineC, grammarC]) ?_ | refine Gd.cc (ctm) rfl rfl rfl rfl (by simp [go_sem, List.take_of_length_le, machineC, grammarC] <;> with_reducible rfl) rfl (by simp [go_sem, List.take_of_length_le, machineC, grammarC]) ?_
  repeat' first
    | refine Holds.seq ?_
    | refine Holds.skip ?_
    | refine Holds.exit ?_
    | refine Holds.ret ?_
    | refine thenA_normal ?_
    | refine thenA_exit ?_
    | refine thenA_ret ?_
    | refine inB_normal ?_
    | refine inB_ret ?_
    | refine inB_here ?_
    | (refine inB_past ?_ ?_; (· exact rfl))
    | refine Holds.reg ?_
    | refine Holds.block ?_
    | refine GS.nil ?_
    | refine Gd.nil ?_
    | (refine Holds.any mixed ?_ ?_; (· kernel_rfl))
    | (refine GS.step (s' := ?_) ?_ ?_ ?_; rotate_left; (· exact rfl); (· (simp [go_sem, List.take_of_length_le, machineC, grammarC] <;> with_reducible rfl)))
    | (refine GS.skip ?_ ?_ ?_; (· exact rfl); (· exact rfl))
    | (refine Gd.go (s' := ?_) ?_ ?_ ?_; rotate_left; (· exact rfl); (· (simp [go_sem, List.take_of_length_le, machineC, grammarC] <;> with_reducible rfl)))
    | (refine Gd.skip ?_ ?_ ?_; (· exact rfl); (· exact rfl))
    | fail
  first | refine GS.cd (cem) rfl rfl rfl rfl (by simp [go_sem, List.take_of_length_le, machineC, grammarC] <;> with_reducible rfl) rfl (by exact (.cons (Fz.agL (.cons (.v _) (.cons (.v _) (.cons (fz_intssO _ rfl rfl) (.cons (Fz.all rfl rfl (by simp) rfl (ints_cl _)) .nil))))) (.cons (Fz.cl rfl) .nil))) rfl ?_ | refine Gd.cd (cem) rfl rfl rfl rfl (by simp [go_sem, List.take_of_length_le, machineC, grammarC] <;> with_reducible rfl) rfl (by exact (.cons (Fz.agL (.cons (.v _) (.cons (.v _) (.cons (fz_intssO _ rfl rfl) (.cons (Fz.all rfl rfl (by simp) rfl (ints_cl _)) .nil))))) (.cons (Fz.cl rfl) .nil))) rfl ?_
  repeat' first
    | refine Holds.seq ?_
    | refine Holds.skip ?_
    | refine Holds.exit ?_
    | refine Holds.ret ?_
    | refine thenA_normal ?_
    | refine thenA_exit ?_
    | refine thenA_ret ?_
    | refine inB_normal ?_
    | refine inB_ret ?_
    | refine inB_here ?_
    | (refine inB_past ?_ ?_; (· exact rfl))
    | refine Holds.reg ?_
    | refine Holds.block ?_
    | refine GS.nil ?_
    | refine Gd.nil ?_
    | (refine Holds.any mixed ?_ ?_; (· kernel_rfl))
    | (refine GS.step (s' := ?_) ?_ ?_ ?_; rotate_left; (· exact rfl); (· (simp [go_sem, List.take_of_length_le] <;> with_reducible rfl)))
    | (refine GS.skip ?_ ?_ ?_; (· exact rfl); (· exact rfl))
    | (refine Gd.go (s' := ?_) ?_ ?_ ?_; rotate_left; (· exact rfl); (· (simp [go_sem, List.take_of_length_le] <;> with_reducible rfl)))
    | (refine Gd.skip ?_ ?_ ?_; (· exact rfl); (· exact rfl))
    | fail
  refine Holds.cond rfl (fun h => ?_) (fun h => ?_)
  · cases h
  have cmm := markMachine m ((1 : Int)) (by omega) (by omega) (by omega)
  repeat' first
    | refine Holds.seq ?_
    | refine Holds.skip ?_
    | refine Holds.exit ?_
    | refine Holds.ret ?_
    | refine thenA_normal ?_
    | refine thenA_exit ?_
    | refine thenA_ret ?_
    | refine inB_normal ?_
    | refine inB_ret ?_
    | refine inB_here ?_
    | (refine inB_past ?_ ?_; (· exact rfl))
    | refine Holds.reg ?_
    | refine Holds.block ?_
    | refine GS.nil ?_
    | refine Gd.nil ?_
    | (refine Holds.any mixed ?_ ?_; (· kernel_rfl))
    | (refine GS.step (s' := ?_) ?_ ?_ ?_; rotate_left; (· exact rfl); (· (simp [go_sem, List.take_of_length_le] <;> with_reducible rfl)))
    | (refine GS.skip ?_ ?_ ?_; (· exact rfl); (· exact rfl))
    | (refine Gd.go (s' := ?_) ?_ ?_ ?_; rotate_left; (· exact rfl); (· (simp [go_sem, List.take_of_length_le] <;> with_reducible rfl)))
    | (refine Gd.skip ?_ ?_ ?_; (· exact rfl); (· exact rfl))
    | fail
  refine GS.fnn [2, 3] (cmm) rfl rfl rfl rfl (by simp [go_sem, List.take_of_length_le, ren, ren1, ren2, okr, okr1, okr2, ChkN, BlkN, List.range_succ, nf] <;> with_reducible rfl) (by simp [go_sem, List.take_of_length_le, ren, ren1, ren2, okr, okr1, okr2, ChkN, BlkN, List.range_succ, nf]) (by simp [go_sem, List.take_of_length_le, ren, ren1, ren2, okr, okr1, okr2, ChkN, BlkN, List.range_succ, nf]) (by simp [List.range_succ, lb]) (ChkN.toB (by simp [go_sem, List.take_of_length_le, ren, ren1, ren2, okr, okr1, okr2, ChkN, BlkN, List.range_succ, nf])) (by decide) (by simp) rfl (.nfr (by simp) (.nfr (by simp) (.nil))) (by simp [go_sem, List.take_of_length_le, ren, ren1, ren2, okr, okr1, okr2, ChkN, BlkN, List.range_succ, nf] <;> with_reducible rfl) ?_
  have hk0 : ¬ ((1 : Int) + (wMachine m : Nat) < 0) := by omega
  have ceq := eqGrammar v.1 v.1 (by omega) (fun e he => by have := hv.2.2 e he; omega)
  try simp only [decide_true] at ceq
  repeat' first
    | refine Holds.seq ?_
    | refine Holds.skip ?_
    | refine Holds.exit ?_
    | refine Holds.ret ?_
    | refine thenA_normal ?_
    | refine thenA_exit ?_
    | refine thenA_ret ?_
    | refine inB_normal ?_
    | refine inB_ret ?_
    | refine inB_here ?_
    | (refine inB_past ?_ ?_; (· exact rfl))
    | refine Holds.reg ?_
    | refine Holds.block ?_
    | refine GS.nil ?_
    | refine Gd.nil ?_
    | (refine Holds.any mixed ?_ ?_; (· kernel_rfl))
    | (refine GS.step (s' := ?_) ?_ ?_ ?_; rotate_left; (· exact rfl); (· (simp [go_sem, List.take_of_length_le, hk0, grammarC] <;> with_reducible rfl)))
    | (refine GS.skip ?_ ?_ ?_; (· exact rfl); (· exact rfl))
    | (refine Gd.go (s' := ?_) ?_ ?_ ?_; rotate_left; (· exact rfl); (· (simp [go_sem, List.take_of_length_le, hk0, grammarC] <;> with_reducible rfl)))
    | (refine Gd.skip ?_ ?_ ?_; (· exact rfl); (· exact rfl))
    | fail
  first | refine GS.cd (ceq) rfl rfl rfl rfl (by simp [go_sem, List.take_of_length_le, hk0, grammarC] <;> with_reducible rfl) rfl (by exact (.cons (Fz.agL (.cons (.v _) (.cons (.v _) (.cons (fz_rulesO _ rfl rfl) .nil)))) (.cons (Fz.cl rfl) .nil))) rfl ?_ | refine Gd.cd (ceq) rfl rfl rfl rfl (by simp [go_sem, List.take_of_length_le, hk0, grammarC] <;> with_reducible rfl) rfl (by exact (.cons (Fz.agL (.cons (.v _) (.cons (.v _) (.cons (fz_rulesO _ rfl rfl) .nil)))) (.cons (Fz.cl rfl) .nil))) rfl ?_
  clear ceq
  repeat' first
    | refine Holds.seq ?_
    | refine Holds.skip ?_
    | refine Holds.exit ?_
    | refine Holds.ret ?_
    | refine thenA_normal ?_
    | refine thenA_exit ?_
    | refine thenA_ret ?_
    | refine inB_normal ?_
    | refine inB_ret ?_
    | refine inB_here ?_
    | (refine inB_past ?_ ?_; (· exact rfl))
    | refine Holds.reg ?_
    | refine Holds.block ?_
    | refine GS.nil ?_
    | refine Gd.nil ?_
    | (refine Holds.any mixed ?_ ?_; (· kernel_rfl))
    | (refine GS.step (s' := ?_) ?_ ?_ ?_; rotate_left; (· exact rfl); (· (simp [go_sem, List.take_of_length_le, hk0, grammarC] <;> with_reducible rfl)))
    | (refine GS.skip ?_ ?_ ?_; (· exact rfl); (· exact rfl))
    | (refine Gd.go (s' := ?_) ?_ ?_ ?_; rotate_left; (· exact rfl); (· (simp [go_sem, List.take_of_length_le, hk0, grammarC] <;> with_reducible rfl)))
    | (refine Gd.skip ?_ ?_ ?_; (· exact rfl); (· exact rfl))
    | fail
  refine Holds.cond rfl (fun h => ?_) (fun h => ?_)
  · cases h
  have cm := markGrammar v.1 ((1 : Int)) (by omega) (by omega) (by omega)
  have ch5 := heldGrammar v.1 ((1 : Int)) (by omega) (by omega) (by omega)
  try simp only [wtL_w1] at cm ch5
  repeat' first
    | refine Holds.seq ?_
    | refine Holds.skip ?_
    | refine Holds.exit ?_
    | refine Holds.ret ?_
    | refine thenA_normal ?_
    | refine thenA_exit ?_
    | refine thenA_ret ?_
    | refine inB_normal ?_
    | refine inB_ret ?_
    | refine inB_here ?_
    | (refine inB_past ?_ ?_; (· exact rfl))
    | refine Holds.reg ?_
    | refine Holds.block ?_
    | refine GS.nil ?_
    | refine Gd.nil ?_
    | (refine Holds.any mixed ?_ ?_; (· kernel_rfl))
    | (refine GS.step (s' := ?_) ?_ ?_ ?_; rotate_left; (· exact rfl); (· (simp [go_sem, List.take_of_length_le] <;> with_reducible rfl)))
    | (refine GS.skip ?_ ?_ ?_; (· exact rfl); (· exact rfl))
    | (refine Gd.go (s' := ?_) ?_ ?_ ?_; rotate_left; (· exact rfl); (· (simp [go_sem, List.take_of_length_le] <;> with_reducible rfl)))
    | (refine Gd.skip ?_ ?_ ?_; (· exact rfl); (· exact rfl))
    | fail
  refine GS.fnn [5] (cm) rfl rfl rfl rfl (by simp [go_sem, List.take_of_length_le, ren, ren1, ren2, okr, okr1, okr2, ChkN, BlkN, List.range_succ, nf] <;> with_reducible rfl) (by simp [go_sem, List.take_of_length_le, ren, ren1, ren2, okr, okr1, okr2, ChkN, BlkN, List.range_succ, nf]) (by simp [go_sem, List.take_of_length_le, ren, ren1, ren2, okr, okr1, okr2, ChkN, BlkN, List.range_succ, nf]) (by simp [List.range_succ, lb]) (ChkN.toB (by simp [go_sem, List.take_of_length_le, ren, ren1, ren2, okr, okr1, okr2, ChkN, BlkN, List.range_succ, nf])) (by decide) (by simp) rfl (.nfr (by simp) .nil) (by simp [go_sem, List.take_of_length_le, ren, ren1, ren2, okr, okr1, okr2, ChkN, BlkN, List.range_succ, nf] <;> with_reducible rfl) ?_
  clear cm
  repeat' first
    | refine Holds.seq ?_
    | refine Holds.skip ?_
    | refine Holds.exit ?_
    | refine Holds.ret ?_
    | refine thenA_normal ?_
    | refine thenA_exit ?_
    | refine thenA_ret ?_
    | refine inB_normal ?_
    | refine inB_ret ?_
    | refine inB_here ?_
    | (refine inB_past ?_ ?_; (· exact rfl))
    | refine Holds.reg ?_
    | refine Holds.block ?_
    | refine GS.nil ?_
    | refine Gd.nil ?_
    | (refine Holds.any mixed ?_ ?_; (· kernel_rfl))
    | (refine GS.step (s' := ?_) ?_ ?_ ?_; rotate_left; (· exact rfl); (· (simp [go_sem, List.take_of_length_le] <;> with_reducible rfl)))
    | (refine GS.skip ?_ ?_ ?_; (· exact rfl); (· exact rfl))
    | (refine Gd.go (s' := ?_) ?_ ?_ ?_; rotate_left; (· exact rfl); (· (simp [go_sem, List.take_of_length_le] <;> with_reducible rfl)))
    | (refine Gd.skip ?_ ?_ ?_; (· exact rfl); (· exact rfl))
    | fail
  first | refine GS.cd (ch5) rfl rfl rfl rfl (by simp [go_sem, List.take_of_length_le] <;> with_reducible rfl) rfl (by exact (.cons (Fz.agL (.cons (.v _) (.cons (.v _) (.cons (fz_rulesO _ rfl (by simp [mGrammar])) .nil)))) (.cons (.v _) .nil))) rfl ?_ | refine Gd.cd (ch5) rfl rfl rfl rfl (by simp [go_sem, List.take_of_length_le] <;> with_reducible rfl) rfl (by exact (.cons (Fz.agL (.cons (.v _) (.cons (.v _) (.cons (fz_rulesO _ rfl (by simp [mGrammar])) .nil)))) (.cons (.v _) .nil))) rfl ?_
  have hk5 : ¬ ((1 : Int) + (wGrammar v.1 : Nat) < 0) := by omega
  repeat' first
    | refine Holds.seq ?_
    | refine Holds.skip ?_
    | refine Holds.exit ?_
    | refine Holds.ret ?_
    | refine thenA_normal ?_
    | refine thenA_exit ?_
    | refine thenA_ret ?_
    | refine inB_normal ?_
    | refine inB_ret ?_
    | refine inB_here ?_
    | (refine inB_past ?_ ?_; (· exact rfl))
    | refine Holds.reg ?_
    | refine Holds.block ?_
    | refine GS.nil ?_
    | refine Gd.nil ?_
    | (refine Holds.any mixed ?_ ?_; (· kernel_rfl))
    | (refine GS.step (s' := ?_) ?_ ?_ ?_; rotate_left; (· exact rfl); (· (simp [go_sem, List.take_of_length_le, hk5] <;> with_reducible rfl)))
    | (refine GS.skip ?_ ?_ ?_; (· exact rfl); (· exact rfl))
    | (refine Gd.go (s' := ?_) ?_ ?_ ?_; rotate_left; (· exact rfl); (· (simp [go_sem, List.take_of_length_le, hk5] <;> with_reducible rfl)))
    | (refine Gd.skip ?_ ?_ ?_; (· exact rfl); (· exact rfl))
    | fail
  refine Holds.cond rfl (fun h => ?_) (fun h => ?_)
  · cases h
  repeat' first
    | refine Holds.seq ?_
    | refine Holds.skip ?_
    | refine Holds.exit ?_
    | refine Holds.ret ?_
    | refine thenA_normal ?_
    | refine thenA_exit ?_
    | refine thenA_ret ?_
    | refine inB_normal ?_
    | refine inB_ret ?_
    | refine inB_here ?_
    | (refine inB_past ?_ ?_; (· exact rfl))
    | refine Holds.reg ?_
    | refine Holds.block ?_
    | refine GS.nil ?_
    | refine Gd.nil ?_
    | (refine Holds.any mixed ?_ ?_; (· kernel_rfl))
    | (refine GS.step (s' := ?_) ?_ ?_ ?_; rotate_left; (· exact rfl); (· (simp [go_sem, List.take_of_length_le] <;> with_reducible rfl)))
    | (refine GS.skip ?_ ?_ ?_; (· exact rfl); (· exact rfl))
    | (refine Gd.go (s' := ?_) ?_ ?_ ?_; rotate_left; (· exact rfl); (· (simp [go_sem, List.take_of_length_le] <;> with_reducible rfl)))
    | (refine Gd.skip ?_ ?_ ?_; (· exact rfl); (· exact rfl))
    | fail
  refine Holds.cond rfl (fun h => ?_) (fun h => ?_)
  · cases h
  repeat' first
    | refine Holds.seq ?_
    | refine Holds.skip ?_
    | refine Holds.exit ?_
    | refine Holds.ret ?_
    | refine thenA_normal ?_
    | refine thenA_exit ?_
    | refine thenA_ret ?_
    | refine inB_normal ?_
    | refine inB_ret ?_
    | refine inB_here ?_
    | (refine inB_past ?_ ?_; (· exact rfl))
    | refine Holds.reg ?_
    | refine Holds.block ?_
    | refine GS.nil ?_
    | refine Gd.nil ?_
    | (refine Holds.any mixed ?_ ?_; (· kernel_rfl))
    | (refine GS.step (s' := ?_) ?_ ?_ ?_; rotate_left; (· exact rfl); (· (simp [go_sem, List.take_of_length_le, machineC, grammarC] <;> with_reducible rfl)))
    | (refine GS.skip ?_ ?_ ?_; (· exact rfl); (· exact rfl))
    | (refine Gd.go (s' := ?_) ?_ ?_ ?_; rotate_left; (· exact rfl); (· (simp [go_sem, List.take_of_length_le, machineC, grammarC] <;> with_reducible rfl)))
    | (refine Gd.skip ?_ ?_ ?_; (· exact rfl); (· exact rfl))
    | fail
  first | refine GS.cc (ctm) rfl rfl rfl rfl (by simp [go_sem, List.take_of_length_le, machineC, grammarC] <;> with_reducible rfl) rfl (by simp [go_sem, List.take_of_length_le, machineC, grammarC]) ?_ | refine Gd.cc (ctm) rfl rfl rfl rfl (by simp [go_sem, List.take_of_length_le, machineC, grammarC] <;> with_reducible rfl) rfl (by simp [go_sem, List.take_of_length_le, machineC, grammarC]) ?_
  repeat' first
    | refine Holds.seq ?_
    | refine Holds.skip ?_
    | refine Holds.exit ?_
    | refine Holds.ret ?_
    | refine thenA_normal ?_
    | refine thenA_exit ?_
    | refine thenA_ret ?_
    | refine inB_normal ?_
    | refine inB_ret ?_
    | refine inB_here ?_
    | (refine inB_past ?_ ?_; (· exact rfl))
    | refine Holds.reg ?_
    | refine Holds.block ?_
    | refine GS.nil ?_
    | refine Gd.nil ?_
    | (refine Holds.any mixed ?_ ?_; (· kernel_rfl))
    | (refine GS.step (s' := ?_) ?_ ?_ ?_; rotate_left; (· exact rfl); (· (simp [go_sem, List.take_of_length_le, machineC, grammarC] <;> with_reducible rfl)))
    | (refine GS.skip ?_ ?_ ?_; (· exact rfl); (· exact rfl))
    | (refine Gd.go (s' := ?_) ?_ ?_ ?_; rotate_left; (· exact rfl); (· (simp [go_sem, List.take_of_length_le, machineC, grammarC] <;> with_reducible rfl)))
    | (refine Gd.skip ?_ ?_ ?_; (· exact rfl); (· exact rfl))
    | fail
  first | refine GS.cc (p3) rfl rfl rfl rfl (by simp [go_sem, List.take_of_length_le, machineC, grammarC] <;> with_reducible rfl) rfl (by simp [go_sem, List.take_of_length_le, machineC, grammarC]) ?_ | refine Gd.cc (p3) rfl rfl rfl rfl (by simp [go_sem, List.take_of_length_le, machineC, grammarC] <;> with_reducible rfl) rfl (by simp [go_sem, List.take_of_length_le, machineC, grammarC]) ?_
  have ceq := eqGrammar v.1 v.1 (by omega) (fun e he => by have := hv.2.2 e he; omega)
  try simp only [decide_true] at ceq
  repeat' first
    | refine Holds.seq ?_
    | refine Holds.skip ?_
    | refine Holds.exit ?_
    | refine Holds.ret ?_
    | refine thenA_normal ?_
    | refine thenA_exit ?_
    | refine thenA_ret ?_
    | refine inB_normal ?_
    | refine inB_ret ?_
    | refine inB_here ?_
    | (refine inB_past ?_ ?_; (· exact rfl))
    | refine Holds.reg ?_
    | refine Holds.block ?_
    | refine GS.nil ?_
    | refine Gd.nil ?_
    | (refine Holds.any mixed ?_ ?_; (· kernel_rfl))
    | (refine GS.step (s' := ?_) ?_ ?_ ?_; rotate_left; (· exact rfl); (· (simp [go_sem, List.take_of_length_le, grammarC] <;> with_reducible rfl)))
    | (refine GS.skip ?_ ?_ ?_; (· exact rfl); (· exact rfl))
    | (refine Gd.go (s' := ?_) ?_ ?_ ?_; rotate_left; (· exact rfl); (· (simp [go_sem, List.take_of_length_le, grammarC] <;> with_reducible rfl)))
    | (refine Gd.skip ?_ ?_ ?_; (· exact rfl); (· exact rfl))
    | fail
  first | refine GS.cc (ceq) rfl rfl rfl rfl (by simp [go_sem, List.take_of_length_le, grammarC] <;> with_reducible rfl) rfl (by simp [go_sem, List.take_of_length_le, grammarC]) ?_ | refine Gd.cc (ceq) rfl rfl rfl rfl (by simp [go_sem, List.take_of_length_le, grammarC] <;> with_reducible rfl) rfl (by simp [go_sem, List.take_of_length_le, grammarC]) ?_
  clear ceq
  repeat' first
    | refine Holds.seq ?_
    | refine Holds.skip ?_
    | refine Holds.exit ?_
    | refine Holds.ret ?_
    | refine thenA_normal ?_
    | refine thenA_exit ?_
    | refine thenA_ret ?_
    | refine inB_normal ?_
    | refine inB_ret ?_
    | refine inB_here ?_
    | (refine inB_past ?_ ?_; (· exact rfl))
    | refine Holds.reg ?_
    | refine Holds.block ?_
    | refine GS.nil ?_
    | refine Gd.nil ?_
    | (refine Holds.any mixed ?_ ?_; (· kernel_rfl))
    | (refine GS.step (s' := ?_) ?_ ?_ ?_; rotate_left; (· exact rfl); (· (simp [go_sem, List.take_of_length_le, grammarC] <;> with_reducible rfl)))
    | (refine GS.skip ?_ ?_ ?_; (· exact rfl); (· exact rfl))
    | (refine Gd.go (s' := ?_) ?_ ?_ ?_; rotate_left; (· exact rfl); (· (simp [go_sem, List.take_of_length_le, grammarC] <;> with_reducible rfl)))
    | (refine Gd.skip ?_ ?_ ?_; (· exact rfl); (· exact rfl))
    | fail
  refine Holds.cond rfl (fun h => ?_) (fun h => ?_)
  · cases h
  repeat' first
    | refine Holds.seq ?_
    | refine Holds.skip ?_
    | refine Holds.exit ?_
    | refine Holds.ret ?_
    | refine thenA_normal ?_
    | refine thenA_exit ?_
    | refine thenA_ret ?_
    | refine inB_normal ?_
    | refine inB_ret ?_
    | refine inB_here ?_
    | (refine inB_past ?_ ?_; (· exact rfl))
    | refine Holds.reg ?_
    | refine Holds.block ?_
    | refine GS.nil ?_
    | refine Gd.nil ?_
    | (refine Holds.any mixed ?_ ?_; (· kernel_rfl))
    | (refine GS.step (s' := ?_) ?_ ?_ ?_; rotate_left; (· exact rfl); (· (simp [go_sem, List.take_of_length_le] <;> with_reducible rfl)))
    | (refine GS.skip ?_ ?_ ?_; (· exact rfl); (· exact rfl))
    | (refine Gd.go (s' := ?_) ?_ ?_ ?_; rotate_left; (· exact rfl); (· (simp [go_sem, List.take_of_length_le] <;> with_reducible rfl)))
    | (refine Gd.skip ?_ ?_ ?_; (· exact rfl); (· exact rfl))
    | fail
  first | refine GS.cd (ch5) rfl rfl rfl rfl (by simp [go_sem, List.take_of_length_le] <;> with_reducible rfl) rfl (by exact (.cons (Fz.agL (.cons (.v _) (.cons (.v _) (.cons (fz_rulesO _ rfl (by simp [mGrammar])) .nil)))) (.cons (.v _) .nil))) rfl ?_ | refine Gd.cd (ch5) rfl rfl rfl rfl (by simp [go_sem, List.take_of_length_le] <;> with_reducible rfl) rfl (by exact (.cons (Fz.agL (.cons (.v _) (.cons (.v _) (.cons (fz_rulesO _ rfl (by simp [mGrammar])) .nil)))) (.cons (.v _) .nil))) rfl ?_
  have hk5 : ¬ ((1 : Int) + (wGrammar v.1 : Nat) < 0) := by omega
  repeat' first
    | refine Holds.seq ?_
    | refine Holds.skip ?_
    | refine Holds.exit ?_
    | refine Holds.ret ?_
    | refine thenA_normal ?_
    | refine thenA_exit ?_
    | refine thenA_ret ?_
    | refine inB_normal ?_
    | refine inB_ret ?_
    | refine inB_here ?_
    | (refine inB_past ?_ ?_; (· exact rfl))
    | refine Holds.reg ?_
    | refine Holds.block ?_
    | refine GS.nil ?_
    | refine Gd.nil ?_
    | (refine Holds.any mixed ?_ ?_; (· kernel_rfl))
    | (refine GS.step (s' := ?_) ?_ ?_ ?_; rotate_left; (· exact rfl); (· (simp [go_sem, List.take_of_length_le, hk5] <;> with_reducible rfl)))
    | (refine GS.skip ?_ ?_ ?_; (· exact rfl); (· exact rfl))
    | (refine Gd.go (s' := ?_) ?_ ?_ ?_; rotate_left; (· exact rfl); (· (simp [go_sem, List.take_of_length_le, hk5] <;> with_reducible rfl)))
    | (refine Gd.skip ?_ ?_ ?_; (· exact rfl); (· exact rfl))
    | fail
  refine Holds.cond rfl (fun h => ?_) (fun h => ?_)
  · cases h
  repeat' first
    | refine Holds.seq ?_
    | refine Holds.skip ?_
    | refine Holds.exit ?_
    | refine Holds.ret ?_
    | refine thenA_normal ?_
    | refine thenA_exit ?_
    | refine thenA_ret ?_
    | refine inB_normal ?_
    | refine inB_ret ?_
    | refine inB_here ?_
    | (refine inB_past ?_ ?_; (· exact rfl))
    | refine Holds.reg ?_
    | refine Holds.block ?_
    | refine GS.nil ?_
    | refine Gd.nil ?_
    | (refine Holds.any mixed ?_ ?_; (· kernel_rfl))
    | (refine GS.step (s' := ?_) ?_ ?_ ?_; rotate_left; (· exact rfl); (· (simp [go_sem, List.take_of_length_le] <;> with_reducible rfl)))
    | (refine GS.skip ?_ ?_ ?_; (· exact rfl); (· exact rfl))
    | (refine Gd.go (s' := ?_) ?_ ?_ ?_; rotate_left; (· exact rfl); (· (simp [go_sem, List.take_of_length_le] <;> with_reducible rfl)))
    | (refine Gd.skip ?_ ?_ ?_; (· exact rfl); (· exact rfl))
    | fail
  refine Holds.cond rfl (fun h => ?_) (fun h => ?_)
  · cases h
  repeat' first
    | refine Holds.seq ?_
    | refine Holds.skip ?_
    | refine Holds.exit ?_
    | refine Holds.ret ?_
    | refine thenA_normal ?_
    | refine thenA_exit ?_
    | refine thenA_ret ?_
    | refine inB_normal ?_
    | refine inB_ret ?_
    | refine inB_here ?_
    | (refine inB_past ?_ ?_; (· exact rfl))
    | refine Holds.reg ?_
    | refine Holds.block ?_
    | refine GS.nil ?_
    | refine Gd.nil ?_
    | (refine Holds.any mixed ?_ ?_; (· kernel_rfl))
    | (refine GS.step (s' := ?_) ?_ ?_ ?_; rotate_left; (· exact rfl); (· (simp [go_sem, List.take_of_length_le] <;> with_reducible rfl)))
    | (refine GS.skip ?_ ?_ ?_; (· exact rfl); (· exact rfl))
    | (refine Gd.go (s' := ?_) ?_ ?_ ?_; rotate_left; (· exact rfl); (· (simp [go_sem, List.take_of_length_le] <;> with_reducible rfl)))
    | (refine Gd.skip ?_ ?_ ?_; (· exact rfl); (· exact rfl))
    | fail
  refine Out.mk (xs := ?_) ?_ ?_ (by first | exact .inr rfl | exact .inl rfl)
  rotate_left
  · simp [go_sem, List.take_of_length_le] <;> with_reducible rfl
  exact .v _
end Go.Proofs.Ytcgfhjglalhjjaa.En
end
