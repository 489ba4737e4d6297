/- Walks of IsWave: the specification's steps. -/
import Derived.Test.YtbapglkldnlckaaWp
namespace Go.Proofs.Ytbapglkldnlckaa.En
open Go.RowKit
set_option linter.unusedSimpArgs false
set_option linter.unusedVariables false
set_option maxHeartbeats 4000000
def stepS (n long : Nat) (hs : List (Nat × Bool)) (k : Nat) : DoneT × List (Nat × Bool) :=
  let h := hs.getD k (0, false)
  if k + h.1 * hs.length + long ≤ n then ((k, 1, (k : Int) + h.1 * hs.length, (k : Int) + h.1 * hs.length + long), hs.set k (h.1 + 1, h.2))
  else ((k, 2, 0, long), hs.set k (h.1, true))
theorem l8Step (n long : Nat) (hs : List (Nat × Bool)) (k : Nat) (hn : n ≤ 10) (hlong : long ≤ 1000) (hlen : hs.length ≤ 4) (hk : k < hs.length) (hd : ∀ h ∈ hs, h.1 ≤ 11) :
    Fn Try.prog 78 1 [.v (.int .i64 n), .own 0 3 0 hs.length, .v (.int .i64 k)] [(0, ⟨165, 3, hands long hs⟩)] (.ag (doneC (stepS n long hs k).1)) 1 [(0, ⟨165, 3, hands long (stepS n long hs k).2⟩)] := by
  refine Fn.mk (rs := [.cell 6 110]) (nt := 56) Try.func78 (by kernel_rfl) rfl rfl rfl (by simp) ?_
  simp only [sl]
  have hxi : hs[k]? = some hs[k] := List.getElem?_eq_getElem hk
  have hgd : hs.getD k (0, false) = hs[k] := by simp [hk]
  have hd1 := hd _ (List.getElem_mem hk)
  have hH : 0 < hs.length := by omega
  have hm : (hs[k].1 : Int) * (hs.length : Int) = ((hs[k].1 * hs.length : Nat) : Int) := by simp
  have hmle : hs[k].1 * hs.length ≤ 44 := Nat.le_trans (Nat.mul_le_mul hd1 hlen) (by omega)
  have hlt := cntP_lt (n := n) (h := k) (long := long) hH hs[k].1
  repeat' first
    | refine Holds.seq ?_
    | refine Holds.skip ?_
    | refine Holds.exit ?_
    | refine Holds.ret ?_
    | refine thenA_normal ?_
    | refine thenA_exit ?_
    | refine thenA_ret ?_
    | refine inB_normal ?_
    | refine inB_ret ?_
    | refine inB_here ?_
    | (refine inB_past ?_ ?_; (· exact rfl))
    | refine Holds.reg ?_
    | refine Holds.block ?_
    | refine GS.nil ?_
    | refine Gd.nil ?_
    | (refine Holds.any mixed ?_ ?_; (· kernel_rfl))
    | (refine GS.step (s' := ?_) ?_ ?_ ?_; rotate_left; (· exact rfl); (· (simp [go_sem, List.take_of_length_le, hxi, hk, handC] <;> with_reducible rfl)))
    | (refine GS.skip ?_ ?_ ?_; (· exact rfl); (· exact rfl))
    | (refine Gd.go (s' := ?_) ?_ ?_ ?_; rotate_left; (· exact rfl); (· (simp [go_sem, List.take_of_length_le, hxi, hk, handC] <;> with_reducible rfl)))
    | (refine Gd.skip ?_ ?_ ?_; (· exact rfl); (· exact rfl))
    | fail
  first | refine GS.cc (l8Part n hs.length k long hn hH hlen hk hlong) rfl rfl rfl rfl (by simp [go_sem, List.take_of_length_le, handC] <;> with_reducible rfl) rfl (by simp [go_sem, List.take_of_length_le, handC]) ?_ | refine Gd.cc (l8Part n hs.length k long hn hH hlen hk hlong) rfl rfl rfl rfl (by simp [go_sem, List.take_of_length_le, handC] <;> with_reducible rfl) rfl (by simp [go_sem, List.take_of_length_le, handC]) ?_
  repeat' first
    | refine Holds.seq ?_
    | refine Holds.skip ?_
    | refine Holds.exit ?_
    | refine Holds.ret ?_
    | refine thenA_normal ?_
    | refine thenA_exit ?_
    | refine thenA_ret ?_
    | refine inB_normal ?_
    | refine inB_ret ?_
    | refine inB_here ?_
    | (refine inB_past ?_ ?_; (· exact rfl))
    | refine Holds.reg ?_
    | refine Holds.block ?_
    | refine GS.nil ?_
    | refine Gd.nil ?_
    | (refine Holds.any mixed ?_ ?_; (· kernel_rfl))
    | (refine GS.step (s' := ?_) ?_ ?_ ?_; rotate_left; (· exact rfl); (· (simp [go_sem, List.take_of_length_le] <;> with_reducible rfl)))
    | (refine GS.skip ?_ ?_ ?_; (· exact rfl); (· exact rfl))
    | (refine Gd.go (s' := ?_) ?_ ?_ ?_; rotate_left; (· exact rfl); (· (simp [go_sem, List.take_of_length_le] <;> with_reducible rfl)))
    | (refine Gd.skip ?_ ?_ ?_; (· exact rfl); (· exact rfl))
    | fail
  refine Holds.cond rfl (fun hc => ?_) (fun hc => ?_)
  · have hc1 : hs[k].1 < cntP n hs.length k long := by simpa [partP] using hc
    have hc2 := hlt.1 hc1
    have hg : (partP n hs.length k long)[hs[k].1]? = some ((k : Int) + hs[k].1 * hs.length) := upTo_get (partF hs.length k) hc1
    have hw1 : wr64 ((hs[k].1 : Int) + 1) = (hs[k].1 : Int) + 1 := wr64_id (by omega) (by omega)
    have hw2 : wr64 ((k : Int) + (hs[k].1 : Int) * (hs.length : Int) + (long : Int)) = (k : Int) + (hs[k].1 : Int) * (hs.length : Int) + (long : Int) := wr64_id (by omega) (by omega)
    have hset : (hands long hs).set k [.v (.int .i64 long), .v (.int .i64 ((hs[k].1 : Int) + 1)), .v (.bool hs[k].2)] = hands long (hs.set k (hs[k].1 + 1, hs[k].2)) := hands_set long hs k (hs[k].1 + 1, hs[k].2)
    have hs1 : stepS n long hs k = (((k : Int), 1, (k : Int) + hs[k].1 * hs.length, (k : Int) + hs[k].1 * hs.length + long), hs.set k (hs[k].1 + 1, hs[k].2)) := by simp only [stepS, hgd, if_pos hc2]
    rw [hs1]
    repeat' first
      | refine Holds.seq ?_
      | refine Holds.skip ?_
      | refine Holds.exit ?_
      | refine Holds.ret ?_
      | refine thenA_normal ?_
      | refine thenA_exit ?_
      | refine thenA_ret ?_
      | refine inB_normal ?_
      | refine inB_ret ?_
      | refine inB_here ?_
      | (refine inB_past ?_ ?_; (· exact rfl))
      | refine Holds.reg ?_
      | refine Holds.block ?_
      | refine GS.nil ?_
      | refine Gd.nil ?_
      | (refine GS.step (s' := ?_) ?_ ?_ ?_; rotate_left; (· exact rfl); (· (simp [go_sem, List.take_of_length_le, hxi, hk, handC, hw1] <;> with_reducible rfl)))
      | (refine GS.skip ?_ ?_ ?_; (· exact rfl); (· exact rfl))
      | (refine Gd.go (s' := ?_) ?_ ?_ ?_; rotate_left; (· exact rfl); (· (simp [go_sem, List.take_of_length_le, hxi, hk, handC, hw1] <;> with_reducible rfl)))
      | (refine Gd.skip ?_ ?_ ?_; (· exact rfl); (· exact rfl))
      | fail
    refine Holds.anx [14, 15] [] (fun n => n == 1) mixed ?_ ?_ ?_; (· kernel_rfl); (· kernel_rfl)
    repeat' first
      | refine Holds.seq ?_
      | refine Holds.skip ?_
      | refine Holds.exit ?_
      | refine Holds.ret ?_
      | refine thenA_normal ?_
      | refine thenA_exit ?_
      | refine thenA_ret ?_
      | refine inB_normal ?_
      | refine inB_ret ?_
      | refine inB_here ?_
      | (refine inB_past ?_ ?_; (· exact rfl))
      | refine Holds.reg ?_
      | refine Holds.block ?_
      | refine GS.nil ?_
      | refine Gd.nil ?_
      | (refine Holds.any mixed ?_ ?_; (· kernel_rfl))
      | (refine GS.step (s' := ?_) ?_ ?_ ?_; rotate_left; (· exact rfl); (· (simp [go_sem, List.take_of_length_le, hxi, hk, handC, hg, hw2] <;> with_reducible rfl)))
      | (refine GS.skip ?_ ?_ ?_; (· exact rfl); (· exact rfl))
      | (refine Gd.go (s' := ?_) ?_ ?_ ?_; rotate_left; (· exact rfl); (· (simp [go_sem, List.take_of_length_le, hxi, hk, handC, hg, hw2] <;> with_reducible rfl)))
      | (refine Gd.skip ?_ ?_ ?_; (· exact rfl); (· exact rfl))
      | refine Gx.nil ?_
      | (refine Gx.go (s' := ?_) rfl ?_ ?_ ?_; rotate_left; (· exact rfl); (· (simp [go_sem, List.take_of_length_le, hxi, hk, handC, hg, hw2] <;> with_reducible rfl)))
      | (refine Gx.skip rfl ?_ ?_ ?_; (· exact rfl); (· exact rfl))
      | (refine Gx.skipO rfl ?_ ?_ ?_; (· exact rfl); (· exact rfl))
      | (refine Gx.wo (s' := ?_) rfl ?_ ?_ ?_; rotate_left; (· exact rfl); (· (simp [go_sem, List.take_of_length_le, hxi, hk, handC, hg, hw2] <;> with_reducible rfl)))
      | (refine Gx.skipW rfl ?_ ?_ ?_; (· exact rfl); (· exact rfl))
      | (refine Gx.skipH rfl ?_ ?_ ?_; (· exact rfl); (· exact rfl))
      | (refine Gx.hid (r := ?_) rfl ?_ ?_ ?_ ?_; rotate_left; (· exact rfl); (· exact rfl); (· (simp [go_sem, List.take_of_length_le, hxi, hk, handC, hg, hw2] <;> with_reducible rfl)))
      | (refine Gx.wr (s' := ?_) rfl ?_ ?_ ?_ ?_; rotate_left; (· exact rfl); (· (simp [go_sem, List.take_of_length_le, hxi, hk, handC, hg, hw2] <;> with_reducible rfl)); (· (simp [go_sem, List.take_of_length_le, hxi, hk, handC, hg, hw2])))
      | fail
    refine OutF.mkn (xs := ?_) (nm [0]) ?_ ?_ ?_ ?_ ?_ (by first | exact .inr rfl | exact .inl rfl)
    rotate_left
    · simp [go_sem, List.take_of_length_le, hset, doneC] <;> with_reducible rfl
    · simp [go_sem, List.take_of_length_le, ren, ren1, okr, okr1, ChkN, BlkN, List.range_succ, nf, hset, doneC]
    · simp [go_sem, List.take_of_length_le, ren, ren1, okr, okr1, ChkN, BlkN, List.range_succ, nf, hset, doneC]
    · simp [go_sem, List.take_of_length_le, ren, ren1, okr, okr1, ChkN, BlkN, List.range_succ, nf, hset, doneC]
    · rfl
  · have hc1 : ¬ hs[k].1 < cntP n hs.length k long := by simpa [partP] using hc
    have hc2 : ¬ k + hs[k].1 * hs.length + long ≤ n := fun h => hc1 (hlt.2 h)
    have hset : (hands long hs).set k [.v (.int .i64 long), .v (.int .i64 hs[k].1), .v (.bool true)] = hands long (hs.set k (hs[k].1, true)) := hands_set long hs k (hs[k].1, true)
    have hs1 : stepS n long hs k = (((k : Int), 2, 0, (long : Int)), hs.set k (hs[k].1, true)) := by simp only [stepS, hgd, if_neg hc2]
    rw [hs1]
    repeat' first
      | refine Holds.seq ?_
      | refine Holds.skip ?_
      | refine Holds.exit ?_
      | refine Holds.ret ?_
      | refine thenA_normal ?_
      | refine thenA_exit ?_
      | refine thenA_ret ?_
      | refine inB_normal ?_
      | refine inB_ret ?_
      | refine inB_here ?_
      | (refine inB_past ?_ ?_; (· exact rfl))
      | refine Holds.reg ?_
      | refine Holds.block ?_
      | refine GS.nil ?_
      | refine Gd.nil ?_
      | (refine Holds.any mixed ?_ ?_; (· kernel_rfl))
      | (refine GS.step (s' := ?_) ?_ ?_ ?_; rotate_left; (· exact rfl); (· (simp [go_sem, List.take_of_length_le, hxi, hk, handC] <;> with_reducible rfl)))
      | (refine GS.skip ?_ ?_ ?_; (· exact rfl); (· exact rfl))
      | (refine Gd.go (s' := ?_) ?_ ?_ ?_; rotate_left; (· exact rfl); (· (simp [go_sem, List.take_of_length_le, hxi, hk, handC] <;> with_reducible rfl)))
      | (refine Gd.skip ?_ ?_ ?_; (· exact rfl); (· exact rfl))
      | refine Gx.nil ?_
      | (refine Gx.go (s' := ?_) rfl ?_ ?_ ?_; rotate_left; (· exact rfl); (· (simp [go_sem, List.take_of_length_le, hxi, hk, handC] <;> with_reducible rfl)))
      | (refine Gx.skip rfl ?_ ?_ ?_; (· exact rfl); (· exact rfl))
      | (refine Gx.skipO rfl ?_ ?_ ?_; (· exact rfl); (· exact rfl))
      | (refine Gx.wo (s' := ?_) rfl ?_ ?_ ?_; rotate_left; (· exact rfl); (· (simp [go_sem, List.take_of_length_le, hxi, hk, handC] <;> with_reducible rfl)))
      | (refine Gx.skipW rfl ?_ ?_ ?_; (· exact rfl); (· exact rfl))
      | (refine Gx.skipH rfl ?_ ?_ ?_; (· exact rfl); (· exact rfl))
      | (refine Gx.hid (r := ?_) rfl ?_ ?_ ?_ ?_; rotate_left; (· exact rfl); (· exact rfl); (· (simp [go_sem, List.take_of_length_le, hxi, hk, handC] <;> with_reducible rfl)))
      | (refine Gx.wr (s' := ?_) rfl ?_ ?_ ?_ ?_; rotate_left; (· exact rfl); (· (simp [go_sem, List.take_of_length_le, hxi, hk, handC] <;> with_reducible rfl)); (· (simp [go_sem, List.take_of_length_le, hxi, hk, handC])))
      | fail
    refine OutF.mkn (xs := ?_) (nm [0]) ?_ ?_ ?_ ?_ ?_ (by first | exact .inr rfl | exact .inl rfl)
    rotate_left
    · simp [go_sem, List.take_of_length_le, hset, doneC] <;> with_reducible rfl
    · simp [go_sem, List.take_of_length_le, ren, ren1, okr, okr1, ChkN, BlkN, List.range_succ, nf, hset, doneC]
    · simp [go_sem, List.take_of_length_le, ren, ren1, okr, okr1, ChkN, BlkN, List.range_succ, nf, hset, doneC]
    · simp [go_sem, List.take_of_length_le, ren, ren1, okr, okr1, ChkN, BlkN, List.range_succ, nf, hset, doneC]
    · rfl
/-- All wait: all go on. -/
def goLong (long : Nat) (hs : List (Nat × Bool)) : Nat := if hs.all (·.2) then long + 1 else long
def goHs (hs : List (Nat × Bool)) : List (Nat × Bool) := if hs.all (·.2) then hs.map fun _ => (0, false) else hs
theorem l8Go (long : Nat) (hs : List (Nat × Bool)) (hlong : long ≤ 1000) (hlen : hs.length ≤ 4) :
    Fn Try.prog 79 1 [.own 0 3 0 hs.length] [(0, ⟨165, 3, hands long hs⟩)] (.tu []) 1 [(0, ⟨165, 3, hands (goLong long hs) (goHs hs)⟩)] := by
  refine Fn.mk (rs := []) (nt := 31) Try.func79 (by kernel_rfl) rfl rfl rfl (by simp) ?_
  simp only [sl]
  repeat' first
    | refine Holds.seq ?_
    | refine Holds.skip ?_
    | refine Holds.exit ?_
    | refine Holds.ret ?_
    | refine thenA_normal ?_
    | refine thenA_exit ?_
    | refine thenA_ret ?_
    | refine inB_normal ?_
    | refine inB_ret ?_
    | refine inB_here ?_
    | (refine inB_past ?_ ?_; (· exact rfl))
    | refine Holds.reg ?_
    | refine Holds.block ?_
    | refine GS.nil ?_
    | (refine GS.step (s' := ?_) ?_ ?_ ?_; rotate_left; (· exact rfl); (· (simp [go_sem, List.take_of_length_le] <;> with_reducible rfl)))
    | (refine GS.skip ?_ ?_ ?_; (· exact rfl); (· exact rfl))
    | fail
  refine Holds.loop (ι := Nat) (fun i => ⟨[(0, .own 0 3 0 hs.length), (6, .own 0 3 0 hs.length), (7, .v (.int .i64 hs.length)), (8, .v (.int .i64 i))], [(0, ⟨165, 3, hands long hs⟩)], 1⟩) (fun i => i ≤ hs.length ∧ (hs.take i).all (·.2) = true) (fun i => hs.length - i) 0 ⟨Nat.zero_le _, rfl⟩ ?_ ?_
  · exact Cov.ofn (id) rfl (by simp [go_sem, List.take_of_length_le, ren, ren1, okr, okr1, ChkT, ChkN, BlkN, nf]) (by simp [go_sem, List.take_of_length_le, ren, ren1, okr, okr1, ChkT, ChkN, BlkN, nf])
  rintro i ⟨hi, hall⟩
  repeat' first
    | refine Holds.seq ?_
    | refine Holds.skip ?_
    | refine Holds.exit ?_
    | refine Holds.ret ?_
    | refine thenA_normal ?_
    | refine thenA_exit ?_
    | refine thenA_ret ?_
    | refine inB_normal ?_
    | refine inB_ret ?_
    | refine inB_here ?_
    | (refine inB_past ?_ ?_; (· exact rfl))
    | refine Holds.reg ?_
    | refine Holds.block ?_
    | refine GS.nil ?_
    | (refine GS.step (s' := ?_) ?_ ?_ ?_; rotate_left; (· exact rfl); (· (simp [go_sem, List.take_of_length_le] <;> with_reducible rfl)))
    | (refine GS.skip ?_ ?_ ?_; (· exact rfl); (· exact rfl))
    | fail
  refine Holds.cond rfl (fun hl => ?_) (fun hl => ?_)
  · have hlt : i < hs.length := by simpa using hl
    have hxi : hs[i]? = some hs[i] := List.getElem?_eq_getElem hlt
    repeat' first
      | refine Holds.seq ?_
      | refine Holds.skip ?_
      | refine Holds.exit ?_
      | refine Holds.ret ?_
      | refine thenA_normal ?_
      | refine thenA_exit ?_
      | refine thenA_ret ?_
      | refine inB_normal ?_
      | refine inB_ret ?_
      | refine inB_here ?_
      | (refine inB_past ?_ ?_; (· exact rfl))
      | refine Holds.reg ?_
      | refine Holds.block ?_
      | refine GS.nil ?_
      | (refine GS.step (s' := ?_) ?_ ?_ ?_; rotate_left; (· exact rfl); (· (simp [go_sem, List.take_of_length_le, hxi, hlt, handC] <;> with_reducible rfl)))
      | (refine GS.skip ?_ ?_ ?_; (· exact rfl); (· exact rfl))
      | fail
    refine Holds.cond rfl (fun hc => ?_) (fun hc => ?_)
    · have hf : hs.all (·.2) = false := by
        rw [List.all_eq_false]
        exact ⟨_, List.getElem_mem hlt, by simpa using hc⟩
      repeat' first
        | refine Holds.seq ?_
        | refine Holds.skip ?_
        | refine Holds.exit ?_
        | refine Holds.ret ?_
        | refine thenA_normal ?_
        | refine thenA_exit ?_
        | refine thenA_ret ?_
        | refine inB_normal ?_
        | refine inB_ret ?_
        | refine inB_here ?_
        | (refine inB_past ?_ ?_; (· exact rfl))
        | refine Holds.reg ?_
        | refine Holds.block ?_
        | refine GS.nil ?_
        | (refine GS.step (s' := ?_) ?_ ?_ ?_; rotate_left; (· exact rfl); (· (simp [go_sem, List.take_of_length_le] <;> with_reducible rfl)))
        | (refine GS.skip ?_ ?_ ?_; (· exact rfl); (· exact rfl))
        | fail
      refine OutF.mkn (xs := ?_) (nm [0]) ?_ ?_ ?_ ?_ ?_ (by first | exact .inr rfl | exact .inl rfl)
      rotate_left
      · simp [go_sem, List.take_of_length_le, goLong, goHs, hf] <;> with_reducible rfl
      · simp [go_sem, List.take_of_length_le, ren, ren1, okr, okr1, ChkN, BlkN, List.range_succ, nf, goLong, goHs, hf]
      · simp [go_sem, List.take_of_length_le, ren, ren1, okr, okr1, ChkN, BlkN, List.range_succ, nf, goLong, goHs, hf]
      · simp [go_sem, List.take_of_length_le, ren, ren1, okr, okr1, ChkN, BlkN, List.range_succ, nf, goLong, goHs, hf]
      · rfl
    · have ht : hs[i].2 = true := by simpa using hc
      repeat' first
        | refine Holds.seq ?_
        | refine Holds.skip ?_
        | refine Holds.exit ?_
        | refine Holds.ret ?_
        | refine thenA_normal ?_
        | refine thenA_exit ?_
        | refine thenA_ret ?_
        | refine inB_normal ?_
        | refine inB_ret ?_
        | refine inB_here ?_
        | (refine inB_past ?_ ?_; (· exact rfl))
        | refine Holds.reg ?_
        | refine Holds.block ?_
        | refine GS.nil ?_
        | (refine GS.step (s' := ?_) ?_ ?_ ?_; rotate_left; (· exact rfl); (· (simp [go_sem, List.take_of_length_le] <;> with_reducible rfl)))
        | (refine GS.skip ?_ ?_ ?_; (· exact rfl); (· exact rfl))
        | fail
      refine ⟨i + 1, ⟨by omega, ?_⟩, by omega, ?_⟩
      · rw [List.take_add_one, hxi, List.all_append, hall]; simp [ht]
      rw [wr64_id (by omega) (by omega)]
      exact Cov.ofn (nm [0]) rfl (by simp [go_sem, List.take_of_length_le, ren, ren1, okr, okr1, ChkT, ChkN, BlkN, nf]) (by simp [go_sem, List.take_of_length_le, ren, ren1, okr, okr1, ChkT, ChkN, BlkN, nf])
  have hle : i = hs.length := by
    have : ¬ i < hs.length := by simpa using hl
    omega
  subst hle
  rw [List.take_length] at hall
  have e1 : goLong long hs = long + 1 := by simp only [goLong, hall, if_true]
  have e2 : goHs hs = hs.map fun _ => (0, false) := by simp only [goHs, hall, if_true]
  rw [e1, e2]
  clear hl hi
  repeat' first
    | refine Holds.seq ?_
    | refine Holds.skip ?_
    | refine Holds.exit ?_
    | refine Holds.ret ?_
    | refine thenA_normal ?_
    | refine thenA_exit ?_
    | refine thenA_ret ?_
    | refine inB_normal ?_
    | refine inB_ret ?_
    | refine inB_here ?_
    | (refine inB_past ?_ ?_; (· exact rfl))
    | refine Holds.reg ?_
    | refine Holds.block ?_
    | refine GS.nil ?_
    | (refine GS.step (s' := ?_) ?_ ?_ ?_; rotate_left; (· exact rfl); (· (simp [go_sem, List.take_of_length_le] <;> with_reducible rfl)))
    | (refine GS.skip ?_ ?_ ?_; (· exact rfl); (· exact rfl))
    | fail
  have el : (hands (long + 1) (hs.map fun _ => (0, false))).length = (hands long hs).length := by simp
  refine Holds.loop (ι := Nat) (fun i => ⟨[(0, .own 0 3 0 hs.length), (16, .own 0 3 0 hs.length), (17, .v (.int .i64 hs.length)), (18, .v (.int .i64 i))], [(0, ⟨165, 3, mix (hands (long + 1) (hs.map fun _ => (0, false))) (hands long hs) i⟩)], 1⟩) (fun i => i ≤ hs.length) (fun i => hs.length - i) 0 (Nat.zero_le _) ?_ ?_
  · exact Cov.ofn (id) rfl (by simp [go_sem, List.take_of_length_le, ren, ren1, okr, okr1, ChkT, ChkN, BlkN, nf]) (by simp [go_sem, List.take_of_length_le, ren, ren1, okr, okr1, ChkT, ChkN, BlkN, nf])
  intro i hi
  repeat' first
    | refine Holds.seq ?_
    | refine Holds.skip ?_
    | refine Holds.exit ?_
    | refine Holds.ret ?_
    | refine thenA_normal ?_
    | refine thenA_exit ?_
    | refine thenA_ret ?_
    | refine inB_normal ?_
    | refine inB_ret ?_
    | refine inB_here ?_
    | (refine inB_past ?_ ?_; (· exact rfl))
    | refine Holds.reg ?_
    | refine Holds.block ?_
    | refine GS.nil ?_
    | (refine GS.step (s' := ?_) ?_ ?_ ?_; rotate_left; (· exact rfl); (· (simp [go_sem, List.take_of_length_le] <;> with_reducible rfl)))
    | (refine GS.skip ?_ ?_ ?_; (· exact rfl); (· exact rfl))
    | fail
  refine Holds.cond rfl (fun hl => ?_) (fun hl => ?_)
  · have hlt : i < hs.length := by simpa using hl
    have hg := mix_get _ _ el i (by simp; omega)
    rw [hands_get, List.getElem?_eq_getElem hlt] at hg
    have hset : (mix (hands (long + 1) (hs.map fun _ => (0, false))) (hands long hs) i).set i [.v (.int .i64 ((long : Int) + 1)), .v (.int .i64 0), .v (.bool false)] = mix (hands (long + 1) (hs.map fun _ => (0, false))) (hands long hs) (i + 1) := mix_set _ _ el i (by simpa using hlt) (handC (long + 1) (0, false)) (by simp [hlt])
    have hw : wr64 ((long : Int) + 1) = (long : Int) + 1 := wr64_id (by omega) (by omega)
    repeat' first
      | refine Holds.seq ?_
      | refine Holds.skip ?_
      | refine Holds.exit ?_
      | refine Holds.ret ?_
      | refine thenA_normal ?_
      | refine thenA_exit ?_
      | refine thenA_ret ?_
      | refine inB_normal ?_
      | refine inB_ret ?_
      | refine inB_here ?_
      | (refine inB_past ?_ ?_; (· exact rfl))
      | refine Holds.reg ?_
      | refine Holds.block ?_
      | refine GS.nil ?_
      | (refine GS.step (s' := ?_) ?_ ?_ ?_; rotate_left; (· exact rfl); (· (simp [go_sem, List.take_of_length_le, hlt, hg, handC, hw, hset] <;> with_reducible rfl)))
      | (refine GS.skip ?_ ?_ ?_; (· exact rfl); (· exact rfl))
      | fail
    refine ⟨i + 1, by omega, by omega, ?_⟩
    rw [wr64_id (by omega) (by omega)]
    exact Cov.ofn (nm [0]) rfl (by simp [go_sem, List.take_of_length_le, ren, ren1, okr, okr1, ChkT, ChkN, BlkN, nf, hset]) (by simp [go_sem, List.take_of_length_le, ren, ren1, okr, okr1, ChkT, ChkN, BlkN, nf, hset])
  · have hle : i = hs.length := by
      have : ¬ i < hs.length := by simpa using hl
      omega
    subst hle
    have ha := mix_all _ _ el
    rw [hands_len] at ha
    rw [ha]
    repeat' first
      | refine Holds.seq ?_
      | refine Holds.skip ?_
      | refine Holds.exit ?_
      | refine Holds.ret ?_
      | refine thenA_normal ?_
      | refine thenA_exit ?_
      | refine thenA_ret ?_
      | refine inB_normal ?_
      | refine inB_ret ?_
      | refine inB_here ?_
      | (refine inB_past ?_ ?_; (· exact rfl))
      | refine Holds.reg ?_
      | refine Holds.block ?_
      | refine GS.nil ?_
      | (refine GS.step (s' := ?_) ?_ ?_ ?_; rotate_left; (· exact rfl); (· (simp [go_sem, List.take_of_length_le] <;> with_reducible rfl)))
      | (refine GS.skip ?_ ?_ ?_; (· exact rfl); (· exact rfl))
      | fail
    refine OutF.mkn (xs := ?_) (nm [0]) ?_ ?_ ?_ ?_ ?_ (by first | exact .inr rfl | exact .inl rfl)
    rotate_left
    · simp [go_sem, List.take_of_length_le] <;> with_reducible rfl
    · simp [go_sem, List.take_of_length_le, ren, ren1, okr, okr1, ChkN, BlkN, List.range_succ, nf]
    · simp [go_sem, List.take_of_length_le, ren, ren1, okr, okr1, ChkN, BlkN, List.range_succ, nf]
    · simp [go_sem, List.take_of_length_le, ren, ren1, okr, okr1, ChkN, BlkN, List.range_succ, nf]
    · rfl
end Go.Proofs.Ytbapglkldnlckaa.En
