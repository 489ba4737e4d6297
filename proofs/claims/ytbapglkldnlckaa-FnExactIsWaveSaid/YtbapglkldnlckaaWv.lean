/- Walks of IsWave: the implementation's wave: do. -/
import Derived.Test.YtbapglkldnlckaaWu
namespace Go.Proofs.Ytbapglkldnlckaa.En
open Go.RowKit
set_option linter.unusedSimpArgs false
set_option linter.unusedVariables false
set_option maxHeartbeats 8000000
def fromF (hs : List (Nat × Bool)) : Nat → Int := fun k => (k : Int) + ((hs.getD k (0, false)).1 : Int) * (hs.length : Int)
def fromL (hs : List (Nat × Bool)) : List Int := upTo (fromF hs) hs.length
def waitsL (hs : List (Nat × Bool)) : List Bool := hs.map (·.2)
@[simp] theorem fromL_len (hs : List (Nat × Bool)) : (fromL hs).length = hs.length := by simp [fromL]
@[simp] theorem waitsL_len (hs : List (Nat × Bool)) : (waitsL hs).length = hs.length := by simp [waitsL]
theorem upTo_congr {f g : Nat → Int} {n : Nat} (h : ∀ j, j < n → f j = g j) : upTo f n = upTo g n := by
  apply List.map_congr_left
  intro j hj
  exact h j (List.mem_range.1 hj)
theorem fromL_set (hs : List (Nat × Bool)) (k : Nat) (h : Nat × Bool) (hk : k < hs.length) : fromL (hs.set k h) = (fromL hs).set k ((k : Int) + (h.1 : Int) * (hs.length : Int)) := by
  apply List.ext_getElem?
  intro j
  rw [List.getElem?_set]
  by_cases hj : j < hs.length
  · unfold fromL
    rw [List.length_set, upTo_get _ hj, upTo_get _ hj, upTo_len]
    unfold fromF
    by_cases e : k = j
    · subst e; simp [hk]
    · simp [e, List.getElem?_set_ne e]
  · rw [List.getElem?_eq_none (by simp; omega), List.getElem?_eq_none (by simp; omega)]
    by_cases e : k = j
    · subst e; simp [hk]; omega
    · simp [e]
theorem fromL_zero (hs : List (Nat × Bool)) : fromL (hs.map fun _ => (0, false)) = upTo natI hs.length := by
  unfold fromL
  rw [List.length_map]
  refine upTo_congr fun j hj => ?_
  simp [fromF, natI, hj]
theorem all_waits (hs : List (Nat × Bool)) : hs.all (·.2) = !decide (false ∈ waitsL hs) := by
  have e : (false ∈ waitsL hs) ↔ ¬ hs.all (·.2) = true := by simp [waitsL]
  cases h : hs.all (·.2) <;> simp [h] at e <;> simp [e]
theorem waveDo (n long : Nat) (hs : List (Nat × Bool)) (k : Nat) (hn : n ≤ 10) (hlong : long ≤ 999) (hlen : hs.length ≤ 4) (hk : k < hs.length) (hd : ∀ h ∈ hs, h.1 ≤ 11) (hw : hs[k].2 = false) :
    Fn Try.prog 85 3 [.pb 0 4 0 0, .v (.int .i64 k)] [(0, ⟨169, 4, [waveC n long 2 hs.length]⟩), (1, ⟨4, 1, bools (waitsL hs)⟩), (2, ⟨3, 1, ints (fromL hs)⟩)] (.ag (doneC (stepS n long hs k).1)) 4
      [(0, ⟨169, 4, [waveC n (goLong long (stepS n long hs k).2) 3 hs.length]⟩), (1, ⟨4, 1, bools (waitsL (goHs (stepS n long hs k).2))⟩), (3, ⟨3, 1, ints (fromL (goHs (stepS n long hs k).2))⟩)] := by
  refine Fn.mk (rs := [.cell 4 110]) (nt := 69) Try.func85 (by kernel_rfl) rfl rfl rfl (by simp) ?_
  simp only [sl, waveC]
  have hgd : hs.getD k (0, false) = hs[k] := by simp [hk]
  have hd1 := hd _ (List.getElem_mem hk)
  have hH : 0 < hs.length := by omega
  have hm : (hs[k].1 : Int) * (hs.length : Int) = ((hs[k].1 * hs.length : Nat) : Int) := by simp
  have hmle : hs[k].1 * hs.length ≤ 44 := Nat.le_trans (Nat.mul_le_mul hd1 hlen) (by omega)
  have hg : (fromL hs)[k]? = some ((k : Int) + (hs[k].1 : Int) * (hs.length : Int)) := by
    unfold fromL
    rw [upTo_get _ hk]
    simp only [fromF, hgd]
  have hwg : (waitsL hs)[k]? = some false := by simp [waitsL, hk, hw]
  have hw1 : wr64 ((n : Int) - long) = (n : Int) - long := wr64_id (by omega) (by omega)
  generalize hx : (k : Int) + (hs[k].1 : Int) * (hs.length : Int) = x at hg
  have hge : (fromL hs)[k]'(by simpa using hk) = x := by
    rw [List.getElem?_eq_getElem (by simpa using hk)] at hg
    exact Option.some.inj hg
  have hx0 : 0 ≤ x := by omega
  have hx1 : x ≤ 100 := by omega
  have hw2 : wr64 (x + (hs.length : Int)) = x + (hs.length : Int) := wr64_id (by omega) (by omega)
  have hw3 : wr64 (x + (long : Int)) = x + (long : Int) := wr64_id (by omega) (by omega)
  repeat' first
    | refine Holds.seq ?_
    | refine Holds.skip ?_
    | refine Holds.exit ?_
    | refine Holds.ret ?_
    | refine thenA_normal ?_
    | refine thenA_exit ?_
    | refine thenA_ret ?_
    | refine inB_normal ?_
    | refine inB_ret ?_
    | refine inB_here ?_
    | (refine inB_past ?_ ?_; (· exact rfl))
    | refine Holds.reg ?_
    | refine Holds.block ?_
    | refine GS.nil ?_
    | refine Gd.nil ?_
    | (refine Holds.any mixed ?_ ?_; (· kernel_rfl))
    | (refine GS.step (s' := ?_) ?_ ?_ ?_; rotate_left; (· exact rfl); (· (simp [go_sem, List.take_of_length_le, hg, hk, hw1, hge] <;> with_reducible rfl)))
    | (refine GS.skip ?_ ?_ ?_; (· exact rfl); (· exact rfl))
    | (refine Gd.go (s' := ?_) ?_ ?_ ?_; rotate_left; (· exact rfl); (· (simp [go_sem, List.take_of_length_le, hg, hk, hw1, hge] <;> with_reducible rfl)))
    | (refine Gd.skip ?_ ?_ ?_; (· exact rfl); (· exact rfl))
    | refine Gx.nil ?_
    | (refine Gx.go (s' := ?_) rfl ?_ ?_ ?_; rotate_left; (· exact rfl); (· (simp [go_sem, List.take_of_length_le, hg, hk, hw1, hge] <;> with_reducible rfl)))
    | (refine Gx.skip rfl ?_ ?_ ?_; (· exact rfl); (· exact rfl))
    | (refine Gx.skipW rfl ?_ ?_ ?_; (· exact rfl); (· exact rfl))
    | (refine Gx.skipH rfl ?_ ?_ ?_; (· exact rfl); (· exact rfl))
    | (refine Gx.hid (r := ?_) rfl ?_ ?_ ?_ ?_; rotate_left; (· exact rfl); (· exact rfl); (· (simp [go_sem, List.take_of_length_le, hg, hk, hw1, hge] <;> with_reducible rfl)))
    | (refine Gx.wr (s' := ?_) rfl ?_ ?_ ?_ ?_; rotate_left; (· exact rfl); (· (simp [go_sem, List.take_of_length_le, hg, hk, hw1, hge] <;> with_reducible rfl)); (· (simp [go_sem, List.take_of_length_le, hg, hk, hw1, hge])))
    | fail
  refine Holds.cond rfl (fun hc => ?_) (fun hc => ?_)
  · have hc2 : k + hs[k].1 * hs.length + long ≤ n := by simp [hw1, hge] at hc; omega
    have hs1 : stepS n long hs k = (((k : Int), 1, x, x + long), hs.set k (hs[k].1 + 1, hs[k].2)) := by simp only [stepS, hgd, if_pos hc2, ← hx]
    have hall : (hs.set k (hs[k].1 + 1, hs[k].2)).all (·.2) = false := by
      rw [List.all_eq_false]
      exact ⟨_, List.mem_iff_getElem?.2 ⟨k, List.getElem?_set_self hk⟩, by simp [hw]⟩
    have e1 : goLong long (hs.set k (hs[k].1 + 1, hs[k].2)) = long := by unfold goLong; rw [hall]; rfl
    have e2 : goHs (hs.set k (hs[k].1 + 1, hs[k].2)) = hs.set k (hs[k].1 + 1, hs[k].2) := by unfold goHs; rw [hall]; rfl
    have e3 : waitsL (hs.set k (hs[k].1 + 1, hs[k].2)) = waitsL hs := by
      unfold waitsL
      rw [List.map_set, show (hs[k].1 + 1, hs[k].2).2 = (hs.map (·.2))[k]'(by simpa using hk) by simp]
      exact List.set_getElem_self _
    have e4 : fromL (hs.set k (hs[k].1 + 1, hs[k].2)) = (fromL hs).set k (x + hs.length) := by
      rw [fromL_set hs k _ hk, ← hx]
      congr 1
      show (k : Int) + ((hs[k].1 + 1 : Nat) : Int) * hs.length = _
      rw [Int.natCast_add, Int.add_mul]; omega
    rw [hs1]
    dsimp only
    rw [e1, e2, e3, e4]
    repeat' first
      | refine Holds.seq ?_
      | refine Holds.skip ?_
      | refine Holds.exit ?_
      | refine Holds.ret ?_
      | refine thenA_normal ?_
      | refine thenA_exit ?_
      | refine thenA_ret ?_
      | refine inB_normal ?_
      | refine inB_ret ?_
      | refine inB_here ?_
      | (refine inB_past ?_ ?_; (· exact rfl))
      | refine Holds.reg ?_
      | refine Holds.block ?_
      | refine GS.nil ?_
      | refine Gd.nil ?_
      | (refine GS.step (s' := ?_) ?_ ?_ ?_; rotate_left; (· exact rfl); (· (simp [go_sem, List.take_of_length_le, hge] <;> with_reducible rfl)))
      | (refine GS.skip ?_ ?_ ?_; (· exact rfl); (· exact rfl))
      | (refine Gd.go (s' := ?_) ?_ ?_ ?_; rotate_left; (· exact rfl); (· (simp [go_sem, List.take_of_length_le, hge] <;> with_reducible rfl)))
      | (refine Gd.skip ?_ ?_ ?_; (· exact rfl); (· exact rfl))
      | refine Gx.nil ?_
      | (refine Gx.go (s' := ?_) rfl ?_ ?_ ?_; rotate_left; (· exact rfl); (· (simp [go_sem, List.take_of_length_le, hge] <;> with_reducible rfl)))
      | (refine Gx.skip rfl ?_ ?_ ?_; (· exact rfl); (· exact rfl))
      | (refine Gx.skipW rfl ?_ ?_ ?_; (· exact rfl); (· exact rfl))
      | (refine Gx.skipH rfl ?_ ?_ ?_; (· exact rfl); (· exact rfl))
      | (refine Gx.hid (r := ?_) rfl ?_ ?_ ?_ ?_; rotate_left; (· exact rfl); (· exact rfl); (· (simp [go_sem, List.take_of_length_le, hge] <;> with_reducible rfl)))
      | (refine Gx.wr (s' := ?_) rfl ?_ ?_ ?_ ?_; rotate_left; (· exact rfl); (· (simp [go_sem, List.take_of_length_le, hge] <;> with_reducible rfl)); (· (simp [go_sem, List.take_of_length_le, hge])))
      | fail
    refine Holds.anx [14] [] (fun n => n == 2) mixed ?_ ?_ ?_; (· kernel_rfl); (· kernel_rfl)
    repeat' first
      | refine Holds.seq ?_
      | refine Holds.skip ?_
      | refine Holds.exit ?_
      | refine Holds.ret ?_
      | refine thenA_normal ?_
      | refine thenA_exit ?_
      | refine thenA_ret ?_
      | refine inB_normal ?_
      | refine inB_ret ?_
      | refine inB_here ?_
      | (refine inB_past ?_ ?_; (· exact rfl))
      | refine Holds.reg ?_
      | refine Holds.block ?_
      | refine GS.nil ?_
      | refine Gd.nil ?_
      | (refine GS.step (s' := ?_) ?_ ?_ ?_; rotate_left; (· exact rfl); (· (simp [go_sem, List.take_of_length_le, hg, hk, hw2, hge] <;> with_reducible rfl)))
      | (refine GS.skip ?_ ?_ ?_; (· exact rfl); (· exact rfl))
      | (refine Gd.go (s' := ?_) ?_ ?_ ?_; rotate_left; (· exact rfl); (· (simp [go_sem, List.take_of_length_le, hg, hk, hw2, hge] <;> with_reducible rfl)))
      | (refine Gd.skip ?_ ?_ ?_; (· exact rfl); (· exact rfl))
      | refine Gx.nil ?_
      | (refine Gx.go (s' := ?_) rfl ?_ ?_ ?_; rotate_left; (· exact rfl); (· (simp [go_sem, List.take_of_length_le, hg, hk, hw2, hge] <;> with_reducible rfl)))
      | (refine Gx.skip rfl ?_ ?_ ?_; (· exact rfl); (· exact rfl))
      | (refine Gx.skipW rfl ?_ ?_ ?_; (· exact rfl); (· exact rfl))
      | (refine Gx.skipH rfl ?_ ?_ ?_; (· exact rfl); (· exact rfl))
      | (refine Gx.hid (r := ?_) rfl ?_ ?_ ?_ ?_; rotate_left; (· exact rfl); (· exact rfl); (· (simp [go_sem, List.take_of_length_le, hg, hk, hw2, hge] <;> with_reducible rfl)))
      | (refine Gx.wr (s' := ?_) rfl ?_ ?_ ?_ ?_; rotate_left; (· exact rfl); (· (simp [go_sem, List.take_of_length_le, hg, hk, hw2, hge] <;> with_reducible rfl)); (· (simp [go_sem, List.take_of_length_le, hg, hk, hw2, hge])))
      | fail
    repeat' first
      | refine Holds.seq ?_
      | refine Holds.skip ?_
      | refine Holds.exit ?_
      | refine Holds.ret ?_
      | refine thenA_normal ?_
      | refine thenA_exit ?_
      | refine thenA_ret ?_
      | refine inB_normal ?_
      | refine inB_ret ?_
      | refine inB_here ?_
      | (refine inB_past ?_ ?_; (· exact rfl))
      | refine Holds.reg ?_
      | refine Holds.block ?_
      | refine GS.nil ?_
      | refine Gd.nil ?_
      | (refine Holds.any mixed ?_ ?_; (· kernel_rfl))
      | (refine GS.step (s' := ?_) ?_ ?_ ?_; rotate_left; (· exact rfl); (· (simp [go_sem, List.take_of_length_le, hw3, hge] <;> with_reducible rfl)))
      | (refine GS.skip ?_ ?_ ?_; (· exact rfl); (· exact rfl))
      | (refine Gd.go (s' := ?_) ?_ ?_ ?_; rotate_left; (· exact rfl); (· (simp [go_sem, List.take_of_length_le, hw3, hge] <;> with_reducible rfl)))
      | (refine Gd.skip ?_ ?_ ?_; (· exact rfl); (· exact rfl))
      | refine Gx.nil ?_
      | (refine Gx.go (s' := ?_) rfl ?_ ?_ ?_; rotate_left; (· exact rfl); (· (simp [go_sem, List.take_of_length_le, hw3, hge] <;> with_reducible rfl)))
      | (refine Gx.skip rfl ?_ ?_ ?_; (· exact rfl); (· exact rfl))
      | (refine Gx.skipW rfl ?_ ?_ ?_; (· exact rfl); (· exact rfl))
      | (refine Gx.skipH rfl ?_ ?_ ?_; (· exact rfl); (· exact rfl))
      | (refine Gx.hid (r := ?_) rfl ?_ ?_ ?_ ?_; rotate_left; (· exact rfl); (· exact rfl); (· (simp [go_sem, List.take_of_length_le, hw3, hge] <;> with_reducible rfl)))
      | (refine Gx.wr (s' := ?_) rfl ?_ ?_ ?_ ?_; rotate_left; (· exact rfl); (· (simp [go_sem, List.take_of_length_le, hw3, hge] <;> with_reducible rfl)); (· (simp [go_sem, List.take_of_length_le, hw3, hge])))
      | fail
    refine OutF.mkn (xs := ?_) (nm [0, 1, 2, 2]) ?_ ?_ ?_ ?_ ?_ (by first | exact .inr rfl | exact .inl rfl)
    rotate_left
    · simp [go_sem, List.take_of_length_le, waveC, doneC, hw3] <;> with_reducible rfl
    · simp [go_sem, List.take_of_length_le, ren, ren1, okr, okr1, ChkN, BlkN, List.range_succ, nf, waveC, doneC, hw3]
    · simp [go_sem, List.take_of_length_le, ren, ren1, okr, okr1, ChkN, BlkN, List.range_succ, nf, waveC, doneC, hw3]
    · simp [go_sem, List.take_of_length_le, ren, ren1, okr, okr1, ChkN, BlkN, List.range_succ, nf, waveC, doneC, hw3]
    · rfl
  · have hc2 : ¬ k + hs[k].1 * hs.length + long ≤ n := by simp [hw1, hge] at hc; omega
    have hs1 : stepS n long hs k = (((k : Int), 2, 0, (long : Int)), hs.set k (hs[k].1, true)) := by simp only [stepS, hgd, if_neg hc2]
    have e3 : waitsL (hs.set k (hs[k].1, true)) = (waitsL hs).set k true := by simp [waitsL, List.map_set]
    have e4 : fromL (hs.set k (hs[k].1, true)) = fromL hs := by
      rw [fromL_set hs k _ hk, hx]
      apply List.ext_getElem?
      intro j
      rw [List.getElem?_set]
      split
      · rename_i e
        subst e
        simp [hk, hge]
      · rfl
    have ha := all_waits (hs.set k (hs[k].1, true))
    rw [e3] at ha
    have ht := turn1 n long ((waitsL hs).set k true) (fromL hs) (by omega) (by simpa using hlen)
    simp only [List.length_set, waitsL_len] at ht
    rw [hs1]
    dsimp only
    repeat' first
      | refine Holds.seq ?_
      | refine Holds.skip ?_
      | refine Holds.exit ?_
      | refine Holds.ret ?_
      | refine thenA_normal ?_
      | refine thenA_exit ?_
      | refine thenA_ret ?_
      | refine inB_normal ?_
      | refine inB_ret ?_
      | refine inB_here ?_
      | (refine inB_past ?_ ?_; (· exact rfl))
      | refine Holds.reg ?_
      | refine Holds.block ?_
      | refine GS.nil ?_
      | refine Gd.nil ?_
      | (refine Holds.any mixed ?_ ?_; (· kernel_rfl))
      | (refine GS.step (s' := ?_) ?_ ?_ ?_; rotate_left; (· exact rfl); (· (simp [go_sem, List.take_of_length_le, hg, hk, hwg, hge] <;> with_reducible rfl)))
      | (refine GS.skip ?_ ?_ ?_; (· exact rfl); (· exact rfl))
      | (refine Gd.go (s' := ?_) ?_ ?_ ?_; rotate_left; (· exact rfl); (· (simp [go_sem, List.take_of_length_le, hg, hk, hwg, hge] <;> with_reducible rfl)))
      | (refine Gd.skip ?_ ?_ ?_; (· exact rfl); (· exact rfl))
      | refine Gx.nil ?_
      | (refine Gx.go (s' := ?_) rfl ?_ ?_ ?_; rotate_left; (· exact rfl); (· (simp [go_sem, List.take_of_length_le, hg, hk, hwg, hge] <;> with_reducible rfl)))
      | (refine Gx.skip rfl ?_ ?_ ?_; (· exact rfl); (· exact rfl))
      | (refine Gx.skipW rfl ?_ ?_ ?_; (· exact rfl); (· exact rfl))
      | (refine Gx.skipH rfl ?_ ?_ ?_; (· exact rfl); (· exact rfl))
      | (refine Gx.hid (r := ?_) rfl ?_ ?_ ?_ ?_; rotate_left; (· exact rfl); (· exact rfl); (· (simp [go_sem, List.take_of_length_le, hg, hk, hwg, hge] <;> with_reducible rfl)))
      | (refine Gx.wr (s' := ?_) rfl ?_ ?_ ?_ ?_; rotate_left; (· exact rfl); (· (simp [go_sem, List.take_of_length_le, hg, hk, hwg, hge] <;> with_reducible rfl)); (· (simp [go_sem, List.take_of_length_le, hg, hk, hwg, hge])))
      | fail
    first | refine GS.cd (containsBool ((waitsL hs).set k true) false (by simp; omega)) rfl rfl rfl rfl (by simp [go_sem, List.take_of_length_le] <;> with_reducible rfl) rfl (by exact .cons (Fz.all rfl rfl (by simp) rfl (bools_cl _)) (.cons (.v _) .nil)) rfl ?_ | refine Gd.cd (containsBool ((waitsL hs).set k true) false (by simp; omega)) rfl rfl rfl rfl (by simp [go_sem, List.take_of_length_le] <;> with_reducible rfl) rfl (by exact .cons (Fz.all rfl rfl (by simp) rfl (bools_cl _)) (.cons (.v _) .nil)) rfl ?_ | refine Gx.cd (containsBool ((waitsL hs).set k true) false (by simp; omega)) rfl rfl rfl rfl rfl (by simp [go_sem, List.take_of_length_le] <;> with_reducible rfl) rfl (by exact .cons (Fz.all rfl rfl (by simp) rfl (bools_cl _)) (.cons (.v _) .nil)) rfl ?_
    repeat' first
      | refine Holds.seq ?_
      | refine Holds.skip ?_
      | refine Holds.exit ?_
      | refine Holds.ret ?_
      | refine thenA_normal ?_
      | refine thenA_exit ?_
      | refine thenA_ret ?_
      | refine inB_normal ?_
      | refine inB_ret ?_
      | refine inB_here ?_
      | (refine inB_past ?_ ?_; (· exact rfl))
      | refine Holds.reg ?_
      | refine Holds.block ?_
      | refine GS.nil ?_
      | refine Gd.nil ?_
      | (refine Holds.any mixed ?_ ?_; (· kernel_rfl))
      | (refine GS.step (s' := ?_) ?_ ?_ ?_; rotate_left; (· exact rfl); (· (simp [go_sem, List.take_of_length_le] <;> with_reducible rfl)))
      | (refine GS.skip ?_ ?_ ?_; (· exact rfl); (· exact rfl))
      | (refine Gd.go (s' := ?_) ?_ ?_ ?_; rotate_left; (· exact rfl); (· (simp [go_sem, List.take_of_length_le] <;> with_reducible rfl)))
      | (refine Gd.skip ?_ ?_ ?_; (· exact rfl); (· exact rfl))
      | refine Gx.nil ?_
      | (refine Gx.go (s' := ?_) rfl ?_ ?_ ?_; rotate_left; (· exact rfl); (· (simp [go_sem, List.take_of_length_le] <;> with_reducible rfl)))
      | (refine Gx.skip rfl ?_ ?_ ?_; (· exact rfl); (· exact rfl))
      | (refine Gx.skipW rfl ?_ ?_ ?_; (· exact rfl); (· exact rfl))
      | (refine Gx.skipH rfl ?_ ?_ ?_; (· exact rfl); (· exact rfl))
      | (refine Gx.hid (r := ?_) rfl ?_ ?_ ?_ ?_; rotate_left; (· exact rfl); (· exact rfl); (· (simp [go_sem, List.take_of_length_le] <;> with_reducible rfl)))
      | (refine Gx.wr (s' := ?_) rfl ?_ ?_ ?_ ?_; rotate_left; (· exact rfl); (· (simp [go_sem, List.take_of_length_le] <;> with_reducible rfl)); (· (simp [go_sem, List.take_of_length_le])))
      | fail
    refine Holds.cond rfl (fun hf => ?_) (fun hf => ?_)
    · have hall : (hs.set k (hs[k].1, true)).all (·.2) = true := by rw [ha]; simpa using hf
      have e1 : goLong long (hs.set k (hs[k].1, true)) = long + 1 := by unfold goLong; rw [hall]; rfl
      have e2 : goHs (hs.set k (hs[k].1, true)) = (hs.set k (hs[k].1, true)).map fun _ => (0, false) := by unfold goHs; rw [hall]; rfl
      have e5 : waitsL ((hs.set k (hs[k].1, true)).map fun _ => (0, false)) = falses hs.length := by simp [waitsL, falses, List.map_const']
      rw [e1, e2, fromL_zero, e5, List.length_set]
      repeat' first
        | refine Holds.seq ?_
        | refine Holds.skip ?_
        | refine Holds.exit ?_
        | refine Holds.ret ?_
        | refine thenA_normal ?_
        | refine thenA_exit ?_
        | refine thenA_ret ?_
        | refine inB_normal ?_
        | refine inB_ret ?_
        | refine inB_here ?_
        | (refine inB_past ?_ ?_; (· exact rfl))
        | refine Holds.reg ?_
        | refine Holds.block ?_
        | refine GS.nil ?_
        | refine Gd.nil ?_
        | (refine Holds.any mixed ?_ ?_; (· kernel_rfl))
        | (refine GS.step (s' := ?_) ?_ ?_ ?_; rotate_left; (· exact rfl); (· (simp [go_sem, List.take_of_length_le] <;> with_reducible rfl)))
        | (refine GS.skip ?_ ?_ ?_; (· exact rfl); (· exact rfl))
        | (refine Gd.go (s' := ?_) ?_ ?_ ?_; rotate_left; (· exact rfl); (· (simp [go_sem, List.take_of_length_le] <;> with_reducible rfl)))
        | (refine Gd.skip ?_ ?_ ?_; (· exact rfl); (· exact rfl))
        | refine Gx.nil ?_
        | (refine Gx.go (s' := ?_) rfl ?_ ?_ ?_; rotate_left; (· exact rfl); (· (simp [go_sem, List.take_of_length_le] <;> with_reducible rfl)))
        | (refine Gx.skip rfl ?_ ?_ ?_; (· exact rfl); (· exact rfl))
        | (refine Gx.skipW rfl ?_ ?_ ?_; (· exact rfl); (· exact rfl))
        | (refine Gx.skipH rfl ?_ ?_ ?_; (· exact rfl); (· exact rfl))
        | (refine Gx.hid (r := ?_) rfl ?_ ?_ ?_ ?_; rotate_left; (· exact rfl); (· exact rfl); (· (simp [go_sem, List.take_of_length_le] <;> with_reducible rfl)))
        | (refine Gx.wr (s' := ?_) rfl ?_ ?_ ?_ ?_; rotate_left; (· exact rfl); (· (simp [go_sem, List.take_of_length_le] <;> with_reducible rfl)); (· (simp [go_sem, List.take_of_length_le])))
        | fail
      first | refine GS.fnn [0, 1, 2] (ht) rfl rfl rfl rfl (by simp [go_sem, List.take_of_length_le, ren, ren1, okr, okr1, ChkN, BlkN, List.range_succ, nf, waveC] <;> with_reducible rfl) (by simp [go_sem, List.take_of_length_le, ren, ren1, okr, okr1, ChkN, BlkN, List.range_succ, nf, waveC]) (by simp [go_sem, List.take_of_length_le, ren, ren1, okr, okr1, ChkN, BlkN, List.range_succ, nf, waveC]) (by simp [List.range_succ, lb]) (ChkN.toB (by simp [go_sem, List.take_of_length_le, ren, ren1, okr, okr1, ChkN, BlkN, List.range_succ, nf, waveC])) (by decide) (by simp) rfl (.okw (by simp [waveC, okr, okr1]) (.nfr (by simp) (.nfr (by simp) .nil))) (by simp [go_sem, List.take_of_length_le, ren, ren1, okr, okr1, ChkN, BlkN, List.range_succ, nf, waveC] <;> with_reducible rfl) ?_ | refine Gx.fnn [0, 1, 2] (ht) rfl rfl rfl rfl rfl (by simp [go_sem, List.take_of_length_le, ren, ren1, okr, okr1, ChkN, BlkN, List.range_succ, nf, waveC] <;> with_reducible rfl) (by simp [go_sem, List.take_of_length_le, ren, ren1, okr, okr1, ChkN, BlkN, List.range_succ, nf, waveC]) (by simp [go_sem, List.take_of_length_le, ren, ren1, okr, okr1, ChkN, BlkN, List.range_succ, nf, waveC]) (by simp [List.range_succ, lb]) (ChkN.toB (by simp [go_sem, List.take_of_length_le, ren, ren1, okr, okr1, ChkN, BlkN, List.range_succ, nf, waveC])) (by decide) (by simp) rfl (.okw (by simp [waveC, okr, okr1]) (.nfr (by simp) (.nfr (by simp) .nil))) (by simp [go_sem, List.take_of_length_le, ren, ren1, okr, okr1, ChkN, BlkN, List.range_succ, nf, waveC]) (by simp [go_sem, List.take_of_length_le, ren, ren1, okr, okr1, ChkN, BlkN, List.range_succ, nf, waveC] <;> with_reducible rfl) ?_
      repeat' first
        | refine Holds.seq ?_
        | refine Holds.skip ?_
        | refine Holds.exit ?_
        | refine Holds.ret ?_
        | refine thenA_normal ?_
        | refine thenA_exit ?_
        | refine thenA_ret ?_
        | refine inB_normal ?_
        | refine inB_ret ?_
        | refine inB_here ?_
        | (refine inB_past ?_ ?_; (· exact rfl))
        | refine Holds.reg ?_
        | refine Holds.block ?_
        | refine GS.nil ?_
        | refine Gd.nil ?_
        | (refine Holds.any mixed ?_ ?_; (· kernel_rfl))
        | (refine GS.step (s' := ?_) ?_ ?_ ?_; rotate_left; (· exact rfl); (· (simp [go_sem, List.take_of_length_le] <;> with_reducible rfl)))
        | (refine GS.skip ?_ ?_ ?_; (· exact rfl); (· exact rfl))
        | (refine Gd.go (s' := ?_) ?_ ?_ ?_; rotate_left; (· exact rfl); (· (simp [go_sem, List.take_of_length_le] <;> with_reducible rfl)))
        | (refine Gd.skip ?_ ?_ ?_; (· exact rfl); (· exact rfl))
        | refine Gx.nil ?_
        | (refine Gx.go (s' := ?_) rfl ?_ ?_ ?_; rotate_left; (· exact rfl); (· (simp [go_sem, List.take_of_length_le] <;> with_reducible rfl)))
        | (refine Gx.skip rfl ?_ ?_ ?_; (· exact rfl); (· exact rfl))
        | (refine Gx.skipW rfl ?_ ?_ ?_; (· exact rfl); (· exact rfl))
        | (refine Gx.skipH rfl ?_ ?_ ?_; (· exact rfl); (· exact rfl))
        | (refine Gx.hid (r := ?_) rfl ?_ ?_ ?_ ?_; rotate_left; (· exact rfl); (· exact rfl); (· (simp [go_sem, List.take_of_length_le] <;> with_reducible rfl)))
        | (refine Gx.wr (s' := ?_) rfl ?_ ?_ ?_ ?_; rotate_left; (· exact rfl); (· (simp [go_sem, List.take_of_length_le] <;> with_reducible rfl)); (· (simp [go_sem, List.take_of_length_le])))
        | fail
      refine OutF.mkn (xs := ?_) (nm [0, 1, 2, 5]) ?_ ?_ ?_ ?_ ?_ (by first | exact .inr rfl | exact .inl rfl)
      rotate_left
      · simp [go_sem, List.take_of_length_le, waveC, doneC] <;> with_reducible rfl
      · simp [go_sem, List.take_of_length_le, ren, ren1, okr, okr1, ChkN, BlkN, List.range_succ, nf, waveC, doneC]
      · simp [go_sem, List.take_of_length_le, ren, ren1, okr, okr1, ChkN, BlkN, List.range_succ, nf, waveC, doneC]
      · simp [go_sem, List.take_of_length_le, ren, ren1, okr, okr1, ChkN, BlkN, List.range_succ, nf, waveC, doneC]
      · rfl
    · have hall : (hs.set k (hs[k].1, true)).all (·.2) = false := by rw [ha]; simpa using hf
      have e1 : goLong long (hs.set k (hs[k].1, true)) = long := by unfold goLong; rw [hall]; rfl
      have e2 : goHs (hs.set k (hs[k].1, true)) = hs.set k (hs[k].1, true) := by unfold goHs; rw [hall]; rfl
      rw [e1, e2, e3, e4]
      repeat' first
        | refine Holds.seq ?_
        | refine Holds.skip ?_
        | refine Holds.exit ?_
        | refine Holds.ret ?_
        | refine thenA_normal ?_
        | refine thenA_exit ?_
        | refine thenA_ret ?_
        | refine inB_normal ?_
        | refine inB_ret ?_
        | refine inB_here ?_
        | (refine inB_past ?_ ?_; (· exact rfl))
        | refine Holds.reg ?_
        | refine Holds.block ?_
        | refine GS.nil ?_
        | refine Gd.nil ?_
        | (refine Holds.any mixed ?_ ?_; (· kernel_rfl))
        | (refine GS.step (s' := ?_) ?_ ?_ ?_; rotate_left; (· exact rfl); (· (simp [go_sem, List.take_of_length_le] <;> with_reducible rfl)))
        | (refine GS.skip ?_ ?_ ?_; (· exact rfl); (· exact rfl))
        | (refine Gd.go (s' := ?_) ?_ ?_ ?_; rotate_left; (· exact rfl); (· (simp [go_sem, List.take_of_length_le] <;> with_reducible rfl)))
        | (refine Gd.skip ?_ ?_ ?_; (· exact rfl); (· exact rfl))
        | refine Gx.nil ?_
        | (refine Gx.go (s' := ?_) rfl ?_ ?_ ?_; rotate_left; (· exact rfl); (· (simp [go_sem, List.take_of_length_le] <;> with_reducible rfl)))
        | (refine Gx.skip rfl ?_ ?_ ?_; (· exact rfl); (· exact rfl))
        | (refine Gx.skipW rfl ?_ ?_ ?_; (· exact rfl); (· exact rfl))
        | (refine Gx.skipH rfl ?_ ?_ ?_; (· exact rfl); (· exact rfl))
        | (refine Gx.hid (r := ?_) rfl ?_ ?_ ?_ ?_; rotate_left; (· exact rfl); (· exact rfl); (· (simp [go_sem, List.take_of_length_le] <;> with_reducible rfl)))
        | (refine Gx.wr (s' := ?_) rfl ?_ ?_ ?_ ?_; rotate_left; (· exact rfl); (· (simp [go_sem, List.take_of_length_le] <;> with_reducible rfl)); (· (simp [go_sem, List.take_of_length_le])))
        | fail
      refine OutF.mkn (xs := ?_) (nm [0, 1, 2, 2]) ?_ ?_ ?_ ?_ ?_ (by first | exact .inr rfl | exact .inl rfl)
      rotate_left
      · simp [go_sem, List.take_of_length_le, waveC, doneC] <;> with_reducible rfl
      · simp [go_sem, List.take_of_length_le, ren, ren1, okr, okr1, ChkN, BlkN, List.range_succ, nf, waveC, doneC]
      · simp [go_sem, List.take_of_length_le, ren, ren1, okr, okr1, ChkN, BlkN, List.range_succ, nf, waveC, doneC]
      · simp [go_sem, List.take_of_length_le, ren, ren1, okr, okr1, ChkN, BlkN, List.range_succ, nf, waveC, doneC]
      · rfl
end Go.Proofs.Ytbapglkldnlckaa.En
