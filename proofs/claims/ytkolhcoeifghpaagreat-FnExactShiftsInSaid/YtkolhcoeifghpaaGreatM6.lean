/- Own words and walks of this claim, part 6: what the program's functions compute, for all the arguments that are named; no further conditions. -/
import Derived.Test.YtkolhcoeifghpaaGreatM2
import Derived.Test.YtkolhcoeifghpaaGreatM5
section
namespace Go.Proofs.YtkolhcoeifghpaaGreat.En
open Go.RowKit
set_option linter.unusedSimpArgs false
set_option linter.unusedVariables false
set_option maxHeartbeats 4000000
def shiftsX (g : GrammarT) (L : LrT) (s : Nat) (k : Nat) : List Int := ((List.range k).filter fun t : Nat => decide (0 ≤ leadsX g L s (-1 - (t : Int)))).map fun t : Nat => (t : Int)
theorem shiftsX_next (g : GrammarT) (L : LrT) (s k : Nat) : shiftsX g L s (k + 1) = shiftsX g L s k ++ if 0 ≤ leadsX g L s (-1 - (k : Int)) then [(k : Int)] else [] := by
  rw [shiftsX, List.range_succ, List.filter_append, List.map_append]
  by_cases h : 0 ≤ leadsX g L s (-1 - (k : Int)) <;> simp [h, shiftsX]
theorem shiftsX_len (g : GrammarT) (L : LrT) (s k : Nat) : (shiftsX g L s k).length ≤ k := by
  simp only [shiftsX, List.length_map]
  have := List.length_filter_le (fun t : Nat => decide (0 ≤ leadsX g L s (-1 - (t : Int)))) (List.range k)
  rwa [List.length_range] at this
theorem l15Shifts (g : GrammarT) (hG : OkG g) (L : LrT) (hL : LrG g L) (s : Nat) (hs : s < L.1.length) : Pure Tryz.prog 47 [.ag (grammarC g), .ag (lrC L), .v (.int .i64 s)] (.im 1 (ints (shiftsX g L s g.2.1.toNat))) := by
  have hT0 := hG.t0
  have hT1 := hG.t1
  have hN0 := hG.n0
  have hN1 := hG.n1
  obtain ⟨hrow, hrl⟩ := hL.row hG hs
  have hldx : ∀ x, leadsX g L s x = (L.2.getD s []).getD (x + g.2.1).toNat (-1) := fun _ => rfl
  have hw1 : wr64 (g.2.1 - 1) = g.2.1 - 1 := wr64_id (by omega) (by omega)
  refine Pure.mk (rs := [.tmp 6]) (nt := 33) Tryz.func47 (by kernel_rfl) rfl rfl rfl (by simp) ?_
  simp only [sl, grammarC, lrC]
  refine wkdc0 _ ?_
  refine Holds.niw 7 3 1 rfl ?_
  refine Holds.loop (ι := Nat) (fun k => ⟨[(2, .v (.int .i64 s)), (3, .pb 0 3 0 0), (4, .pb 1 2 0 0), (7, .own 2 1 0 (shiftsX g L s k).length), (8, .v (.int .i64 k))], [(2, ⟨3, 1, ints (shiftsX g L s k)⟩), (1, ⟨48, 2, [lrC L]⟩), (0, ⟨31, 3, [grammarC g]⟩)], 3⟩)
    (fun k => k ≤ g.2.1.toNat) (fun k => g.2.1.toNat - k) 0 (Nat.zero_le _) ?_ ?_
  · exact Cov.ofn (id) rfl (by simp [go_sem, List.take_of_length_le, ren, ren1, ren2, okr, okr1, okr2, ChkT, ChkN, BlkN, nf, niw, grammarC, lrC, show shiftsX g L s 0 = [] from rfl, show ints [] = [] from rfl]) (by simp [go_sem, List.take_of_length_le, ren, ren1, ren2, okr, okr1, okr2, ChkT, ChkN, BlkN, nf, niw, grammarC, lrC, show shiftsX g L s 0 = [] from rfl, show ints [] = [] from rfl])
  intro k hk
  have stepk : wr64 ((k : Int) + 1) = ((k + 1 : Nat) : Int) := wr64_id (by omega) (by omega)
  have hnx := shiftsX_next g L s k
  have hll := shiftsX_len g L s k
  rw [hldx] at hnx
  generalize hC : shiftsX g L s k = C at hnx hll ⊢
  have hbb : (C.length + 1) * 8 ≤ 140737488355328 := by omega
  refine wkdc (And.intro @grammarC.eq_1 (@lrC.eq_1)) _ ?_
  refine Holds.cond rfl (fun h => ?_) (fun h => ?_)
  · have hkt : (k : Int) < g.2.1 := by simpa using h
    obtain ⟨i, hi1, hi2⟩ : ∃ i : Nat, g.2.1 - 1 - (k : Int) = (i : Int) ∧ (-1 - (k : Int) + g.2.1).toNat = i := ⟨(g.2.1 - 1 - k).toNat, by omega, by omega⟩
    rw [hi2] at hnx
    clear hldx
    generalize L.2.getD s [] = row at hrow hrl hnx
    have hs2 : s < L.2.length := (List.getElem?_eq_some_iff.1 hrow).1
    have hil : i < row.length := by omega
    have hei : row[i]? = some row[i] := List.getElem?_eq_getElem hil
    rw [List.getD_eq_getElem?_getD, hei, Option.getD_some] at hnx
    generalize row[i] = e at hei hnx
    have hw2 : wr64 (i : Int) = (i : Int) := wr64_id (by omega) (by omega)
    refine wkdsc (And.intro @grammarC.eq_1 (@lrC.eq_1)) _ ?_
    (refine Holds.any mixed ?_ ?_; (· kernel_rfl))
    by_cases he : 0 ≤ e
    · have hen : ¬ e < 0 := by omega
      rw [if_pos he] at hnx
      refine wkdsc (And.intro @hs2 (And.intro @hrow (And.intro (@get_E _ _ _ _ hrow) (And.intro @intsC.eq_1 (And.intro @hw1 (And.intro @hi1 (And.intro @hw2 (And.intro @hil (And.intro @hei (And.intro (@get_E _ _ _ _ hei) (And.intro @he (And.intro @hen (And.intro @hbb (And.intro @grammarC.eq_1 (@lrC.eq_1))))))))))))))) _ ?_
      refine ⟨k + 1, by omega, by omega, ?_⟩
      rw [stepk, hnx]
      exact Cov.ofn (nm [0, 1, 5]) rfl (by simp [go_sem, List.take_of_length_le, ren, ren1, ren2, okr, okr1, okr2, ChkT, ChkN, BlkN, nf, grammarC, lrC, ints_snoc]) (by simp [go_sem, List.take_of_length_le, ren, ren1, ren2, okr, okr1, okr2, ChkT, ChkN, BlkN, nf, grammarC, lrC, ints_snoc])
    · have hen : e < 0 := by omega
      rw [if_neg he, List.append_nil] at hnx
      refine wkdsc (And.intro @hs2 (And.intro @hrow (And.intro (@get_E _ _ _ _ hrow) (And.intro @intsC.eq_1 (And.intro @hw1 (And.intro @hi1 (And.intro @hw2 (And.intro @hil (And.intro @hei (And.intro (@get_E _ _ _ _ hei) (And.intro @he (And.intro @hen (And.intro @grammarC.eq_1 (@lrC.eq_1)))))))))))))) _ ?_
      refine ⟨k + 1, by omega, by omega, ?_⟩
      rw [stepk, hnx]
      exact Cov.ofn (id) rfl (by simp [go_sem, List.take_of_length_le, ren, ren1, ren2, okr, okr1, okr2, ChkT, ChkN, BlkN, nf, grammarC, lrC]) (by simp [go_sem, List.take_of_length_le, ren, ren1, ren2, okr, okr1, okr2, ChkT, ChkN, BlkN, nf, grammarC, lrC])
  · have hke : k = g.2.1.toNat := by
      have : ¬ (k : Int) < g.2.1 := by simpa using h
      omega
    rw [← hke, hC]
    refine wkdc0 _ ?_
    refine Out.mk (xs := ?_) ?_ ?_ (by first | exact .inr rfl | exact .inl rfl)
    rotate_left
    · simp [go_sem, List.take_of_length_le] <;> with_reducible rfl
    exact Fz.all rfl rfl (by simp) rfl (ints_cl _)
noncomputable def shiftV (g : GrammarT) (L : LrT) (st : Int) : List Int × Bool := if askV g L st = true then (shiftsX g L st.toNat g.2.1.toNat, true) else ([], false)
theorem shiftV_len (g : GrammarT) (L : LrT) (st : Int) : (shiftV g L st).1.length ≤ 4 := by
  unfold shiftV
  split
  · rename_i h
    obtain ⟨hG, hL, s, rfl, hs⟩ := ask_ok h
    have := hG.t1
    exact Nat.le_trans (shiftsX_len g L _ _) (by omega)
  · simp
theorem specShiftsIn (g : GrammarT) (L : LrT) (st : Int) (hx : g.2.2.length < 4611686018427387904) (hs : ∀ e ∈ g.2.2, e.2.length < 4611686018427387904) (hL : L.1.length ≤ 1048576) : Pure Tryz.prog 19 [.ag (grammarC g), .ag (lrC L), .v (.int .i64 st)] (.tu [.im 1 (ints (shiftV g L st).1), .v (.bool (shiftV g L st).2)]) := by
  have ca := l15Asked g hx hs L hL st
  unfold shiftV
  refine Pure.mk (rs := [.tmp 6, .tmp 7]) (nt := 17) Tryz.func19 (by kernel_rfl) rfl rfl rfl (by simp) ?_
  simp only [sl, grammarC, lrC]
  refine wkc (And.intro @grammarC.eq_1 (@lrC.eq_1)) _ ?_
  cases hk : askV g L st with
  | false =>
    rw [hk] at ca
    simp only [Bool.false_eq_true, if_false]
    refine GS.cc (ca) rfl rfl rfl rfl (by simp [go_sem, List.take_of_length_le, grammarC, lrC] <;> with_reducible rfl) rfl (by simp [go_sem, List.take_of_length_le, grammarC, lrC]) ?_
    refine wkc0 _ ?_
    refine Out.mk (xs := ?_) ?_ ?_ (by first | exact .inr rfl | exact .inl rfl)
    rotate_left
    · simp [go_sem, List.take_of_length_le] <;> with_reducible rfl
    exact Fz.tuL (.cons (Fz.nl _) (.cons (.v _) .nil))
  | true =>
    rw [hk] at ca
    simp only [if_true]
    obtain ⟨hG, hLG, s, rfl, hsl⟩ := ask_ok hk
    have ce := l15Shifts g hG L hLG s hsl
    rw [Int.toNat_natCast]
    refine GS.cc (ca) rfl rfl rfl rfl (by simp [go_sem, List.take_of_length_le, grammarC, lrC] <;> with_reducible rfl) rfl (by simp [go_sem, List.take_of_length_le, grammarC, lrC]) ?_
    refine wkc (And.intro @grammarC.eq_1 (@lrC.eq_1)) _ ?_
    refine GS.cc (ce) rfl rfl rfl rfl (by simp [go_sem, List.take_of_length_le, grammarC, lrC] <;> with_reducible rfl) rfl (by simp [go_sem, List.take_of_length_le, grammarC, lrC]) ?_
    refine wkc0 _ ?_
    refine Out.mk (xs := ?_) ?_ ?_ (by first | exact .inr rfl | exact .inl rfl)
    rotate_left
    · simp [go_sem, List.take_of_length_le] <;> with_reducible rfl
    exact Fz.tuL (.cons (.im _ _) (.cons (.v _) .nil))
theorem implShiftsIn (g : GrammarT) (L : LrT) (st : Int) (hx : g.2.2.length < 4611686018427387904) (hs : ∀ e ∈ g.2.2, e.2.length < 4611686018427387904) (hL : L.1.length ≤ 1048576) : Fn Tryz.prog 21 0 [.ag (grammarC g), .ag (lrC L), .v (.int .i64 st)] [] (.tu [.own 0 1 0 (shiftV g L st).1.length, .v (.bool (shiftV g L st).2)]) 1 [(0, ⟨3, 1, ints (shiftV g L st).1⟩)] := by
  have co := ownStatesG g hx hs L
  have hk : askV g L st = (((statesX g).2 && decide ((statesX g).1 = L)) && inR st 0 ((L.1.length : Int) - 1)) := by rw [askV, Bool.and_assoc]
  have hw : wr64 ((L.1.length : Int) - 1) = (L.1.length : Int) - 1 := wr64_id (by omega) (by omega)
  have hask := fun h => ask_ok (g := g) (L := L) (st := st) h
  unfold shiftV
  generalize askV g L st = k at hk hask ⊢
  have hVL : ((statesX g).2 && decide ((statesX g).1 = L)) = true → (statesX g).1 = L := fun h => by
    rw [Bool.and_eq_true, decide_eq_true_iff] at h; exact h.2
  generalize hok : ((statesX g).2 && decide ((statesX g).1 = L)) = ok at co hk hVL
  clear hok
  refine Fn.mk (rs := [.tmp 6, .tmp 7]) (nt := 48) Tryz.func21 (by kernel_rfl) rfl rfl rfl (by simp) ?_
  simp only [sl, grammarC, lrC]
  refine wkdc (And.intro @grammarC.eq_1 (@lrC.eq_1)) _ ?_
  cases ok with
  | false =>
    rw [Bool.false_and] at hk
    subst hk
    simp only [Bool.false_eq_true, if_false]
    generalize (statesX g).1 = V at co
    first | refine GS.cc (co) rfl rfl rfl rfl (by simp [go_sem, List.take_of_length_le, grammarC, lrC] <;> with_reducible rfl) rfl (by simp [go_sem, List.take_of_length_le, grammarC, lrC]) ?_ | refine Gd.cc (co) rfl rfl rfl rfl (by simp [go_sem, List.take_of_length_le, grammarC, lrC] <;> with_reducible rfl) rfl (by simp [go_sem, List.take_of_length_le, grammarC, lrC]) ?_
    refine wkdc (@lrC.eq_1) _ ?_
    refine OutF.cov (Cov.niw (t := 6) 3 1 rfl) ?_
    refine OutF.mkn (xs := ?_) (nm [3]) ?_ ?_ ?_ ?_ ?_ (by first | exact .inr rfl | exact .inl rfl)
    rotate_left
    · simp [go_sem, List.take_of_length_le, niw, ints] <;> with_reducible rfl
    · simp [go_sem, List.take_of_length_le, ren, ren1, ren2, okr, okr1, okr2, ChkN, BlkN, List.range_succ, nf, niw, ints]
    · simp [go_sem, List.take_of_length_le, ren, ren1, ren2, okr, okr1, okr2, ChkN, BlkN, List.range_succ, nf, niw, ints]
    · simp [go_sem, List.take_of_length_le, ren, ren1, ren2, okr, okr1, okr2, ChkN, BlkN, List.range_succ, nf, niw, ints]
    · rfl
  | true =>
    rw [Bool.true_and] at hk
    rw [hVL rfl] at co
    have ci := implIn st 0 ((L.1.length : Int) - 1)
    rw [← hk] at ci
    clear hk
    first | refine GS.cc (co) rfl rfl rfl rfl (by simp [go_sem, List.take_of_length_le, grammarC, lrC] <;> with_reducible rfl) rfl (by simp [go_sem, List.take_of_length_le, grammarC, lrC]) ?_ | refine Gd.cc (co) rfl rfl rfl rfl (by simp [go_sem, List.take_of_length_le, grammarC, lrC] <;> with_reducible rfl) rfl (by simp [go_sem, List.take_of_length_le, grammarC, lrC]) ?_
    refine wkdc (And.intro @lrC.eq_1 (@hw)) _ ?_
    first | refine GS.cc (ci) rfl rfl rfl rfl (by simp [go_sem, List.take_of_length_le] <;> with_reducible rfl) rfl (by simp [go_sem, List.take_of_length_le]) ?_ | refine Gd.cc (ci) rfl rfl rfl rfl (by simp [go_sem, List.take_of_length_le] <;> with_reducible rfl) rfl (by simp [go_sem, List.take_of_length_le]) ?_
    cases k with
    | false =>
      simp only [Bool.false_eq_true, if_false]
      refine wkdc (@lrC.eq_1) _ ?_
      refine OutF.cov (Cov.niw (t := 6) 3 1 rfl) ?_
      refine OutF.mkn (xs := ?_) (nm [3]) ?_ ?_ ?_ ?_ ?_ (by first | exact .inr rfl | exact .inl rfl)
      rotate_left
      · simp [go_sem, List.take_of_length_le, niw, ints] <;> with_reducible rfl
      · simp [go_sem, List.take_of_length_le, ren, ren1, ren2, okr, okr1, okr2, ChkN, BlkN, List.range_succ, nf, niw, ints]
      · simp [go_sem, List.take_of_length_le, ren, ren1, ren2, okr, okr1, okr2, ChkN, BlkN, List.range_succ, nf, niw, ints]
      · simp [go_sem, List.take_of_length_le, ren, ren1, ren2, okr, okr1, okr2, ChkN, BlkN, List.range_succ, nf, niw, ints]
      · rfl
    | true =>
      obtain ⟨hG, hLG, s, rfl, hsl⟩ := hask rfl
      have hT0 := hG.t0
      have hT1 := hG.t1
      have hN0 := hG.n0
      have hN1 := hG.n1
      simp only [if_true]
      rw [Int.toNat_natCast]
      refine wkdc (And.intro @grammarC.eq_1 (@lrC.eq_1)) _ ?_
      refine Holds.loop (ι := Nat) (fun k => ⟨[(2, .v (.int .i64 s)), (3, .pb 0 3 0 0), (8, .pb 1 2 0 0), (10, .own 2 1 0 (shiftsX g L s k).length), (31, .v (.int .i64 g.2.1)), (32, .v (.int .i64 k))], [(2, ⟨3, 1, ints (shiftsX g L s k)⟩), (1, ⟨48, 2, [lrC L]⟩), (0, ⟨31, 3, [grammarC g]⟩)], 3⟩)
        (fun k => k ≤ g.2.1.toNat) (fun k => g.2.1.toNat - k) 0 (Nat.zero_le _) ?_ ?_
      · exact Cov.ofn (nm [0, 2, 3]) rfl (by simp [go_sem, List.take_of_length_le, ren, ren1, ren2, okr, okr1, okr2, ChkT, ChkN, BlkN, nf, grammarC, lrC, show shiftsX g L s 0 = [] from rfl, show ints [] = [] from rfl]) (by simp [go_sem, List.take_of_length_le, ren, ren1, ren2, okr, okr1, okr2, ChkT, ChkN, BlkN, nf, grammarC, lrC, show shiftsX g L s 0 = [] from rfl, show ints [] = [] from rfl])
      intro k hk
      have stepk : wr64 ((k : Int) + 1) = ((k + 1 : Nat) : Int) := wr64_id (by omega) (by omega)
      have hnx := shiftsX_next g L s k
      have hll := shiftsX_len g L s k
      generalize hC : shiftsX g L s k = C at hnx hll ⊢
      have hbb : (C.length + 1) * 8 ≤ 140737488355328 := by omega
      refine wkdc0 _ ?_
      refine Holds.cond rfl (fun h => ?_) (fun h => ?_)
      · have hkt : (k : Int) < g.2.1 := by simpa using h
        have cs := symbolOfA (k : Int) (by omega) (by omega)
        have cl := leadsG g hG L hLG s hsl (-1 - (k : Int)) (by omega) (by omega)
        generalize leadsX g L s (-1 - (k : Int)) = e at cl hnx
        refine wkdsc0 _ ?_
        (refine Holds.any mixed ?_ ?_; (· kernel_rfl))
        refine wkdsc (And.intro @grammarC.eq_1 (@lrC.eq_1)) _ ?_
        first | refine GS.cc (cs) rfl rfl rfl rfl (by simp [go_sem, List.take_of_length_le] <;> with_reducible rfl) rfl (by simp [go_sem, List.take_of_length_le]) ?_ | refine Gd.cc (cs) rfl rfl rfl rfl (by simp [go_sem, List.take_of_length_le] <;> with_reducible rfl) rfl (by simp [go_sem, List.take_of_length_le]) ?_
        refine wkdsc0 _ ?_
        first | refine GS.cc (cl) rfl rfl rfl rfl (by simp [go_sem, List.take_of_length_le, grammarC, lrC] <;> with_reducible rfl) rfl (by simp [go_sem, List.take_of_length_le, grammarC, lrC]) ?_ | refine Gd.cc (cl) rfl rfl rfl rfl (by simp [go_sem, List.take_of_length_le, grammarC, lrC] <;> with_reducible rfl) rfl (by simp [go_sem, List.take_of_length_le, grammarC, lrC]) ?_
        by_cases he : 0 ≤ e
        · have hen : ¬ e < 0 := by omega
          rw [if_pos he] at hnx
          refine wkdc (And.intro @he (And.intro @hen (@hbb))) _ ?_
          refine ⟨k + 1, by omega, by omega, ?_⟩
          rw [stepk, hnx]
          exact Cov.ofn (nm [0, 1, 5]) rfl (by simp [go_sem, List.take_of_length_le, ren, ren1, ren2, okr, okr1, okr2, ChkT, ChkN, BlkN, nf, grammarC, lrC, ints_snoc]) (by simp [go_sem, List.take_of_length_le, ren, ren1, ren2, okr, okr1, okr2, ChkT, ChkN, BlkN, nf, grammarC, lrC, ints_snoc])
        · have hen : e < 0 := by omega
          rw [if_neg he, List.append_nil] at hnx
          refine wkdc (And.intro @he (@hen)) _ ?_
          refine ⟨k + 1, by omega, by omega, ?_⟩
          rw [stepk, hnx]
          exact Cov.ofn (id) rfl (by simp [go_sem, List.take_of_length_le, ren, ren1, ren2, okr, okr1, okr2, ChkT, ChkN, BlkN, nf, grammarC, lrC]) (by simp [go_sem, List.take_of_length_le, ren, ren1, ren2, okr, okr1, okr2, ChkT, ChkN, BlkN, nf, grammarC, lrC])
      · have hke : k = g.2.1.toNat := by
          have : ¬ (k : Int) < g.2.1 := by simpa using h
          omega
        rw [← hke, hC]
        refine wkdc0 _ ?_
        refine OutF.mkn (xs := ?_) (nm [2]) ?_ ?_ ?_ ?_ ?_ (by first | exact .inr rfl | exact .inl rfl)
        rotate_left
        · simp [go_sem, List.take_of_length_le] <;> with_reducible rfl
        · simp [go_sem, List.take_of_length_le, ren, ren1, ren2, okr, okr1, okr2, ChkN, BlkN, List.range_succ, nf]
        · simp [go_sem, List.take_of_length_le, ren, ren1, ren2, okr, okr1, okr2, ChkN, BlkN, List.range_succ, nf]
        · simp [go_sem, List.take_of_length_le, ren, ren1, ren2, okr, okr1, okr2, ChkN, BlkN, List.range_succ, nf]
        · rfl
end Go.Proofs.YtkolhcoeifghpaaGreat.En
end
section
namespace Go.Proofs.YtkolhcoeifghpaaGreat.En
open Go.RowKit
set_option linter.unusedSimpArgs false
set_option linter.unusedVariables false
set_option maxHeartbeats 8000000
theorem lawShiftsIn (g : GrammarT) (s : LrT) (st : Int) (hxg : g.2.2.length < 8796093022208) (hsg : ∀ e ∈ g.2.2, e.2.length < 35184372088832) (hxs : s.1.length < 5864062014806) (hss : ∀ e ∈ s.1, e.length < 5864062014806) (hns : s.2.length < 5864062014806) (hms : ∀ e ∈ s.2, e.length < 35184372088832) : Pure Tryz.prog 4 [.ag (grammarC g), .ag (lrC s), .v (.int .i64 st)] (.v (.bool true)) := by
  refine Pure.mk (rs := [.tmp 6]) (nt := 124) Tryz.func4 (by kernel_rfl) rfl rfl rfl (by simp) ?_
  simp only [sl, grammarC, lrC]
  have hsg' : ∀ e ∈ g.2.2, e.2.length < 4611686018427387904 := fun e he => by have := hsg e he; omega
  have ctg := toGrammar g hxg hsg
  have ceg := eqGrammar g g hxg hsg
  have cog := toGrammarO g hxg hsg
  have cts := toLr s hxs hss hns hms
  have ces := eqLr s s (by omega) (fun e he => by have := hss e he; omega) (by omega) (fun e he => by have := hms e he; omega)
  have cos := toLrO s hxs hss hns hms
  have hig := szGrammarF_in (n := 1048576) (x := g) (by omega)
  have czg := szGrammar g 1048576 (by omega) (by omega) hxg hsg
  have his := szLrF_in (n := szGrammarF 1048576 g) (x := s) (by omega) (by omega)
  have czs := szLr s (szGrammarF 1048576 g) (by omega) (by omega) hxs hss hns hms
  refine wkd0 _ ?_
  first | refine GS.cc (czg) rfl rfl rfl rfl (by simp [go_sem, List.take_of_length_le, grammarC, lrC] <;> with_reducible rfl) rfl (by simp [go_sem, List.take_of_length_le, grammarC, lrC]) ?_ | refine Gd.cc (czg) rfl rfl rfl rfl (by simp [go_sem, List.take_of_length_le, grammarC, lrC] <;> with_reducible rfl) rfl (by simp [go_sem, List.take_of_length_le, grammarC, lrC]) ?_
  refine wkd0 _ ?_
  refine Holds.cond rfl (fun h => ?_) (fun h => ?_)
  · refine wkd0 _ ?_
    refine Out.mk (xs := ?_) ?_ ?_ (by first | exact .inr rfl | exact .inl rfl)
    rotate_left
    · simp [go_sem, List.take_of_length_le] <;> with_reducible rfl
    exact .v _
  have hqg := szGrammar_wt (show 0 ≤ szGrammarF (1048576) g by simp at h; omega)
  refine wkd0 _ ?_
  first | refine GS.cc (czs) rfl rfl rfl rfl (by simp [go_sem, List.take_of_length_le, grammarC, lrC] <;> with_reducible rfl) rfl (by simp [go_sem, List.take_of_length_le, grammarC, lrC]) ?_ | refine Gd.cc (czs) rfl rfl rfl rfl (by simp [go_sem, List.take_of_length_le, grammarC, lrC] <;> with_reducible rfl) rfl (by simp [go_sem, List.take_of_length_le, grammarC, lrC]) ?_
  refine wkd0 _ ?_
  refine Holds.cond rfl (fun h => ?_) (fun h => ?_)
  · refine wkd0 _ ?_
    refine Out.mk (xs := ?_) ?_ ?_ (by first | exact .inr rfl | exact .inl rfl)
    rotate_left
    · simp [go_sem, List.take_of_length_le] <;> with_reducible rfl
    exact .v _
  have hqs := szLr_wt (show 0 ≤ szLrF (szGrammarF (1048576) g) s by simp at h; omega)
  have p1 := specShiftsIn g s st (by omega) hsg' (by omega)
  have p2 := implShiftsIn g s st (by omega) hsg' (by omega)
  try simp only [decide_true] at ceg ces
  have hv := shiftV_len g s st
  generalize shiftV g s st = v at p1 p2 hv
  have p3 := p2.pure (r' := .tu [.im 1 (ints v.1), .v (.bool v.2)]) (Fz.tuL (.cons (Fz.all rfl rfl (by simp) rfl (ints_cl _)) (.cons (.v _) .nil)))
  refine wkd (And.intro @grammarC.eq_1 (@lrC.eq_1)) _ ?_
  first | refine GS.cc (ctg) rfl rfl rfl rfl (by simp [go_sem, List.take_of_length_le, grammarC, lrC] <;> with_reducible rfl) rfl (by simp [go_sem, List.take_of_length_le, grammarC, lrC]) ?_ | refine Gd.cc (ctg) rfl rfl rfl rfl (by simp [go_sem, List.take_of_length_le, grammarC, lrC] <;> with_reducible rfl) rfl (by simp [go_sem, List.take_of_length_le, grammarC, lrC]) ?_
  refine wkd (And.intro @grammarC.eq_1 (@lrC.eq_1)) _ ?_
  first | refine GS.cc (cts) rfl rfl rfl rfl (by simp [go_sem, List.take_of_length_le, grammarC, lrC] <;> with_reducible rfl) rfl (by simp [go_sem, List.take_of_length_le, grammarC, lrC]) ?_ | refine Gd.cc (cts) rfl rfl rfl rfl (by simp [go_sem, List.take_of_length_le, grammarC, lrC] <;> with_reducible rfl) rfl (by simp [go_sem, List.take_of_length_le, grammarC, lrC]) ?_
  refine wkd (And.intro @grammarC.eq_1 (@lrC.eq_1)) _ ?_
  first | refine GS.cc (p1) rfl rfl rfl rfl (by simp [go_sem, List.take_of_length_le, grammarC, lrC] <;> with_reducible rfl) rfl (by simp [go_sem, List.take_of_length_le, grammarC, lrC]) ?_ | refine Gd.cc (p1) rfl rfl rfl rfl (by simp [go_sem, List.take_of_length_le, grammarC, lrC] <;> with_reducible rfl) rfl (by simp [go_sem, List.take_of_length_le, grammarC, lrC]) ?_
  refine wkd (And.intro @grammarC.eq_1 (@lrC.eq_1)) _ ?_
  refine GS.fnn [] (cog) rfl rfl rfl rfl (by simp [go_sem, List.take_of_length_le, ren, ren1, ren2, okr, okr1, okr2, ChkN, BlkN, List.range_succ, nf, grammarC, lrC] <;> with_reducible rfl) (by simp [go_sem, List.take_of_length_le, ren, ren1, ren2, okr, okr1, okr2, ChkN, BlkN, List.range_succ, nf, grammarC, lrC]) (by simp [go_sem, List.take_of_length_le, ren, ren1, ren2, okr, okr1, okr2, ChkN, BlkN, List.range_succ, nf, grammarC, lrC]) (by simp [List.range_succ, lb]) (ChkN.toB (by simp [go_sem, List.take_of_length_le, ren, ren1, ren2, okr, okr1, okr2, ChkN, BlkN, List.range_succ, nf, grammarC, lrC])) (by decide) (by simp) rfl (.nfr (by simp) .nil) (by simp [go_sem, List.take_of_length_le, ren, ren1, ren2, okr, okr1, okr2, ChkN, BlkN, List.range_succ, nf, grammarC, lrC] <;> with_reducible rfl) ?_
  refine wkd (And.intro @grammarC.eq_1 (@lrC.eq_1)) _ ?_
  refine GS.fnn [] (cos) rfl rfl rfl rfl (by simp [go_sem, List.take_of_length_le, ren, ren1, ren2, okr, okr1, okr2, ChkN, BlkN, List.range_succ, nf, grammarC, lrC] <;> with_reducible rfl) (by simp [go_sem, List.take_of_length_le, ren, ren1, ren2, okr, okr1, okr2, ChkN, BlkN, List.range_succ, nf, grammarC, lrC]) (by simp [go_sem, List.take_of_length_le, ren, ren1, ren2, okr, okr1, okr2, ChkN, BlkN, List.range_succ, nf, grammarC, lrC]) (by simp [List.range_succ, lb]) (ChkN.toB (by simp [go_sem, List.take_of_length_le, ren, ren1, ren2, okr, okr1, okr2, ChkN, BlkN, List.range_succ, nf, grammarC, lrC])) (by decide) (by simp) rfl (.nfr (by simp) (.nfr (by simp) .nil)) (by simp [go_sem, List.take_of_length_le, ren, ren1, ren2, okr, okr1, okr2, ChkN, BlkN, List.range_succ, nf, grammarC, lrC] <;> with_reducible rfl) ?_
  refine wkd (And.intro @grammarC.eq_1 (@lrC.eq_1)) _ ?_
  refine GS.fnnd (p2) rfl rfl rfl rfl (by simp [go_sem, List.take_of_length_le, ren, ren1, ren2, okr, okr1, okr2, List.range_succ, nf, grammarC, lrC] <;> with_reducible rfl) (by exact (.cons (Fz.agL (.cons (.v _) (.cons (.v _) (.cons (fz_rulesO _ rfl rfl) .nil)))) (.cons (Fz.agL (.cons (fz_itemssD _ rfl rfl) (.cons (fz_intssO _ rfl rfl) .nil))) (.cons (.v _) .nil)))) (by simp) (by simp [go_sem, List.take_of_length_le, ren, ren1, ren2, okr, okr1, okr2, List.range_succ, nf, grammarC, lrC]) (by simp [go_sem, List.take_of_length_le, ren, ren1, ren2, okr, okr1, okr2, List.range_succ, nf, grammarC, lrC]) rfl (.nfr (by simp) (.nil)) (by simp [go_sem, List.take_of_length_le, ren, ren1, ren2, okr, okr1, okr2, List.range_succ, nf, grammarC, lrC] <;> with_reducible rfl) ?_
  have ceq := eqIntS v.1 v.1 (by omega)
  try simp only [decide_true] at ceq
  refine wkd0 _ ?_
  first | refine GS.cd (ceq) rfl rfl rfl rfl (by simp [go_sem, List.take_of_length_le] <;> with_reducible rfl) rfl (by exact (.cons (Fz.all rfl rfl (by simp) rfl (ints_cl _)) (.cons (.im _ _) .nil))) rfl ?_ | refine Gd.cd (ceq) rfl rfl rfl rfl (by simp [go_sem, List.take_of_length_le] <;> with_reducible rfl) rfl (by exact (.cons (Fz.all rfl rfl (by simp) rfl (ints_cl _)) (.cons (.im _ _) .nil))) rfl ?_
  clear ceq
  refine wkd0 _ ?_
  refine Holds.cond rfl (fun h => ?_) (fun h => ?_)
  · cases h
  refine wkd0 _ ?_
  first | refine GS.cc (ctg) rfl rfl rfl rfl (by simp [go_sem, List.take_of_length_le, grammarC, lrC] <;> with_reducible rfl) rfl (by simp [go_sem, List.take_of_length_le, grammarC, lrC]) ?_ | refine Gd.cc (ctg) rfl rfl rfl rfl (by simp [go_sem, List.take_of_length_le, grammarC, lrC] <;> with_reducible rfl) rfl (by simp [go_sem, List.take_of_length_le, grammarC, lrC]) ?_
  refine wkd (And.intro @grammarC.eq_1 (@lrC.eq_1)) _ ?_
  first | refine GS.cd (ceg) rfl rfl rfl rfl (by simp [go_sem, List.take_of_length_le, grammarC, lrC] <;> with_reducible rfl) rfl (by exact (.cons (Fz.agL (.cons (.v _) (.cons (.v _) (.cons (fz_rulesO _ rfl rfl) .nil)))) (.cons (Fz.cl rfl) .nil))) rfl ?_ | refine Gd.cd (ceg) rfl rfl rfl rfl (by simp [go_sem, List.take_of_length_le, grammarC, lrC] <;> with_reducible rfl) rfl (by exact (.cons (Fz.agL (.cons (.v _) (.cons (.v _) (.cons (fz_rulesO _ rfl rfl) .nil)))) (.cons (Fz.cl rfl) .nil))) rfl ?_
  refine wkd0 _ ?_
  refine Holds.cond rfl (fun h => ?_) (fun h => ?_)
  · cases h
  refine wkd0 _ ?_
  first | refine GS.cc (cts) rfl rfl rfl rfl (by simp [go_sem, List.take_of_length_le, grammarC, lrC] <;> with_reducible rfl) rfl (by simp [go_sem, List.take_of_length_le, grammarC, lrC]) ?_ | refine Gd.cc (cts) rfl rfl rfl rfl (by simp [go_sem, List.take_of_length_le, grammarC, lrC] <;> with_reducible rfl) rfl (by simp [go_sem, List.take_of_length_le, grammarC, lrC]) ?_
  refine wkd (And.intro @grammarC.eq_1 (@lrC.eq_1)) _ ?_
  first | refine GS.cd (ces) rfl rfl rfl rfl (by simp [go_sem, List.take_of_length_le, grammarC, lrC] <;> with_reducible rfl) rfl (by exact (.cons (Fz.agL (.cons (fz_itemssD _ rfl rfl) (.cons (fz_intssO _ rfl rfl) .nil))) (.cons (Fz.cl rfl) .nil))) rfl ?_ | refine Gd.cd (ces) rfl rfl rfl rfl (by simp [go_sem, List.take_of_length_le, grammarC, lrC] <;> with_reducible rfl) rfl (by exact (.cons (Fz.agL (.cons (fz_itemssD _ rfl rfl) (.cons (fz_intssO _ rfl rfl) .nil))) (.cons (Fz.cl rfl) .nil))) rfl ?_
  refine wkd0 _ ?_
  refine Holds.cond rfl (fun h => ?_) (fun h => ?_)
  · cases h
  have cmg := markGrammar g ((1 : Int)) (by omega) (by omega) (by omega)
  refine wkd0 _ ?_
  refine GS.fnn [2] (cmg) rfl rfl rfl rfl (by simp [go_sem, List.take_of_length_le, ren, ren1, ren2, okr, okr1, okr2, ChkN, BlkN, List.range_succ, nf] <;> with_reducible rfl) (by simp [go_sem, List.take_of_length_le, ren, ren1, ren2, okr, okr1, okr2, ChkN, BlkN, List.range_succ, nf]) (by simp [go_sem, List.take_of_length_le, ren, ren1, ren2, okr, okr1, okr2, ChkN, BlkN, List.range_succ, nf]) (by simp [List.range_succ, lb]) (ChkN.toB (by simp [go_sem, List.take_of_length_le, ren, ren1, ren2, okr, okr1, okr2, ChkN, BlkN, List.range_succ, nf])) (by decide) (by simp) rfl (.nfr (by simp) (.nil)) (by simp [go_sem, List.take_of_length_le, ren, ren1, ren2, okr, okr1, okr2, ChkN, BlkN, List.range_succ, nf] <;> with_reducible rfl) ?_
  have cms := markLr s ((1 : Int) + (wGrammar g : Nat)) (by omega) (by omega) (by omega) (fun e he => by have := hss e he; omega) (by omega)
  refine wkd0 _ ?_
  refine GS.fnn [4, 5] (cms) rfl rfl rfl rfl (by simp [go_sem, List.take_of_length_le, ren, ren1, ren2, okr, okr1, okr2, ChkN, BlkN, List.range_succ, nf] <;> with_reducible rfl) (by simp [go_sem, List.take_of_length_le, ren, ren1, ren2, okr, okr1, okr2, ChkN, BlkN, List.range_succ, nf]) (by simp [go_sem, List.take_of_length_le, ren, ren1, ren2, okr, okr1, okr2, ChkN, BlkN, List.range_succ, nf]) (by simp [List.range_succ, lb]) (ChkN.toB (by simp [go_sem, List.take_of_length_le, ren, ren1, ren2, okr, okr1, okr2, ChkN, BlkN, List.range_succ, nf])) (by decide) (by simp) rfl (.nfr (by simp) (.nfr (by simp) (.nil))) (by simp [go_sem, List.take_of_length_le, ren, ren1, ren2, okr, okr1, okr2, ChkN, BlkN, List.range_succ, nf] <;> with_reducible rfl) ?_
  have hk0 : ¬ ((1 : Int) + (wGrammar g : Nat) + (wLr s : Nat) < 0) := by omega
  have ceq := eqIntS v.1 v.1 (by omega)
  try simp only [decide_true] at ceq
  refine wkd (@hk0) _ ?_
  first | refine GS.cd (ceq) rfl rfl rfl rfl (by simp [go_sem, List.take_of_length_le, hk0] <;> with_reducible rfl) rfl (by exact (.cons (Fz.all rfl rfl (by simp) rfl (ints_cl _)) (.cons (.im _ _) .nil))) rfl ?_ | refine Gd.cd (ceq) rfl rfl rfl rfl (by simp [go_sem, List.take_of_length_le, hk0] <;> with_reducible rfl) rfl (by exact (.cons (Fz.all rfl rfl (by simp) rfl (ints_cl _)) (.cons (.im _ _) .nil))) rfl ?_
  clear ceq
  refine wkd (@hk0) _ ?_
  refine Holds.cond rfl (fun h => ?_) (fun h => ?_)
  · cases h
  have cm := markIntS v.1 ((1 : Int)) (by omega) (by simp; omega)
  have ch7 := heldIntS v.1 ((1 : Int)) (by omega) (by simp; omega)
  try simp only [wtL_w1] at cm ch7
  refine wkd0 _ ?_
  refine GS.fnn [7] (cm) rfl rfl rfl rfl (by simp [go_sem, List.take_of_length_le, ren, ren1, ren2, okr, okr1, okr2, ChkN, BlkN, List.range_succ, nf] <;> with_reducible rfl) (by simp [go_sem, List.take_of_length_le, ren, ren1, ren2, okr, okr1, okr2, ChkN, BlkN, List.range_succ, nf]) (by simp [go_sem, List.take_of_length_le, ren, ren1, ren2, okr, okr1, okr2, ChkN, BlkN, List.range_succ, nf]) (by simp [List.range_succ, lb]) (ChkN.toB (by simp [go_sem, List.take_of_length_le, ren, ren1, ren2, okr, okr1, okr2, ChkN, BlkN, List.range_succ, nf])) (by decide) (by simp) rfl (.nfr (by simp) .nil) (by simp [go_sem, List.take_of_length_le, ren, ren1, ren2, okr, okr1, okr2, ChkN, BlkN, List.range_succ, nf] <;> with_reducible rfl) ?_
  clear cm
  refine wkd0 _ ?_
  first | refine GS.cd (ch7) rfl rfl rfl rfl (by simp [go_sem, List.take_of_length_le] <;> with_reducible rfl) rfl (by exact (.cons (Fz.all rfl rfl (by simp) rfl (ints_cl _)) (.cons (.v _) .nil))) rfl ?_ | refine Gd.cd (ch7) rfl rfl rfl rfl (by simp [go_sem, List.take_of_length_le] <;> with_reducible rfl) rfl (by exact (.cons (Fz.all rfl rfl (by simp) rfl (ints_cl _)) (.cons (.v _) .nil))) rfl ?_
  have hk7 : ¬ ((1 : Int) + (v.1.length : Nat) < 0) := by omega
  refine wkd (@hk7) _ ?_
  refine Holds.cond rfl (fun h => ?_) (fun h => ?_)
  · cases h
  refine wkd0 _ ?_
  refine Holds.cond rfl (fun h => ?_) (fun h => ?_)
  · cases h
  refine wkd (And.intro @grammarC.eq_1 (@lrC.eq_1)) _ ?_
  first | refine GS.cc (ctg) rfl rfl rfl rfl (by simp [go_sem, List.take_of_length_le, grammarC, lrC] <;> with_reducible rfl) rfl (by simp [go_sem, List.take_of_length_le, grammarC, lrC]) ?_ | refine Gd.cc (ctg) rfl rfl rfl rfl (by simp [go_sem, List.take_of_length_le, grammarC, lrC] <;> with_reducible rfl) rfl (by simp [go_sem, List.take_of_length_le, grammarC, lrC]) ?_
  refine wkd (And.intro @grammarC.eq_1 (@lrC.eq_1)) _ ?_
  first | refine GS.cc (cts) rfl rfl rfl rfl (by simp [go_sem, List.take_of_length_le, grammarC, lrC] <;> with_reducible rfl) rfl (by simp [go_sem, List.take_of_length_le, grammarC, lrC]) ?_ | refine Gd.cc (cts) rfl rfl rfl rfl (by simp [go_sem, List.take_of_length_le, grammarC, lrC] <;> with_reducible rfl) rfl (by simp [go_sem, List.take_of_length_le, grammarC, lrC]) ?_
  refine wkd (And.intro @grammarC.eq_1 (@lrC.eq_1)) _ ?_
  first | refine GS.cc (p3) rfl rfl rfl rfl (by simp [go_sem, List.take_of_length_le, grammarC, lrC] <;> with_reducible rfl) rfl (by simp [go_sem, List.take_of_length_le, grammarC, lrC]) ?_ | refine Gd.cc (p3) rfl rfl rfl rfl (by simp [go_sem, List.take_of_length_le, grammarC, lrC] <;> with_reducible rfl) rfl (by simp [go_sem, List.take_of_length_le, grammarC, lrC]) ?_
  have ceq := eqIntS v.1 v.1 (by omega)
  try simp only [decide_true] at ceq
  refine wkd0 _ ?_
  first | refine GS.cc (ceq) rfl rfl rfl rfl (by simp [go_sem, List.take_of_length_le] <;> with_reducible rfl) rfl (by simp [go_sem, List.take_of_length_le]) ?_ | refine Gd.cc (ceq) rfl rfl rfl rfl (by simp [go_sem, List.take_of_length_le] <;> with_reducible rfl) rfl (by simp [go_sem, List.take_of_length_le]) ?_
  clear ceq
  refine wkd0 _ ?_
  refine Holds.cond rfl (fun h => ?_) (fun h => ?_)
  · cases h
  refine wkd0 _ ?_
  first | refine GS.cd (ch7) rfl rfl rfl rfl (by simp [go_sem, List.take_of_length_le] <;> with_reducible rfl) rfl (by exact (.cons (Fz.all rfl rfl (by simp) rfl (ints_cl _)) (.cons (.v _) .nil))) rfl ?_ | refine Gd.cd (ch7) rfl rfl rfl rfl (by simp [go_sem, List.take_of_length_le] <;> with_reducible rfl) rfl (by exact (.cons (Fz.all rfl rfl (by simp) rfl (ints_cl _)) (.cons (.v _) .nil))) rfl ?_
  have hk7 : ¬ ((1 : Int) + (v.1.length : Nat) < 0) := by omega
  refine wkd (@hk7) _ ?_
  refine Holds.cond rfl (fun h => ?_) (fun h => ?_)
  · cases h
  refine wkd0 _ ?_
  refine Holds.cond rfl (fun h => ?_) (fun h => ?_)
  · cases h
  refine wkd0 _ ?_
  refine Out.mk (xs := ?_) ?_ ?_ (by first | exact .inr rfl | exact .inl rfl)
  rotate_left
  · simp [go_sem, List.take_of_length_le] <;> with_reducible rfl
  exact .v _
end Go.Proofs.YtkolhcoeifghpaaGreat.En
end
